/- impl.joined over numbers of 0..99: strconv.Itoa and strings.Join by the shelf's contracts (their renamings and lays written out). -/
import Derived.Test.YtneipehcmmigeaaDoorPFnExactCountWalksx0
import Derived.WalkKit
import Derived.ProofKit
import Derived.Shelf.Strconv.Itoa3
import Derived.Shelf.Strings.OnBuilder
import Derived.Maps.OwnOps
import Derived.Deep.LoopGhost
set_option linter.unusedVariables false
set_option linter.unusedSimpArgs false
namespace Go.Proofs
open Go.RowKit Go.Shelf Go.Lib Go.Proofs.YtneipehcmmigeaaDoorW.PrintWords
namespace YtneipehcmmigeaaDoor
def itoaRen : Go.Shelf.Ren := ⟨fun | 171 => 66 | 243 => 91 | 246 => 107 | 283 => 114 | 284 => 115 | 285 => 116 | 286 => 117 | 129 => 90 | 317 => 124 | 318 => 125 | 319 => 126 | 320 => 127 | 337 => 129 | 338 => 130 | n => n, fun | 3 => 3 | 9 => 9 | 2 => 2 | 4 => 4 | 171 => 117 | 0 => 0 | 53 => 90 | 37 => 92 | 5 => 5 | 173 => 119 | 212 => 132 | 51 => 88 | 20 => 20 | 213 => 133 | 46 => 70 | 232 => 134 | 233 => 135 | n => n, fun | 17 => 2 | 18 => 4 | 19 => 5 | n => n⟩
theorem itoaLays : Lays.n171 Tryd.prog itoaRen where
  mixed := by kernel_rfl
  f129 := Tryd.func90.trans (congrArg some (by kernel_rfl))
  f171 := Tryd.func66.trans (congrArg some (by kernel_rfl))
  f243 := Tryd.func91.trans (congrArg some (by kernel_rfl))
  f246 := Tryd.func107.trans (congrArg some (by kernel_rfl))
  f283 := Tryd.func114.trans (congrArg some (by kernel_rfl))
  f284 := Tryd.func115.trans (congrArg some (by kernel_rfl))
  f285 := Tryd.func116.trans (congrArg some (by kernel_rfl))
  f286 := Tryd.func117.trans (congrArg some (by kernel_rfl))
  f317 := Tryd.func124.trans (congrArg some (by kernel_rfl))
  f318 := Tryd.func125.trans (congrArg some (by kernel_rfl))
  f319 := Tryd.func126.trans (congrArg some (by kernel_rfl))
  f320 := Tryd.func127.trans (congrArg some (by kernel_rfl))
  f337 := Tryd.func129.trans (congrArg some (by kernel_rfl))
  f338 := Tryd.func130.trans (congrArg some (by kernel_rfl))
  t0 := Tryd.underlying0
  a0 := Tryd.isAgg0
  z0 := Tryd.sizeOf0
  v0 := Tryd.zeroValue0
  t2 := Tryd.underlying2
  a2 := Tryd.isAgg2
  z2 := Tryd.sizeOf2
  v2 := Tryd.zeroValue2
  t3 := Tryd.underlying3
  a3 := Tryd.isAgg3
  z3 := Tryd.sizeOf3
  v3 := Tryd.zeroValue3
  t4 := Tryd.underlying4
  a4 := Tryd.isAgg4
  z4 := Tryd.sizeOf4
  v4 := Tryd.zeroValue4
  t5 := Tryd.underlying5
  a5 := Tryd.isAgg5
  z5 := Tryd.sizeOf5
  v5 := Tryd.zeroValue5
  t9 := Tryd.underlying9
  a9 := Tryd.isAgg9
  z9 := Tryd.sizeOf9
  v9 := Tryd.zeroValue9
  t20 := Tryd.underlying20
  a20 := Tryd.isAgg20
  z20 := Tryd.sizeOf20
  v20 := Tryd.zeroValue20
  t37 := Tryd.underlying92
  a37 := Tryd.isAgg92
  z37 := Tryd.sizeOf92
  v37 := Tryd.zeroValue92
  t46 := Tryd.underlying70
  a46 := Tryd.isAgg70
  z46 := Tryd.sizeOf70
  v46 := Tryd.zeroValue70
  t51 := Tryd.underlying88
  a51 := Tryd.isAgg88
  z51 := Tryd.sizeOf88
  v51 := Tryd.zeroValue88
  t53 := Tryd.underlying90
  a53 := Tryd.isAgg90
  z53 := Tryd.sizeOf90
  v53 := Tryd.zeroValue90
  t171 := Tryd.underlying117
  a171 := Tryd.isAgg117
  z171 := Tryd.sizeOf117
  v171 := Tryd.zeroValue117
  t173 := Tryd.underlying119
  a173 := Tryd.isAgg119
  z173 := Tryd.sizeOf119
  v173 := Tryd.zeroValue119
  t212 := Tryd.underlying132
  a212 := Tryd.isAgg132
  z212 := Tryd.sizeOf132
  v212 := Tryd.zeroValue132
  t213 := Tryd.underlying133
  a213 := Tryd.isAgg133
  z213 := Tryd.sizeOf133
  t232 := Tryd.underlying134
  a232 := Tryd.isAgg134
  z232 := Tryd.sizeOf134
  v232 := Tryd.zeroValue134
  t233 := Tryd.underlying135
  a233 := Tryd.isAgg135
  z233 := Tryd.sizeOf135
  v233 := Tryd.zeroValue135
  g17 := by kernel_rfl
  g18 := by kernel_rfl
  g19 := by kernel_rfl
def joinRen : Go.Shelf.Ren := ⟨fun | 156 => 67 | 165 => 92 | 166 => 93 | 169 => 94 | 240 => 108 | 241 => 109 | 276 => 118 | 277 => 119 | n => n, fun | 31 => 59 | 9 => 9 | 3 => 3 | 4 => 4 | 0 => 0 | 20 => 20 | 72 => 94 | 76 => 98 | 70 => 91 | 37 => 92 | 75 => 97 | 127 => 112 | 164 => 121 | 5 => 5 | 80 => 100 | n => n, fun | n => n⟩
theorem joinLays : Lays.n156 Tryd.prog joinRen where
  mixed := by kernel_rfl
  f156 := Tryd.func67.trans (congrArg some (by kernel_rfl))
  f165 := Tryd.func92.trans (congrArg some (by kernel_rfl))
  f166 := Tryd.func93.trans (congrArg some (by kernel_rfl))
  f169 := Tryd.func94.trans (congrArg some (by kernel_rfl))
  f240 := Tryd.func108.trans (congrArg some (by kernel_rfl))
  f241 := Tryd.func109.trans (congrArg some (by kernel_rfl))
  f276 := Tryd.func118.trans (congrArg some (by kernel_rfl))
  f277 := Tryd.func119.trans (congrArg some (by kernel_rfl))
  t0 := Tryd.underlying0
  a0 := Tryd.isAgg0
  z0 := Tryd.sizeOf0
  v0 := Tryd.zeroValue0
  t3 := Tryd.underlying3
  a3 := Tryd.isAgg3
  z3 := Tryd.sizeOf3
  v3 := Tryd.zeroValue3
  t4 := Tryd.underlying4
  a4 := Tryd.isAgg4
  z4 := Tryd.sizeOf4
  v4 := Tryd.zeroValue4
  t9 := Tryd.underlying9
  a9 := Tryd.isAgg9
  z9 := Tryd.sizeOf9
  v9 := Tryd.zeroValue9
  t20 := Tryd.underlying20
  a20 := Tryd.isAgg20
  z20 := Tryd.sizeOf20
  v20 := Tryd.zeroValue20
  t31 := Tryd.underlying59
  a31 := Tryd.isAgg59
  z31 := Tryd.sizeOf59
  v31 := Tryd.zeroValue59
  t37 := Tryd.underlying92
  a37 := Tryd.isAgg92
  z37 := Tryd.sizeOf92
  v37 := Tryd.zeroValue92
  t70 := Tryd.underlying91
  a70 := Tryd.isAgg91
  z70 := Tryd.sizeOf91
  v70 := Tryd.zeroValue91
  t72 := Tryd.underlying94
  a72 := Tryd.isAgg94
  z72 := Tryd.sizeOf94
  v72 := Tryd.zeroValue94
  t75 := Tryd.underlying97
  a75 := Tryd.isAgg97
  z75 := Tryd.sizeOf97
  v75 := Tryd.zeroValue97
  t76 := Tryd.underlying98
  a76 := Tryd.isAgg98
  z76 := Tryd.sizeOf98
  v76 := Tryd.zeroValue98
  t127 := Tryd.underlying112
  a127 := Tryd.isAgg112
  z127 := Tryd.sizeOf112
  v127 := Tryd.zeroValue112
  t164 := Tryd.underlying121
  a164 := Tryd.isAgg121
  z164 := Tryd.sizeOf121
  v164 := Tryd.zeroValue121
theorem joinExtra : Builder.Extra Tryd.prog joinRen where
  sizeBuilder := by kernel_rfl
  liesBuilder := by kernel_rfl
  t5 := Tryd.underlying5
  a5 := Tryd.isAgg5
  z5 := Tryd.sizeOf5
  v5 := Tryd.zeroValue5
  infoByte := by kernel_rfl
  cellsByte := by kernel_rfl
  sizeByte := by kernel_rfl
  neB5 := by decide
theorem impl_FormatInt.calls (x : Int) (h0 : 0 ≤ x) (h1 : x < 100) (w : World) :
    Calls Tryd.prog 51 #[.int .i64 x] w fun e w' => e = .returned (.string ⟨(Lib.decDigits x.toNat).toArray⟩) ∧ w' = w := by
  obtain ⟨i, rfl⟩ := Int.eq_ofNat_of_zero_le h0
  have hc := Any.strconv_Itoa_small itoaLays i (by omega) w
  change Calls Tryd.prog 66 _ _ _ at hc
  go_enter Tryd.func51, Tryd.ntmps51
  go_wp2_with (go_at_call 66; refine hc.mono ?_; rintro e w' ⟨rfl, rfl⟩)
  go_ret
  exact ⟨rfl, rfl⟩
/-- A number's text. -/
def dig (x : Int) : ByteArray := ⟨(Lib.decDigits x.toNat).toArray⟩
/-- The numbers' texts with a text between them. -/
def joinT (l : List Int) (sep : ByteArray) : ByteArray := ⟨(Lib.join (l.map fun x => Lib.decDigits x.toNat) sep.data.toList).toArray⟩
/-- A fact that the walk's simp doesn't look into. -/
structure Aside0 (p : Prop) : Prop where mk :: (out : p)
def strs (l : List Int) : List Value := l.map fun x => .string (dig x)
theorem strs_take (l : List Int) (i : Nat) (h : i < l.length) : strs (l.take (i + 1)) = strs (l.take i) ++ [.string (dig (l[i]'h))] := by
  unfold strs
  rw [List.take_add_one, List.getElem?_eq_getElem h, List.map_append]
  rfl
theorem info9 : (Tryd.prog.info? 9).map (fun i => (i.zero, i.size, i.bytes)) = some (some (.string ⟨#[]⟩), 1, 16) := by kernel_rfl
theorem decDigits_len (i : Nat) (h : i < 100) : (Lib.decDigits i).length ≤ 2 := by
  have : ∀ i, i < 100 → (Lib.decDigits i).length ≤ 2 := by
    intro i h
    unfold Lib.decDigits
    split
    · simp
    · rw [List.length_append]
      unfold Lib.decDigits
      rw [dif_pos (by omega)]
      simp
  exact this i h
theorem join_len (l : List (List UInt8)) (sep : List UInt8) (h : ∀ x ∈ l, x.length ≤ 2) : (Lib.join l sep).length ≤ l.length * (2 + sep.length) := by
  cases l with
  | nil => simp [Lib.join, List.intercalate]
  | cons a r =>
    rw [Lib.join_cons, List.length_append]
    have h1 : (Lib.joinTail sep r).length ≤ r.length * (2 + sep.length) := by
      have hr : ∀ x ∈ r, x.length ≤ 2 := fun x hx => h x (List.mem_cons_of_mem _ hx)
      clear h
      induction r with
      | nil => simp [Lib.joinTail]
      | cons b t ih =>
        have e : Lib.joinTail sep (b :: t) = (sep ++ b) ++ Lib.joinTail sep t := by simp [Lib.joinTail]
        rw [e, List.length_append, List.length_append, List.length_cons, Nat.succ_mul]
        have := ih (fun x hx => hr x (List.mem_cons_of_mem _ hx))
        have := hr b (List.mem_cons_self ..)
        omega
    have := h a (List.mem_cons_self ..)
    rw [List.length_cons, Nat.succ_mul]
    omega
set_option maxHeartbeats 8000000 in
set_option maxRecDepth 100000 in
theorem impl_Join.calls (bk c : Nat) (l : List Int) (sep : ByteArray) (w : World) (hl : l.length ≤ 100) (hsm : ∀ x ∈ l, 0 ≤ x ∧ x < 100) (hs : sep.size ≤ 100)
    (hcells : ∀ (j : Nat) x, l[j]? = some x → w.cell? ⟨bk, j, none⟩ = some (.string (dig x))) (hbk : bk < w.heap.size) (hcap : l.length ≤ c) :
    Calls Tryd.prog 52 #[.slice (some ⟨bk, 0, none⟩) l.length c, .string sep] w fun e w' => e = .returned (.string (joinT l sep)) ∧ Below w.heap.size w w' := by
  have hlen : (Lib.join ((l.map dig).map (·.data.toList)) sep.data.toList).length ≤ 140737488355328 := by
    have h1 : ∀ x ∈ (l.map dig).map (·.data.toList), x.length ≤ 2 := by
      intro x hx
      obtain ⟨y, hy, rfl⟩ := List.mem_map.mp hx
      obtain ⟨z, hz, rfl⟩ := List.mem_map.mp hy
      have := decDigits_len z.toNat (by have := hsm z hz; omega)
      simpa [dig] using this
    have h2 := join_len _ sep.data.toList h1
    have h3 : ((l.map dig).map (·.data.toList)).length * (2 + sep.data.toList.length) ≤ 100 * 102 := by
      rw [List.length_map, List.length_map]
      have : sep.data.toList.length = sep.size := by simp
      rw [this]
      exact Nat.mul_le_mul hl (by omega)
    omega
  have hc := Any.strings_Join joinLays joinExtra bk 0 c (l.map dig) sep w (by
    intro j x hx
    rw [List.getElem?_map] at hx
    cases e : l[j]? with
    | none => rw [e] at hx; cases hx
    | some y =>
      rw [e] at hx
      cases hx
      rw [Nat.zero_add]
      exact hcells j y e) hbk (by rw [List.length_map]; omega) (by rw [List.length_map]; exact hcap) hlen
  change Calls Tryd.prog 67 _ _ _ at hc
  rw [List.length_map] at hc
  have e : (⟨(Lib.join ((l.map dig).map (·.data.toList)) sep.data.toList).toArray⟩ : ByteArray) = joinT l sep := by
    unfold joinT
    rw [List.map_map]
    rfl
  rw [e] at hc
  clear hlen e
  generalize joinT l sep = J at hc
  go_enter Tryd.func52, Tryd.ntmps52
  go_wp2_with (go_at_call 67; refine hc.mono ?_; rintro e w' ⟨rfl, hB⟩)
  go_ret
  exact ⟨rfl, hB⟩
theorem impl_Join_none.calls (c : Nat) (sep : ByteArray) (w : World) :
    Calls Tryd.prog 52 #[.slice none 0 c, .string sep] w fun e w' => e = .returned (.string (joinT [] sep)) ∧ w' = w := by
  have hc := Any.strings_Join_none joinLays joinExtra none c sep w
  change Calls Tryd.prog 67 _ _ _ at hc
  go_enter Tryd.func52, Tryd.ntmps52
  go_wp2_with (go_at_call 67; refine hc.mono ?_; rintro e w' ⟨rfl, rfl⟩)
  go_ret
  exact ⟨rfl, rfl⟩
set_option maxHeartbeats 8000000 in
set_option maxRecDepth 100000 in
theorem impl_joined.calls (A0 : Option Addr) (c0 : Nat) (l0 : List Int) (sep : ByteArray) (w : World) (hr0 : Kd.C (Kd.int .i64) w A0 l0.length l0) (hc0 : l0.length ≤ c0)
    (hsm : ∀ x ∈ l0, 0 ≤ x ∧ x < 100) (hl : l0.length ≤ 100) (hs : sep.size ≤ 100) :
    Calls Tryd.prog 27 #[.slice A0 l0.length c0, .string sep] w fun e w' => e = .returned (.string (joinT l0 sep)) ∧ Below w.heap.size w w' := by
  obtain ⟨i0, hi, hz0, hz1, hz2⟩ := info_parts info9
  have HR0 := Aside0.mk hr0
  have HC0 := Aside0.mk hc0
  have HS := Aside0.mk hsm
  have HL := Aside0.mk hl
  clear hr0 hc0 hsm hl
  go_enter Tryd.func27, Tryd.ntmps27
  go_wp2
  go_loopg [5, 11] (l0.length + 1) (fun kq v5 v11 w' => ∃ (i : Nat), v11 = .int .i64 (i : Int) ∧ Aside0 (i + kq = l0.length + 1) ∧ Aside0 (i ≤ l0.length) ∧ Aside0 (w'.ownsRow w.heap.size 9 1 v5 i (strs (l0.take i))) ∧ Aside0 (Below w.heap.size w w'))
  case atStart => exact ⟨0, rfl, ⟨by omega⟩, ⟨by omega⟩, ⟨World.ownsRow_made _ _ _ (Nat.le_refl _) (Nat.zero_le _) rfl⟩, ⟨(Below.refl _ _).alloc (Nat.le_refl _) _⟩⟩
  case round =>
    obtain ⟨i, rfl, HA, HI, HO, HB⟩ := hrel
    cases gk with
    | zero =>
      have h1 := HA.out
      have h2 := HI.out
      omega
    | succ k1 =>
      by_cases c : i < l0.length
      · have c2b0 : decide ((i : Int) < (l0.length : Int)) = true := decide_eq_true (by omega)
        have p4 : (0 : Int) ≤ (i : Int) := Int.natCast_nonneg _
        have q4 : (i : Int) < (l0.length : Int) := by omega
        obtain ⟨ad, e4, hx4⟩ := Kd.at_int (Kd.C_below HR0.out HB.out) (i : Int) p4 q4
        cases e4
        replace p4 := eq_true p4
        replace q4 := eq_true q4
        rw [Int.toNat_natCast] at hx4
        have hm := HS.out (rd l0 (i : Int)) (by have : rd l0 (i : Int) = l0[i] := by simp [rd, c]
                                                rw [this]; exact List.getElem_mem _)
        have hw : wrap64 ((i : Int) + 1) = ((i + 1 : Nat) : Int) := by have := HL.out; unfold wrap64; omega
        have ht := strs_take l0 i c
        have e0 : l0[i] = rd l0 (i : Int) := by simp [rd, c]
        rw [e0] at ht
        have HT := Aside0.mk ht
        have HM := Aside0.mk hm
        have HC := Aside0.mk c
        have HL1 : i + 1 ≤ 100 := by have := HL.out; omega
        clear hm ht e0 c
        generalize rd l0 (i : Int) = x at hx4 HT HM
        go_wp2_with (first | (go_at_call 51; refine (impl_FormatInt.calls x HM.out.1 HM.out.2 _).mono ?_; rintro e w' ⟨rfl, hw_⟩; cases hw_.symm) | (at_builtin; go_loud (refine wpList_append_own _ rfl _ _ 59 rfl w.heap.size 9 i0 (.string ⟨#[]⟩) 1 16 Tryd.underlying59 hi hz0 hz1 hz2 rfl (by decide) _ _ _ rfl (HO.out.alloc _) ⟨wr.heap.size, 0, none⟩ 1 1 [.string (dig x)] rfl rfl ?c1 ?c2 ?c3 ?c4 ?c5 ?_)))
        case c1 =>
          intro j u hj
          match j, hj with
          | 0, hj => simp at hj; subst hj; simp [Addr.add]; rfl
        case c2 => first | rfl | (intro u hu; simp at hu; subst hu; rfl)
        case c3 => unfold maxLen; omega
        case c4 => omega
        case c5 => have := HB.out.size; simp; omega
        intro v' w2 hown' hgrow' _
        have HO2 := Aside0.mk (HT.out ▸ hown')
        have HB2 := Aside0.mk ((HB.out.alloc HB.out.size _).grown hgrow' (by have := HB.out.size; simp; omega) (fun k hk => (HO.out.lt k hk).1))
        clear hown' hgrow'
        go_wp2
        go_roundg k1
        case measure => have := HA.out; omega
        case rel => exact ⟨i + 1, by first | rw [hw] | rfl | (simp; done), ⟨by have := HA.out; omega⟩, ⟨by have := HC.out; omega⟩, HO2, HB2⟩
      · have e : i = l0.length := by have := HI.out; omega
        subst e
        have c2b0 : decide ((l0.length : Int) < (l0.length : Int)) = false := decide_eq_false (by omega)
        have ho := HO.out
        rw [List.take_length] at ho
        clear HO
        have hlen : (strs l0).length = l0.length := by simp [strs]
        rcases ho.2 with ⟨rfl, hn⟩ | ⟨g, cap, cur, rfl, hg, hh, hcap, _, hsz, htk⟩
        · have hl : l0 = [] := List.eq_nil_of_length_eq_zero hn
          subst hl
          have hcon := impl_Join_none.calls 0 sep wr
          go_wp2_with (go_at_call 52; refine hcon.mono ?_; rintro e w' ⟨rfl, rfl⟩)
          go_ret
          exact ⟨rfl, HB.out⟩
        · have hcon := impl_Join.calls g cap l0 sep wr HL.out HS.out hs (fun j x hj => by
            have h1 := ho.cells rfl j (.string (dig x)) (by unfold strs; rw [List.getElem?_map, hj]; rfl)
            rwa [show ((⟨g, 0, none⟩ : Addr).add j) = ⟨g, j, none⟩ from by unfold Addr.add; split <;> simp_all] at h1) (ho.lt g rfl).2 hcap
          clear ho hh htk
          go_wp2_with (go_at_call 52; refine hcon.mono ?_; rintro e w' ⟨rfl, hB2⟩)
          go_ret
          exact ⟨rfl, HB.out.trans (hB2.mono HB.out.size)⟩
end YtneipehcmmigeaaDoor
end Go.Proofs
