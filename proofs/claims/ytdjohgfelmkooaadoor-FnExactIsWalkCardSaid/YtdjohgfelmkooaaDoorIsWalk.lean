/- The program's IsWalk (strings.Trim at the cutset "ud", and a bound on the length) answers as the reference's for every text of at most 2^20 bytes; above that the law says nothing. No condition. -/
import Derived.Test.YtdjohgfelmkooaaDoorCards
import Derived.Test.YtdjohgfelmkooaaDoorTie
import Derived.WalkKit
import Derived.ProofKit
import Derived.Shelf.Strings.SlTrimAscii
import Derived.PinnedBridge
import Derived.Lay
import Derived.LaidOnce
import Derived.SevenTiedAt
import Derived.ChangeMaps5
import Derived.Deep.LoopGhost
set_option linter.unusedVariables false
set_option linter.unusedSimpArgs false
namespace Go.Proofs
open Go.RowKit Go.Shelf Go.Lib
namespace YtdjohgfelmkooaaDoor
/-- The numbers of this program, by those of the shelf's own. -/
def trimRen : Go.Shelf.Ren := ⟨fun n => match n with | 119 => 22 | 120 => 20 | 137 => 21 | 151 => 16 | 152 => 19 | 160 => 6 | 197 => 15 | 217 => 25 | 224 => 23 | 225 => 24 | 227 => 9 | 228 => 14 | 231 => 7 | 232 => 8 | 233 => 10 | 234 => 11 | 235 => 12 | 236 => 13 | 260 => 18 | 266 => 26 | 271 => 17 | n => n, fun n => match n with | 46 => 37 | 105 => 32 | 116 => 26 | 117 => 27 | 119 => 36 | 124 => 30 | 138 => 39 | 139 => 40 | n => n, fun n => match n with | 3 => 0 | 4 => 1 | n => n⟩
theorem trimLays : Lays.n160 Tryd.prog trimRen where
  mixed := by kernel_rfl
  f119 := Tryd.func22.trans (congrArg some (by kernel_rfl))
  f120 := Tryd.func20.trans (congrArg some (by kernel_rfl))
  f137 := Tryd.func21.trans (congrArg some (by kernel_rfl))
  f151 := Tryd.func16.trans (congrArg some (by kernel_rfl))
  f152 := Tryd.func19.trans (congrArg some (by kernel_rfl))
  f160 := Tryd.func6.trans (congrArg some (by kernel_rfl))
  f197 := Tryd.func15.trans (congrArg some (by kernel_rfl))
  f217 := Tryd.func25.trans (congrArg some (by kernel_rfl))
  f224 := Tryd.func23.trans (congrArg some (by kernel_rfl))
  f225 := Tryd.func24.trans (congrArg some (by kernel_rfl))
  f227 := Tryd.func9.trans (congrArg some (by kernel_rfl))
  f228 := Tryd.func14.trans (congrArg some (by kernel_rfl))
  f231 := Tryd.func7.trans (congrArg some (by kernel_rfl))
  f232 := Tryd.func8.trans (congrArg some (by kernel_rfl))
  f233 := Tryd.func10.trans (congrArg some (by kernel_rfl))
  f234 := Tryd.func11.trans (congrArg some (by kernel_rfl))
  f235 := Tryd.func12.trans (congrArg some (by kernel_rfl))
  f236 := Tryd.func13.trans (congrArg some (by kernel_rfl))
  f260 := Tryd.func18.trans (congrArg some (by kernel_rfl))
  f266 := Tryd.func26.trans (congrArg some (by kernel_rfl))
  f271 := Tryd.func17.trans (congrArg some (by kernel_rfl))
  t0 := Tryd.underlying0
  a0 := Tryd.isAgg0
  z0 := Tryd.sizeOf0
  v0 := Tryd.zeroValue0
  t3 := Tryd.underlying3
  a3 := Tryd.isAgg3
  z3 := Tryd.sizeOf3
  v3 := Tryd.zeroValue3
  t4 := Tryd.underlying4
  a4 := Tryd.isAgg4
  z4 := Tryd.sizeOf4
  v4 := Tryd.zeroValue4
  t5 := Tryd.underlying5
  a5 := Tryd.isAgg5
  z5 := Tryd.sizeOf5
  v5 := Tryd.zeroValue5
  t9 := Tryd.underlying9
  a9 := Tryd.isAgg9
  z9 := Tryd.sizeOf9
  v9 := Tryd.zeroValue9
  t21 := Tryd.underlying21
  a21 := Tryd.isAgg21
  z21 := Tryd.sizeOf21
  v21 := Tryd.zeroValue21
  t46 := Tryd.underlying37
  a46 := Tryd.isAgg37
  z46 := Tryd.sizeOf37
  v46 := Tryd.zeroValue37
  t105 := Tryd.underlying32
  a105 := Tryd.isAgg32
  z105 := Tryd.sizeOf32
  v105 := Tryd.zeroValue32
  t116 := Tryd.underlying26
  a116 := Tryd.isAgg26
  z116 := Tryd.sizeOf26
  t117 := Tryd.underlying27
  a117 := Tryd.isAgg27
  z117 := Tryd.sizeOf27
  v117 := Tryd.zeroValue27
  t119 := Tryd.underlying36
  a119 := Tryd.isAgg36
  z119 := Tryd.sizeOf36
  t124 := Tryd.underlying30
  a124 := Tryd.isAgg30
  z124 := Tryd.sizeOf30
  v124 := Tryd.zeroValue30
  t138 := Tryd.underlying39
  a138 := Tryd.isAgg39
  z138 := Tryd.sizeOf39
  v138 := Tryd.zeroValue39
  t139 := Tryd.underlying40
  a139 := Tryd.isAgg40
  z139 := Tryd.sizeOf40
  v139 := Tryd.zeroValue40
  g3 := by kernel_rfl
  g4 := by kernel_rfl
open Go.ChangeShapes Go.WideShapes Go.ChangeAt Go.RowKit
open Go.ChangeMaps (open_string shut_string)

/-- A fact that the walk's simp doesn't look into. -/
structure Aside0 (p : Prop) : Prop where mk :: (out : p)
def bt (s : ByteArray) (i : Int) : Int := if h : i.toNat < s.size then ((s[i.toNat]'h).toNat : Int) else 0
theorem bt_at (s : ByteArray) (i : Int) : ∀ h : i.toNat < s.size, ((s[i.toNat]'h).toNat : Int) = bt s i := fun h => by simp [bt, h]

/-- How far a walk reads: up to the first byte that is neither 'u' nor 'd'. -/
def ud (b : UInt8) : Bool := b.toNat == 117 || b.toNat == 100
theorem bt_ud (s : ByteArray) (i : Nat) (h : i < s.size) : bt s (i : Int) = ((s.data.toList[i]'(by simpa using h)).toNat : Int) := by
  unfold bt
  rw [dif_pos (by simpa using h)]
  simp [ByteArray.getElem_eq_getElem_data]

set_option maxHeartbeats 8000000 in
set_option maxRecDepth 100000 in
theorem spec_calls (s : ByteArray) (hs : s.size ≤ 1048576) (w : World) :
    Calls Tryd.prog 4 #[.string s] w fun e w' => e = .returned (.bool (s.data.toList.all ud && decide (s.size ≤ 10))) ∧ w' = w := by
  go_enter Tryd.func4, Tryd.ntmps4
  go_wp2
  go_loopg [3] (s.size + 1) (fun kq v3 w' => ∃ (i : Nat), v3 = .int .i64 (i : Int) ∧ Aside0 (i + kq = s.size + 1) ∧ Aside0 (i ≤ s.size) ∧ Aside0 ((s.data.toList.take i).all ud = true) ∧ w' = w)
  case atStart => exact ⟨0, rfl, ⟨by omega⟩, ⟨Nat.zero_le _⟩, ⟨by simp⟩, rfl⟩
  case round =>
    obtain ⟨i, rfl, HA, HI, HT, rfl⟩ := hrel
    cases gk with
    | zero =>
      have h1 := HA.out
      have h2 := HI.out
      omega
    | succ k1 =>
      by_cases c : i < s.size
      · have hx := bt_ud s i c
        have hg : s.data.toList[i]? = some (s.data.toList[i]'(by simpa using c)) := List.getElem?_eq_getElem (by simpa using c)
        have htk : s.data.toList.take (i + 1) = s.data.toList.take i ++ [s.data.toList[i]'(by simpa using c)] := by
          rw [List.take_add_one, hg]
          rfl
        have c2b0 : decide ((i : Int) < (s.size : Int)) = true := decide_eq_true (by omega)
        have p4 : (0 ≤ (i : Int)) = True := eq_true (Int.natCast_nonneg _)
        have q4 : ((i : Int) < (s.size : Int)) = True := eq_true (by omega)
        have hx4 : ∀ h : i < s.size, ((s[i]'h).toNat : Int) = bt s (i : Int) := fun h => by simpa using bt_at s (i : Int) (by simpa using h)
        have w1 : wrap64 ((i : Int) + 1) = ((i + 1 : Nat) : Int) := by
          have := hs
          unfold wrap64
          omega
        by_cases c5 : bt s (i : Int) = 117
        · have c5b1 : (bt s (i : Int) != 117) = false := bne_eq_false_iff_eq.mpr c5
          have hu : ud (s.data.toList[i]'(by simpa using c)) = true := by
            unfold ud
            rw [hx] at c5
            simp only [Bool.or_eq_true, beq_iff_eq]
            omega
          have HT2 := Aside0.mk (show (s.data.toList.take (i + 1)).all ud = true by rw [htk, List.all_append, HT.out, Bool.true_and, List.all_cons, hu]; rfl)
          clear hx hg htk hu c5
          go_wp2
          go_roundg k1
          case measure => omega
          case rel => exact ⟨i + 1, by first | rw [w1] | rfl | (simp; done), ⟨by have := HA.out; omega⟩, ⟨by omega⟩, HT2, rfl⟩
        · have c5b1 : (bt s (i : Int) != 117) = true := bne_iff_ne.mpr c5
          by_cases c7 : bt s (i : Int) = 100
          · have c7b1 : (bt s (i : Int) != 100) = false := bne_eq_false_iff_eq.mpr c7
            have hu : ud (s.data.toList[i]'(by simpa using c)) = true := by
              unfold ud
              rw [hx] at c7
              simp only [Bool.or_eq_true, beq_iff_eq]
              omega
            have HT2 := Aside0.mk (show (s.data.toList.take (i + 1)).all ud = true by rw [htk, List.all_append, HT.out, Bool.true_and, List.all_cons, hu]; rfl)
            clear hx hg htk hu c5 c7
            go_wp2
            go_roundg k1
            case measure => omega
            case rel => exact ⟨i + 1, by first | rw [w1] | rfl | (simp; done), ⟨by have := HA.out; omega⟩, ⟨by omega⟩, HT2, rfl⟩
          · have c7b1 : (bt s (i : Int) != 100) = true := bne_iff_ne.mpr c7
            have hu : ud (s.data.toList[i]'(by simpa using c)) = false := by
              unfold ud
              rw [hx] at c5 c7
              simp only [Bool.or_eq_false_iff, beq_eq_false_iff_ne]
              omega
            have hall : s.data.toList.all ud = false := by
              rw [List.all_eq_false]
              exact ⟨s.data.toList[i]'(by simpa using c), List.getElem_mem _, by rw [hu]; exact Bool.false_ne_true⟩
            have HR := Aside0.mk hall
            clear hx hg htk hu c5 c7 hall
            go_wp2
            go_ret
            exact ⟨by rw [HR.out]; rfl, rfl⟩
      · have e : i = s.size := by have := HI.out; omega
        have c2b0 : decide ((i : Int) < (s.size : Int)) = false := decide_eq_false (by omega)
        have hall : s.data.toList.all ud = true := by
          have := HT.out
          rwa [List.take_of_length_le (by simp [e])] at this
        have HR := Aside0.mk hall
        clear hall e
        go_wp2
        go_ret
        refine ⟨?_, rfl⟩
        rw [HR.out, Bool.true_and]
        congr 2
        simp
        constructor <;> omega

theorem ud_contains (b : UInt8) : [117, 100].contains b = ud b := by
  unfold ud
  simp only [List.contains_cons, List.contains_nil, Bool.or_false]
  congr 1 <;> rw [Bool.eq_iff_iff, beq_iff_eq, beq_iff_eq, ← UInt8.toNat_inj] <;> rfl
theorem dropW_nil (l : List UInt8) : l.dropWhile ([117, 100].contains ·) = [] ↔ l.all ud = true := by
  induction l with
  | nil => simp
  | cons b r ih =>
    rw [List.dropWhile_cons, List.all_cons, ud_contains]
    cases ud b <;> simp_all
theorem dropW_suffix (l : List UInt8) : ∃ a, l = a ++ l.dropWhile ([117, 100].contains ·) ∧ a.all ud = true := by
  induction l with
  | nil => exact ⟨[], rfl, rfl⟩
  | cons b r ih =>
    obtain ⟨a, h1, h2⟩ := ih
    rw [List.dropWhile_cons, ud_contains]
    by_cases h : ud b = true
    · rw [if_pos h]
      exact ⟨b :: a, by rw [List.cons_append, ← h1], by rw [List.all_cons, h, h2]; rfl⟩
    · rw [if_neg h]
      exact ⟨[], rfl, rfl⟩
theorem trim_nil (l : List UInt8) : (⟨(Lib.trimS l [117, 100]).toArray⟩ : ByteArray) = ⟨#[]⟩ ↔ l.all ud = true := by
  have e : (⟨(Lib.trimS l [117, 100]).toArray⟩ : ByteArray) = ⟨#[]⟩ ↔ Lib.trimS l [117, 100] = [] := by
    constructor
    · intro h
      injection h with h
      simpa using h
    · intro h
      rw [h]
  rw [e]
  unfold Lib.trimS Lib.trimLeftS Lib.trimRightS
  rw [dropW_nil, List.all_reverse]
  obtain ⟨a, h1, h2⟩ := dropW_suffix l.reverse
  have : l.all ud = l.reverse.all ud := (List.all_reverse).symm
  rw [this, h1, List.all_append, h2, Bool.true_and]
  rw [← h1]
set_option maxHeartbeats 8000000 in
set_option maxRecDepth 100000 in
theorem impl_calls (s : ByteArray) (hs : s.size ≤ 1048576) (w : World) :
    Calls Tryd.prog 5 #[.string s] w fun e w' => e = .returned (.bool (s.data.toList.all ud && decide (s.size ≤ 10))) ∧ Below w.heap.size w w' := by
  have hcon := Any.strings_Trim_laid trimLays (by kernel_rfl) s ⟨#[117, 100]⟩ w (by omega) (by decide) (ascii_of_all (by decide))
  change Calls Tryd.prog 6 _ _ (fun e w' => e = .returned (.string ⟨(Lib.trimS s.data.toList [117, 100]).toArray⟩) ∧ Below w.heap.size w w') at hcon
  have ht := trim_nil s.data.toList
  generalize (⟨(Lib.trimS s.data.toList [117, 100]).toArray⟩ : ByteArray) = r at hcon ht
  by_cases hl : s.size ≤ 10
  · have c0 : decide ((s.size : Int) ≤ 10) = true := decide_eq_true (by omega)
    go_enter Tryd.func5, Tryd.ntmps5
    go_wp2_with (go_at_call 6; refine hcon.mono ?_; rintro e w' ⟨rfl, hB⟩)
    go_ret
    refine ⟨?_, hB⟩
    have hr : r.toList.isEmpty = s.data.toList.all ud := by
      rw [Lib.toList_data, Bool.eq_iff_iff, ← ht]
      constructor
      · intro h
        cases r with
        | mk a =>
          have : a.toList = [] := by simpa using h
          have : a = #[] := by simpa using this
          rw [this]
      · intro h
        rw [h]
        rfl
    rw [decide_eq_true hl, Bool.and_true, ← hr]
    rfl
  · have c0 : decide ((s.size : Int) ≤ 10) = false := decide_eq_false (by omega)
    go_enter Tryd.func5, Tryd.ntmps5
    go_wp2_with fail
    go_ret
    refine ⟨?_, Below.refl _ _⟩
    rw [decide_eq_false hl, Bool.and_false]
    rfl

set_option maxHeartbeats 8000000 in
set_option maxRecDepth 100000 in
theorem law (s : ByteArray) (w : World) :
    Calls Tryd.prog 3 #[.string s] w fun e w' => e = .returned (.bool true) ∧ Below w.heap.size w w' := by
  by_cases hl : s.size ≤ 1048576
  · have c0 : decide ((s.size : Int) > 1048576) = false := decide_eq_false (by omega)
    have h1 := spec_calls s hl w
    have h2 := impl_calls s hl w
    generalize (s.data.toList.all ud && decide (s.size ≤ 10)) = r at h1 h2
    have c1 : (r != r) = false := by cases r <;> rfl
    go_enter Tryd.func3, Tryd.ntmps3
    go_wp2_with (first | (go_at_call 4; refine h1.mono ?_; rintro e w' ⟨rfl, rfl⟩) | (go_at_call 5; refine h2.mono ?_; rintro e w' ⟨rfl, hB⟩))
    go_ret
    exact ⟨rfl, hB⟩
  · have c0 : decide ((s.size : Int) > 1048576) = true := decide_eq_true (by omega)
    go_enter Tryd.func3, Tryd.ntmps3
    go_wp2_with fail
    go_ret
    exact ⟨rfl, Below.refl _ _⟩

theorem own : ownKnob Tryd.prog.godebug = none := by kernel_rfl
theorem laidOf : Rows.fnExactIsWalkRow.laid = [("unicode/utf8.acceptRanges", Rows.laid_unicode_utf8_acceptRanges), ("unicode/utf8.first", Rows.laid_unicode_utf8_first)] := rfl
set_option maxRecDepth 100000 in
theorem lifted (os : Os) (started : os.Started) (H : Type) (enc : TypeId × Value → H) :
    ReturnsInHanded {} Tryd.checked os 3 .any (fun w args => (Rows.fnExactIsWalkSpec.pre enc Tryd.prog Tryd.f3 [] false w args ∧ laidMetH Tryd.prog Rows.fnExactIsWalkRow.laid w) ∧ sizedMet enc Tryd.prog Tryd.f3 (OpenSpec.ofChange Rows.fnExactIsWalkSpec) false w args)
      (Rows.fnExactIsWalkSpec.post enc Tryd.prog Tryd.f3 false true false false) := by
  refine returnsInHanded_of_change_and (C := Tryd.checked) (X := fun w _ => laidMetH Tryd.prog Rows.fnExactIsWalkRow.laid w) (fun _ _ _ hh h => h.of_heap hh) own started (by kernel_rfl) Tryd.func3
    (ChangeSpec.witness_shaped (enc := enc) (C := Tryd.checked) (os := os) (X := fun w _ => laidMetH Tryd.prog Rows.fnExactIsWalkRow.laid w) false (World.laidAll Tryd.prog os Rows.fnExactIsWalkRow.laid) #[.string ⟨#[]⟩] 8 (World.laidAll_os _ _ _)
      (World.shaped_of_ZipB (by kernel_rfl) (by kernel_rfl)) (by kernel_rfl) (by kernel_rfl) (by kernel_rfl)
      (by rw [MakeChecks.laidMetH_plain _ _ _ (by kernel_rfl)]; exact laidMet_laidAll _ (by kernel_rfl) (by kernel_rfl))) ?_
  intro W base args ds gs before hval0 hW _ _ hL _
  have hval : ∀ (j : Nat) t v, Tryd.f3.params[j]? = some t → args[j]? = some v → Value.okWide Tryd.prog W .any base t v := hval0
  have hW' := hW
  obtain ⟨p, q, hA0, hV, rfl, _, _⟩ := hW
  have hA : DataW.TrodAll enc Tryd.prog W 0 (fun _ => true) true Tryd.f3.params.toList args.toList ds p := hA0
  rw [Tryd.params3] at hA hval
  obtain ⟨v0, d0, rfl, rfl, h0⟩ := trodAll_one hA
  obtain ⟨rfl, rfl⟩ := trodVars_none hV
  obtain ⟨x, rfl, rfl, rfl, wx⟩ := open_string Tryd.underlying9 (hval 0 9 v0 rfl rfl) h0
  simp only [List.append_nil] at hW'
  refine (law x W).mono fun e W' ⟨he, hb⟩ => ?_
  subst he
  exact ⟨_, rfl, _, _, _, [], [], [], hW', trodAll_mk1 (shut_bool Tryd.underlying4 _), trodAll_mk1 (shut_string Tryd.underlying9 wx), rfl, hb.frame _, fun h => by cases h⟩

theorem row_holds : Rows.FnExactIsWalkSaid :=
  OpenClaim.holds_of_wide 3 Tryd.f3 rfl rfl rfl rfl rfl rfl rfl ⟨rfl, rfl, rfl, rfl, rfl⟩ rfl rfl rfl rfl rfl (by kernel_rfl) Tryd.func3 (by kernel_rfl)
    (of_decide_eq_true (by kernel_rfl)) (by unfold Func.isWrapper; first | (rw [if_pos (by decide +kernel)]; kernel_rfl) | (rw [if_neg (by decide +kernel)]; exact ⟨rfl, rfl⟩))
    (fun os started H enc _ => lifted os started H enc)
theorem fnExactIsWalk_holds : Rows.FnExactIsWalkCardSaid :=
  Claim7.holds_tied_plain_at .later [] [.data, .pinned] true (true, "61604163b4cb8b8eb0c688b948bcb37ed19f33718bf2ed169c8420f9883b7948") false row_holds (fun _ h => by cases h) (by kernel_rfl) (fun _ h => by cases h) fnExactIsWalk_row_tie rfl ⟨rfl, rfl⟩ (by kernel_rfl) rfl
    (fun f fn hf hfn => by
      obtain rfl : f = 3 := Option.some.inj ((show Tryd.prog.funcNamed "loop.example/g00598/laws.FnExactIsWalk" = some 3 by kernel_rfl).symm.trans hf) |>.symm
      obtain rfl : fn = Tryd.f3 := (Option.some.inj (Tryd.func3.symm.trans hfn)).symm
      exact ⟨by kernel_rfl, fun j t ht => by
        rw [Tryd.params3] at ht
        have hm : t ∈ [9] := by simpa using Array.mem_of_getElem? ht
        have hall : ([9].all fun u => !Tryd.prog.wantsStandIn u) = true := by kernel_rfl
        exact (show Tryd.prog.wantsStandIn t = false by simpa using List.all_eq_true.1 hall t hm)⟩)
    (by kernel_rfl)
#print axioms fnExactIsWalk_holds
end YtdjohgfelmkooaaDoor
end Go.Proofs
