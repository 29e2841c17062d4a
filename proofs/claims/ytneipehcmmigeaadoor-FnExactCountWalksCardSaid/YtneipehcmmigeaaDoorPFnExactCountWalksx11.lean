-- Written by a program of this session (wip/print/xprint.py).
import Derived.Test.YtneipehcmmigeaaDoorPFnExactCountWalksx0
import Derived.Test.YtneipehcmmigeaaDoorPFnExactCountWalksx7
import Derived.Test.YtneipehcmmigeaaDoorPFnExactCountWalksx8
import Derived.Test.YtneipehcmmigeaaDoorPFnExactCountWalksx9
import Derived.Test.YtneipehcmmigeaaDoorPFnExactCountWalksx10
import Derived.Test.YtneipehcmmigeaaDoorPFnExactCountWalksx23
import Derived.Test.YtneipehcmmigeaaDoorPFnExactCountWalksx22
import Derived.Lib.OthersKept
namespace Go.Proofs.YtneipehcmmigeaaDoor.PFnExactCountWalks
open Go.RowKit Go.Proofs.YtneipehcmmigeaaDoorW.PrintWords Go.Proofs.YtneipehcmmigeaaDoorW.PrintLast Go.Proofs.YtneipehcmmigeaaDoorW.PrintMore
attribute [local go_sem] max2_int min2_int max_two min_two max_three min_three max_four min_four   -- for this text's walks alone
set_option linter.unusedVariables false
set_option linter.unusedSimpArgs false

/-! ### impl_WalkTerms: function 15 -/
open Go.Lib Go.Maps
mutual
def impl_WalkTerms.j0 : Nat → List Int → ByteArray → Bool → Option ((List (S33)) × Bool)
  | 0, _, _, _ => none
  | k + 1, x0, x1, x23 => if x23 = true then (some (([] : List (S33)), false)) else ((slices_Clone_int_int.f x0).bind fun t363 => ((impl_sum.f k x0).bind fun t369 => (impl_WalkTerms.l0 k (([(⟨t363, 1⟩ : S33)] : List (S33))) t369 x1 0)))
def impl_WalkTerms.l0 : Nat → List (S33) → Int → ByteArray → Nat → Option ((List (S33)) × Bool)
  | 0, _, _, _, _ => none
  | k + 1, x6, x7, x30, x31 => if x31 < x30.size then (if bt x30 x31 < 128 then (if (bt x30 x31) = 117 then (impl_WalkTerms.j2 k x6 (wrap64 ((wrap64 (x7 - 1)) + 2)) ((bt x30 x31) == 117) x30 x31) else (impl_WalkTerms.j2 k x6 (wrap64 (x7 - 1)) ((bt x30 x31) == 117) x30 x31)) else (none)) else (some (x6, true))
def impl_WalkTerms.j2 : Nat → List (S33) → Int → Bool → ByteArray → Nat → Option ((List (S33)) × Bool)
  | 0, _, _, _, _, _ => none
  | k + 1, x6, x7, x10, x30, x31 => if x7 > 9 then (some (([] : List (S33)), false)) else (impl_WalkTerms.l1 k x7 x10 (([] : Mt)) x30 x31 x6 (x6.length : Int) 0)
def impl_WalkTerms.l1 : Nat → Int → Bool → Mt → ByteArray → Nat → List (S33) → Int → Int → Option ((List (S33)) × Bool)
  | 0, _, _, _, _, _, _, _, _ => none
  | k + 1, x7, x10, x11, x30, x31, x45, x46, x47 => if x47 < x46 then (if 0 ≤ x47 then (if x47 < (x45.length : Int) then ((impl_stepped.f k ((rd_T33 x45 x47).f0) x10).bind fun t378 => (impl_WalkTerms.l2 k x7 x10 x11 x30 x31 x45 x46 x47 t378 (t378.length : Int) 0 ((rd_T33 x45 x47).f0) ((rd_T33 x45 x47).f1))) else (none)) else (none)) else ((impl_termsOf.f k x7 x11).bind fun t373 => (impl_WalkTerms.l0 k t373 x7 x30 (x31 + 1)))
def impl_WalkTerms.l2 : Nat → Int → Bool → Mt → ByteArray → Nat → List (S33) → Int → Int → List (List Int) → Int → Int → List Int → Int → Option ((List (S33)) × Bool)
  | 0, _, _, _, _, _, _, _, _, _, _, _, _, _ => none
  | k + 1, x7, x10, x11, x30, x31, x45, x46, x47, x54, x55, x56, x378000, x378001 => if x56 < x55 then (if 0 ≤ x56 then (if x56 < (x54.length : Int) then ((adding.f (rd_L1 x54 x56) x378001 x11).bind fun t382 => (impl_WalkTerms.l2 k x7 x10 t382 x30 x31 x45 x46 x47 x54 x55 (wrap64 (x56 + 1)) x378000 x378001)) else (none)) else (none)) else (impl_WalkTerms.l1 k x7 x10 x11 x30 x31 x45 x46 (wrap64 (x47 + 1)))
end
def impl_WalkTerms.f (k : Nat) (l0 : List Int) (a1 : ByteArray) : Option ((List (S33)) × Bool) := (impl_IsPartition.f k l0).bind fun t361 => (if t361 = true then ((impl_IsWalk.f a1).bind fun t362 => (impl_WalkTerms.j0 k l0 a1 (!t362))) else (impl_WalkTerms.j0 k l0 a1 true))
/-- 'next' on the text's iterator, in whatever block. -/
theorem next_at (w : World) (k : Nat) (s : ByteArray) (pos : Nat) (ty : TypeId) (hk : w.heap[k]? = some (.stringIter s pos)) (h : pos < s.size) (ha : bt s pos < 128) :
    (Instr.next (.pointer (some ⟨k, 0, none⟩)) true ty).run Tryd.prog w = .ok (.tuple #[.bool true, .int .i64 pos, .int .i32 (bt s pos)]) (w.iterAt k s (pos + 1)) := by
  have e : bt s pos = ((s[pos]'h).toNat : Int) := (bt_at s (pos : Int) h).symm
  rw [e] at ha ⊢
  exact Go.Lib.run_next_ascii_at w k s pos ty hk h (by omega)
theorem adding_ok {l0 : List Int} {a1 : Int} {m r : Mt} (h : adding.f l0 a1 m = some r) : pok l0 = true ∧ m.length < 100000 ∧ (l0, wrap64 (mget m l0 + a1)) :: m = r := by
  unfold adding.f at h
  by_cases c : (pok l0 && decide (m.length < 100000)) = true
  · rw [if_pos c] at h
    rw [Bool.and_eq_true] at c
    exact ⟨c.1, of_decide_eq_true c.2, Option.some.inj h⟩
  · rw [if_neg c] at h; cases h
set_option maxRecDepth 100000 in
theorem look_step {b : Nat} {W : World} {m : Mt} {l0 : List Int} (hM : Iv.M b W m) (hk : pok l0 = true) : (Instr.lookup 41 (.map (some b)) (.string (pt l0)) false).run Tryd.prog W = .ok (.int .i64 (mget m l0)) W := by
  have hd := (pok_ok hk).1
  have hkey : keyOf Tryd.prog 9 (.string (pt l0)) = some (key l0) := Go.WideMaps.keyOf_string_mk Tryd.underlying9 (pt_size hd)
  obtain ⟨D, h1, h2, h3⟩ := hM
  obtain ⟨c, hrun, hat, _⟩ := h1.lookup_int (string_keyed Tryd.underlying9) Tryd.underlying41 Tryd.underlying3 (zero3' W) hkey
  rw [h3 l0 hd] at hat
  injection hat with hat
  injection hat with _ hat
  rw [hat]
  exact hrun
set_option maxRecDepth 100000 in
theorem put_step {b : Nat} {W : World} {m : Mt} {l0 : List Int} (a1 : Int) (hM : Iv.M b W m) (hk : pok l0 = true) (hn : m.length < 100000) :
    ∃ w3, (Instr.mapUpdate 41 (.map (some b)) (.string (pt l0)) (.int .i64 (wrap64 (mget m l0 + a1)))).run Tryd.prog W = .ok () w3 ∧ Iv.M b w3 ((l0, wrap64 (mget m l0 + a1)) :: m) ∧ W.grownBy w3 (some b) := by
  have hd := (pok_ok hk).1
  have hkey : keyOf Tryd.prog 9 (.string (pt l0)) = some (key l0) := Go.WideMaps.keyOf_string_mk Tryd.underlying9 (pt_size hd)
  obtain ⟨D, hD1, hD2, hD3⟩ := hM
  obtain ⟨w3, hrun, hown, hgrow⟩ := hD1.update (string_keyed Tryd.underlying9) Tryd.underlying41 (by unfold maxLen; omega) hkey (plainElem_int Tryd.underlying3 (wrap64_wf (mget m l0 + a1)))
  refine ⟨w3, hrun, ⟨D.put (key l0) (.lit (.int .i64 (wrap64 (mget m l0 + a1)))), hown, hD2.put _ _, fun l hl => ?_⟩, hgrow⟩
  by_cases e : l0 = l
  · subst e
    rw [show mget ((l0, wrap64 (mget m l0 + a1)) :: m) l0 = wrap64 (mget m l0 + a1) from by simp [mget]]
    exact atKey_put_same hD2 (show WideAt.IsKeyLit (key l0) from trivial) _ _
  · rw [show mget ((l0, wrap64 (mget m l0 + a1)) :: m) l = mget m l from by simp [mget, e]]
    rw [atKey_put_other (fun e2 => e (key_inj hd hl e2.symm))]
    exact hD3 l hl
/-- What stands throughout a round: the map, the closure's cell, the text's iterator, the terms of now. -/
def WB (w0 : World) (ib b cb : Nat) (s : ByteArray) (pos : Nat) (v6 : Value) (x6 : List S33) (m : Mt) (W : World) : Prop :=
  Iv.M b W m ∧ Cb cb b W ∧ W.heap[ib]? = some (.stringIter s pos) ∧ Kd.N k33 33 W w0.heap.size (fun k_ => (w0.heap.size ≤ k_ ∧ k_ ≠ ib) ∧ k_ ≠ b) v6 x6 ∧ Below w0.heap.size w0 W
section
variable {w0 W w1 : World} {ib b cb pos : Nat} {s : ByteArray} {v6 : Value} {x6 : List S33} {m m' : Mt}
theorem WB.below (h : WB w0 ib b cb s pos v6 x6 m W) (hb : Below W.heap.size W w1) : WB w0 ib b cb s pos v6 x6 m w1 :=
  ⟨Iv.M_below h.1 hb, Cb_below h.2.1 hb, blk_below h.2.2.1 hb, Kd.N_below h.2.2.2.1 hb, below_step h.2.2.2.2 hb⟩
theorem WB.put (h : WB w0 ib b cb s pos v6 x6 m W) (hk : Kept W w1 (fun k => k = b)) (hM : Iv.M b w1 m') (hB : Below w0.heap.size w0 w1) : WB w0 ib b cb s pos v6 x6 m' w1 := by
  have hm := h.1
  obtain ⟨D, h1, _⟩ := hm
  obtain ⟨es, clock, hh, _⟩ := h1
  have n1 : ib ≠ b := fun e => by have := h.2.2.1; rw [e, hh] at this; cases this
  have n2 : cb ≠ b := fun e => by have h2 := h.2.1; unfold Cb at h2; rw [e, hh] at h2; cases h2
  exact ⟨hM, Cb_kept h.2.1 hk n2, (hk.2 ib (blk_lt h.2.2.1) n1).trans h.2.2.1, Kd.N_kept h.2.2.2.1 hk (fun k hk' => hk'.2), hB⟩
theorem N_iterAt {w : World} {base : Nat} {v : Value} {xs : List S33} (h : Kd.N k33 33 w base (fun k_ => base ≤ k_ ∧ k_ ≠ ib) v xs) : Kd.N k33 33 (w.iterAt ib s pos) base (fun k_ => base ≤ k_ ∧ k_ ≠ ib) v xs :=
  Kd.N_step h (fun k ho _ => Go.Lib.iterAt_other w ib k s pos ho.2)
end
theorem impl_WalkTerms.mono_l : ∀ k, (∀ y0 y1 y2, LeO (impl_WalkTerms.j0 k y0 y1 y2) (impl_WalkTerms.j0 (k + 1) y0 y1 y2)) ∧ (∀ y0 y1 y2 y3, LeO (impl_WalkTerms.l0 k y0 y1 y2 y3) (impl_WalkTerms.l0 (k + 1) y0 y1 y2 y3)) ∧ (∀ y0 y1 y2 y3 y4, LeO (impl_WalkTerms.j2 k y0 y1 y2 y3 y4) (impl_WalkTerms.j2 (k + 1) y0 y1 y2 y3 y4)) ∧ (∀ y0 y1 y2 y3 y4 y5 y6 y7, LeO (impl_WalkTerms.l1 k y0 y1 y2 y3 y4 y5 y6 y7) (impl_WalkTerms.l1 (k + 1) y0 y1 y2 y3 y4 y5 y6 y7)) ∧ (∀ y0 y1 y2 y3 y4 y5 y6 y7 y8 y9 y10 y11 y12, LeO (impl_WalkTerms.l2 k y0 y1 y2 y3 y4 y5 y6 y7 y8 y9 y10 y11 y12) (impl_WalkTerms.l2 (k + 1) y0 y1 y2 y3 y4 y5 y6 y7 y8 y9 y10 y11 y12))
  | 0 => ⟨fun _ _ _ r h => by simp [impl_WalkTerms.j0] at h, fun _ _ _ _ r h => by simp [impl_WalkTerms.l0] at h, fun _ _ _ _ _ r h => by simp [impl_WalkTerms.j2] at h, fun _ _ _ _ _ _ _ _ r h => by simp [impl_WalkTerms.l1] at h, fun _ _ _ _ _ _ _ _ _ _ _ _ _ r h => by simp [impl_WalkTerms.l2] at h⟩
  | k + 1 => by
    obtain ⟨ih0, ih1, ih2, ih3, ih4⟩ := impl_WalkTerms.mono_l k
    refine ⟨?_, ?_, ?_, ?_, ?_⟩
    · intro y0 y1 y2
      unfold impl_WalkTerms.j0
      repeat' first
      | (with_reducible exact ih0 _ _ _)
      | (with_reducible exact ih1 _ _ _ _)
      | (with_reducible exact ih2 _ _ _ _ _)
      | (with_reducible exact ih3 _ _ _ _ _ _ _ _)
      | (with_reducible exact ih4 _ _ _ _ _ _ _ _ _ _ _ _ _)
      | (with_reducible exact impl_IsPartition.mono _ _)
      | (with_reducible exact impl_stepped.mono _ _ _)
      | (with_reducible exact impl_sum.mono _ _)
      | (with_reducible exact impl_termsOf.mono _ _ _)
      | (with_reducible exact LeO.refl _)
      | (with_reducible exact LeO.none _)
      | (with_reducible refine LeO.ite ?_ ?_)
      | (with_reducible refine LeO.bind ?_ (fun _ => ?_))
      | exact ih0 _ _ _
      | exact ih1 _ _ _ _
      | exact ih2 _ _ _ _ _
      | exact ih3 _ _ _ _ _ _ _ _
      | exact ih4 _ _ _ _ _ _ _ _ _ _ _ _ _
      | exact impl_IsPartition.mono _ _
      | exact impl_stepped.mono _ _ _
      | exact impl_sum.mono _ _
      | exact impl_termsOf.mono _ _ _
      | exact LeO.none _
      | refine LeO.ite ?_ ?_
      | refine LeO.bind ?_ (fun _ => ?_)
    · intro y0 y1 y2 y3
      unfold impl_WalkTerms.l0
      repeat' first
      | (with_reducible exact ih0 _ _ _)
      | (with_reducible exact ih1 _ _ _ _)
      | (with_reducible exact ih2 _ _ _ _ _)
      | (with_reducible exact ih3 _ _ _ _ _ _ _ _)
      | (with_reducible exact ih4 _ _ _ _ _ _ _ _ _ _ _ _ _)
      | (with_reducible exact impl_IsPartition.mono _ _)
      | (with_reducible exact impl_stepped.mono _ _ _)
      | (with_reducible exact impl_sum.mono _ _)
      | (with_reducible exact impl_termsOf.mono _ _ _)
      | (with_reducible exact LeO.refl _)
      | (with_reducible exact LeO.none _)
      | (with_reducible refine LeO.ite ?_ ?_)
      | (with_reducible refine LeO.bind ?_ (fun _ => ?_))
      | exact ih0 _ _ _
      | exact ih1 _ _ _ _
      | exact ih2 _ _ _ _ _
      | exact ih3 _ _ _ _ _ _ _ _
      | exact ih4 _ _ _ _ _ _ _ _ _ _ _ _ _
      | exact impl_IsPartition.mono _ _
      | exact impl_stepped.mono _ _ _
      | exact impl_sum.mono _ _
      | exact impl_termsOf.mono _ _ _
      | exact LeO.none _
      | refine LeO.ite ?_ ?_
      | refine LeO.bind ?_ (fun _ => ?_)
    · intro y0 y1 y2 y3 y4
      unfold impl_WalkTerms.j2
      repeat' first
      | (with_reducible exact ih0 _ _ _)
      | (with_reducible exact ih1 _ _ _ _)
      | (with_reducible exact ih2 _ _ _ _ _)
      | (with_reducible exact ih3 _ _ _ _ _ _ _ _)
      | (with_reducible exact ih4 _ _ _ _ _ _ _ _ _ _ _ _ _)
      | (with_reducible exact impl_IsPartition.mono _ _)
      | (with_reducible exact impl_stepped.mono _ _ _)
      | (with_reducible exact impl_sum.mono _ _)
      | (with_reducible exact impl_termsOf.mono _ _ _)
      | (with_reducible exact LeO.refl _)
      | (with_reducible exact LeO.none _)
      | (with_reducible refine LeO.ite ?_ ?_)
      | (with_reducible refine LeO.bind ?_ (fun _ => ?_))
      | exact ih0 _ _ _
      | exact ih1 _ _ _ _
      | exact ih2 _ _ _ _ _
      | exact ih3 _ _ _ _ _ _ _ _
      | exact ih4 _ _ _ _ _ _ _ _ _ _ _ _ _
      | exact impl_IsPartition.mono _ _
      | exact impl_stepped.mono _ _ _
      | exact impl_sum.mono _ _
      | exact impl_termsOf.mono _ _ _
      | exact LeO.none _
      | refine LeO.ite ?_ ?_
      | refine LeO.bind ?_ (fun _ => ?_)
    · intro y0 y1 y2 y3 y4 y5 y6 y7
      unfold impl_WalkTerms.l1
      repeat' first
      | (with_reducible exact ih0 _ _ _)
      | (with_reducible exact ih1 _ _ _ _)
      | (with_reducible exact ih2 _ _ _ _ _)
      | (with_reducible exact ih3 _ _ _ _ _ _ _ _)
      | (with_reducible exact ih4 _ _ _ _ _ _ _ _ _ _ _ _ _)
      | (with_reducible exact impl_IsPartition.mono _ _)
      | (with_reducible exact impl_stepped.mono _ _ _)
      | (with_reducible exact impl_sum.mono _ _)
      | (with_reducible exact impl_termsOf.mono _ _ _)
      | (with_reducible exact LeO.refl _)
      | (with_reducible exact LeO.none _)
      | (with_reducible refine LeO.ite ?_ ?_)
      | (with_reducible refine LeO.bind ?_ (fun _ => ?_))
      | exact ih0 _ _ _
      | exact ih1 _ _ _ _
      | exact ih2 _ _ _ _ _
      | exact ih3 _ _ _ _ _ _ _ _
      | exact ih4 _ _ _ _ _ _ _ _ _ _ _ _ _
      | exact impl_IsPartition.mono _ _
      | exact impl_stepped.mono _ _ _
      | exact impl_sum.mono _ _
      | exact impl_termsOf.mono _ _ _
      | exact LeO.none _
      | refine LeO.ite ?_ ?_
      | refine LeO.bind ?_ (fun _ => ?_)
    · intro y0 y1 y2 y3 y4 y5 y6 y7 y8 y9 y10 y11 y12
      unfold impl_WalkTerms.l2
      repeat' first
      | (with_reducible exact ih0 _ _ _)
      | (with_reducible exact ih1 _ _ _ _)
      | (with_reducible exact ih2 _ _ _ _ _)
      | (with_reducible exact ih3 _ _ _ _ _ _ _ _)
      | (with_reducible exact ih4 _ _ _ _ _ _ _ _ _ _ _ _ _)
      | (with_reducible exact impl_IsPartition.mono _ _)
      | (with_reducible exact impl_stepped.mono _ _ _)
      | (with_reducible exact impl_sum.mono _ _)
      | (with_reducible exact impl_termsOf.mono _ _ _)
      | (with_reducible exact LeO.refl _)
      | (with_reducible exact LeO.none _)
      | (with_reducible refine LeO.ite ?_ ?_)
      | (with_reducible refine LeO.bind ?_ (fun _ => ?_))
      | exact ih0 _ _ _
      | exact ih1 _ _ _ _
      | exact ih2 _ _ _ _ _
      | exact ih3 _ _ _ _ _ _ _ _
      | exact ih4 _ _ _ _ _ _ _ _ _ _ _ _ _
      | exact impl_IsPartition.mono _ _
      | exact impl_stepped.mono _ _ _
      | exact impl_sum.mono _ _
      | exact impl_termsOf.mono _ _ _
      | exact LeO.none _
      | refine LeO.ite ?_ ?_
      | refine LeO.bind ?_ (fun _ => ?_)
theorem impl_WalkTerms.mono : ∀ a0 a1 k, LeO (impl_WalkTerms.f k a0 a1) (impl_WalkTerms.f (k + 1) a0 a1) := by
  intro a0 a1 k
  obtain ⟨ih0, ih1, ih2, ih3, ih4⟩ := impl_WalkTerms.mono_l k
  unfold impl_WalkTerms.f
  repeat' first
      | (with_reducible exact ih0 _ _ _)
      | (with_reducible exact ih1 _ _ _ _)
      | (with_reducible exact ih2 _ _ _ _ _)
      | (with_reducible exact ih3 _ _ _ _ _ _ _ _)
      | (with_reducible exact ih4 _ _ _ _ _ _ _ _ _ _ _ _ _)
      | (with_reducible exact impl_IsPartition.mono _ _)
      | (with_reducible exact impl_stepped.mono _ _ _)
      | (with_reducible exact impl_sum.mono _ _)
      | (with_reducible exact impl_termsOf.mono _ _ _)
      | (with_reducible exact LeO.refl _)
      | (with_reducible exact LeO.none _)
      | (with_reducible refine LeO.ite ?_ ?_)
      | (with_reducible refine LeO.bind ?_ (fun _ => ?_))
      | exact ih0 _ _ _
      | exact ih1 _ _ _ _
      | exact ih2 _ _ _ _ _
      | exact ih3 _ _ _ _ _ _ _ _
      | exact ih4 _ _ _ _ _ _ _ _ _ _ _ _ _
      | exact impl_IsPartition.mono _ _
      | exact impl_stepped.mono _ _ _
      | exact impl_sum.mono _ _
      | exact impl_termsOf.mono _ _ _
      | exact LeO.none _
      | refine LeO.ite ?_ ?_
      | refine LeO.bind ?_ (fun _ => ?_)
set_option maxHeartbeats 8000000 in
set_option maxRecDepth 100000 in
theorem impl_WalkTerms.calls (k : Nat) (A0 : Option Addr) (c0 : Nat) (l0 : List Int) (a1 : ByteArray) (r1 : List (S33)) (r2 : Bool) (w : World) (hr0 : Kd.C (Kd.int .i64) w A0 l0.length l0) (hc0 : l0.length ≤ c0) (h : impl_WalkTerms.f k l0 a1 = some (r1, r2)) :
    Calls Tryd.prog 15 #[.slice A0 l0.length c0, .string a1] w fun e w' => ∃ v0_ : Value, e = .returned (.tuple #[v0_, .bool r2]) ∧ Kd.N k33 33 w' w.heap.size (fun k_ => (w.heap.size ≤ k_)) v0_ r1 ∧ Below w.heap.size w w' := by
  have hu33 := Tryd.underlying33
  have HR0 := Aside0.mk hr0
  have HC0 := Aside0.mk hc0
  clear hr0 hc0
  have HB := Aside0.mk (Below.refl w.heap.size w)
  have H : ((impl_IsPartition.f k l0).bind fun t361 => (if t361 = true then ((impl_IsWalk.f a1).bind fun t362 => (impl_WalkTerms.j0 k l0 a1 (!t362))) else (impl_WalkTerms.j0 k l0 a1 true))) = some (r1, r2) := h
  clear h
  have HC3 := Aside0.mk H
  clear H
  go_enter Tryd.func15, Tryd.ntmps15
  go_upto_region 1 with (fail)
  go_cut [23] (fun v23 wc => ∃ (kq : Nat) (x23_2 : Bool), v23 = .bool x23_2 ∧ Aside0 (impl_WalkTerms.j0 kq l0 a1 x23_2 = some (r1, r2)) ∧ Aside0 (kq ≤ k) ∧ Aside0 (Below w.heap.size w wc))
  case first =>
    have H := HC3.out
    clear HC3
    replace H := Option.bind_eq_some_iff.mp H
    obtain ⟨t361, A40, H⟩ := H
    replace H : (if t361 = true then ((impl_IsWalk.f a1).bind fun t362 => (impl_WalkTerms.j0 k l0 a1 (!t362))) else (impl_WalkTerms.j0 k l0 a1 true)) = some (r1, r2) := H
    have A4 := Aside0.mk A40
    clear A40
    by_cases c5 : t361 = true
    · subst c5
      have H1 : ((impl_IsWalk.f a1).bind fun t362 => (impl_WalkTerms.j0 k l0 a1 (!t362))) = some (r1, r2) := by rw [if_pos rfl] at H; exact H
      clear H
      have H := H1
      clear H1
      replace H := Option.bind_eq_some_iff.mp H
      obtain ⟨t362, A60, H⟩ := H
      replace H : (impl_WalkTerms.j0 k l0 a1 (!t362)) = some (r1, r2) := H
      have A6 := Aside0.mk A60
      clear A60
      have H' := Aside0.mk H
      clear H
      go_wp2_with (first | ((with_reducible refine gate_callee (f := 34) rfl ?_); refine goesL_ (some 17) rfl rfl Tryd.func34 (by kernel_rfl) rfl #[.slice A0 l0.length c0] rfl xm ?_; (with_reducible refine (impl_IsPartition.calls k _ _ l0 true _ ?side1 ?side2 A4.out).mono ?_); (case side1 => first | exact xc (Kd.C_below HR0.out HB.out) | exact xc HR0.out); (case side2 => exact HC0.out); rintro e w' ⟨rfl, ⟨nd, rfl⟩⟩; refine ⟨_, rfl, ?_⟩) | (go_at_call 35; (with_reducible refine (impl_IsWalk.calls a1 t362 _ A6.out).mono ?_); rintro e w7 ⟨rfl, hb⟩; have n0_ := Aside0.mk (below_step (xb HB.out) hb); clear HB; have HB := n0_; clear n0_; (try clear hb); (try clear hb2); (try clear hk); (try clear hi)))
      go_meet
      case rel => exact ⟨_, (!t362), (by first | rfl | (simp; done) | (simp [*]; done)), H', ⟨by first | omega | exact Nat.le_refl _⟩, ⟨by repeat (first | (with_reducible first | exact HB.out | apply below_alloc | apply pw_below_drewN | apply below_drew1) | exact HB.out)⟩⟩
    · replace c5 := Bool.eq_false_iff.mpr c5
      subst c5
      have H1 : (impl_WalkTerms.j0 k l0 a1 true) = some (r1, r2) := by rw [if_neg (show ¬ (false = true) by decide)] at H; exact H
      clear H
      have H := H1
      clear H1
      have H' := Aside0.mk H
      clear H
      go_wp2_with (first | ((with_reducible refine gate_callee (f := 34) rfl ?_); refine goesL_ (some 17) rfl rfl Tryd.func34 (by kernel_rfl) rfl #[.slice A0 l0.length c0] rfl xm ?_; (with_reducible refine (impl_IsPartition.calls k _ _ l0 false _ ?side1 ?side2 A4.out).mono ?_); (case side1 => first | exact xc (Kd.C_below HR0.out HB.out) | exact xc HR0.out); (case side2 => exact HC0.out); rintro e w' ⟨rfl, ⟨nd, rfl⟩⟩; refine ⟨_, rfl, ?_⟩))
      go_meet
      case rel => exact ⟨_, (true), (by first | rfl | (simp; done) | (simp [*]; done)), H', ⟨by first | omega | exact Nat.le_refl _⟩, ⟨by repeat (first | (with_reducible first | exact HB.out | apply below_alloc | apply pw_below_drewN | apply below_drew1) | exact HB.out)⟩⟩
  case rest =>
    clear HC3
    try clear c1
    try clear p2
    try clear c3
    try clear c5
    obtain ⟨kq, x23_2, rfl, HA, HJ2, HB⟩ := hcut
    cases kq with
    | zero => exact absurd HA.out (by simp [impl_WalkTerms.j0])
    | succ kj2 =>
      have H := HA.out
      clear HA
      simp only [impl_WalkTerms.j0] at H
      by_cases c8 : x23_2 = true
      · subst c8
        have H1 : (some (([] : List (S33)), false)) = some (r1, r2) := by rw [if_pos rfl] at H; exact H
        clear H
        have H := H1
        clear H1
        simp only [Option.some.injEq, Prod.mk.injEq] at H
        obtain ⟨rfl, rfl⟩ := H
        go_wp2
        go_ret2
        exact ⟨_, by first | rfl | (simp [errW_none, errW_some] <;> rfl) | (simp [*, errW_none, errW_some] <;> rfl), by first | exact Kd.S_nil _ _ _ _ _ | exact Kd.N_nil _ _ _ _ _ | exact Kd.V_nil _ _ _ _ _ | exact Kd.Q_nil _ _ _ _ _ | exact Kd.R_nil _ _ _ _ _, by repeat (first | (with_reducible first | exact HB.out | apply below_alloc | apply pw_below_drewN | apply below_drew1) | exact HB.out)⟩
      · replace c8 := Bool.eq_false_iff.mpr c8
        subst c8
        have H1 : ((slices_Clone_int_int.f l0).bind fun t363 => ((impl_sum.f kj2 l0).bind fun t369 => (impl_WalkTerms.l0 kj2 (([(⟨t363, 1⟩ : S33)] : List (S33))) t369 a1 0))) = some (r1, r2) := by rw [if_neg (show ¬ (false = true) by decide)] at H; exact H
        clear H
        have H := H1
        clear H1
        replace H := Option.bind_eq_some_iff.mp H
        obtain ⟨t363, A90, H⟩ := H
        replace H : ((impl_sum.f kj2 l0).bind fun t369 => (impl_WalkTerms.l0 kj2 (([(⟨t363, 1⟩ : S33)] : List (S33))) t369 a1 0)) = some (r1, r2) := H
        have A9 := Aside0.mk A90
        clear A90
        obtain ⟨y366, hy366⟩ : ∃ y_ : List (S33), y_ = (([(⟨t363, 1⟩ : S33)] : List (S33))) := ⟨_, rfl⟩
        replace H : ((impl_sum.f kj2 l0).bind fun t369 => (impl_WalkTerms.l0 kj2 y366 t369 a1 0)) = some (r1, r2) := by first | (rw [hy366]; with_reducible exact H) | (have H2_ := (Option.bind_some _ _).symm.trans H; rw [hy366]; with_reducible exact H2_) | (have H2_ := (Option.bind_some _ _).symm.trans H; with_reducible exact H2_) | with_reducible exact H | (rw [hy366]; exact H) | exact H
        have Ny366 := Aside0.mk hy366
        clear hy366
        replace H := Option.bind_eq_some_iff.mp H
        obtain ⟨t369, A100, H⟩ := H
        replace H : (impl_WalkTerms.l0 kj2 y366 t369 a1 0) = some (r1, r2) := H
        have A10 := Aside0.mk A100
        clear A100
        have H' := Aside0.mk H
        clear H
        go_upto_region 4 with (first | ((with_reducible refine gate_callee (f := 36) rfl ?_); refine goesL_ (some 25) rfl rfl Tryd.func36 (by kernel_rfl) rfl #[.slice A0 l0.length c0] rfl xm ?_; (with_reducible refine (slices_Clone_int_int.calls _ _ l0 t363 _ ?side1 ?side2 A9.out).mono ?_); (case side1 => first | exact xc (Kd.C_below HR0.out HB.out) | exact xc HR0.out); (case side2 => exact HC0.out); rintro e w11 ⟨v364, rfl, ho0, hb⟩; refine ⟨_, rfl, ?_⟩; have n0_ := Aside0.mk (Kd.R_lower (Kd.R_newM (M := fun k_ => (w.heap.size ≤ k_)) ho0 (below_size (xb HB.out)) (fun k_ h_ => h_)) (below_size (xb HB.out))); have n1_ := Aside0.mk (below_step (xb HB.out) hb); clear HB; have HO365 := n0_; have HB := n1_; clear n0_ n1_; (try clear hb); (try clear hb2); (try clear hk); (try clear hi); (try clear ho0); obtain ⟨Ao12, co12, eo12⟩ := Kd.R_slice HO365.out; subst eo12) | ((with_reducible refine gate_dst (N := 27) rfl ?_); refine Kd.N_lit k33 _ 33 ?hg (N' := 27) ?hd (xs := ([(⟨t363, 1⟩ : S33)] : List (S33))) (inner := [.slice Ao12 t363.length co12, .int .i64 1]) (ok := (fun k_ => (w.heap.size ≤ k_))) (okp := (fun k_ => (w.heap.size ≤ k_))) ?hr ?hp (fun _ hk => hk) ((show ∀ k_, w11.heap.size ≤ k_ → (fun k_ => (w.heap.size ≤ k_)) k_ from fun k_ hk => (Nat.le_trans (below_size (xb HB.out)) hk)) _ (Nat.le_refl _)) (Below.refl _ _) (Nat.le_refl _) (by simp) ?_; (case hd => rfl); (case hg => rfl); (case hr => first | (go_simp; done) | (go_simp; rfl)); (case hp => exact (Reps.c2 (show Kd.FK k33 _ _ (⟨t363, 1⟩ : S33) [.slice Ao12 t363.length co12, .int .i64 1] from (k33_mkF _ _ (⟨t363, 1⟩ : S33) (Kd.R_reads' (Kd.R_mono (ok' := (fun k_ => (w.heap.size ≤ k_))) (HO365.out) (fun k_ hk => hk.1))).2.1 (Kd.R_F (Kd.R_mono (ok' := (fun k_ => (w.heap.size ≤ k_))) (HO365.out) (fun k_ hk => hk.1))))) (Reps.none _ _))); intro v367 w13 ho14 hb hg_ hnew_; clear hg_ hnew_; (first | rw [← Ny366.out] at ho14 | (simp only [Int.reduceToNat] at ho14; rw [← Ny366.out] at ho14)); have n0_ := Aside0.mk (Kd.N_lower ho14 (below_size (xb HB.out))); have n1_ := Aside0.mk (below_step (xb HB.out) hb); clear HB; clear HO365; have HO368 := n0_; have HB := n1_; clear n0_ n1_; clear hb ho14) | ((with_reducible refine gate_callee (f := 37) rfl ?_); refine goesL_ (some 29) rfl rfl Tryd.func37 (by kernel_rfl) rfl #[.slice A0 l0.length c0] rfl xm ?_; (with_reducible refine (impl_sum.calls kj2 _ _ l0 t369 _ ?side1 ?side2 A10.out).mono ?_); (case side1 => first | exact xc (Kd.C_below HR0.out HB.out) | exact xc HR0.out); (case side2 => exact HC0.out); rintro e w' ⟨rfl, ⟨nd, rfl⟩⟩; refine ⟨_, rfl, ?_⟩))
        have HIB := Aside0.mk (below_size HB.out : w.heap.size ≤ w13.heap.size)
        go_wp2
        go_loopg [6, 7] kj2 (fun kq v6 v7 w' => ∃ (x6_2 : List (S33)) (x7_2 : Int) (x31_2 : Nat), v7 = .int .i64 x7_2 ∧ Aside0 (impl_WalkTerms.l0 kq x6_2 x7_2 a1 x31_2 = some (r1, r2)) ∧ Aside0 (kq ≤ kj2) ∧ Aside0 (w'.heap[w13.heap.size]? = some (.stringIter a1 x31_2)) ∧ Aside0 (Kd.N k33 33 w' w.heap.size (fun k_ => w.heap.size ≤ k_ ∧ k_ ≠ w13.heap.size) v6 x6_2) ∧ Aside0 (Below w.heap.size w w'))
        case atStart => exact ⟨y366, t369, 0, rfl, H', ⟨Nat.le_refl _⟩, ⟨World.iter_heap _ _ _⟩, ⟨Kd.N_alloc (Kd.N_drewN (Kd.N_elderB HO368.out w13.heap.size (Nat.le_refl _)) _) _⟩, ⟨below_alloc (pw_below_drewN HB.out _) _⟩⟩
        case round =>
          clear H'
          try clear c5
          try clear c8
          clear HB HO368
          obtain ⟨x6_2, x7_2, x31_2, rfl, HA, HK2, HIT0, HO_60, HB0⟩ := hrel
          cases gk with
          | zero => exact absurd HA.out (by simp [impl_WalkTerms.l0])
          | succ k2 =>
            have H := HA.out
            clear HA
            simp only [impl_WalkTerms.l0] at H
            by_cases c15 : x31_2 < a1.size
            · rw [if_pos c15] at H
              by_cases c16 : bt a1 x31_2 < 128
              · rw [if_pos c16] at H
                have HC18 := Aside0.mk H
                clear H
                have hnx := next_at wr w13.heap.size a1 x31_2 0 HIT0.out c15 c16
                clear c15 c16
                obtain ⟨w15, hw15⟩ : ∃ w15, w15 = wr.iterAt w13.heap.size a1 (x31_2 + 1) := ⟨_, rfl⟩
                rw [← hw15] at hnx
                have HIT := Aside0.mk (show w15.heap[w13.heap.size]? = some (.stringIter a1 (x31_2 + 1)) from by rw [hw15]; exact Go.Lib.iterAt_heap _ _ _ _ _ HIT0.out)
                have HO_6 := Aside0.mk (show Kd.N k33 33 w15 w.heap.size (fun k_ => w.heap.size ≤ k_ ∧ k_ ≠ w13.heap.size) u6 x6_2 from by rw [hw15]; exact N_iterAt HO_60.out)
                have HB := Aside0.mk (show Below w.heap.size w w15 from by rw [hw15]; exact Go.Lib.below_iterAt HB0.out HIB.out _ _)
                clear hw15 HIT0 HO_60 HB0
                go_upto_if 39 with (fail)
                clear hnx
                go_cut [7, 10] (fun v7 v10 wc => ∃ (kq : Nat) (x7_17 : Int), v7 = .int .i64 x7_17 ∧ v10 = .bool ((bt a1 x31_2) == 117) ∧ Aside0 (impl_WalkTerms.j2 kq x6_2 x7_17 ((bt a1 x31_2) == 117) a1 x31_2 = some (r1, r2)) ∧ Aside0 (kq ≤ k2) ∧ Aside0 (wc = w15))
                case first =>
                  have H := HC18.out
                  clear HC18
                  by_cases c19 : (bt a1 x31_2) = 117
                  · rw [if_pos c19] at H
                    have c19b0 : ((bt a1 x31_2) == 117) = true := beq_iff_eq.mpr c19
                    clear c19
                    have H' := Aside0.mk H
                    clear H
                    go_wp2
                    go_meet
                    case rel => exact ⟨_, (wrap64 ((wrap64 (x7_2 - 1)) + 2)), (by first | rfl | (simp; done) | (simp [*]; done)), (by first | rfl | rw [c19b0]), H', ⟨Nat.le_refl _⟩, ⟨rfl⟩⟩
                  · rw [if_neg c19] at H
                    have c19b0 : ((bt a1 x31_2) == 117) = false := beq_eq_false_iff_ne.mpr c19
                    have H' := Aside0.mk H
                    clear H
                    go_wp2
                    go_meet
                    case rel => exact ⟨_, (wrap64 (x7_2 - 1)), (by first | rfl | (simp; done) | (simp [*]; done)), (by first | rfl | rw [c19b0]), H', ⟨Nat.le_refl _⟩, ⟨rfl⟩⟩
                case rest =>
                  clear HC18
                  obtain ⟨kq, x7_17, rfl, rfl, HA, HJ17, HWC⟩ := hcut
                  obtain rfl := HWC.out
                  clear HWC
                  cases kq with
                  | zero => exact absurd HA.out (by simp [impl_WalkTerms.j2])
                  | succ kj17 =>
                    have H := HA.out
                    clear HA
                    simp only [impl_WalkTerms.j2] at H
                    by_cases c20 : x7_17 > 9
                    · rw [if_pos c20] at H
                      have c20b0 : decide (9 < x7_17) = true := decide_eq_true c20
                      clear c20
                      simp only [Option.some.injEq, Prod.mk.injEq] at H
                      obtain ⟨rfl, rfl⟩ := H
                      go_wp2
                      go_ret2
                      exact ⟨_, by first | rfl | (simp [errW_none, errW_some] <;> rfl) | (simp [*, errW_none, errW_some] <;> rfl), Kd.N_nil _ _ _ _ _, HB.out⟩
                    · rw [if_neg c20] at H
                      have c20b0 : decide (9 < x7_17) = false := decide_eq_false c20
                      clear c20
                      have H' := Aside0.mk H
                      clear H
                      have hmm := @run_makeMap Tryd.prog
                      go_upto_region 14 with (fail)
                      clear hmm
                      obtain ⟨w21, hw21⟩ : ∃ w21, w21 = (wc.alloc (.map #[] 0)).alloc (.cells #[.map (some wc.heap.size)] 41) := ⟨_, rfl⟩
                      have HBW := Aside0.mk (below_size HB.out : w.heap.size ≤ wc.heap.size)
                      have HW := Aside0.mk (show WB w w13.heap.size wc.heap.size (wc.heap.size + 1) a1 (x31_2 + 1) u6 x6_2 [] w21 from by
                        rw [hw21]
                        exact ⟨(Iv.R_alloc (Iv.R_made wc) _).2.2, Cb_made wc, blk_alloc (blk_alloc HIT.out _) _, Kd.N_alloc (Kd.N_alloc (Kd.N_elderB HO_6.out wc.heap.size (Nat.le_refl _)) _) _, below_alloc (below_alloc HB.out _) _⟩)
                      rw [← hw21]
                      clear hw21 HIT HO_6 HB
                      obtain ⟨Ao23, co23, eo23⟩ := Kd.N_slice HW.out.2.2.2.1
                      subst eo23
                      go_wp2
                      go_loopg [47] kj17 (fun kq v47 w' => ∃ (x11_4 : Mt) (x47_4 : Int), v47 = .int .i64 x47_4 ∧ Aside0 (impl_WalkTerms.l1 kq x7_17 ((bt a1 x31_2) == 117) x11_4 a1 x31_2 x6_2 (x6_2.length : Int) x47_4 = some (r1, r2)) ∧ Aside0 (kq ≤ kj17) ∧ Aside0 (WB w w13.heap.size wc.heap.size (wc.heap.size + 1) a1 (x31_2 + 1) (.slice Ao23 x6_2.length co23) x6_2 x11_4 w'))
                      case atStart => exact ⟨[], 0, rfl, H', ⟨Nat.le_refl _⟩, HW⟩
                      case round =>
                        clear H' HW
                        try clear c20b0
                        obtain ⟨wo, rfl⟩ : ∃ wo : World, wo = wr := ⟨_, rfl⟩
                        obtain ⟨x11_4, x47_4, rfl, HA, HK4, HW4⟩ := hrel
                        cases gk with
                        | zero => exact absurd HA.out (by simp [impl_WalkTerms.l1])
                        | succ k4 =>
                          have H := HA.out
                          clear HA
                          simp only [impl_WalkTerms.l1] at H
                          by_cases c24 : x47_4 < (x6_2.length : Int)
                          · rw [if_pos c24] at H
                            have c24b0 : decide (x47_4 < (x6_2.length : Int)) = true := decide_eq_true c24
                            by_cases c25 : 0 ≤ x47_4
                            · rw [if_pos c25, if_pos c24] at H
                              have c25b0 : decide (0 ≤ x47_4) = true := decide_eq_true c25
                              obtain ⟨t378, A270, H⟩ := Option.bind_eq_some_iff.mp H
                              have A27 := Aside0.mk A270
                              clear A270
                              have H' := Aside0.mk H
                              clear H
                              have HO_45 := Aside0.mk HW4.out.2.2.2.1
                              have HBO := Aside0.mk (Iv.M_lt HW4.out.1)
                              obtain ⟨ad376, A376_0, c376_0, e376, hx376_0, hx376_1, hl376_0, hi376_0⟩ := at_T33 (Kd.N_reads' HO_45.out).2.2 x47_4 c25 c24
                              cases e376
                              have HR376_0 := Aside0.mk hi376_0
                              have HC376_0 := Aside0.mk hl376_0
                              clear hi376_0 hl376_0
                              have p376 := eq_true c25
                              have q376 := eq_true c24
                              clear c24 c25
                              go_wp2_with (first | ((with_reducible refine gate_dst (N := 13) rfl ?_); refine box_event ?hg (N := 13) ?hd (cs := #[.slice none 0 0, .int .i64 0]) (t := 33) ?hr ?_; (case hd => rfl); (case hg => rfl); (case hr => first | (go_simp; done) | (go_simp; rfl)); intro gb377 hg w28 hbox hb; have HBX := Aside0.mk hb; have BK377 := Aside0.mk hbox; have GE377 := Aside0.mk (Nat.le_of_eq hg.symm : wo.heap.size ≤ gb377); clear hb hbox hg; have hcz29_0 : w28.cell? ⟨gb377, 0, none⟩ = some (.slice none 0 0) := (blk_cell BK377.out 0).trans rfl; have hcz29_1 : w28.cell? ⟨gb377, 1, none⟩ = some (.int .i64 0) := (blk_cell BK377.out 1).trans rfl; have hfz29_0 := blk_frozen BK377.out 0; have hfz29_1 := blk_frozen BK377.out 1) | ((with_reducible refine gate_callee (f := 38) rfl ?_); refine goesL_ (some 54) rfl rfl Tryd.func38 (by kernel_rfl) rfl #[.slice A376_0 ((rd_T33 x6_2 x47_4).f0).length c376_0, .bool ((bt a1 x31_2) == 117)] rfl xm ?_; (with_reducible refine (impl_stepped.calls k4 _ _ ((rd_T33 x6_2 x47_4).f0) ((bt a1 x31_2) == 117) t378 _ ?side1 ?side2 A27.out).mono ?_); (case side1 => exact Kd.C_below HR376_0.out (by repeat (first | (with_reducible first | exact HBX.out | apply below_alloc | apply pw_below_drewN | apply below_drew1 | refine below_set ?_ GE377.out) | exact HBX.out))); (case side2 => exact HC376_0.out); rintro e w30 ⟨v379, rfl, ho0, hb⟩; refine ⟨_, rfl, ?_⟩; have HB2 := Aside0.mk (show Below wo.heap.size wo ((w28.setCell ⟨gb377, 0, none⟩ (.slice A376_0 ((rd_T33 x6_2 x47_4).f0).length c376_0)).setCell ⟨gb377, 1, none⟩ (.int .i64 ((rd_T33 x6_2 x47_4).f1))) from (by repeat (first | (with_reducible first | exact HBX.out | apply below_alloc | apply pw_below_drewN | apply below_drew1 | refine below_set ?_ GE377.out) | exact HBX.out))); have HB3 := Aside0.mk (below_step HB2.out hb); have HO380 := Aside0.mk (Kd.N_lower (Kd.N_mono (ok' := fun k_ => wo.heap.size ≤ k_) (Kd.S_N (Kd.S_bound ho0)) (fun k_ hk_ => Nat.le_trans (below_size HB2.out) hk_.2.1)) (below_size HB2.out)); have BK378 := Aside0.mk (blk_below (g := gb377) (o := .cells #[.slice A376_0 ((rd_T33 x6_2 x47_4).f0).length c376_0, .int .i64 ((rd_T33 x6_2 x47_4).f1)] 33 (0, 0)) (by (with_reducible repeat (first | refine blk_drewN ?_ _ | refine blk_drew ?_ | refine blk_alloc ?_ _)); refine blk_put (cs := #[.slice A376_0 ((rd_T33 x6_2 x47_4).f0).length c376_0, .int .i64 0]) ?_ 1 _ rfl; (with_reducible repeat (first | refine blk_drewN ?_ _ | refine blk_drew ?_ | refine blk_alloc ?_ _)); refine blk_put (cs := #[.slice none 0 0, .int .i64 0]) ?_ 0 _ rfl; (with_reducible repeat (first | refine blk_drewN ?_ _ | refine blk_drew ?_ | refine blk_alloc ?_ _)); exact BK377.out) hb); clear hb ho0 HB2; obtain ⟨Ao31, co31, eo31⟩ := Kd.N_slice HO380.out; subst eo31))
                              clear hcz29_0 hcz29_1 hfz29_0 hfz29_1 hx376_0 hx376_1 p376 q376 c24b0 c25b0
                              have HW5 := Aside0.mk (WB.below HW4.out HB3.out)
                              go_loopg [56] k4 (fun kq v56 w' => ∃ (x11_5 : Mt) (x56_5 : Int), v56 = .int .i64 x56_5 ∧ Aside0 (impl_WalkTerms.l2 kq x7_17 ((bt a1 x31_2) == 117) x11_5 a1 x31_2 x6_2 (x6_2.length : Int) x47_4 t378 (t378.length : Int) x56_5 ((rd_T33 x6_2 x47_4).f0) ((rd_T33 x6_2 x47_4).f1) = some (r1, r2)) ∧ Aside0 (kq ≤ k4) ∧ Aside0 (WB w w13.heap.size wc.heap.size (wc.heap.size + 1) a1 (x31_2 + 1) (.slice (some ad376) x6_2.length co23) x6_2 x11_5 w') ∧ Aside0 (Kd.N (Kd.qslice 3 (Kd.int .i64)) 22 w' wo.heap.size (fun k_ => wo.heap.size ≤ k_) (.slice Ao31 t378.length co31) t378) ∧ Aside0 (w'.heap[gb377]? = some (.cells #[(.slice A376_0 ((rd_T33 x6_2 x47_4).f0).length c376_0), .int .i64 ((rd_T33 x6_2 x47_4).f1)] 33 (0, 0))))
                              case atStart => exact ⟨x11_4, 0, rfl, H', ⟨Nat.le_refl _⟩, HW5, HO380, BK378⟩
                              case round =>
                                clear H' HW5 BK378 HO380 BK377 HB3 HBX HR376_0
                                obtain ⟨x11_5, x56_5, rfl, HA, HK5, HW5, HO_54, BK377⟩ := hrel
                                cases gk with
                                | zero => exact absurd HA.out (by simp [impl_WalkTerms.l2])
                                | succ k5 =>
                                  have H := HA.out
                                  clear HA
                                  simp only [impl_WalkTerms.l2] at H
                                  by_cases c32 : x56_5 < (t378.length : Int)
                                  · rw [if_pos c32] at H
                                    have c32b0 : decide (x56_5 < (t378.length : Int)) = true := decide_eq_true c32
                                    by_cases c33 : 0 ≤ x56_5
                                    · rw [if_pos c33, if_pos c32] at H
                                      have c33b0 : decide (0 ≤ x56_5) = true := decide_eq_true c33
                                      obtain ⟨t382, A350, H⟩ := Option.bind_eq_some_iff.mp H
                                      have A35 := Aside0.mk (adding_ok A350)
                                      clear A350
                                      have H' := Aside0.mk H
                                      clear H
                                      obtain ⟨ad381, A381_0, c381_0, e381, hx381_0, hl381_0, hi381_0⟩ := at_L1 (Kd.N_reads' HO_54.out).2.2 x56_5 c33 c32
                                      cases e381
                                      have HR381_0 := Aside0.mk hi381_0
                                      have HC381_0 := Aside0.mk hl381_0
                                      clear hi381_0 hl381_0
                                      have p381 := eq_true c33
                                      have q381 := eq_true c32
                                      clear c32 c33
                                      go_upto_region 20 with (fail)
                                      clear c32b0 c33b0 p381 q381 hx381_0
                                      have hcc : wr.drew.cell? ⟨wc.heap.size + 1, 0, none⟩ = some (.map (some wc.heap.size)) := (blk_cell (blk_drew HW5.out.2.1) 0).trans rfl
                                      have hgc : wr.drew.cell? ⟨gb377, 1, none⟩ = some (.int .i64 ((rd_T33 x6_2 x47_4).f1)) := (blk_cell (blk_drew BK377.out) 1).trans rfl
                                      have hgf : wr.drew.frozen? ⟨gb377, 1, none⟩ = false := blk_frozen (blk_drew BK377.out) 1
                                      have HJ := Aside0.mk (impl_PartitionText.calls 100 A381_0 c381_0 (rd_L1 t378 x56_5) wr.drew (Kd.C_drew HR381_0.out) HC381_0.out (pok_ok A35.out.1).1 (pok_ok A35.out.1).2)
                                      refine start_ (n := 8) (S := fun w' => w'.cell? ⟨wc.heap.size + 1, 0, none⟩ = some (.map (some wc.heap.size)) ∧ w'.cell? ⟨gb377, 1, none⟩ = some (.int .i64 ((rd_T33 x6_2 x47_4).f1)) ∧ w'.frozen? ⟨gb377, 1, none⟩ = false ∧ Iv.M wc.heap.size w' x11_5) (ds := [7]) #[false, false, false, false, false, false, false, false] (by kernel_rfl) rfl rfl ⟨hcc, hgc, hgf, Iv.M_drew HW5.out.1⟩ (fun hHeld => ?_)
                                      clear hcc hgc hgf
                                      refine pure_ (i := 1) (N := some 61) (v := ?_) (a' := ?_) #[false, true, false, false, false, false, false, false] rfl rfl (by kernel_rfl) (fun _ _ _ h => h) (Or.inl ⟨by rfl, ?_⟩) ?_ ?_
                                      rotate_left
                                      · intro w'
                                        go_simp
                                        with_reducible rfl
                                      rotate_left
                                      · simp only [Act.put, List.setIfInBounds_toArray, List.set_cons_zero, List.set_cons_succ, i64_w, i32_w]
                                        rfl
                                      refine pure_ (i := 4) (N := some 64) (v := ?_) (a' := ?_) #[false, true, false, false, true, false, false, false] rfl rfl (by kernel_rfl) (fun _ _ _ h => h) (Or.inl ⟨by rfl, ?_⟩) ?_ ?_
                                      rotate_left
                                      · intro w'
                                        go_simp
                                        with_reducible rfl
                                      rotate_left
                                      · simp only [Act.put, List.setIfInBounds_toArray, List.set_cons_zero, List.set_cons_succ, i64_w, i32_w]
                                        rfl
                                      refine take_ (i := 0) (N := some 60) (v := ?_) (a' := ?_) #[true, true, false, false, true, false, false, false] rfl rfl (by kernel_rfl) (fun _ _ _ h => h) (Or.inl ⟨by rfl, ?_⟩) hHeld ?_ ?_
                                      rotate_left
                                      · intro w' s0
                                        obtain ⟨s0, s1, s2, s3⟩ := s0
                                        go_simp
                                        with_reducible rfl
                                      rotate_left
                                      · simp only [Act.put, List.setIfInBounds_toArray, List.set_cons_zero, List.set_cons_succ, i64_w, i32_w]
                                        rfl
                                      refine take_ (i := 5) (N := some 65) (v := ?_) (a' := ?_) #[true, true, false, false, true, true, false, false] rfl rfl (by kernel_rfl) (fun _ _ _ h => h) (Or.inl ⟨by rfl, ?_⟩) hHeld ?_ ?_
                                      rotate_left
                                      · intro w' s0
                                        obtain ⟨s0, s1, s2, s3⟩ := s0
                                        go_simp
                                        with_reducible rfl
                                      rotate_left
                                      · simp only [Act.put, List.setIfInBounds_toArray, List.set_cons_zero, List.set_cons_succ, i64_w, i32_w]
                                        rfl
                                      refine one_ (i := 2) (N := some 62) #[true, true, true, false, true, true, false, false] rfl rfl (by kernel_rfl) (by decide) (fun K hK => ?_)
                                      refine call_ 39 #[.slice A381_0 (rd_L1 t378 x56_5).length c381_0] (by rfl) rfl (by first | (go_simp; done) | (go_simp; exact enters_ Tryd.func39 (by kernel_rfl) (by kernel_rfl) _ _)) ?_
                                      refine HJ.out.mono ?_
                                      rintro e w2 ⟨rfl, hb2⟩
                                      refine ⟨_, rfl, ?_⟩
                                      have HB2 := Aside0.mk (show Below wr.heap.size wr w2 from below_step (below_drew (Below.refl _ _)) hb2)
                                      clear hb2
                                      have HW6 := Aside0.mk (WB.below HW5.out HB2.out)
                                      have BK378 := Aside0.mk (blk_below BK377.out HB2.out)
                                      refine hK.out _ _ ⟨(blk_cell HW6.out.2.1 0).trans rfl, (blk_cell BK378.out 1).trans rfl, blk_frozen BK378.out 1, HW6.out.1⟩ (fun hHeld2 => ?_)
                                      clear hK K hHeld
                                      refine norm_ (a' := ?_) ?_ ?_
                                      rotate_left
                                      · show Act.put _ (some 62) _ = _
                                        simp only [Act.put, List.setIfInBounds_toArray, List.set_cons_zero, List.set_cons_succ, i64_w, i32_w]
                                        rfl
                                      refine take_ (i := 3) (N := some 63) (v := .int .i64 (mget x11_5 (rd_L1 t378 x56_5))) #[true, true, true, true, true, true, false, false] rfl rfl (by kernel_rfl) (fun _ _ _ h => h) (Or.inl ⟨by rfl, fun w' s0 => ?_⟩) hHeld2 rfl ?_
                                      · have hl := look_step s0.2.2.2 A35.out.1
                                        clear s0
                                        go_simp
                                      refine norm_ (a' := ?_) ?_ ?_
                                      rotate_left
                                      · show Act.put _ (some 63) _ = _
                                        simp only [Act.put, List.setIfInBounds_toArray, List.set_cons_zero, List.set_cons_succ, i64_w, i32_w]
                                        rfl
                                      refine pure_ (i := 6) (N := some 66) (v := ?_) (a' := ?_) #[true, true, true, true, true, true, true, false] rfl rfl (by kernel_rfl) (fun _ _ _ h => h) (Or.inl ⟨by rfl, ?_⟩) ?_ ?_
                                      rotate_left
                                      · intro w'
                                        go_simp
                                        with_reducible rfl
                                      rotate_left
                                      · simp only [Act.put, List.setIfInBounds_toArray, List.set_cons_zero, List.set_cons_succ, i64_w, i32_w]
                                        rfl
                                      obtain ⟨w3, hrun, hM3, hgrow⟩ := put_step ((rd_T33 x6_2 x47_4).f1) HW6.out.1 A35.out.1 A35.out.2.1
                                      have HM3 := Aside0.mk hM3
                                      clear hM3 hHeld2
                                      refine last_ (i := 7) (N := none) #[true, true, true, true, true, true, true, true] rfl rfl (by kernel_rfl) (by decide) (fun K hK => ?_)
                                      refine skip_ (w1 := w3) (by rfl) rfl ?_ ?_
                                      · go_simp
                                      refine hK.out _ _ ?_
                                      clear hK K hrun
                                      refine done_ (by kernel_rfl) ?_
                                      have hkb : Kept wr w3 (fun k => k = wc.heap.size) := Kept.of_grown hgrow (Kept.below (Kept.refl _ _) HB2.out) (fun k hk => .inl (Option.some.inj hk).symm)
                                      have HW7 := Aside0.mk (WB.put (m' := t382) HW5.out hkb (by rw [← A35.out.2.2]; exact HM3.out) (Below.grown HW6.out.2.2.2.2 hgrow (below_size HW6.out.2.2.2.2) (fun k hk => by rw [← Option.some.inj hk]; exact HBW.out)))
                                      have HO_55 := Aside0.mk (Kd.N_kept HO_54.out hkb (fun k h1_ h2_ => by have := HBO.out; omega))
                                      have BK379 := Aside0.mk (blk_kept BK377.out hkb (fun h2_ => by have := HBO.out; have := GE377.out; omega))
                                      clear hkb hgrow HM3 HW6 HW5 HO_54 BK377 BK378 HB2
                                      go_wp2
                                      go_roundg k5
                                      case measure => have := HJ2.out; have := HK2.out; have := HJ17.out; have := HK4.out; have := HK5.out; omega
                                      case rel => exact ⟨t382, wrap64 (x56_5 + 1), (by first | rfl | (simp; done) | (simp [*]; done)), H', ⟨by have := HJ2.out; have := HK2.out; have := HJ17.out; have := HK4.out; have := HK5.out; omega⟩, HW7, HO_55, BK379⟩
                                    · rw [if_neg c33] at H
                                      cases H
                                  · rw [if_neg c32] at H
                                    have c32b0 : decide (x56_5 < (t378.length : Int)) = false := decide_eq_false c32
                                    clear c32
                                    have H' := Aside0.mk H
                                    clear H
                                    go_wp2
                                    go_roundg k5
                                    case measure => have := HJ2.out; have := HK2.out; have := HJ17.out; have := HK4.out; have := HK5.out; omega
                                    case rel => exact ⟨x11_5, wrap64 (x47_4 + 1), (by first | rfl | (simp; done) | (simp [*]; done)), H', ⟨by have := HJ2.out; have := HK2.out; have := HJ17.out; have := HK4.out; have := HK5.out; omega⟩, HW5⟩
                            · rw [if_neg c25] at H
                              cases H
                          · rw [if_neg c24] at H
                            have c24b0 : decide (x47_4 < (x6_2.length : Int)) = false := decide_eq_false c24
                            clear c24
                            obtain ⟨t373, A390, H⟩ := Option.bind_eq_some_iff.mp H
                            have A39 := Aside0.mk A390
                            clear A390
                            have H' := Aside0.mk H
                            clear H
                            go_wp2_with (first | ((with_reducible refine gate_callee (f := 40) rfl ?_); refine goesL_ (some 71) rfl rfl Tryd.func40 (by kernel_rfl) rfl #[.int .i64 x7_17, .func (.func 41) #[] #[.pointer (some ⟨wc.heap.size + 1, 0, none⟩)]] rfl xm ?_; (with_reducible refine (impl_termsOf.calls k4 x7_17 wc.heap.size (wc.heap.size + 1) x11_4 t373 _ ?side1 A39.out).mono ?_); (case side1 => exact ⟨HW4.out.2.1, HW4.out.1⟩); rintro e w41 ⟨v374, rfl, ho0, hb⟩; refine ⟨_, rfl, ?_⟩; have HN := Aside0.mk (Kd.N_lower (Kd.N_mono (ok' := fun k_ => w.heap.size ≤ k_ ∧ k_ ≠ w13.heap.size) ho0 (fun k_ hk_ => ⟨Nat.le_trans (below_size HW4.out.2.2.2.2) hk_, Nat.ne_of_gt (Nat.lt_of_lt_of_le (blk_lt HW4.out.2.2.1) hk_)⟩)) (below_size HW4.out.2.2.2.2)); have HI := Aside0.mk (blk_below HW4.out.2.2.1 hb); have HB := Aside0.mk (below_step HW4.out.2.2.2.2 hb); clear hb ho0))
                            go_roundg k4
                            case measure => have := HJ2.out; have := HK2.out; have := HJ17.out; have := HK4.out; omega
                            case rel => exact ⟨t373, x7_17, x31_2 + 1, rfl, H', ⟨by have := HJ2.out; have := HK2.out; have := HJ17.out; have := HK4.out; omega⟩, HI, HN, HB⟩
              · rw [if_neg c16] at H
                cases H
            · rw [if_neg c15] at H
              simp only [Option.some.injEq, Prod.mk.injEq] at H
              obtain ⟨rfl, rfl⟩ := H
              have hnx := Go.Lib.run_next_end_at (P := Tryd.prog) wr w13.heap.size a1 x31_2 0 HIT0.out c15
              clear c15
              go_wp2
              go_ret2
              exact ⟨_, by first | rfl | (simp [errW_none, errW_some] <;> rfl) | (simp [*, errW_none, errW_some] <;> rfl), Kd.N_mono HO_60.out (fun _ h_ => h_.1), by repeat (first | (with_reducible first | exact HB0.out | apply below_alloc | apply pw_below_drewN | apply below_drew1) | exact HB0.out)⟩

/-! ### slices_Equal_int_int: function 18 -/
def slices_Equal_int_int.l0 : Nat → List Int → List Int → Int → Int → Option (Bool)
  | 0, _, _, _, _ => none
  | k + 1, x0, x1, x12, x13 => if x13 < x12 then (if 0 ≤ x13 then (if x13 < (x0.length : Int) then (if x13 < (x1.length : Int) then (if (rd x0 x13) = (rd x1 x13) then (slices_Equal_int_int.l0 k x0 x1 x12 (wrap64 (x13 + 1))) else (some false)) else (none)) else (none)) else (none)) else (some true)
def slices_Equal_int_int.f (k : Nat) (l0 : List Int) (l1 : List Int) : Option (Bool) := if (l0.length : Int) = (l1.length : Int) then (slices_Equal_int_int.l0 k l0 l1 (l0.length : Int) 0) else (some false)
theorem slices_Equal_int_int.mono_l : ∀ k, (∀ y0 y1 y2 y3, LeO (slices_Equal_int_int.l0 k y0 y1 y2 y3) (slices_Equal_int_int.l0 (k + 1) y0 y1 y2 y3))
  | 0 => fun _ _ _ _ r h => by simp [slices_Equal_int_int.l0] at h
  | k + 1 => by
    have ih0 := slices_Equal_int_int.mono_l k
    · intro y0 y1 y2 y3
      unfold slices_Equal_int_int.l0
      repeat' first
      | (with_reducible exact ih0 _ _ _ _)
      | (with_reducible exact LeO.refl _)
      | (with_reducible exact LeO.none _)
      | (with_reducible refine LeO.ite ?_ ?_)
      | (with_reducible refine LeO.bind ?_ (fun _ => ?_))
      | exact ih0 _ _ _ _
      | exact LeO.none _
      | refine LeO.ite ?_ ?_
      | refine LeO.bind ?_ (fun _ => ?_)
theorem slices_Equal_int_int.mono : ∀ a0 a1 k, LeO (slices_Equal_int_int.f k a0 a1) (slices_Equal_int_int.f (k + 1) a0 a1) := by
  intro a0 a1 k
  have ih0 := slices_Equal_int_int.mono_l k
  unfold slices_Equal_int_int.f
  repeat' first
      | (with_reducible exact ih0 _ _ _ _)
      | (with_reducible exact LeO.refl _)
      | (with_reducible exact LeO.none _)
      | (with_reducible refine LeO.ite ?_ ?_)
      | (with_reducible refine LeO.bind ?_ (fun _ => ?_))
      | exact ih0 _ _ _ _
      | exact LeO.none _
      | refine LeO.ite ?_ ?_
      | refine LeO.bind ?_ (fun _ => ?_)
set_option maxHeartbeats 8000000 in
set_option maxRecDepth 100000 in
theorem slices_Equal_int_int.calls (k : Nat) (A0 : Option Addr) (c0 : Nat) (l0 : List Int) (A1 : Option Addr) (c1 : Nat) (l1 : List Int) (r : Bool) (w : World) (hr0 : Kd.C (Kd.int .i64) w A0 l0.length l0) (hc0 : l0.length ≤ c0) (hr1 : Kd.C (Kd.int .i64) w A1 l1.length l1) (hc1 : l1.length ≤ c1) (h : slices_Equal_int_int.f k l0 l1 = some r) :
    Calls Tryd.prog 18 #[.slice A0 l0.length c0, .slice A1 l1.length c1] w fun e w' => e = .returned (.bool r) ∧ Drawn0 w w' := by
  have HR0 := Aside0.mk hr0
  have HC0 := Aside0.mk hc0
  clear hr0 hc0
  have HR1 := Aside0.mk hr1
  have HC1 := Aside0.mk hc1
  clear hr1 hc1
  have H : (if (l0.length : Int) = (l1.length : Int) then (slices_Equal_int_int.l0 k l0 l1 (l0.length : Int) 0) else (some false)) = some r := h
  clear h
  by_cases c3 : (l0.length : Int) = (l1.length : Int)
  · rw [if_pos c3] at H
    have c3b0 : ((l0.length : Int) == (l1.length : Int)) = true := beq_iff_eq.mpr c3
    have c3b1 : ((l0.length : Int) != (l1.length : Int)) = false := bne_eq_false_iff_eq.mpr c3
    have c3b2 : (l0.length == l1.length) = true := by first | simpa using c3 | (simp at c3 ⊢; omega)
    clear c3
    have H' := Aside0.mk H
    clear H
    go_enter Tryd.func18, Tryd.ntmps18
    go_wp2
    repeat (go_quiet (fail); try go_wp2)
    go_loopg [13] k (fun kq v13 w' => ∃ (x13_1 : Int), v13 = .int .i64 x13_1 ∧ Aside0 (slices_Equal_int_int.l0 kq l0 l1 (l0.length : Int) x13_1 = some r) ∧ Aside0 (kq ≤ k) ∧ Drawn0 w w')
    case atStart => exact ⟨(0), (by first | rfl | (simp; done) | (simp [*]; done)), H', ⟨Nat.le_refl _⟩, by repeat (first | exact Drawn0.refl _ | apply Drawn0.step)⟩
    case round =>
      clear H'
      try clear c1
      try clear p2
      try clear c3
      try clear c3b0
      try clear c3b1
      try clear c3b2
      obtain ⟨x13_1, rfl, HA, HK1, ⟨m1, rfl⟩⟩ := hrel
      cases gk with
      | zero => exact absurd HA.out (by simp [slices_Equal_int_int.l0])
      | succ k1 =>
        have H := HA.out
        clear HA
        simp only [slices_Equal_int_int.l0] at H
        by_cases c4 : x13_1 < (l0.length : Int)
        · rw [if_pos c4] at H
          have c4b0 : decide (x13_1 < (l0.length : Int)) = true := decide_eq_true c4
          clear c4
          by_cases c5 : 0 ≤ x13_1
          · rw [if_pos c5] at H
            have c5b0 : decide (0 ≤ x13_1) = true := decide_eq_true c5
            clear c5
            by_cases c6 : x13_1 < (l0.length : Int)
            · rw [if_pos c6] at H
              have c6b0 : decide (x13_1 < (l0.length : Int)) = true := decide_eq_true c6
              clear c6
              by_cases c7 : x13_1 < (l1.length : Int)
              · rw [if_pos c7] at H
                have c7b0 : decide (x13_1 < (l1.length : Int)) = true := decide_eq_true c7
                clear c7
                by_cases c8 : (rd l0 x13_1) = (rd l1 x13_1)
                · rw [if_pos c8] at H
                  have c8b0 : ((rd l0 x13_1) == (rd l1 x13_1)) = true := beq_iff_eq.mpr c8
                  have c8b1 : ((rd l0 x13_1) != (rd l1 x13_1)) = false := bne_eq_false_iff_eq.mpr c8
                  clear c8
                  have H' := Aside0.mk H
                  clear H
                  have p383 : 0 ≤ (x13_1 : Int) := of_decide_eq_true (by first | (with_reducible assumption) | assumption)
                  have q383 : x13_1 < (l0.length : Int) := of_decide_eq_true (by first | (with_reducible assumption) | assumption)
                  obtain ⟨ad383, e383, hx383_0⟩ := Kd.at_int HR0.out x13_1 p383 q383
                  cases e383
                  replace p383 := eq_true p383
                  replace q383 := eq_true q383
                  have p384 : 0 ≤ (x13_1 : Int) := of_decide_eq_true (by first | (with_reducible assumption) | assumption)
                  have q384 : x13_1 < (l1.length : Int) := of_decide_eq_true (by first | (with_reducible assumption) | assumption)
                  obtain ⟨ad384, e384, hx384_0⟩ := Kd.at_int HR1.out x13_1 p384 q384
                  cases e384
                  replace p384 := eq_true p384
                  replace q384 := eq_true q384
                  go_wp2
                  repeat (go_quiet (fail); try go_wp2)
                  go_roundg k1
                  case measure => have := HK1.out; omega
                  case rel => exact ⟨(wrap64 (x13_1 + 1)), (by first | rfl | (simp; done) | (simp [*]; done)), H', ⟨by have := HK1.out; omega⟩, by repeat (first | exact Drawn0.refl _ | apply Drawn0.step)⟩
                · rw [if_neg c8] at H
                  have c8b0 : ((rd l0 x13_1) == (rd l1 x13_1)) = false := beq_eq_false_iff_ne.mpr c8
                  have c8b1 : ((rd l0 x13_1) != (rd l1 x13_1)) = true := bne_iff_ne.mpr c8
                  obtain rfl := Option.some.inj H
                  have p383 : 0 ≤ (x13_1 : Int) := of_decide_eq_true (by first | (with_reducible assumption) | assumption)
                  have q383 : x13_1 < (l0.length : Int) := of_decide_eq_true (by first | (with_reducible assumption) | assumption)
                  obtain ⟨ad383, e383, hx383_0⟩ := Kd.at_int HR0.out x13_1 p383 q383
                  cases e383
                  replace p383 := eq_true p383
                  replace q383 := eq_true q383
                  have p384 : 0 ≤ (x13_1 : Int) := of_decide_eq_true (by first | (with_reducible assumption) | assumption)
                  have q384 : x13_1 < (l1.length : Int) := of_decide_eq_true (by first | (with_reducible assumption) | assumption)
                  obtain ⟨ad384, e384, hx384_0⟩ := Kd.at_int HR1.out x13_1 p384 q384
                  cases e384
                  replace p384 := eq_true p384
                  replace q384 := eq_true q384
                  go_wp2
                  repeat (go_quiet (fail); try go_wp2)
                  go_ret
                  exact ⟨by first | rfl | (simp; done) | (simp [*]; done), by repeat (first | exact Drawn0.refl _ | apply Drawn0.step)⟩
              · rw [if_neg c7] at H
                exact absurd H (by simp)
            · rw [if_neg c6] at H
              exact absurd H (by simp)
          · rw [if_neg c5] at H
            exact absurd H (by simp)
        · rw [if_neg c4] at H
          have c4b0 : decide (x13_1 < (l0.length : Int)) = false := decide_eq_false c4
          clear c4
          obtain rfl := Option.some.inj H
          go_wp2
          repeat (go_quiet (fail); try go_wp2)
          go_ret
          exact ⟨by first | rfl | (simp; done) | (simp [*]; done), by repeat (first | exact Drawn0.refl _ | apply Drawn0.step)⟩
  · rw [if_neg c3] at H
    have c3b0 : ((l0.length : Int) == (l1.length : Int)) = false := beq_eq_false_iff_ne.mpr c3
    have c3b1 : ((l0.length : Int) != (l1.length : Int)) = true := bne_iff_ne.mpr c3
    have c3b2 : (l0.length == l1.length) = false := by first | simpa using c3 | (simp at c3 ⊢; omega)
    obtain rfl := Option.some.inj H
    go_enter Tryd.func18, Tryd.ntmps18
    go_wp2
    repeat (go_quiet (fail); try go_wp2)
    go_ret
    exact ⟨by first | rfl | (simp; done) | (simp [*]; done), by repeat (first | exact Drawn0.refl _ | apply Drawn0.step)⟩

/-! ### impl_CountWalks_1__c: function 158 -/
def impl_CountWalks_1__c.f (k : Nat) (l0_0 : List Int) (a0_1 : Int) (l1 : List Int) : Option (Bool) := (slices_Equal_int_int.f k l0_0 l1).bind fun t388 => (some t388)
theorem impl_CountWalks_1__c.mono : ∀ a0 a1 a2 k, LeO (impl_CountWalks_1__c.f k a0 a1 a2) (impl_CountWalks_1__c.f (k + 1) a0 a1 a2) := by
  intro a0 a1 a2 k
  unfold impl_CountWalks_1__c.f
  repeat' first
      | (with_reducible exact slices_Equal_int_int.mono _ _ _)
      | (with_reducible exact LeO.refl _)
      | (with_reducible exact LeO.none _)
      | (with_reducible refine LeO.ite ?_ ?_)
      | (with_reducible refine LeO.bind ?_ (fun _ => ?_))
      | exact slices_Equal_int_int.mono _ _ _
      | exact LeO.none _
      | refine LeO.ite ?_ ?_
      | refine LeO.bind ?_ (fun _ => ?_)
set_option maxHeartbeats 8000000 in
set_option maxRecDepth 100000 in
theorem impl_CountWalks_1__c.calls (k : Nat) (A0_0 : Option Addr) (c0_0 : Nat) (l0_0 : List Int) (a0_1 : Int) (g1 : Nat) (A1 : Option Addr) (c1 : Nat) (l1 : List Int) (r : Bool) (w : World) (hr0_0 : Kd.C (Kd.int .i64) w A0_0 l0_0.length l0_0) (hc0_0 : l0_0.length ≤ c0_0) (hb1 : w.heap[g1]? = some (.cells #[.slice A1 l1.length c1] 22 (0, 0))) (hr1 : Kd.C (Kd.int .i64) w A1 l1.length l1) (hc1 : l1.length ≤ c1) (h : impl_CountWalks_1__c.f k l0_0 a0_1 l1 = some r) :
    Calls Tryd.prog 17 #[.agg #[.slice A0_0 l0_0.length c0_0, .int .i64 a0_1], .pointer (some ⟨g1, 0, none⟩)] w fun e w' => e = .returned (.bool r) ∧ Below w.heap.size w w' := by
  have hu33 := Tryd.underlying33
  have HR0_0 := Aside0.mk hr0_0
  have HC0_0 := Aside0.mk hc0_0
  clear hr0_0 hc0_0
  have HR1 := Aside0.mk hr1
  have HC1 := Aside0.mk hc1
  clear hr1 hc1
  have HX1 := Aside0.mk hb1
  clear hb1
  have HB := Aside0.mk (Below.refl w.heap.size w)
  have H : ((slices_Equal_int_int.f k l0_0 l1).bind fun t388 => (some t388)) = some r := h
  clear h
  replace H := Option.bind_eq_some_iff.mp H
  obtain ⟨t388, A30, H⟩ := H
  replace H : (some t388) = some r := H
  have A3 := Aside0.mk A30
  clear A30
  obtain rfl := Option.some.inj H
  go_enter Tryd.func17, Tryd.ntmps17
  go_wp2_with (first | ((with_reducible refine gate_dst (N := 2) rfl ?_); refine box_event ?hg (N := 2) ?hd (cs := #[.slice A0_0 l0_0.length c0_0, .int .i64 a0_1]) (t := 33) ?hr ?_; (case hd => rfl); (case hg => rfl); (case hr => first | (go_simp; done) | (go_simp; rfl)); intro gb387 hg w4 hbox hb; have n0_ := Aside0.mk (blk_below (g := g1) (o := .cells #[.slice A1 l1.length c1] 22 (0, 0)) (by (with_reducible repeat (first | refine blk_drewN ?_ _ | refine blk_drew ?_ | refine blk_alloc ?_ _)); exact HX1.out) hb); have n1_ := Aside0.mk (below_step (by repeat (first | (with_reducible first | exact HB.out | apply below_alloc | apply pw_below_drewN | apply below_drew1 | refine below_set ?_ GE386.out) | exact HB.out)) hb); have n2_ := Aside0.mk (hbox); have n3_ := Aside0.mk ((by rw [hg]; exact (below_size (by repeat (first | (with_reducible first | exact HB.out | apply below_alloc | apply pw_below_drewN | apply below_drew1 | refine below_set ?_ GE386.out) | exact HB.out))) : w.heap.size ≤ gb387)); have n4_ := Aside0.mk ((by rw [hg]; exact (below_size (by repeat (first | (with_reducible first | exact HB.out | apply below_alloc | apply pw_below_drewN | apply below_drew1 | refine below_set ?_ GE386.out) | exact HB.out))) : w.heap.size ≤ gb387)); have n5_ := Aside0.mk ((by rw [hg]; exact Nat.ne_of_lt (blk_lt (g := g1) (o := .cells #[.slice A1 l1.length c1] 22 (0, 0)) (by (with_reducible repeat (first | refine blk_drewN ?_ _ | refine blk_drew ?_ | refine blk_alloc ?_ _)); exact HX1.out)) : g1 ≠ gb387)); have n6_ := Aside0.mk ((by rw [hg]; exact Nat.ne_of_gt (blk_lt (g := g1) (o := .cells #[.slice A1 l1.length c1] 22 (0, 0)) (by (with_reducible repeat (first | refine blk_drewN ?_ _ | refine blk_drew ?_ | refine blk_alloc ?_ _)); exact HX1.out)) : gb387 ≠ g1)); clear HX1; clear HB; have HX1 := n0_; have HB := n1_; have BK387 := n2_; have GW387 := n3_; have GE387 := n4_; have NB386_387 := n5_; have NB387_386 := n6_; clear n0_ n1_ n2_ n3_ n4_ n5_ n6_; clear hb hbox hg; have hnb5 := NB387_386.out; have hnc5 := NB386_387.out; have hcz6_0 : w4.cell? ⟨gb387, 0, none⟩ = some (.slice A0_0 l0_0.length c0_0) := (blk_cell BK387.out 0).trans rfl; have hcz6_1 : w4.cell? ⟨gb387, 1, none⟩ = some (.int .i64 a0_1) := (blk_cell BK387.out 1).trans rfl; have hfz6_0 := blk_frozen BK387.out 0; have hfz6_1 := blk_frozen BK387.out 1; have hcz7_0 : w4.cell? ⟨g1, 0, none⟩ = some (.slice A1 l1.length c1) := (blk_cell HX1.out 0).trans rfl; have hfz7_0 := blk_frozen HX1.out 0) | ((with_reducible refine gate_callee (f := 18) rfl ?_); refine goesL_ (some 7) rfl rfl Tryd.func18 (by kernel_rfl) rfl #[.slice A0_0 l0_0.length c0_0, .slice A1 l1.length c1] rfl xm ?_; (with_reducible refine (slices_Equal_int_int.calls k _ _ l0_0 _ _ l1 t388 _ ?side1 ?side2 ?side3 ?side4 A3.out).mono ?_); (case side1 => first | exact xc (Kd.C_below HR0_0.out HB.out) | exact xc HR0_0.out); (case side2 => exact HC0_0.out); (case side3 => first | exact xc (Kd.C_below HR1.out HB.out) | exact xc HR1.out); (case side4 => exact HC1.out); rintro e w' ⟨rfl, ⟨nd, rfl⟩⟩; refine ⟨_, rfl, ?_⟩))
  go_ret
  exact ⟨by first | rfl | (simp [errW_none, errW_some] <;> rfl) | (simp [*, errW_none, errW_some] <;> rfl), by repeat (first | (with_reducible first | exact HB.out | apply below_alloc | apply pw_below_drewN | apply below_drew1 | refine below_set ?_ GE386.out | refine below_set ?_ GE387.out) | exact HB.out)⟩

end Go.Proofs.YtneipehcmmigeaaDoor.PFnExactCountWalks
