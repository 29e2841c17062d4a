-- Written by a program of this session (wip/print/xprint.py).
import Derived.Test.YtnmndjpkfcnaoaaPFnExactHooksOfReversex0
import Derived.Test.YtnmndjpkfcnaoaaPFnExactHooksOfReversex2
import Derived.Test.YtnmndjpkfcnaoaaPFnExactHooksOfReversex5
import Derived.Test.YtnmndjpkfcnaoaaPFnExactHooksOfReversex6
namespace Go.Proofs.Ytnmndjpkfcnaoaa.PFnExactHooksOfReverse
open Go.RowKit Go.Proofs.YtnmndjpkfcnaoaaW.PrintWords Go.Proofs.YtnmndjpkfcnaoaaW.PrintLast Go.Proofs.YtnmndjpkfcnaoaaW.PrintMore
attribute [local go_sem] max2_int min2_int max_two min_two max_three min_three max_four min_four   -- for this text's walks alone
set_option linter.unusedVariables false
set_option linter.unusedSimpArgs false

/-! ### spec_HooksOfReverse: function 15 -/
mutual
def spec_HooksOfReverse.j0 : Nat → List Int → List (List Int) → Bool → Option ((List (List Int)) × Bool)
  | 0, _, _, _ => none
  | k + 1, x0, x1, x20 => if x20 = true then (some ((([] : List (List Int))), false)) else ((spec_l27Copy.f k x1).bind fun t185 => ((spec_l27Zeros.f k x0).bind fun t188 => (spec_HooksOfReverse.l0 k x0 t185 t188)))
def spec_HooksOfReverse.l0 : Nat → List Int → List (List Int) → List (List Int) → Option ((List (List Int)) × Bool)
  | 0, _, _, _ => none
  | k + 1, x0, x6, x7 => (spec_l27Total.f k x6).bind fun t191 => (if t191 > 0 then ((spec_l27First.f k x0 x6).bind fun t192 => (spec_HooksOfReverse.l1 k x0 x6 x7 t192 t192 0)) else (some (x7, true)))
def spec_HooksOfReverse.j3 : Nat → List Int → List (List Int) → List (List Int) → Int → Int → Int → Option ((List (List Int)) × Bool)
  | 0, _, _, _, _, _, _ => none
  | k + 1, x0, x6, x7, x8, x9, x10 => spec_HooksOfReverse.l2 k x0 x6 x7 x8 x9 x10
def spec_HooksOfReverse.l2 : Nat → List Int → List (List Int) → List (List Int) → Int → Int → Int → Option ((List (List Int)) × Bool)
  | 0, _, _, _, _, _, _ => none
  | k + 1, x0, x6, x7, x8, x9, x10 => if 0 ≤ x10 then (if x10 < (x6.length : Int) then (if 0 ≤ x9 then (if x9 < ((rd_L1 x6 x10).length : Int) then ((some (x6.set (x10 : Int).toNat ((rd_L1 x6 x10).set (x9 : Int).toNat (wrap64 ((rd (rd_L1 x6 x10) x9) - 1))) : List (List Int))).bind fun y199 => (if x10 > 0 then (if 0 ≤ (wrap64 (x10 - 1)) then (if (wrap64 (x10 - 1)) < (x6.length : Int) then (if x9 < ((rd_L1 y199 (wrap64 (x10 - 1))).length : Int) then (spec_HooksOfReverse.j5 k x0 y199 x7 x8 x9 x10 ((rd (rd_L1 y199 (wrap64 (x10 - 1))) x9) == (rd (rd_L1 x6 x10) x9))) else (none)) else (none)) else (none)) else (spec_HooksOfReverse.j5 k x0 y199 x7 x8 x9 x10 false))) else (none)) else (none)) else (none)) else (none)
def spec_HooksOfReverse.j5 : Nat → List Int → List (List Int) → List (List Int) → Int → Int → Int → Bool → Option ((List (List Int)) × Bool)
  | 0, _, _, _, _, _, _, _ => none
  | k + 1, x0, x6, x7, x8, x9, x10, x77 => if x77 = true then (spec_HooksOfReverse.l2 k x0 x6 x7 x8 x9 (wrap64 (x10 - 1))) else (if 0 ≤ x10 then (if x10 < (x0.length : Int) then (if (wrap64 (x9 + 1)) ≥ (rd x0 x10) then (if x10 < (x7.length : Int) then (if 0 ≤ x8 then (if x8 < ((rd_L1 x7 x10).length : Int) then (spec_HooksOfReverse.l0 k x0 x6 (x7.set (x10 : Int).toNat ((rd_L1 x7 x10).set (x8 : Int).toNat (wrap64 ((rd (rd_L1 x7 x10) x8) + 1))))) else (none)) else (none)) else (none)) else (spec_HooksOfReverse.l2 k x0 x6 x7 x8 (wrap64 (x9 + 1)) x10)) else (none)) else (none))
def spec_HooksOfReverse.l1 : Nat → List Int → List (List Int) → List (List Int) → Int → Int → Int → Option ((List (List Int)) × Bool)
  | 0, _, _, _, _, _, _ => none
  | k + 1, x0, x6, x7, x8, x9, x10 => if (wrap64 (x10 + 1)) < (x0.length : Int) then (if 0 ≤ (wrap64 (x10 + 1)) then (if (rd x0 (wrap64 (x10 + 1))) > x9 then (spec_HooksOfReverse.l1 k x0 x6 x7 x8 x9 (wrap64 (x10 + 1))) else (spec_HooksOfReverse.j3 k x0 x6 x7 x8 x9 x10)) else (none)) else (spec_HooksOfReverse.j3 k x0 x6 x7 x8 x9 x10)
end
def spec_HooksOfReverse.f (k : Nat) (l0 : List Int) (l1 : List (List Int)) : Option ((List (List Int)) × Bool) := (spec_IsReverse.f k l0 l1).bind fun t180 => (if t180 = true then ((spec_l27Total.f k l1).bind fun t181 => (spec_HooksOfReverse.j0 k l0 l1 (decide (t181 > 20)))) else (spec_HooksOfReverse.j0 k l0 l1 true))
theorem spec_HooksOfReverse.mono_l : ∀ k, (∀ y0 y1 y2, LeO (spec_HooksOfReverse.j0 k y0 y1 y2) (spec_HooksOfReverse.j0 (k + 1) y0 y1 y2)) ∧ (∀ y0 y1 y2, LeO (spec_HooksOfReverse.l0 k y0 y1 y2) (spec_HooksOfReverse.l0 (k + 1) y0 y1 y2)) ∧ (∀ y0 y1 y2 y3 y4 y5, LeO (spec_HooksOfReverse.j3 k y0 y1 y2 y3 y4 y5) (spec_HooksOfReverse.j3 (k + 1) y0 y1 y2 y3 y4 y5)) ∧ (∀ y0 y1 y2 y3 y4 y5, LeO (spec_HooksOfReverse.l2 k y0 y1 y2 y3 y4 y5) (spec_HooksOfReverse.l2 (k + 1) y0 y1 y2 y3 y4 y5)) ∧ (∀ y0 y1 y2 y3 y4 y5 y6, LeO (spec_HooksOfReverse.j5 k y0 y1 y2 y3 y4 y5 y6) (spec_HooksOfReverse.j5 (k + 1) y0 y1 y2 y3 y4 y5 y6)) ∧ (∀ y0 y1 y2 y3 y4 y5, LeO (spec_HooksOfReverse.l1 k y0 y1 y2 y3 y4 y5) (spec_HooksOfReverse.l1 (k + 1) y0 y1 y2 y3 y4 y5))
  | 0 => ⟨fun _ _ _ r h => by simp [spec_HooksOfReverse.j0] at h, fun _ _ _ r h => by simp [spec_HooksOfReverse.l0] at h, fun _ _ _ _ _ _ r h => by simp [spec_HooksOfReverse.j3] at h, fun _ _ _ _ _ _ r h => by simp [spec_HooksOfReverse.l2] at h, fun _ _ _ _ _ _ _ r h => by simp [spec_HooksOfReverse.j5] at h, fun _ _ _ _ _ _ r h => by simp [spec_HooksOfReverse.l1] at h⟩
  | k + 1 => by
    obtain ⟨ih0, ih1, ih2, ih3, ih4, ih5⟩ := spec_HooksOfReverse.mono_l k
    refine ⟨?_, ?_, ?_, ?_, ?_, ?_⟩
    · intro y0 y1 y2
      unfold spec_HooksOfReverse.j0
      repeat' first
      | (with_reducible exact ih0 _ _ _)
      | (with_reducible exact ih1 _ _ _)
      | (with_reducible exact ih2 _ _ _ _ _ _)
      | (with_reducible exact ih3 _ _ _ _ _ _)
      | (with_reducible exact ih4 _ _ _ _ _ _ _)
      | (with_reducible exact ih5 _ _ _ _ _ _)
      | (with_reducible exact spec_IsReverse.mono _ _ _)
      | (with_reducible exact spec_l27Copy.mono _ _)
      | (with_reducible exact spec_l27First.mono _ _ _)
      | (with_reducible exact spec_l27Total.mono _ _)
      | (with_reducible exact spec_l27Zeros.mono _ _)
      | (with_reducible exact LeO.refl _)
      | (with_reducible exact LeO.none _)
      | (with_reducible refine LeO.ite ?_ ?_)
      | (with_reducible refine LeO.bind ?_ (fun _ => ?_))
      | exact ih0 _ _ _
      | exact ih1 _ _ _
      | exact ih2 _ _ _ _ _ _
      | exact ih3 _ _ _ _ _ _
      | exact ih4 _ _ _ _ _ _ _
      | exact ih5 _ _ _ _ _ _
      | exact spec_IsReverse.mono _ _ _
      | exact spec_l27Copy.mono _ _
      | exact spec_l27First.mono _ _ _
      | exact spec_l27Total.mono _ _
      | exact spec_l27Zeros.mono _ _
      | exact LeO.none _
      | refine LeO.ite ?_ ?_
      | refine LeO.bind ?_ (fun _ => ?_)
    · intro y0 y1 y2
      unfold spec_HooksOfReverse.l0
      repeat' first
      | (with_reducible exact ih0 _ _ _)
      | (with_reducible exact ih1 _ _ _)
      | (with_reducible exact ih2 _ _ _ _ _ _)
      | (with_reducible exact ih3 _ _ _ _ _ _)
      | (with_reducible exact ih4 _ _ _ _ _ _ _)
      | (with_reducible exact ih5 _ _ _ _ _ _)
      | (with_reducible exact spec_IsReverse.mono _ _ _)
      | (with_reducible exact spec_l27Copy.mono _ _)
      | (with_reducible exact spec_l27First.mono _ _ _)
      | (with_reducible exact spec_l27Total.mono _ _)
      | (with_reducible exact spec_l27Zeros.mono _ _)
      | (with_reducible exact LeO.refl _)
      | (with_reducible exact LeO.none _)
      | (with_reducible refine LeO.ite ?_ ?_)
      | (with_reducible refine LeO.bind ?_ (fun _ => ?_))
      | exact ih0 _ _ _
      | exact ih1 _ _ _
      | exact ih2 _ _ _ _ _ _
      | exact ih3 _ _ _ _ _ _
      | exact ih4 _ _ _ _ _ _ _
      | exact ih5 _ _ _ _ _ _
      | exact spec_IsReverse.mono _ _ _
      | exact spec_l27Copy.mono _ _
      | exact spec_l27First.mono _ _ _
      | exact spec_l27Total.mono _ _
      | exact spec_l27Zeros.mono _ _
      | exact LeO.none _
      | refine LeO.ite ?_ ?_
      | refine LeO.bind ?_ (fun _ => ?_)
    · intro y0 y1 y2 y3 y4 y5
      unfold spec_HooksOfReverse.j3
      repeat' first
      | (with_reducible exact ih0 _ _ _)
      | (with_reducible exact ih1 _ _ _)
      | (with_reducible exact ih2 _ _ _ _ _ _)
      | (with_reducible exact ih3 _ _ _ _ _ _)
      | (with_reducible exact ih4 _ _ _ _ _ _ _)
      | (with_reducible exact ih5 _ _ _ _ _ _)
      | (with_reducible exact spec_IsReverse.mono _ _ _)
      | (with_reducible exact spec_l27Copy.mono _ _)
      | (with_reducible exact spec_l27First.mono _ _ _)
      | (with_reducible exact spec_l27Total.mono _ _)
      | (with_reducible exact spec_l27Zeros.mono _ _)
      | (with_reducible exact LeO.refl _)
      | (with_reducible exact LeO.none _)
      | (with_reducible refine LeO.ite ?_ ?_)
      | (with_reducible refine LeO.bind ?_ (fun _ => ?_))
      | exact ih0 _ _ _
      | exact ih1 _ _ _
      | exact ih2 _ _ _ _ _ _
      | exact ih3 _ _ _ _ _ _
      | exact ih4 _ _ _ _ _ _ _
      | exact ih5 _ _ _ _ _ _
      | exact spec_IsReverse.mono _ _ _
      | exact spec_l27Copy.mono _ _
      | exact spec_l27First.mono _ _ _
      | exact spec_l27Total.mono _ _
      | exact spec_l27Zeros.mono _ _
      | exact LeO.none _
      | refine LeO.ite ?_ ?_
      | refine LeO.bind ?_ (fun _ => ?_)
    · intro y0 y1 y2 y3 y4 y5
      unfold spec_HooksOfReverse.l2
      repeat' first
      | (with_reducible exact ih0 _ _ _)
      | (with_reducible exact ih1 _ _ _)
      | (with_reducible exact ih2 _ _ _ _ _ _)
      | (with_reducible exact ih3 _ _ _ _ _ _)
      | (with_reducible exact ih4 _ _ _ _ _ _ _)
      | (with_reducible exact ih5 _ _ _ _ _ _)
      | (with_reducible exact spec_IsReverse.mono _ _ _)
      | (with_reducible exact spec_l27Copy.mono _ _)
      | (with_reducible exact spec_l27First.mono _ _ _)
      | (with_reducible exact spec_l27Total.mono _ _)
      | (with_reducible exact spec_l27Zeros.mono _ _)
      | (with_reducible exact LeO.refl _)
      | (with_reducible exact LeO.none _)
      | (with_reducible refine LeO.ite ?_ ?_)
      | (with_reducible refine LeO.bind ?_ (fun _ => ?_))
      | exact ih0 _ _ _
      | exact ih1 _ _ _
      | exact ih2 _ _ _ _ _ _
      | exact ih3 _ _ _ _ _ _
      | exact ih4 _ _ _ _ _ _ _
      | exact ih5 _ _ _ _ _ _
      | exact spec_IsReverse.mono _ _ _
      | exact spec_l27Copy.mono _ _
      | exact spec_l27First.mono _ _ _
      | exact spec_l27Total.mono _ _
      | exact spec_l27Zeros.mono _ _
      | exact LeO.none _
      | refine LeO.ite ?_ ?_
      | refine LeO.bind ?_ (fun _ => ?_)
    · intro y0 y1 y2 y3 y4 y5 y6
      unfold spec_HooksOfReverse.j5
      repeat' first
      | (with_reducible exact ih0 _ _ _)
      | (with_reducible exact ih1 _ _ _)
      | (with_reducible exact ih2 _ _ _ _ _ _)
      | (with_reducible exact ih3 _ _ _ _ _ _)
      | (with_reducible exact ih4 _ _ _ _ _ _ _)
      | (with_reducible exact ih5 _ _ _ _ _ _)
      | (with_reducible exact spec_IsReverse.mono _ _ _)
      | (with_reducible exact spec_l27Copy.mono _ _)
      | (with_reducible exact spec_l27First.mono _ _ _)
      | (with_reducible exact spec_l27Total.mono _ _)
      | (with_reducible exact spec_l27Zeros.mono _ _)
      | (with_reducible exact LeO.refl _)
      | (with_reducible exact LeO.none _)
      | (with_reducible refine LeO.ite ?_ ?_)
      | (with_reducible refine LeO.bind ?_ (fun _ => ?_))
      | exact ih0 _ _ _
      | exact ih1 _ _ _
      | exact ih2 _ _ _ _ _ _
      | exact ih3 _ _ _ _ _ _
      | exact ih4 _ _ _ _ _ _ _
      | exact ih5 _ _ _ _ _ _
      | exact spec_IsReverse.mono _ _ _
      | exact spec_l27Copy.mono _ _
      | exact spec_l27First.mono _ _ _
      | exact spec_l27Total.mono _ _
      | exact spec_l27Zeros.mono _ _
      | exact LeO.none _
      | refine LeO.ite ?_ ?_
      | refine LeO.bind ?_ (fun _ => ?_)
    · intro y0 y1 y2 y3 y4 y5
      unfold spec_HooksOfReverse.l1
      repeat' first
      | (with_reducible exact ih0 _ _ _)
      | (with_reducible exact ih1 _ _ _)
      | (with_reducible exact ih2 _ _ _ _ _ _)
      | (with_reducible exact ih3 _ _ _ _ _ _)
      | (with_reducible exact ih4 _ _ _ _ _ _ _)
      | (with_reducible exact ih5 _ _ _ _ _ _)
      | (with_reducible exact spec_IsReverse.mono _ _ _)
      | (with_reducible exact spec_l27Copy.mono _ _)
      | (with_reducible exact spec_l27First.mono _ _ _)
      | (with_reducible exact spec_l27Total.mono _ _)
      | (with_reducible exact spec_l27Zeros.mono _ _)
      | (with_reducible exact LeO.refl _)
      | (with_reducible exact LeO.none _)
      | (with_reducible refine LeO.ite ?_ ?_)
      | (with_reducible refine LeO.bind ?_ (fun _ => ?_))
      | exact ih0 _ _ _
      | exact ih1 _ _ _
      | exact ih2 _ _ _ _ _ _
      | exact ih3 _ _ _ _ _ _
      | exact ih4 _ _ _ _ _ _ _
      | exact ih5 _ _ _ _ _ _
      | exact spec_IsReverse.mono _ _ _
      | exact spec_l27Copy.mono _ _
      | exact spec_l27First.mono _ _ _
      | exact spec_l27Total.mono _ _
      | exact spec_l27Zeros.mono _ _
      | exact LeO.none _
      | refine LeO.ite ?_ ?_
      | refine LeO.bind ?_ (fun _ => ?_)
theorem spec_HooksOfReverse.mono : ∀ a0 a1 k, LeO (spec_HooksOfReverse.f k a0 a1) (spec_HooksOfReverse.f (k + 1) a0 a1) := by
  intro a0 a1 k
  obtain ⟨ih0, ih1, ih2, ih3, ih4, ih5⟩ := spec_HooksOfReverse.mono_l k
  unfold spec_HooksOfReverse.f
  repeat' first
      | (with_reducible exact ih0 _ _ _)
      | (with_reducible exact ih1 _ _ _)
      | (with_reducible exact ih2 _ _ _ _ _ _)
      | (with_reducible exact ih3 _ _ _ _ _ _)
      | (with_reducible exact ih4 _ _ _ _ _ _ _)
      | (with_reducible exact ih5 _ _ _ _ _ _)
      | (with_reducible exact spec_IsReverse.mono _ _ _)
      | (with_reducible exact spec_l27Copy.mono _ _)
      | (with_reducible exact spec_l27First.mono _ _ _)
      | (with_reducible exact spec_l27Total.mono _ _)
      | (with_reducible exact spec_l27Zeros.mono _ _)
      | (with_reducible exact LeO.refl _)
      | (with_reducible exact LeO.none _)
      | (with_reducible refine LeO.ite ?_ ?_)
      | (with_reducible refine LeO.bind ?_ (fun _ => ?_))
      | exact ih0 _ _ _
      | exact ih1 _ _ _
      | exact ih2 _ _ _ _ _ _
      | exact ih3 _ _ _ _ _ _
      | exact ih4 _ _ _ _ _ _ _
      | exact ih5 _ _ _ _ _ _
      | exact spec_IsReverse.mono _ _ _
      | exact spec_l27Copy.mono _ _
      | exact spec_l27First.mono _ _ _
      | exact spec_l27Total.mono _ _
      | exact spec_l27Zeros.mono _ _
      | exact LeO.none _
      | refine LeO.ite ?_ ?_
      | refine LeO.bind ?_ (fun _ => ?_)
def spec_HooksOfReverse.T17 : Bool × List (List Nat × List Nat) := (true, [([], []), ([], []), ([0, 1], [0, 1]), ([2], [2]), ([], []), ([], []), ([], []), ([5, 6], [5, 6]), ([7], [7]), ([], []), ([8, 9], [8, 9]), ([10], [10]), ([11], [11]), ([3, 4, 0, 1, 2, 3, 4, 5, 6, 7, 8, 9, 10, 11, 12], [3, 4]), ([13, 12, 0, 1, 2, 3, 4, 5, 6, 7, 8, 9, 10, 11, 12], [12, 13])])
def spec_HooksOfReverse.B17 : List Nat := [0, 0, 3, 7, 0, 0, 0, 96, 224, 0, 992, 2016, 4064, 8191, 16383]
theorem spec_HooksOfReverse.tab17 : rtab .any (opsOf Try.f15 17) = spec_HooksOfReverse.T17 := by kernel_rfl
theorem spec_HooksOfReverse.bits17 : waitsOk spec_HooksOfReverse.T17.2 spec_HooksOfReverse.B17 = true := by kernel_rfl
set_option maxHeartbeats 8000000 in
set_option maxRecDepth 100000 in
theorem spec_HooksOfReverse.calls (k : Nat) (A0 : Option Addr) (c0 : Nat) (l0 : List Int) (A1 : Option Addr) (c1 : Nat) (l1 : List (List Int)) (r1 : List (List Int)) (r2 : Bool) (w : World) (hr0 : Kd.C (Kd.int .i64) w A0 l0.length l0) (hc0 : l0.length ≤ c0) (hr1 : Kd.C (Kd.slice 3 (Kd.int .i64)) w A1 l1.length l1) (hc1 : l1.length ≤ c1) (h : spec_HooksOfReverse.f k l0 l1 = some (r1, r2)) :
    Calls Try.prog 15 #[.slice A0 l0.length c0, .slice A1 l1.length c1] w fun e w' => ∃ v0_ : Value, e = .returned (.tuple #[v0_, .bool r2]) ∧ Kd.S (Kd.slice 3 (Kd.int .i64)) 22 w' w.heap.size (fun _ => True) v0_ r1 ∧ Below w.heap.size w w' := by
  have HR0 := Aside0.mk hr0
  have HC0 := Aside0.mk hc0
  clear hr0 hc0
  have HR1 := Aside0.mk hr1
  have HC1 := Aside0.mk hc1
  clear hr1 hc1
  have HB := Aside0.mk (Below.refl w.heap.size w)
  have H : ((spec_IsReverse.f k l0 l1).bind fun t180 => (if t180 = true then ((spec_l27Total.f k l1).bind fun t181 => (spec_HooksOfReverse.j0 k l0 l1 (decide (t181 > 20)))) else (spec_HooksOfReverse.j0 k l0 l1 true))) = some (r1, r2) := h
  clear h
  have HC3 := Aside0.mk H
  clear H
  go_enter Try.func15, Try.ntmps15
  go_upto_region 1 with (fail)
  go_cut [20] (fun v20 wc => ∃ (kq : Nat) (x20_2 : Bool), v20 = .bool x20_2 ∧ Aside0 (spec_HooksOfReverse.j0 kq l0 l1 x20_2 = some (r1, r2)) ∧ Aside0 (kq ≤ k) ∧ Aside0 (Below w.heap.size w wc))
  case first =>
    have H := HC3.out
    clear HC3
    replace H := Option.bind_eq_some_iff.mp H
    obtain ⟨t180, A40, H⟩ := H
    replace H : (if t180 = true then ((spec_l27Total.f k l1).bind fun t181 => (spec_HooksOfReverse.j0 k l0 l1 (decide (t181 > 20)))) else (spec_HooksOfReverse.j0 k l0 l1 true)) = some (r1, r2) := H
    have A4 := Aside0.mk A40
    clear A40
    by_cases c5 : t180 = true
    · subst c5
      have H1 : ((spec_l27Total.f k l1).bind fun t181 => (spec_HooksOfReverse.j0 k l0 l1 (decide (t181 > 20)))) = some (r1, r2) := by rw [if_pos rfl] at H; exact H
      clear H
      have H := H1
      clear H1
      replace H := Option.bind_eq_some_iff.mp H
      obtain ⟨t181, A60, H⟩ := H
      replace H : (spec_HooksOfReverse.j0 k l0 l1 (decide (t181 > 20))) = some (r1, r2) := H
      have A6 := Aside0.mk A60
      clear A60
      have H' := Aside0.mk H
      clear H
      go_wp2_with (first | ((with_reducible refine gate_callee (f := 30) rfl ?_); refine goesL_ (some 14) rfl rfl Try.func30 (by kernel_rfl) rfl #[.slice A0 l0.length c0, .slice A1 l1.length c1] rfl xm ?_; (with_reducible refine (spec_IsReverse.calls k _ _ l0 _ _ l1 true _ ?side1 ?side2 ?side3 ?side4 A4.out).mono ?_); (case side1 => first | exact xc (Kd.C_below HR0.out HB.out) | exact xc HR0.out); (case side2 => exact HC0.out); (case side3 => first | exact xc (Kd.C_below HR1.out HB.out) | exact xc HR1.out); (case side4 => exact HC1.out); rintro e w7 ⟨rfl, hb⟩; refine ⟨_, rfl, ?_⟩; have n0_ := Aside0.mk (below_step (xb HB.out) hb); clear HB; have HB := n0_; clear n0_; (try clear hb); (try clear hb2); (try clear hk); (try clear hi)) | (go_at_call 31; (with_reducible refine (spec_l27Total.calls k _ _ l1 t181 _ ?side1 ?side2 A6.out).mono ?_); (case side1 => first | exact xc (Kd.C_below HR1.out HB.out) | exact xc HR1.out); (case side2 => exact HC1.out); rintro e w' ⟨rfl, ⟨nd, rfl⟩⟩))
      go_meet
      case rel => exact ⟨_, (decide (t181 > 20)), (by first | rfl | (simp; done) | (simp [*]; done)), H', ⟨by first | omega | exact Nat.le_refl _⟩, ⟨by repeat (first | (with_reducible first | exact HB.out | apply below_alloc | apply pw_below_drewN | apply below_drew1) | exact HB.out)⟩⟩
    · replace c5 := Bool.eq_false_iff.mpr c5
      subst c5
      have H1 : (spec_HooksOfReverse.j0 k l0 l1 true) = some (r1, r2) := by rw [if_neg (show ¬ (false = true) by decide)] at H; exact H
      clear H
      have H := H1
      clear H1
      have H' := Aside0.mk H
      clear H
      go_wp2_with (first | ((with_reducible refine gate_callee (f := 30) rfl ?_); refine goesL_ (some 14) rfl rfl Try.func30 (by kernel_rfl) rfl #[.slice A0 l0.length c0, .slice A1 l1.length c1] rfl xm ?_; (with_reducible refine (spec_IsReverse.calls k _ _ l0 _ _ l1 false _ ?side1 ?side2 ?side3 ?side4 A4.out).mono ?_); (case side1 => first | exact xc (Kd.C_below HR0.out HB.out) | exact xc HR0.out); (case side2 => exact HC0.out); (case side3 => first | exact xc (Kd.C_below HR1.out HB.out) | exact xc HR1.out); (case side4 => exact HC1.out); rintro e w8 ⟨rfl, hb⟩; refine ⟨_, rfl, ?_⟩; have n0_ := Aside0.mk (below_step (xb HB.out) hb); clear HB; have HB := n0_; clear n0_; (try clear hb); (try clear hb2); (try clear hk); (try clear hi)))
      go_meet
      case rel => exact ⟨_, (true), (by first | rfl | (simp; done) | (simp [*]; done)), H', ⟨by first | omega | exact Nat.le_refl _⟩, ⟨by repeat (first | (with_reducible first | exact HB.out | apply below_alloc | apply pw_below_drewN | apply below_drew1) | exact HB.out)⟩⟩
  case rest =>
    clear HC3
    try clear c1
    try clear p2
    try clear c3
    try clear c5
    obtain ⟨kq, x20_2, rfl, HA, HJ2, HB⟩ := hcut
    cases kq with
    | zero => exact absurd HA.out (by simp [spec_HooksOfReverse.j0])
    | succ kj2 =>
      have H := HA.out
      clear HA
      simp only [spec_HooksOfReverse.j0] at H
      by_cases c9 : x20_2 = true
      · subst c9
        have H1 : (some ((([] : List (List Int))), false)) = some (r1, r2) := by rw [if_pos rfl] at H; exact H
        clear H
        have H := H1
        clear H1
        obtain ⟨y182, hy182⟩ : ∃ y_ : List (List Int), y_ = (([] : List (List Int))) := ⟨_, rfl⟩
        replace H : (some (y182, false)) = some (r1, r2) := by first | (rw [hy182]; with_reducible exact H) | (have H2_ := (Option.bind_some _ _).symm.trans H; rw [hy182]; with_reducible exact H2_) | (have H2_ := (Option.bind_some _ _).symm.trans H; with_reducible exact H2_) | with_reducible exact H | (rw [hy182]; exact H) | exact H
        have Ny182 := Aside0.mk hy182
        clear hy182
        simp only [Option.some.injEq, Prod.mk.injEq] at H
        obtain ⟨rfl, rfl⟩ := H
        go_wp2_with (first | ((with_reducible refine gate_dst (N := 21) rfl ?_); refine Kd.S_lit (Kd.slice 3 (Kd.int .i64)) _ 22 ?hg (N := 21) ?hd (xs := ([] : List (List Int))) (inner := []) (ok := fun _ => True) (okp := fun _ => True) ?hr ?hp (fun _ hk => hk) trivial (Below.refl _ _) (Nat.le_refl _) (by simp) ?_; (case hd => rfl); (case hg => rfl); (case hr => first | (go_simp; done) | (go_simp; rfl)); (case hp => exact (Reps.none _ _)); intro v183 w10 ho11 hb hg_ hnew_; clear hg_ hnew_; (first | rw [← Ny182.out] at ho11 | (simp only [Int.reduceToNat] at ho11; rw [← Ny182.out] at ho11)); have n0_ := Aside0.mk (Kd.S_lower ho11 (below_size (xb HB.out))); have n1_ := Aside0.mk (below_step (xb HB.out) hb); clear HB; have HO184 := n0_; have HB := n1_; clear n0_ n1_; clear hb ho11))
        go_ret2
        exact ⟨_, by first | rfl | (simp [errW_none, errW_some] <;> rfl) | (simp [*, errW_none, errW_some] <;> rfl), by (with_reducible repeat (first | apply Kd.S_alloc | apply Kd.S_drewN | apply Kd.S_drew)); first | exact HO184.out | exact Kd.S_mono HO184.out xi, by repeat (first | (with_reducible first | exact HB.out | apply below_alloc | apply pw_below_drewN | apply below_drew1) | exact HB.out)⟩
      · replace c9 := Bool.eq_false_iff.mpr c9
        subst c9
        have H1 : ((spec_l27Copy.f kj2 l1).bind fun t185 => ((spec_l27Zeros.f kj2 l0).bind fun t188 => (spec_HooksOfReverse.l0 kj2 l0 t185 t188))) = some (r1, r2) := by rw [if_neg (show ¬ (false = true) by decide)] at H; exact H
        clear H
        have H := H1
        clear H1
        replace H := Option.bind_eq_some_iff.mp H
        obtain ⟨t185, A120, H⟩ := H
        replace H : ((spec_l27Zeros.f kj2 l0).bind fun t188 => (spec_HooksOfReverse.l0 kj2 l0 t185 t188)) = some (r1, r2) := H
        have A12 := Aside0.mk A120
        clear A120
        replace H := Option.bind_eq_some_iff.mp H
        obtain ⟨t188, A130, H⟩ := H
        replace H : (spec_HooksOfReverse.l0 kj2 l0 t185 t188) = some (r1, r2) := H
        have A13 := Aside0.mk A130
        clear A130
        have H' := Aside0.mk H
        clear H
        go_wp2_with (first | ((with_reducible refine gate_callee (f := 32) rfl ?_); refine goesL_ (some 23) rfl rfl Try.func32 (by kernel_rfl) rfl #[.slice A1 l1.length c1] rfl xm ?_; (with_reducible refine (spec_l27Copy.calls kj2 _ _ l1 t185 _ ?side1 ?side2 A12.out).mono ?_); (case side1 => first | exact xc (Kd.C_below HR1.out HB.out) | exact xc HR1.out); (case side2 => exact HC1.out); rintro e w14 ⟨v186, rfl, ho0, hb⟩; refine ⟨_, rfl, ?_⟩; have n0_ := Aside0.mk (Kd.S_lower ho0 (below_size (xb HB.out))); have n1_ := Aside0.mk (below_step (xb HB.out) hb); clear HB; have HO187 := n0_; have HB := n1_; clear n0_ n1_; (try clear hb); (try clear hb2); (try clear hk); (try clear hi); (try clear ho0)) | ((with_reducible refine gate_callee (f := 20) rfl ?_); refine goesL_ (some 25) rfl rfl Try.func20 (by kernel_rfl) rfl #[.slice A0 l0.length c0] rfl xm ?_; (with_reducible refine (spec_l27Zeros.calls kj2 _ _ l0 t188 _ ?side1 ?side2 A13.out).mono ?_); (case side1 => first | exact xc (Kd.C_below HR0.out HB.out) | exact xc HR0.out); (case side2 => exact HC0.out); rintro e w15 ⟨v189, rfl, ho0, hb⟩; refine ⟨_, rfl, ?_⟩; replace ho0 := Kd.deep0 ho0; obtain ⟨N209_, ho0, hN209_⟩ := ho0; have n0_ := Aside0.mk (Kd.S_elderD (xS HO187.out) hN209_ (Kd.S_base ho0) hb); have n1_ := Aside0.mk (Kd.S_lower (Kd.S_new' ho0 (Kd.S_lt (xS HO187.out))) (below_size (xb HB.out))); have n2_ := Aside0.mk (below_step (xb HB.out) hb); clear HO187; clear HB; have HO187 := n0_; have HO190 := n1_; have HB := n2_; clear n0_ n1_ n2_; (try clear hb); (try clear hb2); (try clear hk); (try clear hi); (try clear ho0); (try clear hN209_)))
        go_loopg [] kj2 (fun kq w' => ∃ (x6_2 : List (List Int)) (x7_2 : List (List Int)), Aside0 (spec_HooksOfReverse.l0 kq l0 x6_2 x7_2 = some (r1, r2)) ∧ Aside0 (kq ≤ kj2) ∧ Aside0 (Kd.S (Kd.slice 3 (Kd.int .i64)) 22 w' w.heap.size (fun k_ => some k_ ≠ (v189 : Value).ownBlock ∧ k_ ≠ dmO N209_ k_) v186 x6_2) ∧ Aside0 (Kd.S (Kd.slice 3 (Kd.int .i64)) 22 w' w.heap.size (fun k_ => some k_ ≠ (v186 : Value).ownBlock ∧ k_ ≠ dmI N209_ k_) v189 x7_2) ∧ Aside0 (Below w.heap.size w w'))
        case atStart => exact ⟨(t185), (t188), H', ⟨Nat.le_refl _⟩, ⟨by (with_reducible repeat (first | apply Kd.S_alloc | apply Kd.S_drewN | apply Kd.S_drew)); exact Kd.S_mono HO187.out (fun _ hk => ⟨hk.1.2, hk.2⟩)⟩, ⟨by (with_reducible repeat (first | apply Kd.S_alloc | apply Kd.S_drewN | apply Kd.S_drew)); exact Kd.S_mono HO190.out (fun _ hk => ⟨hk.2, hk.1⟩)⟩, ⟨by repeat (first | (with_reducible first | exact HB.out | apply below_alloc | apply pw_below_drewN | apply below_drew1) | exact HB.out)⟩⟩
        case round =>
          clear H'
          try clear c1
          try clear c2
          try clear p2
          try clear c3
          try clear c5
          try clear c9
          try clear c15
          try clear p2
          obtain ⟨x6_2, x7_2, HA, HK2, HO_6, HO_7, HB⟩ := hrel
          cases gk with
          | zero => exact absurd HA.out (by simp [spec_HooksOfReverse.l0])
          | succ k2 =>
            have H := HA.out
            clear HA
            simp only [spec_HooksOfReverse.l0] at H
            replace H := Option.bind_eq_some_iff.mp H
            obtain ⟨t191, A160, H⟩ := H
            replace H : (if t191 > 0 then ((spec_l27First.f k2 l0 x6_2).bind fun t192 => (spec_HooksOfReverse.l1 k2 l0 x6_2 x7_2 t192 t192 0)) else (some (x7_2, true))) = some (r1, r2) := H
            have A16 := Aside0.mk A160
            clear A160
            by_cases c17 : t191 > 0
            · rw [if_pos c17] at H
              have c17b0 : decide (0 < t191) = true := decide_eq_true c17
              clear c17
              replace H := Option.bind_eq_some_iff.mp H
              obtain ⟨t192, A180, H⟩ := H
              replace H : (spec_HooksOfReverse.l1 k2 l0 x6_2 x7_2 t192 t192 0) = some (r1, r2) := H
              have A18 := Aside0.mk A180
              clear A180
              have HC19 := Aside0.mk H
              clear H
              obtain ⟨Ao20, co20, eo20⟩ := Kd.S_slice HO_6.out
              subst eo20
              go_upto_block 2 with (first | ((with_reducible refine gate_callee (f := 31) rfl ?_); refine goesL_ (some 27) rfl rfl Try.func31 (by kernel_rfl) rfl #[.slice Ao20 x6_2.length co20] rfl xm ?_; (with_reducible refine (spec_l27Total.calls k2 _ _ x6_2 t191 _ ?side1 ?side2 A16.out).mono ?_); (case side1 => repeat (first | exact (Kd.S_reads' HO_6.out).2.2 | (with_reducible refine Kd.C_alloc ?_ _) | (with_reducible refine Kd.C_drewN ?_ _) | (with_reducible refine Kd.C_drew ?_))); (case side2 => exact (Kd.S_reads' HO_6.out).2.1); rintro e w' ⟨rfl, ⟨nd, rfl⟩⟩; refine ⟨_, rfl, ?_⟩) | ((with_reducible refine gate_callee (f := 33) rfl ?_); refine goesL_ (some 31) rfl rfl Try.func33 (by kernel_rfl) rfl #[.slice A0 l0.length c0, .slice Ao20 x6_2.length co20] rfl xm ?_; (with_reducible refine (spec_l27First.calls k2 _ _ l0 _ _ x6_2 t192 _ ?side1 ?side2 ?side3 ?side4 A18.out).mono ?_); (case side1 => exact xc (Kd.C_below HR0.out (xb HB.out))); (case side2 => exact HC0.out); (case side3 => repeat (first | exact (Kd.S_reads' HO_6.out).2.2 | (with_reducible refine Kd.C_alloc ?_ _) | (with_reducible refine Kd.C_drewN ?_ _) | (with_reducible refine Kd.C_drew ?_))); (case side4 => exact (Kd.S_reads' HO_6.out).2.1); rintro e w' ⟨rfl, ⟨nd, rfl⟩⟩; refine ⟨_, rfl, ?_⟩))
              (try simp only [Act.put, List.setIfInBounds_toArray, List.set_cons_zero, List.set_cons_succ])
              go_cut [10] (fun v10 wc => ∃ (kq : Nat) (x10_18 : Int), v10 = .int .i64 x10_18 ∧ Aside0 (spec_HooksOfReverse.j3 kq l0 x6_2 x7_2 t192 t192 x10_18 = some (r1, r2)) ∧ Aside0 (kq ≤ k2) ∧ Aside0 (Kd.S (Kd.slice 3 (Kd.int .i64)) 22 wc w.heap.size (fun k_ => some k_ ≠ (v189 : Value).ownBlock ∧ k_ ≠ dmO N209_ k_) (.slice Ao20 x6_2.length co20) x6_2) ∧ Aside0 (Kd.S (Kd.slice 3 (Kd.int .i64)) 22 wc w.heap.size (fun k_ => some k_ ≠ ((.slice Ao20 x6_2.length co20) : Value).ownBlock ∧ k_ ≠ dmI N209_ k_) v189 x7_2) ∧ Aside0 (Below w.heap.size w wc))
              case first =>
                have H := HC19.out
                clear HC19
                have H' := Aside0.mk H
                clear H
                go_wp2
                go_loopg [10] k2 (fun kq v10 w' => ∃ (x10_3 : Int), v10 = .int .i64 x10_3 ∧ Aside0 (spec_HooksOfReverse.l1 kq l0 x6_2 x7_2 t192 t192 x10_3 = some (r1, r2)) ∧ Aside0 (kq ≤ k2) ∧ Aside0 (Kd.S (Kd.slice 3 (Kd.int .i64)) 22 w' w.heap.size (fun k_ => some k_ ≠ (v189 : Value).ownBlock ∧ k_ ≠ dmO N209_ k_) (.slice Ao20 x6_2.length co20) x6_2) ∧ Aside0 (Kd.S (Kd.slice 3 (Kd.int .i64)) 22 w' w.heap.size (fun k_ => some k_ ≠ ((.slice Ao20 x6_2.length co20) : Value).ownBlock ∧ k_ ≠ dmI N209_ k_) v189 x7_2) ∧ Aside0 (Below w.heap.size w w'))
                case atStart => exact ⟨(0), (by first | rfl | (simp; done) | (simp [*]; done)), H', ⟨Nat.le_refl _⟩, ⟨by (with_reducible repeat (first | apply Kd.S_alloc | apply Kd.S_drewN | apply Kd.S_drew)); first | exact HO_6.out | exact Kd.S_mono HO_6.out xi⟩, ⟨by (with_reducible repeat (first | apply Kd.S_alloc | apply Kd.S_drewN | apply Kd.S_drew)); first | exact HO_7.out | exact Kd.S_mono HO_7.out xi⟩, ⟨by repeat (first | (with_reducible first | exact HB.out | apply below_alloc | apply pw_below_drewN | apply below_drew1) | exact HB.out)⟩⟩
                case round =>
                  clear H'
                  try clear c1
                  try clear c2
                  try clear p2
                  try clear c3
                  try clear c5
                  try clear c9
                  try clear c15
                  try clear c17
                  try clear c17b0
                  try clear c20
                  try clear p2
                  obtain ⟨x10_3, rfl, HA, HK3, HO_6, HO_7, HB⟩ := hrel
                  cases gk with
                  | zero => exact absurd HA.out (by simp [spec_HooksOfReverse.l1])
                  | succ k3 =>
                    have H := HA.out
                    clear HA
                    simp only [spec_HooksOfReverse.l1] at H
                    by_cases c21 : (wrap64 (x10_3 + 1)) < (l0.length : Int)
                    · rw [if_pos c21] at H
                      have c21b0 : decide ((wrap64 (x10_3 + 1)) < (l0.length : Int)) = true := decide_eq_true c21
                      clear c21
                      (first | rw [c21b0] | (simp only [i64_w, i32_w]; rw [c21b0]) | skip)
                      obtain ⟨ji22, hji22⟩ : ∃ j_ : Int, (wrap64 (x10_3 + 1)) = j_ := ⟨_, rfl⟩
                      replace H : (if 0 ≤ (ji22) then (if (rd l0 (ji22)) > t192 then (spec_HooksOfReverse.l1 k3 l0 x6_2 x7_2 t192 t192 ji22) else (spec_HooksOfReverse.j3 k3 l0 x6_2 x7_2 t192 t192 x10_3)) else (none)) = some (r1, r2) := by first | (rw [hji22] at H; exact H) | (simp only [hji22] at H ⊢; exact H)
                      (try rw [hji22] at c21b0)
                      have hji22w : (IntKind.i64.wrap (x10_3 + 1)) = ji22 := (i64_w _).trans hji22
                      by_cases c23 : 0 ≤ (ji22)
                      · rw [if_pos c23] at H
                        have c23b0 : decide (0 ≤ (ji22)) = true := decide_eq_true c23
                        clear c23
                        by_cases c24 : (rd l0 (ji22)) > t192
                        · rw [if_pos c24] at H
                          have c24b0 : decide (t192 < (rd l0 (ji22))) = true := decide_eq_true c24
                          clear c24
                          have H' := Aside0.mk H
                          clear H
                          have p193 : 0 ≤ ((ji22) : Int) := of_decide_eq_true (by first | (with_reducible assumption) | assumption)
                          have q193 : (ji22) < (l0.length : Int) := of_decide_eq_true (by first | (with_reducible assumption) | assumption)
                          obtain ⟨ad193, e193, hx193_0⟩ := Kd.at_int HR0.out (ji22) p193 q193
                          cases e193
                          (try replace hx193_0 := (HB.out.cell (World.block_lt_of_cell? w _ hx193_0)).trans hx193_0)
                          replace p193 := eq_true p193
                          replace q193 := eq_true q193
                          go_wp2
                          go_roundg k3
                          case measure => have := HJ2.out; have := HK2.out; have := HK3.out; omega
                          case rel => exact ⟨(ji22), (by first | rfl | (simp; done) | (simp only [← hji22] <;> (first | rfl | simp)) | (simp [*]; done)), H', ⟨by have := HJ2.out; have := HK2.out; have := HK3.out; omega⟩, ⟨by (with_reducible repeat (first | apply Kd.S_alloc | apply Kd.S_drewN | apply Kd.S_drew)); first | exact HO_6.out | exact Kd.S_mono HO_6.out xi⟩, ⟨by (with_reducible repeat (first | apply Kd.S_alloc | apply Kd.S_drewN | apply Kd.S_drew)); first | exact HO_7.out | exact Kd.S_mono HO_7.out xi⟩, ⟨by repeat (first | (with_reducible first | exact HB.out | apply below_alloc | apply pw_below_drewN | apply below_drew1) | exact HB.out)⟩⟩
                        · rw [if_neg c24] at H
                          have c24b0 : decide (t192 < (rd l0 (ji22))) = false := decide_eq_false c24
                          clear c24
                          have H' := Aside0.mk H
                          clear H
                          have p193 : 0 ≤ ((ji22) : Int) := of_decide_eq_true (by first | (with_reducible assumption) | assumption)
                          have q193 : (ji22) < (l0.length : Int) := of_decide_eq_true (by first | (with_reducible assumption) | assumption)
                          obtain ⟨ad193, e193, hx193_0⟩ := Kd.at_int HR0.out (ji22) p193 q193
                          cases e193
                          (try replace hx193_0 := (HB.out.cell (World.block_lt_of_cell? w _ hx193_0)).trans hx193_0)
                          replace p193 := eq_true p193
                          replace q193 := eq_true q193
                          go_wp2
                          go_meet
                          case rel => exact ⟨_, (x10_3), (by first | rfl | (simp; done) | (simp [*]; done)), H', ⟨by have := HJ2.out; have := HK2.out; have := HK3.out; first | omega | exact Nat.le_refl _⟩, ⟨by (with_reducible repeat (first | apply Kd.S_alloc | apply Kd.S_drewN | apply Kd.S_drew)); first | exact HO_6.out | exact Kd.S_mono HO_6.out xi⟩, ⟨by (with_reducible repeat (first | apply Kd.S_alloc | apply Kd.S_drewN | apply Kd.S_drew)); first | exact HO_7.out | exact Kd.S_mono HO_7.out xi⟩, ⟨by repeat (first | (with_reducible first | exact HB.out | apply below_alloc | apply pw_below_drewN | apply below_drew1) | exact HB.out)⟩⟩
                      · rw [if_neg c23] at H
                        exact absurd H (by simp)
                    · rw [if_neg c21] at H
                      have c21b0 : decide ((wrap64 (x10_3 + 1)) < (l0.length : Int)) = false := decide_eq_false c21
                      clear c21
                      (first | rw [c21b0] | (simp only [i64_w, i32_w]; rw [c21b0]) | skip)
                      have H' := Aside0.mk H
                      clear H
                      go_wp2
                      go_meet
                      case rel => exact ⟨_, (x10_3), (by first | rfl | (simp; done) | (simp [*]; done)), H', ⟨by have := HJ2.out; have := HK2.out; have := HK3.out; first | omega | exact Nat.le_refl _⟩, ⟨by (with_reducible repeat (first | apply Kd.S_alloc | apply Kd.S_drewN | apply Kd.S_drew)); first | exact HO_6.out | exact Kd.S_mono HO_6.out xi⟩, ⟨by (with_reducible repeat (first | apply Kd.S_alloc | apply Kd.S_drewN | apply Kd.S_drew)); first | exact HO_7.out | exact Kd.S_mono HO_7.out xi⟩, ⟨by repeat (first | (with_reducible first | exact HB.out | apply below_alloc | apply pw_below_drewN | apply below_drew1) | exact HB.out)⟩⟩
              case rest =>
                clear HC19
                try clear c1
                try clear p1
                try clear q1
                try clear hx1
                try clear c2
                try clear p2
                try clear c3
                try clear c5
                try clear p6
                try clear c9
                try clear c15
                try clear c17
                try clear c17b0
                try clear p19
                try clear q19
                try clear hx19
                try clear c20
                try clear c21
                try clear c21b0
                try clear c23
                try clear c23b0
                try clear c24
                try clear c24b0
                try clear hx193_0
                try clear p193
                try clear p2
                try clear q193
                obtain ⟨kq, x10_18, rfl, HA, HJ18, HO_6, HO_7, HB⟩ := hcut
                cases kq with
                | zero => exact absurd HA.out (by simp [spec_HooksOfReverse.j3])
                | succ kj18 =>
                  have H := HA.out
                  clear HA
                  simp only [spec_HooksOfReverse.j3] at H
                  have H' := Aside0.mk H
                  clear H
                  go_wp2
                  go_loopg [9, 10] kj18 (fun kq v9 v10 w' => ∃ (x6_4 : List (List Int)) (x9_4 : Int) (x10_4 : Int), v9 = .int .i64 x9_4 ∧ v10 = .int .i64 x10_4 ∧ Aside0 (spec_HooksOfReverse.l2 kq l0 x6_4 x7_2 t192 x9_4 x10_4 = some (r1, r2)) ∧ Aside0 (kq ≤ kj18) ∧ Aside0 (Kd.S (Kd.slice 3 (Kd.int .i64)) 22 w' w.heap.size (fun k_ => some k_ ≠ (v189 : Value).ownBlock ∧ k_ ≠ dmO N209_ k_) (.slice Ao20 x6_2.length co20) x6_4) ∧ Aside0 (Kd.S (Kd.slice 3 (Kd.int .i64)) 22 w' w.heap.size (fun k_ => some k_ ≠ ((.slice Ao20 x6_2.length co20) : Value).ownBlock ∧ k_ ≠ dmI N209_ k_) v189 x7_2) ∧ Aside0 (Below w.heap.size w w'))
                  case atStart => exact ⟨(x6_2), (t192), (x10_18), (by first | rfl | (simp; done) | (simp [*]; done)), (by first | rfl | (simp; done) | (simp [*]; done)), H', ⟨Nat.le_refl _⟩, ⟨by (with_reducible repeat (first | apply Kd.S_alloc | apply Kd.S_drewN | apply Kd.S_drew)); first | exact HO_6.out | exact Kd.S_mono HO_6.out xi⟩, ⟨by (with_reducible repeat (first | apply Kd.S_alloc | apply Kd.S_drewN | apply Kd.S_drew)); first | exact HO_7.out | exact Kd.S_mono HO_7.out xi⟩, ⟨by repeat (first | (with_reducible first | exact HB.out | apply below_alloc | apply pw_below_drewN | apply below_drew1) | exact HB.out)⟩⟩
                  case round =>
                    clear H'
                    try clear c1
                    try clear p1
                    try clear q1
                    try clear hx1
                    try clear c2
                    try clear p2
                    try clear c3
                    try clear c5
                    try clear p6
                    try clear c9
                    try clear c15
                    try clear c17
                    try clear c17b0
                    try clear p19
                    try clear q19
                    try clear hx19
                    try clear c20
                    try clear c21
                    try clear c21b0
                    try clear c23
                    try clear c23b0
                    try clear c24
                    try clear c24b0
                    try clear hx193_0
                    try clear p1
                    try clear p19
                    try clear p193
                    try clear p2
                    try clear p6
                    try clear q1
                    try clear q19
                    try clear q193
                    obtain ⟨x6_4, x9_4, x10_4, rfl, rfl, HA, HK4, HO_6, HO_7, HB⟩ := hrel
                    have hl6_4 := (Kd.S_reads' HO_6.out).1
                    rw [hl6_4] at HO_6
                    (try simp only [hl6_4])
                    (try simp only [hl6_4] at HO_7)
                    cases gk with
                    | zero => exact absurd HA.out (by simp [spec_HooksOfReverse.l2])
                    | succ k4 =>
                      have H := HA.out
                      clear HA
                      simp only [spec_HooksOfReverse.l2] at H
                      by_cases c25 : 0 ≤ x10_4
                      · rw [if_pos c25] at H
                        have c25b0 : decide (0 ≤ x10_4) = true := decide_eq_true c25
                        clear c25
                        by_cases c26 : x10_4 < (x6_4.length : Int)
                        · rw [if_pos c26] at H
                          have c26b0 : decide (x10_4 < (x6_4.length : Int)) = true := decide_eq_true c26
                          have c26b0x := c26b0
                          (try simp only [hl6_4] at c26b0x)
                          clear c26
                          by_cases c27 : 0 ≤ x9_4
                          · rw [if_pos c27] at H
                            have c27b0 : decide (0 ≤ x9_4) = true := decide_eq_true c27
                            clear c27
                            by_cases c28 : x9_4 < ((rd_L1 x6_4 x10_4).length : Int)
                            · rw [if_pos c28] at H
                              have c28b0 : decide (x9_4 < ((rd_L1 x6_4 x10_4).length : Int)) = true := decide_eq_true c28
                              have c28b0x := c28b0
                              (try simp only [hl6_4] at c28b0x)
                              clear c28
                              obtain ⟨y197, hy197⟩ : ∃ y_ : List Int, y_ = ((rd_L1 x6_4 x10_4).set (x9_4 : Int).toNat (wrap64 ((rd (rd_L1 x6_4 x10_4) x9_4) - 1))) := ⟨_, rfl⟩
                              replace H : ((some (x6_4.set (x10_4 : Int).toNat y197 : List (List Int))).bind fun y199 => (if x10_4 > 0 then (if 0 ≤ (wrap64 (x10_4 - 1)) then (if (wrap64 (x10_4 - 1)) < (x6_4.length : Int) then (if x9_4 < ((rd_L1 y199 (wrap64 (x10_4 - 1))).length : Int) then (spec_HooksOfReverse.j5 k4 l0 y199 x7_2 t192 x9_4 x10_4 ((rd (rd_L1 y199 (wrap64 (x10_4 - 1))) x9_4) == (rd (rd_L1 x6_4 x10_4) x9_4))) else (none)) else (none)) else (none)) else (spec_HooksOfReverse.j5 k4 l0 y199 x7_2 t192 x9_4 x10_4 false))) = some (r1, r2) := by first | (rw [hy197]; with_reducible exact H) | (have H2_ := (Option.bind_some _ _).symm.trans H; rw [hy197]; with_reducible exact H2_) | (have H2_ := (Option.bind_some _ _).symm.trans H; with_reducible exact H2_) | with_reducible exact H | (rw [hy197]; exact H) | exact H
                              have Ny197 := Aside0.mk hy197
                              clear hy197
                              obtain ⟨y199, hy199⟩ : ∃ y_ : List (List Int), y_ = (x6_4.set (x10_4 : Int).toNat y197) := ⟨_, rfl⟩
                              replace H : (if x10_4 > 0 then (if 0 ≤ (wrap64 (x10_4 - 1)) then (if (wrap64 (x10_4 - 1)) < (x6_4.length : Int) then (if x9_4 < ((rd_L1 y199 (wrap64 (x10_4 - 1))).length : Int) then (spec_HooksOfReverse.j5 k4 l0 y199 x7_2 t192 x9_4 x10_4 ((rd (rd_L1 y199 (wrap64 (x10_4 - 1))) x9_4) == (rd (rd_L1 x6_4 x10_4) x9_4))) else (none)) else (none)) else (none)) else (spec_HooksOfReverse.j5 k4 l0 y199 x7_2 t192 x9_4 x10_4 false)) = some (r1, r2) := by first | (rw [hy199]; with_reducible exact H) | (have H2_ := (Option.bind_some _ _).symm.trans H; rw [hy199]; with_reducible exact H2_) | (have H2_ := (Option.bind_some _ _).symm.trans H; with_reducible exact H2_) | with_reducible exact H | (rw [hy199]; exact H) | exact H
                              have Ny199 := Aside0.mk hy199
                              clear hy199
                              have HC30 := Aside0.mk H
                              clear H
                              have p194 : 0 ≤ (x10_4 : Int) := of_decide_eq_true (by first | (with_reducible assumption) | assumption)
                              have q194 : x10_4 < (x6_4.length : Int) := of_decide_eq_true (by first | (with_reducible assumption) | assumption)
                              obtain ⟨ad194, A194_0, c194_0, e194, hx194_0, hl194_0, hi194_0⟩ := at_L1 (Kd.S_reads' HO_6.out).2.2 x10_4 p194 q194
                              cases e194
                              obtain ⟨ce194, hce194, hMe194, hcc194⟩ := Kd.S_get HO_6.out [] x10_4 p194 (by first | exact q194 | exact of_decide_eq_true (by first | (with_reducible assumption) | assumption) | (have e_ := (Kd.S_reads' HO_6.out).1; omega))
                              obtain ⟨ve194_0, rfl, ge194_0⟩ := hMe194
                              have hv194_0 := hcc194 0 _ rfl
                              rw [Nat.add_zero, show ((Kd.slice 3 (Kd.int .i64))).sz = 1 from rfl, Nat.mul_one] at hv194_0
                              replace hv194_0 := Option.some.inj (hv194_0.symm.trans hx194_0)
                              rw [hv194_0] at ge194_0
                              have HL194_0 := Aside0.mk (show Kd.R (Kd.int .i64) 3 _ _ _ _ (rd_L1 x6_4 x10_4) from ge194_0)
                              clear hv194_0 ge194_0
                              have HX194_0 := Aside0.mk hx194_0
                              clear hcc194 hce194
                              have HR194_0 := Aside0.mk hi194_0
                              have HC194_0 := Aside0.mk hl194_0
                              clear hi194_0 hl194_0
                              replace p194 := eq_true p194
                              replace q194 := eq_true q194
                              have p195 : 0 ≤ (x9_4 : Int) := of_decide_eq_true (by first | (with_reducible assumption) | assumption)
                              have q195 : x9_4 < ((rd_L1 x6_4 x10_4).length : Int) := of_decide_eq_true (by first | (with_reducible assumption) | assumption)
                              obtain ⟨ad195, e195, hx195_0⟩ := Kd.at_int (by repeat (first | (with_reducible exact HR194_0.out) | (with_reducible refine Kd.C_alloc ?_ _) | (with_reducible refine Kd.C_drewN ?_ _) | (with_reducible refine Kd.C_drew ?_) | exact HR194_0.out)) x9_4 p195 q195
                              cases e195
                              replace p195 := eq_true p195
                              replace q195 := eq_true q195
                              have p196 : 0 ≤ (x10_4 : Int) := of_decide_eq_true (by first | (with_reducible assumption) | assumption)
                              have q196 : x10_4 < (x6_4.length : Int) := of_decide_eq_true (by first | (with_reducible assumption) | assumption)
                              obtain ⟨ad196, A196_0, c196_0, e196, hx196_0, hl196_0, hi196_0⟩ := at_L1 (Kd.S_reads' HO_6.out).2.2 x10_4 p196 q196
                              obtain rfl : ad194 = ad196 := (by injection e196)
                              obtain ⟨ce196, hce196, hMe196, hcc196⟩ := Kd.S_get HO_6.out [] x10_4 p196 (by first | exact q196 | exact of_decide_eq_true (by first | (with_reducible assumption) | assumption) | (have e_ := (Kd.S_reads' HO_6.out).1; omega))
                              obtain ⟨ve196_0, rfl, ge196_0⟩ := hMe196
                              have hv196_0 := hcc196 0 _ rfl
                              rw [Nat.add_zero, show ((Kd.slice 3 (Kd.int .i64))).sz = 1 from rfl, Nat.mul_one] at hv196_0
                              replace hv196_0 := Option.some.inj (hv196_0.symm.trans hx196_0)
                              rw [hv196_0] at ge196_0
                              have HL196_0 := Aside0.mk (show Kd.R (Kd.int .i64) 3 _ _ _ _ (rd_L1 x6_4 x10_4) from ge196_0)
                              clear hv196_0 ge196_0
                              have HX196_0 := Aside0.mk hx196_0
                              clear hcc196 hce196
                              have HR196_0 := Aside0.mk hi196_0
                              have HC196_0 := Aside0.mk hl196_0
                              clear hi196_0 hl196_0
                              replace p196 := eq_true p196
                              replace q196 := eq_true q196
                              have ea_ := Option.some.inj (hx194_0.symm.trans hx196_0)
                              injection ea_ with ea_ en_ ec_
                              subst ea_
                              subst ec_
                              clear en_
                              have p29 : 0 ≤ (x9_4 : Int) := of_decide_eq_true (by first | (with_reducible assumption) | assumption)
                              have q29 : (x9_4 : Int) < (((rd_L1 x6_4 x10_4).length : Int) : Int) := of_decide_eq_true (by first | (with_reducible assumption) | assumption)
                              obtain ⟨go29, co29, eo29, gb29, gl29, cl29, HG29⟩ := Kd.R_form HL196_0.out (by omega)
                              (first | cases eo29 | (injection eo29 with ea_ en_ ec_; (first | subst ea_ | (injection ea_ with ea_; subst ea_)); subst ec_; clear en_))
                              have GB29 := Aside0.mk gb29
                              have GG29 := Aside0.mk HG29
                              clear gb29 gl29 HG29
                              (first | simp only [add_plain] at hx195_0 | skip)
                              obtain ⟨hx29_0, hf29_0⟩ := Kd.R_celln 0 HL196_0.out (x9_4 : Int) p29 q29
                              replace p29 := eq_true p29
                              replace q29 := eq_true q29
                              have hq31 : (x10_4 : Int) < (x6_4.length : Int) := (by have h_ : (x10_4 : Int) < ((x6_4.length : Int) : Int) := of_decide_eq_true (by first | (with_reducible assumption) | assumption); first | exact h_ | (have e_ := (Kd.S_reads' HO_6.out).1; omega) | simpa only [List.length_set, List.length_set] using h_)
                              obtain ⟨oki31, ce31, hcl31, hM31, hcc31, hok31, hbk31⟩ := Kd.S_borrow HO_6.out [] (x10_4 : Int) (of_decide_eq_true (by first | (with_reducible assumption) | assumption)) hq31
                              obtain ⟨ve31_0, rfl, ge31_0⟩ := hM31
                              have hv31 := hcc31 0 _ rfl
                              rw [Nat.add_zero, show ((Kd.slice 3 (Kd.int .i64))).sz = 1 from rfl, Nat.mul_one] at hv31
                              replace hv31 := Option.some.inj (hv31.symm.trans HX196_0.out)
                              subst hv31
                              clear hcc31 hcl31
                              replace ge31_0 := (show Kd.R (Kd.int .i64) 3 _ _ _ _ (rd_L1 x6_4 x10_4) from ge31_0)
                              have HP31 := Kd.R_putg ge31_0 (x9_4 : Int) (wrap64 ((rd (rd_L1 x6_4 x10_4) x9_4) - 1))
                              go_upto_region 13 with (first | ((with_reducible refine gate_store (t := 3) (p := 63) rfl ?_); refine store_event (t := 3) (p := 63) (v := ?vo_w32) (w1 := (wr.setCell ⟨go29, (x9_4 : Int).toNat, none⟩ (.int .i64 (wrap64 ((rd (rd_L1 x6_4 x10_4) x9_4) - 1))))) ?hg ?ho ?hn ?hr ?_; (case ho => rfl); (case hg => rfl); (case hn => rfl); (case hr => first | (go_simp; done) | (go_simp; rfl)); intro w32 hw; have hg : wr.grownBy w32 (some go29) := (by rw [hw]; exact HP31.2); have hz_ : Kd.R (Kd.int .i64) 3 w32 w.heap.size oki31 (.slice (some ⟨go29, 0, none⟩) (rd_L1 x6_4 x10_4).length c194_0) y197 := (by rw [hw, Ny197.out]; exact HP31.1); have hp_ : Kd.S (Kd.slice 3 (Kd.int .i64)) 22 w32 w.heap.size (fun k_ => some k_ ≠ (v189 : Value).ownBlock ∧ k_ ≠ dmO N209_ k_) (.slice (some ad194) x6_4.length co20) y199 := (by rw [Ny199.out]; exact hbk31 hg (fun k_ e_ => by injection e_ with e_; subst e_; exact ge31_0.1 _ rfl) (Kd.M_row hz_)); have hm_ := Kd.R_mono hz_ hok31; clear HP31 hbk31; have n0_ := Aside0.mk (hp_); have n1_ := Aside0.mk (Kd.S_grown (xS HO_7.out) hg (fun k_ hk_ e_ => (by have q_ := Option.some.inj e_; subst q_; exact dmNo hk_.2 ((HL196_0.out.1 _ rfl).1.2)))); have n2_ := Aside0.mk ((by rw [hw]; exact below_set (HB.out) GB29.out : Below w.heap.size w w32)); have n3_ := Aside0.mk (hm_); have n4_ := Aside0.mk ((Kd.R_reads' hm_).2.1); clear HO_6; clear HO_7; clear HB; clear HL194_0; clear HL196_0; have HO_6 := n0_; have HO_7 := n1_; have HB := n2_; have HL211 := n3_; have HC198 := n4_; clear n0_ n1_ n2_ n3_ n4_; clear hg hw hp_ hz_ hm_ hok31))
                              (try simp only [Act.put, List.setIfInBounds_toArray, List.set_cons_zero, List.set_cons_succ])
                              go_cut [77] (fun v77 wc => ∃ (kq : Nat) (x77_29 : Bool), v77 = .bool x77_29 ∧ Aside0 (spec_HooksOfReverse.j5 kq l0 y199 x7_2 t192 x9_4 x10_4 x77_29 = some (r1, r2)) ∧ Aside0 (kq ≤ k4) ∧ Aside0 (Kd.S (Kd.slice 3 (Kd.int .i64)) 22 wc w.heap.size (fun k_ => some k_ ≠ (v189 : Value).ownBlock ∧ k_ ≠ dmO N209_ k_) (.slice (some ad194) x6_4.length co20) y199) ∧ Aside0 (Kd.S (Kd.slice 3 (Kd.int .i64)) 22 wc w.heap.size (fun k_ => some k_ ≠ ((.slice (some ad194) x6_4.length co20) : Value).ownBlock ∧ k_ ≠ dmI N209_ k_) v189 x7_2) ∧ Aside0 (Below w.heap.size w wc))
                              case first =>
                                have H := HC30.out
                                clear HC30
                                by_cases c33 : x10_4 > 0
                                · rw [if_pos c33] at H
                                  have c33b0 : decide (0 < x10_4) = true := decide_eq_true c33
                                  clear c33
                                  (first | rw [c33b0] | (simp only [i64_w, i32_w]; rw [c33b0]) | skip)
                                  obtain ⟨ji34, hji34⟩ : ∃ j_ : Int, (wrap64 (x10_4 - 1)) = j_ := ⟨_, rfl⟩
                                  replace H : (if 0 ≤ (ji34) then (if (ji34) < (x6_4.length : Int) then (if x9_4 < ((rd_L1 y199 (ji34)).length : Int) then (spec_HooksOfReverse.j5 k4 l0 y199 x7_2 t192 x9_4 x10_4 ((rd (rd_L1 y199 (ji34)) x9_4) == (rd (rd_L1 x6_4 x10_4) x9_4))) else (none)) else (none)) else (none)) = some (r1, r2) := by first | (rw [hji34] at H; exact H) | (simp only [hji34] at H ⊢; exact H)
                                  have hji34w : (IntKind.i64.wrap (x10_4 - 1)) = ji34 := (i64_w _).trans hji34
                                  by_cases c35 : 0 ≤ (ji34)
                                  · rw [if_pos c35] at H
                                    have c35b0 : decide (0 ≤ (ji34)) = true := decide_eq_true c35
                                    clear c35
                                    by_cases c36 : (ji34) < (x6_4.length : Int)
                                    · rw [if_pos c36] at H
                                      have c36b0 : decide ((ji34) < (x6_4.length : Int)) = true := decide_eq_true c36
                                      have c36b0x := c36b0
                                      (try simp only [hl6_4] at c36b0x)
                                      clear c36
                                      by_cases c37 : x9_4 < ((rd_L1 y199 (ji34)).length : Int)
                                      · rw [if_pos c37] at H
                                        have c37b0 : decide (x9_4 < ((rd_L1 y199 (ji34)).length : Int)) = true := decide_eq_true c37
                                        have c37b0x := c37b0
                                        (try simp only [hl6_4] at c37b0x)
                                        clear c37
                                        have H' := Aside0.mk H
                                        clear H
                                        have p200 : 0 ≤ ((ji34) : Int) := of_decide_eq_true (by first | (with_reducible assumption) | assumption)
                                        have q200 : (ji34) < (y199.length : Int) := (by have h_ : ((ji34) : Int) < ((x6_4.length : Int) : Int) := of_decide_eq_true (by first | (with_reducible assumption) | assumption); first | (have e_ := (Kd.S_reads' HO_6.out).1; omega) | simpa only [Ny199.out, List.length_set] using h_)
                                        have ql200 : (((ji34) : Int) < ((x6_4.length : Int) : Int)) = True := eq_true (of_decide_eq_true (by first | (with_reducible assumption) | assumption))
                                        obtain ⟨ad200, A200_0, c200_0, e200, hx200_0, hl200_0, hi200_0⟩ := at_L1 (Kd.S_reads' HO_6.out).2.2 (ji34) p200 q200
                                        obtain rfl : ad194 = ad200 := (by injection e200)
                                        obtain ⟨ce200, hce200, hMe200, hcc200⟩ := Kd.S_get HO_6.out [] (ji34) p200 (by first | exact q200 | exact of_decide_eq_true (by first | (with_reducible assumption) | assumption) | (have e_ := (Kd.S_reads' HO_6.out).1; omega))
                                        obtain ⟨ve200_0, rfl, ge200_0⟩ := hMe200
                                        have hv200_0 := hcc200 0 _ rfl
                                        rw [Nat.add_zero, show ((Kd.slice 3 (Kd.int .i64))).sz = 1 from rfl, Nat.mul_one] at hv200_0
                                        replace hv200_0 := Option.some.inj (hv200_0.symm.trans hx200_0)
                                        rw [hv200_0] at ge200_0
                                        have HL200_0 := Aside0.mk (show Kd.R (Kd.int .i64) 3 _ _ _ _ (rd_L1 y199 (ji34)) from ge200_0)
                                        clear hv200_0 ge200_0
                                        have HX200_0 := Aside0.mk hx200_0
                                        clear hcc200 hce200
                                        have HR200_0 := Aside0.mk hi200_0
                                        have HC200_0 := Aside0.mk hl200_0
                                        clear hi200_0 hl200_0
                                        replace p200 := eq_true p200
                                        replace q200 := eq_true q200
                                        have p201 : 0 ≤ (x9_4 : Int) := of_decide_eq_true (by first | (with_reducible assumption) | assumption)
                                        have q201 : x9_4 < ((rd_L1 y199 (ji34)).length : Int) := of_decide_eq_true (by first | (with_reducible assumption) | assumption)
                                        obtain ⟨ad201, e201, hx201_0⟩ := Kd.at_int (by repeat (first | (with_reducible exact HR200_0.out) | (with_reducible refine Kd.C_alloc ?_ _) | (with_reducible refine Kd.C_drewN ?_ _) | (with_reducible refine Kd.C_drew ?_) | exact HR200_0.out)) x9_4 p201 q201
                                        cases e201
                                        replace p201 := eq_true p201
                                        replace q201 := eq_true q201
                                        go_wp2
                                        go_meet
                                        case rel => exact ⟨_, (((rd (rd_L1 y199 (ji34)) x9_4) == (rd (rd_L1 x6_4 x10_4) x9_4))), (by first | rfl | (simp; done) | (simp only [← hji34] <;> (first | rfl | simp)) | (simp [*]; done)), H', ⟨by have := HJ2.out; have := HK2.out; have := HJ18.out; have := HK4.out; first | omega | exact Nat.le_refl _⟩, ⟨by (try simp only [hl6_4]); (with_reducible repeat (first | apply Kd.S_alloc | apply Kd.S_drewN | apply Kd.S_drew)); first | exact HO_6.out | exact Kd.S_mono HO_6.out xi⟩, ⟨by (try simp only [hl6_4]); (with_reducible repeat (first | apply Kd.S_alloc | apply Kd.S_drewN | apply Kd.S_drew)); first | exact HO_7.out | exact Kd.S_mono HO_7.out xi⟩, ⟨by repeat (first | (with_reducible first | exact HB.out | apply below_alloc | apply pw_below_drewN | apply below_drew1) | exact HB.out)⟩⟩
                                      · rw [if_neg c37] at H
                                        exact absurd H (by simp)
                                    · rw [if_neg c36] at H
                                      exact absurd H (by simp)
                                  · rw [if_neg c35] at H
                                    exact absurd H (by simp)
                                · rw [if_neg c33] at H
                                  have c33b0 : decide (0 < x10_4) = false := decide_eq_false c33
                                  clear c33
                                  (first | rw [c33b0] | (simp only [i64_w, i32_w]; rw [c33b0]) | skip)
                                  have H' := Aside0.mk H
                                  clear H
                                  go_wp2
                                  go_meet
                                  case rel => exact ⟨_, (false), (by first | rfl | (simp; done) | (simp [*]; done)), H', ⟨by have := HJ2.out; have := HK2.out; have := HJ18.out; have := HK4.out; first | omega | exact Nat.le_refl _⟩, ⟨by (try simp only [hl6_4]); (with_reducible repeat (first | apply Kd.S_alloc | apply Kd.S_drewN | apply Kd.S_drew)); first | exact HO_6.out | exact Kd.S_mono HO_6.out xi⟩, ⟨by (try simp only [hl6_4]); (with_reducible repeat (first | apply Kd.S_alloc | apply Kd.S_drewN | apply Kd.S_drew)); first | exact HO_7.out | exact Kd.S_mono HO_7.out xi⟩, ⟨by repeat (first | (with_reducible first | exact HB.out | apply below_alloc | apply pw_below_drewN | apply below_drew1) | exact HB.out)⟩⟩
                              case rest =>
                                clear HC30
                                try clear c1
                                try clear p1
                                try clear q1
                                try clear hx1
                                try clear c2
                                try clear p2
                                try clear q2
                                try clear hx2
                                try clear hf2
                                try clear c3
                                try clear q3
                                try clear c5
                                try clear p6
                                try clear c9
                                try clear c15
                                try clear c17
                                try clear c17b0
                                try clear c19
                                try clear p19
                                try clear q19
                                try clear hx19
                                try clear c20
                                try clear p20
                                try clear q20
                                try clear hx20
                                try clear c21
                                try clear c21b0
                                try clear c23
                                try clear c23b0
                                try clear c24
                                try clear c24b0
                                try clear c25
                                try clear c25b0
                                try clear c26
                                try clear c26b0
                                try clear c27
                                try clear c27b0
                                try clear c28
                                try clear c28b0
                                try clear p29
                                try clear q29
                                try clear hx29
                                try clear hf29
                                try clear c30
                                try clear c31
                                try clear q31
                                try clear c32
                                try clear c33
                                try clear c33b0
                                try clear c35
                                try clear c35b0
                                try clear c36
                                try clear c36b0
                                try clear c37
                                try clear c37b0
                                try clear hx193_0
                                try clear hx194_0
                                try clear hx195_0
                                try clear hx196_0
                                try clear hx200_0
                                try clear hx201_0
                                try clear hx29_0
                                try clear p1
                                try clear p19
                                try clear p193
                                try clear p194
                                try clear p195
                                try clear p196
                                try clear p2
                                try clear p200
                                try clear p201
                                try clear p29
                                try clear p6
                                try clear q1
                                try clear q19
                                try clear q193
                                try clear q194
                                try clear q195
                                try clear q196
                                try clear q200
                                try clear q201
                                try clear q29
                                obtain ⟨kq, x77_29, rfl, HA, HJ29, HO_6, HO_7, HB⟩ := hcut
                                have hl6_29 := (Kd.S_reads' HO_6.out).1
                                rw [hl6_29] at HO_6
                                (try simp only [hl6_29])
                                (try simp only [hl6_29] at HO_7)
                                cases kq with
                                | zero => exact absurd HA.out (by simp [spec_HooksOfReverse.j5])
                                | succ kj29 =>
                                  have H := HA.out
                                  clear HA
                                  simp only [spec_HooksOfReverse.j5] at H
                                  by_cases c38 : x77_29 = true
                                  · subst c38
                                    have H1 : (spec_HooksOfReverse.l2 kj29 l0 y199 x7_2 t192 x9_4 (wrap64 (x10_4 - 1))) = some (r1, r2) := by rw [if_pos rfl] at H; exact H
                                    clear H
                                    have H := H1
                                    clear H1
                                    have H' := Aside0.mk H
                                    clear H
                                    go_wp2
                                    (try simp only [← hl6_4, ← hl6_29])
                                    go_roundg kj29
                                    case measure => have := HJ2.out; have := HK2.out; have := HJ18.out; have := HK4.out; have := HJ29.out; omega
                                    case rel => exact ⟨(y199), (x9_4), (wrap64 (x10_4 - 1)), (by first | rfl | (simp; done) | (simp [*]; done)), (by first | rfl | (simp; done) | (simp [*]; done)), H', ⟨by have := HJ2.out; have := HK2.out; have := HJ18.out; have := HK4.out; have := HJ29.out; omega⟩, ⟨by (try simp only [hl6_4]); (try simp only [hl6_29]); (with_reducible repeat (first | apply Kd.S_alloc | apply Kd.S_drewN | apply Kd.S_drew)); first | exact HO_6.out | exact Kd.S_mono HO_6.out xi⟩, ⟨by (try simp only [hl6_4]); (try simp only [hl6_29]); (with_reducible repeat (first | apply Kd.S_alloc | apply Kd.S_drewN | apply Kd.S_drew)); first | exact HO_7.out | exact Kd.S_mono HO_7.out xi⟩, ⟨by repeat (first | (with_reducible first | exact HB.out | apply below_alloc | apply pw_below_drewN | apply below_drew1) | exact HB.out)⟩⟩
                                  · replace c38 := Bool.eq_false_iff.mpr c38
                                    subst c38
                                    have H1 : (if 0 ≤ x10_4 then (if x10_4 < (l0.length : Int) then (if (wrap64 (x9_4 + 1)) ≥ (rd l0 x10_4) then (if x10_4 < (x7_2.length : Int) then (if 0 ≤ t192 then (if t192 < ((rd_L1 x7_2 x10_4).length : Int) then (spec_HooksOfReverse.l0 kj29 l0 y199 (x7_2.set (x10_4 : Int).toNat ((rd_L1 x7_2 x10_4).set (t192 : Int).toNat (wrap64 ((rd (rd_L1 x7_2 x10_4) t192) + 1))))) else (none)) else (none)) else (none)) else (spec_HooksOfReverse.l2 kj29 l0 y199 x7_2 t192 (wrap64 (x9_4 + 1)) x10_4)) else (none)) else (none)) = some (r1, r2) := by rw [if_neg (show ¬ (false = true) by decide)] at H; exact H
                                    clear H
                                    have H := H1
                                    clear H1
                                    by_cases c39 : 0 ≤ x10_4
                                    · rw [if_pos c39] at H
                                      have c39b0 : decide (0 ≤ x10_4) = true := decide_eq_true c39
                                      clear c39
                                      by_cases c40 : x10_4 < (l0.length : Int)
                                      · rw [if_pos c40] at H
                                        have c40b0 : decide (x10_4 < (l0.length : Int)) = true := decide_eq_true c40
                                        have c40b0x := c40b0
                                        (try simp only [hl6_4, hl6_29] at c40b0x)
                                        clear c40
                                        by_cases c41 : (wrap64 (x9_4 + 1)) ≥ (rd l0 x10_4)
                                        · rw [if_pos c41] at H
                                          have c41b0 : decide ((rd l0 x10_4) ≤ (wrap64 (x9_4 + 1))) = true := decide_eq_true c41
                                          clear c41
                                          by_cases c42 : x10_4 < (x7_2.length : Int)
                                          · rw [if_pos c42] at H
                                            have c42b0 : decide (x10_4 < (x7_2.length : Int)) = true := decide_eq_true c42
                                            have c42b0x := c42b0
                                            (try simp only [hl6_4, hl6_29] at c42b0x)
                                            clear c42
                                            by_cases c43 : 0 ≤ t192
                                            · rw [if_pos c43] at H
                                              have c43b0 : decide (0 ≤ t192) = true := decide_eq_true c43
                                              clear c43
                                              by_cases c44 : t192 < ((rd_L1 x7_2 x10_4).length : Int)
                                              · rw [if_pos c44] at H
                                                have c44b0 : decide (t192 < ((rd_L1 x7_2 x10_4).length : Int)) = true := decide_eq_true c44
                                                have c44b0x := c44b0
                                                (try simp only [hl6_4, hl6_29] at c44b0x)
                                                clear c44
                                                obtain ⟨y206, hy206⟩ : ∃ y_ : List Int, y_ = ((rd_L1 x7_2 x10_4).set (t192 : Int).toNat (wrap64 ((rd (rd_L1 x7_2 x10_4) t192) + 1))) := ⟨_, rfl⟩
                                                replace H : (spec_HooksOfReverse.l0 kj29 l0 y199 (x7_2.set (x10_4 : Int).toNat y206)) = some (r1, r2) := by first | (rw [hy206]; with_reducible exact H) | (have H2_ := (Option.bind_some _ _).symm.trans H; rw [hy206]; with_reducible exact H2_) | (have H2_ := (Option.bind_some _ _).symm.trans H; with_reducible exact H2_) | with_reducible exact H | (rw [hy206]; exact H) | exact H
                                                have Ny206 := Aside0.mk hy206
                                                clear hy206
                                                obtain ⟨y208, hy208⟩ : ∃ y_ : List (List Int), y_ = (x7_2.set (x10_4 : Int).toNat y206) := ⟨_, rfl⟩
                                                replace H : (spec_HooksOfReverse.l0 kj29 l0 y199 y208) = some (r1, r2) := by first | (rw [hy208]; with_reducible exact H) | (have H2_ := (Option.bind_some _ _).symm.trans H; rw [hy208]; with_reducible exact H2_) | (have H2_ := (Option.bind_some _ _).symm.trans H; with_reducible exact H2_) | with_reducible exact H | (rw [hy208]; exact H) | exact H
                                                have Ny208 := Aside0.mk hy208
                                                clear hy208
                                                have H' := Aside0.mk H
                                                clear H
                                                have p202 : 0 ≤ (x10_4 : Int) := of_decide_eq_true (by first | (with_reducible assumption) | assumption)
                                                have q202 : x10_4 < (l0.length : Int) := of_decide_eq_true (by first | (with_reducible assumption) | assumption)
                                                obtain ⟨ad202, e202, hx202_0⟩ := Kd.at_int HR0.out x10_4 p202 q202
                                                cases e202
                                                (try replace hx202_0 := (HB.out.cell (World.block_lt_of_cell? w _ hx202_0)).trans hx202_0)
                                                replace p202 := eq_true p202
                                                replace q202 := eq_true q202
                                                try go_wp2
                                                have n0_ := Aside0.mk (Kd.S_drew HO_6.out)
                                                have n1_ := Aside0.mk (Kd.S_drew HO_7.out)
                                                have n2_ := Aside0.mk (below_drew1 HB.out)
                                                clear HO_6
                                                clear HO_7
                                                clear HB
                                                have HO_6 := n0_
                                                have HO_7 := n1_
                                                have HB := n2_
                                                clear n0_ n1_ n2_
                                                obtain ⟨Ao47, co47, eo47⟩ := Kd.S_slice HO_7.out
                                                (first | subst eo47 | (injection eo47 with f1_ f2_ f3_; have f4_ := f1_.symm; have f5_ := f3_.symm; clear f1_ f2_ f3_; subst f4_; subst f5_))
                                                have p203 : 0 ≤ (x10_4 : Int) := of_decide_eq_true (by first | (with_reducible assumption) | assumption)
                                                have q203 : x10_4 < (x7_2.length : Int) := of_decide_eq_true (by first | (with_reducible assumption) | assumption)
                                                obtain ⟨ad203, A203_0, c203_0, e203, hx203_0, hl203_0, hi203_0⟩ := at_L1 (Kd.S_reads' HO_7.out).2.2 x10_4 p203 q203
                                                cases e203
                                                obtain ⟨ce203, hce203, hMe203, hcc203⟩ := Kd.S_get HO_7.out [] x10_4 p203 (by first | exact q203 | exact of_decide_eq_true (by first | (with_reducible assumption) | assumption) | (have e_ := (Kd.S_reads' HO_7.out).1; omega))
                                                obtain ⟨ve203_0, rfl, ge203_0⟩ := hMe203
                                                have hv203_0 := hcc203 0 _ rfl
                                                rw [Nat.add_zero, show ((Kd.slice 3 (Kd.int .i64))).sz = 1 from rfl, Nat.mul_one] at hv203_0
                                                replace hv203_0 := Option.some.inj (hv203_0.symm.trans hx203_0)
                                                rw [hv203_0] at ge203_0
                                                have HL203_0 := Aside0.mk (show Kd.R (Kd.int .i64) 3 _ _ _ _ (rd_L1 x7_2 x10_4) from ge203_0)
                                                clear hv203_0 ge203_0
                                                have HX203_0 := Aside0.mk hx203_0
                                                clear hcc203 hce203
                                                have HR203_0 := Aside0.mk hi203_0
                                                have HC203_0 := Aside0.mk hl203_0
                                                clear hi203_0 hl203_0
                                                replace p203 := eq_true p203
                                                replace q203 := eq_true q203
                                                have p204 : 0 ≤ (x10_4 : Int) := of_decide_eq_true (by first | (with_reducible assumption) | assumption)
                                                have q204 : x10_4 < (x7_2.length : Int) := of_decide_eq_true (by first | (with_reducible assumption) | assumption)
                                                obtain ⟨ad204, A204_0, c204_0, e204, hx204_0, hl204_0, hi204_0⟩ := at_L1 (Kd.S_reads' HO_7.out).2.2 x10_4 p204 q204
                                                obtain rfl : ad203 = ad204 := (by injection e204)
                                                obtain ⟨ce204, hce204, hMe204, hcc204⟩ := Kd.S_get HO_7.out [] x10_4 p204 (by first | exact q204 | exact of_decide_eq_true (by first | (with_reducible assumption) | assumption) | (have e_ := (Kd.S_reads' HO_7.out).1; omega))
                                                obtain ⟨ve204_0, rfl, ge204_0⟩ := hMe204
                                                have hv204_0 := hcc204 0 _ rfl
                                                rw [Nat.add_zero, show ((Kd.slice 3 (Kd.int .i64))).sz = 1 from rfl, Nat.mul_one] at hv204_0
                                                replace hv204_0 := Option.some.inj (hv204_0.symm.trans hx204_0)
                                                rw [hv204_0] at ge204_0
                                                have HL204_0 := Aside0.mk (show Kd.R (Kd.int .i64) 3 _ _ _ _ (rd_L1 x7_2 x10_4) from ge204_0)
                                                clear hv204_0 ge204_0
                                                have HX204_0 := Aside0.mk hx204_0
                                                clear hcc204 hce204
                                                have HR204_0 := Aside0.mk hi204_0
                                                have HC204_0 := Aside0.mk hl204_0
                                                clear hi204_0 hl204_0
                                                replace p204 := eq_true p204
                                                replace q204 := eq_true q204
                                                have ea_ := Option.some.inj (hx203_0.symm.trans hx204_0)
                                                injection ea_ with ea_ en_ ec_
                                                subst ea_
                                                subst ec_
                                                clear en_
                                                have p205 : 0 ≤ (t192 : Int) := of_decide_eq_true (by first | (with_reducible assumption) | assumption)
                                                have q205 : t192 < ((rd_L1 x7_2 x10_4).length : Int) := of_decide_eq_true (by first | (with_reducible assumption) | assumption)
                                                obtain ⟨ad205, e205, hx205_0⟩ := Kd.at_int (by repeat (first | (with_reducible exact HR204_0.out) | (with_reducible refine Kd.C_alloc ?_ _) | (with_reducible refine Kd.C_drewN ?_ _) | (with_reducible refine Kd.C_drew ?_) | exact HR204_0.out)) t192 p205 q205
                                                cases e205
                                                replace p205 := eq_true p205
                                                replace q205 := eq_true q205
                                                have p45 : 0 ≤ (t192 : Int) := of_decide_eq_true (by first | (with_reducible assumption) | assumption)
                                                have q45 : (t192 : Int) < (((rd_L1 x7_2 x10_4).length : Int) : Int) := of_decide_eq_true (by first | (with_reducible assumption) | assumption)
                                                obtain ⟨go45, co45, eo45, gb45, gl45, cl45, HG45⟩ := Kd.R_form HL203_0.out (by omega)
                                                (first | cases eo45 | (injection eo45 with ea_ en_ ec_; (first | subst ea_ | (injection ea_ with ea_; subst ea_)); subst ec_; clear en_))
                                                have GB45 := Aside0.mk gb45
                                                have GG45 := Aside0.mk HG45
                                                clear gb45 gl45 HG45
                                                (first | simp only [add_plain] at hx205_0 | skip)
                                                obtain ⟨hx45_0, hf45_0⟩ := Kd.R_celln 0 HL203_0.out (t192 : Int) p45 q45
                                                replace p45 := eq_true p45
                                                replace q45 := eq_true q45
                                                have hq48 : (x10_4 : Int) < (x7_2.length : Int) := (by have h_ : (x10_4 : Int) < ((x7_2.length : Int) : Int) := of_decide_eq_true (by first | (with_reducible assumption) | assumption); first | exact h_ | (have e_ := (Kd.S_reads' HO_7.out).1; omega) | simpa only [List.length_set, List.length_set] using h_)
                                                obtain ⟨oki48, ce48, hcl48, hM48, hcc48, hok48, hbk48⟩ := Kd.S_borrow HO_7.out [] (x10_4 : Int) (of_decide_eq_true (by first | (with_reducible assumption) | assumption)) hq48
                                                obtain ⟨ve48_0, rfl, ge48_0⟩ := hM48
                                                have hv48 := hcc48 0 _ rfl
                                                rw [Nat.add_zero, show ((Kd.slice 3 (Kd.int .i64))).sz = 1 from rfl, Nat.mul_one] at hv48
                                                replace hv48 := Option.some.inj (hv48.symm.trans HX203_0.out)
                                                subst hv48
                                                clear hcc48 hcl48
                                                replace ge48_0 := (show Kd.R (Kd.int .i64) 3 _ _ _ _ (rd_L1 x7_2 x10_4) from ge48_0)
                                                have HP48 := Kd.R_putg ge48_0 (t192 : Int) (wrap64 ((rd (rd_L1 x7_2 x10_4) t192) + 1))
                                                rw [← Ny206.out] at HP48
                                                have HS48 := hbk48 HP48.2 (fun k_ e_ => by injection e_ with e_; subst e_; exact ge48_0.1 _ rfl) (x' := y206) (Kd.M_row HP48.1)
                                                rw [← Ny208.out] at HS48
                                                have HQ48 := Aside0.mk HS48
                                                clear HP48 HS48 hbk48 hok48
                                                refine start_ (n := 15) (S := fun w' => w'.cell? (ad203.add (x10_4).toNat) = some (.slice (some ⟨go45, 0, none⟩) (rd_L1 x7_2 x10_4).length c203_0) ∧ w'.cell? (ad203.add (x10_4).toNat) = some (.slice (some ⟨go45, 0, none⟩) (rd_L1 x7_2 x10_4).length c203_0) ∧ w'.cell? ⟨go45, (t192).toNat, none⟩ = some (.int .i64 (rd (rd_L1 x7_2 x10_4) t192))) (ds := [14]) #[false, false, false, false, false, false, false, false, false, false, false, false, false, false, false] (by kernel_rfl) rfl rfl ⟨hx203_0, hx204_0, hx205_0⟩ (fun hHeld => ?_); refine with_tabW spec_HooksOfReverse.tab17 spec_HooksOfReverse.bits17 (fun HT_ HW_ => ?_)
                                                generalize wc.drew = w46 at HO_6 HO_7 HB GG45 HL203_0 HL204_0 HQ48 HR203_0 HR204_0 HX203_0 HX204_0 hf45_0 hx203_0 hx204_0 hx205_0 hx45_0 hHeld ⊢
                                                refine pure_ (i := 0) (N := some 89) (v := ?_) (a' := ?_) #[true, false, false, false, false, false, false, false, false, false, false, false, false, false, false] rfl rfl (any_of HT_.out (by kernel_rfl)) (fun _ _ _ h => h) (Or.inl ⟨by rfl, ?_⟩) ?_ ?_
                                                rotate_left
                                                · intro w'
                                                  go_simp
                                                  with_reducible rfl
                                                rotate_left
                                                · simp only [Act.put, List.setIfInBounds_toArray, List.set_cons_zero, List.set_cons_succ, i64_w, i32_w]
                                                  rfl
                                                refine pure_ (i := 1) (N := some 90) (v := ?_) (a' := ?_) #[true, true, false, false, false, false, false, false, false, false, false, false, false, false, false] rfl rfl (any_of HT_.out (by kernel_rfl)) (fun _ _ _ h => h) (Or.inl ⟨by rfl, ?_⟩) ?_ ?_
                                                rotate_left
                                                · intro w'
                                                  go_simp
                                                  with_reducible rfl
                                                rotate_left
                                                · simp only [Act.put, List.setIfInBounds_toArray, List.set_cons_zero, List.set_cons_succ, i64_w, i32_w]
                                                  rfl
                                                refine pure_ (i := 2) (N := some 91) (v := ?_) (a' := ?_) #[true, true, true, false, false, false, false, false, false, false, false, false, false, false, false] rfl rfl (any_of HT_.out (by kernel_rfl)) (fun _ _ _ h => h) (Or.inl ⟨by rfl, ?_⟩) ?_ ?_
                                                rotate_left
                                                · intro w'
                                                  go_simp
                                                  with_reducible rfl
                                                rotate_left
                                                · simp only [Act.put, List.setIfInBounds_toArray, List.set_cons_zero, List.set_cons_succ, i64_w, i32_w]
                                                  rfl
                                                refine pure_ (i := 4) (N := some 93) (v := ?_) (a' := ?_) #[true, true, true, false, true, false, false, false, false, false, false, false, false, false, false] rfl rfl (any_of HT_.out (by kernel_rfl)) (fun _ _ _ h => h) (Or.inl ⟨by rfl, ?_⟩) ?_ ?_
                                                rotate_left
                                                · intro w'
                                                  go_simp
                                                  with_reducible rfl
                                                rotate_left
                                                · simp only [Act.put, List.setIfInBounds_toArray, List.set_cons_zero, List.set_cons_succ, i64_w, i32_w]
                                                  rfl
                                                refine pure_ (i := 5) (N := some 94) (v := ?_) (a' := ?_) #[true, true, true, false, true, true, false, false, false, false, false, false, false, false, false] rfl rfl (any_of HT_.out (by kernel_rfl)) (fun _ _ _ h => h) (Or.inl ⟨by rfl, ?_⟩) ?_ ?_
                                                rotate_left
                                                · intro w'
                                                  go_simp
                                                  with_reducible rfl
                                                rotate_left
                                                · simp only [Act.put, List.setIfInBounds_toArray, List.set_cons_zero, List.set_cons_succ, i64_w, i32_w]
                                                  rfl
                                                refine pure_ (i := 6) (N := some 95) (v := ?_) (a' := ?_) #[true, true, true, false, true, true, true, false, false, false, false, false, false, false, false] rfl rfl (any_of HT_.out (by kernel_rfl)) (fun _ _ _ h => h) (Or.inl ⟨by rfl, ?_⟩) ?_ ?_
                                                rotate_left
                                                · intro w'
                                                  go_simp
                                                  with_reducible rfl
                                                rotate_left
                                                · simp only [Act.put, List.setIfInBounds_toArray, List.set_cons_zero, List.set_cons_succ, i64_w, i32_w]
                                                  rfl
                                                refine pure_ (i := 7) (N := some 96) (v := ?_) (a' := ?_) #[true, true, true, false, true, true, true, true, false, false, false, false, false, false, false] rfl rfl (any_of HT_.out (by kernel_rfl)) (fun _ _ _ h => h) (Or.inl ⟨by rfl, ?_⟩) ?_ ?_
                                                rotate_left
                                                · intro w'
                                                  go_simp
                                                  with_reducible rfl
                                                rotate_left
                                                · simp only [Act.put, List.setIfInBounds_toArray, List.set_cons_zero, List.set_cons_succ, i64_w, i32_w]
                                                  rfl
                                                refine pure_ (i := 9) (N := some 98) (v := ?_) (a' := ?_) #[true, true, true, false, true, true, true, true, false, true, false, false, false, false, false] rfl rfl (any_of HT_.out (by kernel_rfl)) (fun _ _ _ h => h) (Or.inl ⟨by rfl, ?_⟩) ?_ ?_
                                                rotate_left
                                                · intro w'
                                                  go_simp
                                                  with_reducible rfl
                                                rotate_left
                                                · simp only [Act.put, List.setIfInBounds_toArray, List.set_cons_zero, List.set_cons_succ, i64_w, i32_w]
                                                  rfl
                                                refine take_ (i := 3) (N := some 92) (v := ?_) (a' := ?_) #[true, true, true, true, true, true, true, true, false, true, false, false, false, false, false] rfl rfl (take_ofW HT_.out HW_.out (by kernel_rfl)) (fun _ _ _ h => h) (Or.inl ⟨by rfl, ?_⟩) hHeld ?_ ?_
                                                rotate_left
                                                · rintro w' ⟨s0, s1, s2⟩
                                                  go_simp
                                                  with_reducible rfl
                                                rotate_left
                                                · simp only [Act.put, List.setIfInBounds_toArray, List.set_cons_zero, List.set_cons_succ, i64_w, i32_w]
                                                  rfl
                                                refine take_ (i := 8) (N := some 97) (v := ?_) (a' := ?_) #[true, true, true, true, true, true, true, true, true, true, false, false, false, false, false] rfl rfl (take_ofW HT_.out HW_.out (by kernel_rfl)) (fun _ _ _ h => h) (Or.inl ⟨by rfl, ?_⟩) hHeld ?_ ?_
                                                rotate_left
                                                · rintro w' ⟨s0, s1, s2⟩
                                                  go_simp
                                                  with_reducible rfl
                                                rotate_left
                                                · simp only [Act.put, List.setIfInBounds_toArray, List.set_cons_zero, List.set_cons_succ, i64_w, i32_w]
                                                  rfl
                                                refine pure_ (i := 10) (N := some 99) (v := ?_) (a' := ?_) #[true, true, true, true, true, true, true, true, true, true, true, false, false, false, false] rfl rfl (any_of HT_.out (by kernel_rfl)) (fun _ _ _ h => h) (Or.inl ⟨by rfl, ?_⟩) ?_ ?_
                                                rotate_left
                                                · intro w'
                                                  go_simp
                                                  with_reducible rfl
                                                rotate_left
                                                · simp only [Act.put, List.setIfInBounds_toArray, List.set_cons_zero, List.set_cons_succ, i64_w, i32_w]
                                                  rfl
                                                refine take_ (i := 11) (N := some 100) (v := ?_) (a' := ?_) #[true, true, true, true, true, true, true, true, true, true, true, true, false, false, false] rfl rfl (take_ofW HT_.out HW_.out (by kernel_rfl)) (fun _ _ _ h => h) (Or.inl ⟨by rfl, ?_⟩) hHeld ?_ ?_
                                                rotate_left
                                                · rintro w' ⟨s0, s1, s2⟩
                                                  go_simp
                                                  with_reducible rfl
                                                rotate_left
                                                · simp only [Act.put, List.setIfInBounds_toArray, List.set_cons_zero, List.set_cons_succ, i64_w, i32_w]
                                                  rfl
                                                refine pure_ (i := 12) (N := some 101) (v := ?_) (a' := ?_) #[true, true, true, true, true, true, true, true, true, true, true, true, true, false, false] rfl rfl (any_of HT_.out (by kernel_rfl)) (fun _ _ _ h => h) (Or.inl ⟨by rfl, ?_⟩) ?_ ?_
                                                rotate_left
                                                · intro w'
                                                  go_simp
                                                  with_reducible rfl
                                                rotate_left
                                                · simp only [Act.put, List.setIfInBounds_toArray, List.set_cons_zero, List.set_cons_succ, i64_w, i32_w]
                                                  rfl
                                                refine pure_ (i := 13) (N := some 102) (v := ?_) (a' := ?_) #[true, true, true, true, true, true, true, true, true, true, true, true, true, true, false] rfl rfl (any_of HT_.out (by kernel_rfl)) (fun _ _ _ h => h) (Or.inl ⟨by rfl, ?_⟩) ?_ ?_
                                                rotate_left
                                                · intro w'
                                                  go_simp
                                                  with_reducible rfl
                                                rotate_left
                                                · simp only [Act.put, List.setIfInBounds_toArray, List.set_cons_zero, List.set_cons_succ, i64_w, i32_w]
                                                  rfl
                                                refine last_ (i := 14) (N := none) #[true, true, true, true, true, true, true, true, true, true, true, true, true, true, true] rfl rfl (one_of HT_.out (by kernel_rfl)) (by decide) (fun K hK => ?_)
                                                refine skip_ (w1 := ?_) (by rfl) rfl ?_ ?_
                                                rotate_left
                                                · go_simp
                                                  rfl
                                                refine hK.out _ _ ?_
                                                clear hK K
                                                refine done_ (done_of HT_.out (by kernel_rfl)) ?_
                                                try go_wp2
                                                (try simp only [← hl6_4, ← hl6_29])
                                                go_roundg kj29
                                                case measure => have := HJ2.out; have := HK2.out; have := HJ18.out; have := HK4.out; have := HJ29.out; omega
                                                case rel => exact ⟨(y199), (y208), H', ⟨by have := HJ2.out; have := HK2.out; have := HJ18.out; have := HK4.out; have := HJ29.out; omega⟩, ⟨by (try simp only [hl6_4]); (try simp only [hl6_29]); (with_reducible repeat (first | apply Kd.S_alloc | apply Kd.S_drewN | apply Kd.S_drew)); exact Kd.S_mono (Kd.S_far (p := ⟨go45, (t192 : Int).toNat, none⟩) (Kd.S_mono HO_6.out (fun k_ hk => (⟨hk, fun e_ => (by subst e_; exact dmNo ((HL203_0.out.1 _ rfl).1.2) hk.2)⟩ : _ ∧ k_ ≠ go45))) (fun _ hk => hk.2) (.int .i64 (wrap64 ((rd (rd_L1 x7_2 x10_4) t192) + 1)))) (fun _ hk => ⟨hk.1.1, hk.1.2⟩)⟩, ⟨by (try simp only [hl6_4]); (try simp only [hl6_29]); (with_reducible repeat (first | apply Kd.S_alloc | apply Kd.S_drewN | apply Kd.S_drew)); exact HQ48.out⟩, ⟨by repeat (first | (with_reducible first | exact HB.out | apply below_alloc | apply pw_below_drewN | apply below_drew1 | refine below_set ?_ GB45.out) | exact HB.out)⟩⟩
                                              · rw [if_neg c44] at H
                                                exact absurd H (by simp)
                                            · rw [if_neg c43] at H
                                              exact absurd H (by simp)
                                          · rw [if_neg c42] at H
                                            exact absurd H (by simp)
                                        · rw [if_neg c41] at H
                                          have c41b0 : decide ((rd l0 x10_4) ≤ (wrap64 (x9_4 + 1))) = false := decide_eq_false c41
                                          clear c41
                                          have H' := Aside0.mk H
                                          clear H
                                          have p202 : 0 ≤ (x10_4 : Int) := of_decide_eq_true (by first | (with_reducible assumption) | assumption)
                                          have q202 : x10_4 < (l0.length : Int) := of_decide_eq_true (by first | (with_reducible assumption) | assumption)
                                          obtain ⟨ad202, e202, hx202_0⟩ := Kd.at_int HR0.out x10_4 p202 q202
                                          cases e202
                                          (try replace hx202_0 := (HB.out.cell (World.block_lt_of_cell? w _ hx202_0)).trans hx202_0)
                                          replace p202 := eq_true p202
                                          replace q202 := eq_true q202
                                          go_wp2
                                          (try simp only [← hl6_4, ← hl6_29])
                                          go_roundg kj29
                                          case measure => have := HJ2.out; have := HK2.out; have := HJ18.out; have := HK4.out; have := HJ29.out; omega
                                          case rel => exact ⟨(y199), (wrap64 (x9_4 + 1)), (x10_4), (by first | rfl | (simp; done) | (simp [*]; done)), (by first | rfl | (simp; done) | (simp [*]; done)), H', ⟨by have := HJ2.out; have := HK2.out; have := HJ18.out; have := HK4.out; have := HJ29.out; omega⟩, ⟨by (try simp only [hl6_4]); (try simp only [hl6_29]); (with_reducible repeat (first | apply Kd.S_alloc | apply Kd.S_drewN | apply Kd.S_drew)); first | exact HO_6.out | exact Kd.S_mono HO_6.out xi⟩, ⟨by (try simp only [hl6_4]); (try simp only [hl6_29]); (with_reducible repeat (first | apply Kd.S_alloc | apply Kd.S_drewN | apply Kd.S_drew)); first | exact HO_7.out | exact Kd.S_mono HO_7.out xi⟩, ⟨by repeat (first | (with_reducible first | exact HB.out | apply below_alloc | apply pw_below_drewN | apply below_drew1) | exact HB.out)⟩⟩
                                      · rw [if_neg c40] at H
                                        exact absurd H (by simp)
                                    · rw [if_neg c39] at H
                                      exact absurd H (by simp)
                            · rw [if_neg c28] at H
                              exact absurd H (by simp)
                          · rw [if_neg c27] at H
                            exact absurd H (by simp)
                        · rw [if_neg c26] at H
                          exact absurd H (by simp)
                      · rw [if_neg c25] at H
                        exact absurd H (by simp)
            · rw [if_neg c17] at H
              have c17b0 : decide (0 < t191) = false := decide_eq_false c17
              clear c17
              simp only [Option.some.injEq, Prod.mk.injEq] at H
              obtain ⟨rfl, rfl⟩ := H
              obtain ⟨Ao50, co50, eo50⟩ := Kd.S_slice HO_6.out
              subst eo50
              go_wp2_with (first | ((with_reducible refine gate_callee (f := 31) rfl ?_); refine goesL_ (some 27) rfl rfl Try.func31 (by kernel_rfl) rfl #[.slice Ao50 x6_2.length co50] rfl xm ?_; (with_reducible refine (spec_l27Total.calls k2 _ _ x6_2 t191 _ ?side1 ?side2 A16.out).mono ?_); (case side1 => repeat (first | exact (Kd.S_reads' HO_6.out).2.2 | (with_reducible refine Kd.C_alloc ?_ _) | (with_reducible refine Kd.C_drewN ?_ _) | (with_reducible refine Kd.C_drew ?_))); (case side2 => exact (Kd.S_reads' HO_6.out).2.1); rintro e w' ⟨rfl, ⟨nd, rfl⟩⟩; refine ⟨_, rfl, ?_⟩))
              go_ret2
              exact ⟨_, by first | rfl | (simp [errW_none, errW_some] <;> rfl) | (simp [*, errW_none, errW_some] <;> rfl), by (with_reducible repeat (first | apply Kd.S_alloc | apply Kd.S_drewN | apply Kd.S_drew)); exact Kd.S_mono HO_7.out (fun _ hk => trivial), by repeat (first | (with_reducible first | exact HB.out | apply below_alloc | apply pw_below_drewN | apply below_drew1) | exact HB.out)⟩

end Go.Proofs.Ytnmndjpkfcnaoaa.PFnExactHooksOfReverse
