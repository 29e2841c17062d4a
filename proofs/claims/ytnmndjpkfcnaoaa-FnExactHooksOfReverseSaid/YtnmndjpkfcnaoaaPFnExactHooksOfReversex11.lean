-- Written by a program of this session (wip/print/xprint.py).
import Derived.Test.YtnmndjpkfcnaoaaPFnExactHooksOfReversex0
import Derived.Test.YtnmndjpkfcnaoaaPFnExactHooksOfReversex8
import Derived.Test.YtnmndjpkfcnaoaaPFnExactHooksOfReversex9
import Derived.Test.YtnmndjpkfcnaoaaPFnExactHooksOfReversex10
namespace Go.Proofs.Ytnmndjpkfcnaoaa.PFnExactHooksOfReverse
open Go.RowKit Go.Proofs.YtnmndjpkfcnaoaaW.PrintWords Go.Proofs.YtnmndjpkfcnaoaaW.PrintLast Go.Proofs.YtnmndjpkfcnaoaaW.PrintMore
attribute [local go_sem] max2_int min2_int max_two min_two max_three min_three max_four min_four   -- for this text's walks alone
set_option linter.unusedVariables false
set_option linter.unusedSimpArgs false

/-! ### impl_HooksOfReverse: function 16 -/
mutual
def impl_HooksOfReverse.j0 : Nat → List Int → List (List Int) → Bool → Option ((List (List Int)) × Bool)
  | 0, _, _, _ => none
  | k + 1, x0, x1, x24 => if x24 = true then (some (([] : List (List Int)), false)) else ((impl_zeros.f k x0).bind fun t258 => ((impl_zeros.f k x0).bind fun t261 => (impl_HooksOfReverse.l0 k x0 t258 t261 x1 (x1.length : Int) 0)))
def impl_HooksOfReverse.l0 : Nat → List Int → List (List Int) → List (List Int) → List (List Int) → Int → Int → Option ((List (List Int)) × Bool)
  | 0, _, _, _, _, _, _ => none
  | k + 1, x0, x6, x7, x29, x30, x31 => if x31 < x30 then (if 0 ≤ x31 then (if x31 < (x29.length : Int) then (if x31 < (x6.length : Int) then (impl_HooksOfReverse.l0 k x0 (x6.set (x31 : Int).toNat (xcp (rd_L1 x6 x31) (rd_L1 x29 x31))) x7 x29 x30 (wrap64 (x31 + 1))) else (none)) else (none)) else (none)) else ((impl_start.f k x6).bind fun bt269 => (impl_HooksOfReverse.l1 k x0 x6 x7 bt269.1 bt269.2))
def impl_HooksOfReverse.l1 : Nat → List Int → List (List Int) → List (List Int) → Int → Bool → Option ((List (List Int)) × Bool)
  | 0, _, _, _, _, _ => none
  | k + 1, x0, x6, x7, x10, x11 => if x11 = true then ((impl_column.f k x0 x10).bind fun t271 => (impl_HooksOfReverse.l2 k x0 x6 x7 x10 (wrap64 (t271 - 1)) x10)) else (some (x7, true))
def impl_HooksOfReverse.l2 : Nat → List Int → List (List Int) → List (List Int) → Int → Int → Int → Option ((List (List Int)) × Bool)
  | 0, _, _, _, _, _, _ => none
  | k + 1, x0, x6, x7, x10, x12, x13 => if 0 ≤ x12 then (if x12 < (x6.length : Int) then (if 0 ≤ x13 then (if x13 < ((rd_L1 x6 x12).length : Int) then ((some (x6.set (x12 : Int).toNat ((rd_L1 x6 x12).set (x13 : Int).toNat (wrap64 ((rd (rd_L1 x6 x12) x13) - 1))) : List (List Int))).bind fun y278 => (if x12 > 0 then (if 0 ≤ (wrap64 (x12 - 1)) then (if (wrap64 (x12 - 1)) < (x6.length : Int) then (if x13 < ((rd_L1 y278 (wrap64 (x12 - 1))).length : Int) then (if (rd (rd_L1 y278 (wrap64 (x12 - 1))) x13) = (rd (rd_L1 x6 x12) x13) then (impl_HooksOfReverse.j4 k x0 y278 x7 x10 x12 x13 ((rd (rd_L1 x6 x12) x13) != 0)) else (impl_HooksOfReverse.j4 k x0 y278 x7 x10 x12 x13 false)) else (none)) else (none)) else (none)) else (impl_HooksOfReverse.j4 k x0 y278 x7 x10 x12 x13 false))) else (none)) else (none)) else (none)) else (none)
def impl_HooksOfReverse.j4 : Nat → List Int → List (List Int) → List (List Int) → Int → Int → Int → Bool → Option ((List (List Int)) × Bool)
  | 0, _, _, _, _, _, _, _ => none
  | k + 1, x0, x6, x7, x10, x12, x13, x92 => if x92 = true then (impl_HooksOfReverse.l2 k x0 x6 x7 x10 (wrap64 (x12 - 1)) x13) else (if 0 ≤ x12 then (if x12 < (x0.length : Int) then (if (wrap64 (x13 + 1)) < (rd x0 x12) then (impl_HooksOfReverse.l2 k x0 x6 x7 x10 x12 (wrap64 (x13 + 1))) else (if x12 < (x7.length : Int) then (if 0 ≤ x10 then (if x10 < ((rd_L1 x7 x12).length : Int) then ((impl_start.f k x6).bind fun bt287 => (impl_HooksOfReverse.l1 k x0 x6 (x7.set (x12 : Int).toNat ((rd_L1 x7 x12).set (x10 : Int).toNat (wrap64 ((rd (rd_L1 x7 x12) x10) + 1)))) bt287.1 bt287.2)) else (none)) else (none)) else (none))) else (none)) else (none))
end
def impl_HooksOfReverse.f (k : Nat) (l0 : List Int) (l1 : List (List Int)) : Option ((List (List Int)) × Bool) := (impl_IsReverse.f k l0 l1).bind fun t253 => (if t253 = true then ((slices_Concat_int_int.f k l1).bind fun t254 => ((impl_sum.f k t254).bind fun t257 => (impl_HooksOfReverse.j0 k l0 l1 (decide (t257 > 20))))) else (impl_HooksOfReverse.j0 k l0 l1 true))
theorem impl_HooksOfReverse.mono_l : ∀ k, (∀ y0 y1 y2, LeO (impl_HooksOfReverse.j0 k y0 y1 y2) (impl_HooksOfReverse.j0 (k + 1) y0 y1 y2)) ∧ (∀ y0 y1 y2 y3 y4 y5, LeO (impl_HooksOfReverse.l0 k y0 y1 y2 y3 y4 y5) (impl_HooksOfReverse.l0 (k + 1) y0 y1 y2 y3 y4 y5)) ∧ (∀ y0 y1 y2 y3 y4, LeO (impl_HooksOfReverse.l1 k y0 y1 y2 y3 y4) (impl_HooksOfReverse.l1 (k + 1) y0 y1 y2 y3 y4)) ∧ (∀ y0 y1 y2 y3 y4 y5, LeO (impl_HooksOfReverse.l2 k y0 y1 y2 y3 y4 y5) (impl_HooksOfReverse.l2 (k + 1) y0 y1 y2 y3 y4 y5)) ∧ (∀ y0 y1 y2 y3 y4 y5 y6, LeO (impl_HooksOfReverse.j4 k y0 y1 y2 y3 y4 y5 y6) (impl_HooksOfReverse.j4 (k + 1) y0 y1 y2 y3 y4 y5 y6))
  | 0 => ⟨fun _ _ _ r h => by simp [impl_HooksOfReverse.j0] at h, fun _ _ _ _ _ _ r h => by simp [impl_HooksOfReverse.l0] at h, fun _ _ _ _ _ r h => by simp [impl_HooksOfReverse.l1] at h, fun _ _ _ _ _ _ r h => by simp [impl_HooksOfReverse.l2] at h, fun _ _ _ _ _ _ _ r h => by simp [impl_HooksOfReverse.j4] at h⟩
  | k + 1 => by
    obtain ⟨ih0, ih1, ih2, ih3, ih4⟩ := impl_HooksOfReverse.mono_l k
    refine ⟨?_, ?_, ?_, ?_, ?_⟩
    · intro y0 y1 y2
      unfold impl_HooksOfReverse.j0
      repeat' first
      | (with_reducible exact ih0 _ _ _)
      | (with_reducible exact ih1 _ _ _ _ _ _)
      | (with_reducible exact ih2 _ _ _ _ _)
      | (with_reducible exact ih3 _ _ _ _ _ _)
      | (with_reducible exact ih4 _ _ _ _ _ _ _)
      | (with_reducible exact impl_IsReverse.mono _ _ _)
      | (with_reducible exact impl_column.mono _ _ _)
      | (with_reducible exact impl_start.mono _ _)
      | (with_reducible exact impl_sum.mono _ _)
      | (with_reducible exact impl_zeros.mono _ _)
      | (with_reducible exact slices_Concat_int_int.mono _ _)
      | (with_reducible exact LeO.refl _)
      | (with_reducible exact LeO.none _)
      | (with_reducible refine LeO.ite ?_ ?_)
      | (with_reducible refine LeO.bind ?_ (fun _ => ?_))
      | exact ih0 _ _ _
      | exact ih1 _ _ _ _ _ _
      | exact ih2 _ _ _ _ _
      | exact ih3 _ _ _ _ _ _
      | exact ih4 _ _ _ _ _ _ _
      | exact impl_IsReverse.mono _ _ _
      | exact impl_column.mono _ _ _
      | exact impl_start.mono _ _
      | exact impl_sum.mono _ _
      | exact impl_zeros.mono _ _
      | exact slices_Concat_int_int.mono _ _
      | exact LeO.none _
      | refine LeO.ite ?_ ?_
      | refine LeO.bind ?_ (fun _ => ?_)
    · intro y0 y1 y2 y3 y4 y5
      unfold impl_HooksOfReverse.l0
      repeat' first
      | (with_reducible exact ih0 _ _ _)
      | (with_reducible exact ih1 _ _ _ _ _ _)
      | (with_reducible exact ih2 _ _ _ _ _)
      | (with_reducible exact ih3 _ _ _ _ _ _)
      | (with_reducible exact ih4 _ _ _ _ _ _ _)
      | (with_reducible exact impl_IsReverse.mono _ _ _)
      | (with_reducible exact impl_column.mono _ _ _)
      | (with_reducible exact impl_start.mono _ _)
      | (with_reducible exact impl_sum.mono _ _)
      | (with_reducible exact impl_zeros.mono _ _)
      | (with_reducible exact slices_Concat_int_int.mono _ _)
      | (with_reducible exact LeO.refl _)
      | (with_reducible exact LeO.none _)
      | (with_reducible refine LeO.ite ?_ ?_)
      | (with_reducible refine LeO.bind ?_ (fun _ => ?_))
      | exact ih0 _ _ _
      | exact ih1 _ _ _ _ _ _
      | exact ih2 _ _ _ _ _
      | exact ih3 _ _ _ _ _ _
      | exact ih4 _ _ _ _ _ _ _
      | exact impl_IsReverse.mono _ _ _
      | exact impl_column.mono _ _ _
      | exact impl_start.mono _ _
      | exact impl_sum.mono _ _
      | exact impl_zeros.mono _ _
      | exact slices_Concat_int_int.mono _ _
      | exact LeO.none _
      | refine LeO.ite ?_ ?_
      | refine LeO.bind ?_ (fun _ => ?_)
    · intro y0 y1 y2 y3 y4
      unfold impl_HooksOfReverse.l1
      repeat' first
      | (with_reducible exact ih0 _ _ _)
      | (with_reducible exact ih1 _ _ _ _ _ _)
      | (with_reducible exact ih2 _ _ _ _ _)
      | (with_reducible exact ih3 _ _ _ _ _ _)
      | (with_reducible exact ih4 _ _ _ _ _ _ _)
      | (with_reducible exact impl_IsReverse.mono _ _ _)
      | (with_reducible exact impl_column.mono _ _ _)
      | (with_reducible exact impl_start.mono _ _)
      | (with_reducible exact impl_sum.mono _ _)
      | (with_reducible exact impl_zeros.mono _ _)
      | (with_reducible exact slices_Concat_int_int.mono _ _)
      | (with_reducible exact LeO.refl _)
      | (with_reducible exact LeO.none _)
      | (with_reducible refine LeO.ite ?_ ?_)
      | (with_reducible refine LeO.bind ?_ (fun _ => ?_))
      | exact ih0 _ _ _
      | exact ih1 _ _ _ _ _ _
      | exact ih2 _ _ _ _ _
      | exact ih3 _ _ _ _ _ _
      | exact ih4 _ _ _ _ _ _ _
      | exact impl_IsReverse.mono _ _ _
      | exact impl_column.mono _ _ _
      | exact impl_start.mono _ _
      | exact impl_sum.mono _ _
      | exact impl_zeros.mono _ _
      | exact slices_Concat_int_int.mono _ _
      | exact LeO.none _
      | refine LeO.ite ?_ ?_
      | refine LeO.bind ?_ (fun _ => ?_)
    · intro y0 y1 y2 y3 y4 y5
      unfold impl_HooksOfReverse.l2
      repeat' first
      | (with_reducible exact ih0 _ _ _)
      | (with_reducible exact ih1 _ _ _ _ _ _)
      | (with_reducible exact ih2 _ _ _ _ _)
      | (with_reducible exact ih3 _ _ _ _ _ _)
      | (with_reducible exact ih4 _ _ _ _ _ _ _)
      | (with_reducible exact impl_IsReverse.mono _ _ _)
      | (with_reducible exact impl_column.mono _ _ _)
      | (with_reducible exact impl_start.mono _ _)
      | (with_reducible exact impl_sum.mono _ _)
      | (with_reducible exact impl_zeros.mono _ _)
      | (with_reducible exact slices_Concat_int_int.mono _ _)
      | (with_reducible exact LeO.refl _)
      | (with_reducible exact LeO.none _)
      | (with_reducible refine LeO.ite ?_ ?_)
      | (with_reducible refine LeO.bind ?_ (fun _ => ?_))
      | exact ih0 _ _ _
      | exact ih1 _ _ _ _ _ _
      | exact ih2 _ _ _ _ _
      | exact ih3 _ _ _ _ _ _
      | exact ih4 _ _ _ _ _ _ _
      | exact impl_IsReverse.mono _ _ _
      | exact impl_column.mono _ _ _
      | exact impl_start.mono _ _
      | exact impl_sum.mono _ _
      | exact impl_zeros.mono _ _
      | exact slices_Concat_int_int.mono _ _
      | exact LeO.none _
      | refine LeO.ite ?_ ?_
      | refine LeO.bind ?_ (fun _ => ?_)
    · intro y0 y1 y2 y3 y4 y5 y6
      unfold impl_HooksOfReverse.j4
      repeat' first
      | (with_reducible exact ih0 _ _ _)
      | (with_reducible exact ih1 _ _ _ _ _ _)
      | (with_reducible exact ih2 _ _ _ _ _)
      | (with_reducible exact ih3 _ _ _ _ _ _)
      | (with_reducible exact ih4 _ _ _ _ _ _ _)
      | (with_reducible exact impl_IsReverse.mono _ _ _)
      | (with_reducible exact impl_column.mono _ _ _)
      | (with_reducible exact impl_start.mono _ _)
      | (with_reducible exact impl_sum.mono _ _)
      | (with_reducible exact impl_zeros.mono _ _)
      | (with_reducible exact slices_Concat_int_int.mono _ _)
      | (with_reducible exact LeO.refl _)
      | (with_reducible exact LeO.none _)
      | (with_reducible refine LeO.ite ?_ ?_)
      | (with_reducible refine LeO.bind ?_ (fun _ => ?_))
      | exact ih0 _ _ _
      | exact ih1 _ _ _ _ _ _
      | exact ih2 _ _ _ _ _
      | exact ih3 _ _ _ _ _ _
      | exact ih4 _ _ _ _ _ _ _
      | exact impl_IsReverse.mono _ _ _
      | exact impl_column.mono _ _ _
      | exact impl_start.mono _ _
      | exact impl_sum.mono _ _
      | exact impl_zeros.mono _ _
      | exact slices_Concat_int_int.mono _ _
      | exact LeO.none _
      | refine LeO.ite ?_ ?_
      | refine LeO.bind ?_ (fun _ => ?_)
theorem impl_HooksOfReverse.mono : ∀ a0 a1 k, LeO (impl_HooksOfReverse.f k a0 a1) (impl_HooksOfReverse.f (k + 1) a0 a1) := by
  intro a0 a1 k
  obtain ⟨ih0, ih1, ih2, ih3, ih4⟩ := impl_HooksOfReverse.mono_l k
  unfold impl_HooksOfReverse.f
  repeat' first
      | (with_reducible exact ih0 _ _ _)
      | (with_reducible exact ih1 _ _ _ _ _ _)
      | (with_reducible exact ih2 _ _ _ _ _)
      | (with_reducible exact ih3 _ _ _ _ _ _)
      | (with_reducible exact ih4 _ _ _ _ _ _ _)
      | (with_reducible exact impl_IsReverse.mono _ _ _)
      | (with_reducible exact impl_column.mono _ _ _)
      | (with_reducible exact impl_start.mono _ _)
      | (with_reducible exact impl_sum.mono _ _)
      | (with_reducible exact impl_zeros.mono _ _)
      | (with_reducible exact slices_Concat_int_int.mono _ _)
      | (with_reducible exact LeO.refl _)
      | (with_reducible exact LeO.none _)
      | (with_reducible refine LeO.ite ?_ ?_)
      | (with_reducible refine LeO.bind ?_ (fun _ => ?_))
      | exact ih0 _ _ _
      | exact ih1 _ _ _ _ _ _
      | exact ih2 _ _ _ _ _
      | exact ih3 _ _ _ _ _ _
      | exact ih4 _ _ _ _ _ _ _
      | exact impl_IsReverse.mono _ _ _
      | exact impl_column.mono _ _ _
      | exact impl_start.mono _ _
      | exact impl_sum.mono _ _
      | exact impl_zeros.mono _ _
      | exact slices_Concat_int_int.mono _ _
      | exact LeO.none _
      | refine LeO.ite ?_ ?_
      | refine LeO.bind ?_ (fun _ => ?_)
set_option maxHeartbeats 8000000 in
set_option maxRecDepth 100000 in
theorem impl_HooksOfReverse.calls (k : Nat) (A0 : Option Addr) (c0 : Nat) (l0 : List Int) (A1 : Option Addr) (c1 : Nat) (l1 : List (List Int)) (r1 : List (List Int)) (r2 : Bool) (w : World) (hr0 : Kd.C (Kd.int .i64) w A0 l0.length l0) (hc0 : l0.length ≤ c0) (hr1 : Kd.C (Kd.slice 3 (Kd.int .i64)) w A1 l1.length l1) (hc1 : l1.length ≤ c1) (h : impl_HooksOfReverse.f k l0 l1 = some (r1, r2)) :
    Calls Try.prog 16 #[.slice A0 l0.length c0, .slice A1 l1.length c1] w fun e w' => ∃ v0_ : Value, e = .returned (.tuple #[v0_, .bool r2]) ∧ Kd.S (Kd.slice 3 (Kd.int .i64)) 22 w' w.heap.size (fun _ => True) v0_ r1 ∧ Below w.heap.size w w' := by
  have HR0 := Aside0.mk hr0
  have HC0 := Aside0.mk hc0
  clear hr0 hc0
  have HR1 := Aside0.mk hr1
  have HC1 := Aside0.mk hc1
  clear hr1 hc1
  have HB := Aside0.mk (Below.refl w.heap.size w)
  have H : ((impl_IsReverse.f k l0 l1).bind fun t253 => (if t253 = true then ((slices_Concat_int_int.f k l1).bind fun t254 => ((impl_sum.f k t254).bind fun t257 => (impl_HooksOfReverse.j0 k l0 l1 (decide (t257 > 20))))) else (impl_HooksOfReverse.j0 k l0 l1 true))) = some (r1, r2) := h
  clear h
  have HC3 := Aside0.mk H
  clear H
  go_enter Try.func16, Try.ntmps16
  go_upto_region 1 with (fail)
  go_cut [24] (fun v24 wc => ∃ (kq : Nat) (x24_2 : Bool), v24 = .bool x24_2 ∧ Aside0 (impl_HooksOfReverse.j0 kq l0 l1 x24_2 = some (r1, r2)) ∧ Aside0 (kq ≤ k) ∧ Aside0 (Below w.heap.size w wc))
  case first =>
    have H := HC3.out
    clear HC3
    replace H := Option.bind_eq_some_iff.mp H
    obtain ⟨t253, A40, H⟩ := H
    replace H : (if t253 = true then ((slices_Concat_int_int.f k l1).bind fun t254 => ((impl_sum.f k t254).bind fun t257 => (impl_HooksOfReverse.j0 k l0 l1 (decide (t257 > 20))))) else (impl_HooksOfReverse.j0 k l0 l1 true)) = some (r1, r2) := H
    have A4 := Aside0.mk A40
    clear A40
    by_cases c5 : t253 = true
    · subst c5
      have H1 : ((slices_Concat_int_int.f k l1).bind fun t254 => ((impl_sum.f k t254).bind fun t257 => (impl_HooksOfReverse.j0 k l0 l1 (decide (t257 > 20))))) = some (r1, r2) := by rw [if_pos rfl] at H; exact H
      clear H
      have H := H1
      clear H1
      replace H := Option.bind_eq_some_iff.mp H
      obtain ⟨t254, A60, H⟩ := H
      replace H : ((impl_sum.f k t254).bind fun t257 => (impl_HooksOfReverse.j0 k l0 l1 (decide (t257 > 20)))) = some (r1, r2) := H
      have A6 := Aside0.mk A60
      clear A60
      replace H := Option.bind_eq_some_iff.mp H
      obtain ⟨t257, A70, H⟩ := H
      replace H : (impl_HooksOfReverse.j0 k l0 l1 (decide (t257 > 20))) = some (r1, r2) := H
      have A7 := Aside0.mk A70
      clear A70
      have H' := Aside0.mk H
      clear H
      go_wp2_with (first | ((with_reducible refine gate_callee (f := 34) rfl ?_); refine goesL_ (some 17) rfl rfl Try.func34 (by kernel_rfl) rfl #[.slice A0 l0.length c0, .slice A1 l1.length c1] rfl xm ?_; (with_reducible refine (impl_IsReverse.calls k _ _ l0 _ _ l1 true _ ?side1 ?side2 ?side3 ?side4 A4.out).mono ?_); (case side1 => first | exact xc (Kd.C_below HR0.out HB.out) | exact xc HR0.out); (case side2 => exact HC0.out); (case side3 => first | exact xc (Kd.C_below HR1.out HB.out) | exact xc HR1.out); (case side4 => exact HC1.out); rintro e w' ⟨rfl, ⟨nd, rfl⟩⟩; refine ⟨_, rfl, ?_⟩) | (go_at_call 36; (with_reducible refine (slices_Concat_int_int.calls k _ _ l1 t254 _ ?side1 ?side2 A6.out).mono ?_); (case side1 => exact xc (Kd.C_below HR1.out (xb HB.out))); (case side2 => exact HC1.out); rintro e w8 ⟨v255, rfl, ho0, hb⟩; have n0_ := Aside0.mk (Kd.R_lower ho0 (below_size (xb HB.out))); have n1_ := Aside0.mk (below_step (xb HB.out) hb); clear HB; have HO256 := n0_; have HB := n1_; clear n0_ n1_; (try clear hb); (try clear hb2); (try clear hk); (try clear hi); (try clear ho0); obtain ⟨Ao9, co9, eo9⟩ := Kd.R_slice HO256.out; subst eo9) | (go_at_call 35; (with_reducible refine (impl_sum.calls k _ _ t254 t257 _ ?side1 ?side2 A7.out).mono ?_); (case side1 => repeat (first | exact (Kd.R_reads' HO256.out).2.2 | (with_reducible refine Kd.C_alloc ?_ _) | (with_reducible refine Kd.C_drewN ?_ _) | (with_reducible refine Kd.C_drew ?_))); (case side2 => exact (Kd.R_reads' HO256.out).2.1); rintro e w' ⟨rfl, ⟨nd, rfl⟩⟩))
      go_meet
      case rel => exact ⟨_, (decide (t257 > 20)), (by first | rfl | (simp; done) | (simp [*]; done)), H', ⟨by first | omega | exact Nat.le_refl _⟩, ⟨by repeat (first | (with_reducible first | exact HB.out | apply below_alloc | apply pw_below_drewN | apply below_drew1) | exact HB.out)⟩⟩
    · replace c5 := Bool.eq_false_iff.mpr c5
      subst c5
      have H1 : (impl_HooksOfReverse.j0 k l0 l1 true) = some (r1, r2) := by rw [if_neg (show ¬ (false = true) by decide)] at H; exact H
      clear H
      have H := H1
      clear H1
      have H' := Aside0.mk H
      clear H
      go_wp2_with (first | ((with_reducible refine gate_callee (f := 34) rfl ?_); refine goesL_ (some 17) rfl rfl Try.func34 (by kernel_rfl) rfl #[.slice A0 l0.length c0, .slice A1 l1.length c1] rfl xm ?_; (with_reducible refine (impl_IsReverse.calls k _ _ l0 _ _ l1 false _ ?side1 ?side2 ?side3 ?side4 A4.out).mono ?_); (case side1 => first | exact xc (Kd.C_below HR0.out HB.out) | exact xc HR0.out); (case side2 => exact HC0.out); (case side3 => first | exact xc (Kd.C_below HR1.out HB.out) | exact xc HR1.out); (case side4 => exact HC1.out); rintro e w' ⟨rfl, ⟨nd, rfl⟩⟩; refine ⟨_, rfl, ?_⟩))
      go_meet
      case rel => exact ⟨_, (true), (by first | rfl | (simp; done) | (simp [*]; done)), H', ⟨by first | omega | exact Nat.le_refl _⟩, ⟨by repeat (first | (with_reducible first | exact HB.out | apply below_alloc | apply pw_below_drewN | apply below_drew1) | exact HB.out)⟩⟩
  case rest =>
    clear HC3
    try clear c1
    try clear p2
    try clear c3
    try clear c5
    obtain ⟨kq, x24_2, rfl, HA, HJ2, HB⟩ := hcut
    cases kq with
    | zero => exact absurd HA.out (by simp [impl_HooksOfReverse.j0])
    | succ kj2 =>
      have H := HA.out
      clear HA
      simp only [impl_HooksOfReverse.j0] at H
      by_cases c10 : x24_2 = true
      · subst c10
        have H1 : (some (([] : List (List Int)), false)) = some (r1, r2) := by rw [if_pos rfl] at H; exact H
        clear H
        have H := H1
        clear H1
        simp only [Option.some.injEq, Prod.mk.injEq] at H
        obtain ⟨rfl, rfl⟩ := H
        go_wp2
        go_ret2
        exact ⟨_, by first | rfl | (simp [errW_none, errW_some] <;> rfl) | (simp [*, errW_none, errW_some] <;> rfl), by first | exact Kd.S_nil _ _ _ _ _ | exact Kd.N_nil _ _ _ _ _ | exact Kd.V_nil _ _ _ _ _ | exact Kd.Q_nil _ _ _ _ _ | exact Kd.R_nil _ _ _ _ _, by repeat (first | (with_reducible first | exact HB.out | apply below_alloc | apply pw_below_drewN | apply below_drew1) | exact HB.out)⟩
      · replace c10 := Bool.eq_false_iff.mpr c10
        subst c10
        have H1 : ((impl_zeros.f kj2 l0).bind fun t258 => ((impl_zeros.f kj2 l0).bind fun t261 => (impl_HooksOfReverse.l0 kj2 l0 t258 t261 l1 (l1.length : Int) 0))) = some (r1, r2) := by rw [if_neg (show ¬ (false = true) by decide)] at H; exact H
        clear H
        have H := H1
        clear H1
        replace H := Option.bind_eq_some_iff.mp H
        obtain ⟨t258, A110, H⟩ := H
        replace H : ((impl_zeros.f kj2 l0).bind fun t261 => (impl_HooksOfReverse.l0 kj2 l0 t258 t261 l1 (l1.length : Int) 0)) = some (r1, r2) := H
        have A11 := Aside0.mk A110
        clear A110
        replace H := Option.bind_eq_some_iff.mp H
        obtain ⟨t261, A120, H⟩ := H
        replace H : (impl_HooksOfReverse.l0 kj2 l0 t258 t261 l1 (l1.length : Int) 0) = some (r1, r2) := H
        have A12 := Aside0.mk A120
        clear A120
        have H' := Aside0.mk H
        clear H
        go_wp2_with (first | ((with_reducible refine gate_callee (f := 24) rfl ?_); refine goesL_ (some 26) rfl rfl Try.func24 (by kernel_rfl) rfl #[.slice A0 l0.length c0] rfl xm ?_; (with_reducible refine (impl_zeros.calls kj2 _ _ l0 t258 _ ?side1 ?side2 A11.out).mono ?_); (case side1 => first | exact xc (Kd.C_below HR0.out HB.out) | exact xc HR0.out); (case side2 => exact HC0.out); rintro e w13 ⟨v259, rfl, ho0, hb⟩; refine ⟨_, rfl, ?_⟩; have n0_ := Aside0.mk (Kd.S_lower ho0 (below_size (xb HB.out))); have n1_ := Aside0.mk (below_step (xb HB.out) hb); clear HB; have HO260 := n0_; have HB := n1_; clear n0_ n1_; (try clear hb); (try clear hb2); (try clear hk); (try clear hi); (try clear ho0)) | ((with_reducible refine gate_callee (f := 24) rfl ?_); refine goesL_ (some 28) rfl rfl Try.func24 (by kernel_rfl) rfl #[.slice A0 l0.length c0] rfl xm ?_; (with_reducible refine (impl_zeros.calls kj2 _ _ l0 t261 _ ?side1 ?side2 A12.out).mono ?_); (case side1 => first | exact xc (Kd.C_below HR0.out HB.out) | exact xc HR0.out); (case side2 => exact HC0.out); rintro e w14 ⟨v262, rfl, ho0, hb⟩; refine ⟨_, rfl, ?_⟩; replace ho0 := Kd.deep0 ho0; obtain ⟨N289_, ho0, hN289_⟩ := ho0; have n0_ := Aside0.mk (Kd.S_elderD (xS HO260.out) hN289_ (Kd.S_base ho0) hb); have n1_ := Aside0.mk (Kd.S_lower (Kd.S_new' ho0 (Kd.S_lt (xS HO260.out))) (below_size (xb HB.out))); have n2_ := Aside0.mk (below_step (xb HB.out) hb); clear HO260; clear HB; have HO260 := n0_; have HO263 := n1_; have HB := n2_; clear n0_ n1_ n2_; (try clear hb); (try clear hb2); (try clear hk); (try clear hi); (try clear ho0); (try clear hN289_)))
        go_loopg [31] kj2 (fun kq v31 w' => ∃ (x6_2 : List (List Int)) (x31_2 : Int), v31 = .int .i64 x31_2 ∧ Aside0 (impl_HooksOfReverse.l0 kq l0 x6_2 t261 l1 (l1.length : Int) x31_2 = some (r1, r2)) ∧ Aside0 (kq ≤ kj2) ∧ Aside0 (Kd.S (Kd.slice 3 (Kd.int .i64)) 22 w' w.heap.size (fun k_ => some k_ ≠ (v262 : Value).ownBlock ∧ k_ ≠ dmO N289_ k_) v259 x6_2) ∧ Aside0 (Kd.S (Kd.slice 3 (Kd.int .i64)) 22 w' w.heap.size (fun k_ => some k_ ≠ (v259 : Value).ownBlock ∧ k_ ≠ dmI N289_ k_) v262 t261) ∧ Aside0 (Below w.heap.size w w'))
        case atStart => exact ⟨(t258), (0), (by first | rfl | (simp; done) | (simp [*]; done)), H', ⟨Nat.le_refl _⟩, ⟨by (with_reducible repeat (first | apply Kd.S_alloc | apply Kd.S_drewN | apply Kd.S_drew)); exact Kd.S_mono HO260.out (fun _ hk => ⟨hk.1.2, hk.2⟩)⟩, ⟨by (with_reducible repeat (first | apply Kd.S_alloc | apply Kd.S_drewN | apply Kd.S_drew)); exact Kd.S_mono HO263.out (fun _ hk => ⟨hk.2, hk.1⟩)⟩, ⟨by repeat (first | (with_reducible first | exact HB.out | apply below_alloc | apply pw_below_drewN | apply below_drew1) | exact HB.out)⟩⟩
        case round =>
          clear H'
          try clear c1
          try clear c2
          try clear p2
          try clear c3
          try clear c5
          try clear c10
          try clear p2
          obtain ⟨x6_2, x31_2, rfl, HA, HK2, HO_6, HO_7, HB⟩ := hrel
          cases gk with
          | zero => exact absurd HA.out (by simp [impl_HooksOfReverse.l0])
          | succ k2 =>
            have H := HA.out
            clear HA
            simp only [impl_HooksOfReverse.l0] at H
            by_cases c15 : x31_2 < (l1.length : Int)
            · rw [if_pos c15] at H
              have c15b0 : decide (x31_2 < (l1.length : Int)) = true := decide_eq_true c15
              clear c15
              by_cases c16 : 0 ≤ x31_2
              · rw [if_pos c16] at H
                have c16b0 : decide (0 ≤ x31_2) = true := decide_eq_true c16
                clear c16
                by_cases c17 : x31_2 < (l1.length : Int)
                · rw [if_pos c17] at H
                  have c17b0 : decide (x31_2 < (l1.length : Int)) = true := decide_eq_true c17
                  clear c17
                  by_cases c18 : x31_2 < (x6_2.length : Int)
                  · rw [if_pos c18] at H
                    have c18b0 : decide (x31_2 < (x6_2.length : Int)) = true := decide_eq_true c18
                    clear c18
                    obtain ⟨y266, hy266⟩ : ∃ y_ : List Int, y_ = (xcp (rd_L1 x6_2 x31_2) (rd_L1 l1 x31_2)) := ⟨_, rfl⟩
                    replace H : (impl_HooksOfReverse.l0 k2 l0 (x6_2.set (x31_2 : Int).toNat y266) t261 l1 (l1.length : Int) (wrap64 (x31_2 + 1))) = some (r1, r2) := by first | (rw [hy266]; with_reducible exact H) | (have H2_ := (Option.bind_some _ _).symm.trans H; rw [hy266]; with_reducible exact H2_) | (have H2_ := (Option.bind_some _ _).symm.trans H; with_reducible exact H2_) | with_reducible exact H | (rw [hy266]; exact H) | exact H
                    have Ny266 := Aside0.mk hy266
                    clear hy266
                    obtain ⟨y268, hy268⟩ : ∃ y_ : List (List Int), y_ = (x6_2.set (x31_2 : Int).toNat y266) := ⟨_, rfl⟩
                    replace H : (impl_HooksOfReverse.l0 k2 l0 y268 t261 l1 (l1.length : Int) (wrap64 (x31_2 + 1))) = some (r1, r2) := by first | (rw [hy268]; with_reducible exact H) | (have H2_ := (Option.bind_some _ _).symm.trans H; rw [hy268]; with_reducible exact H2_) | (have H2_ := (Option.bind_some _ _).symm.trans H; with_reducible exact H2_) | with_reducible exact H | (rw [hy268]; exact H) | exact H
                    have Ny268 := Aside0.mk hy268
                    clear hy268
                    have H' := Aside0.mk H
                    clear H
                    have p264 : 0 ≤ (x31_2 : Int) := of_decide_eq_true (by first | (with_reducible assumption) | assumption)
                    have q264 : x31_2 < (l1.length : Int) := of_decide_eq_true (by first | (with_reducible assumption) | assumption)
                    obtain ⟨ad264, A264_0, c264_0, e264, hx264_0, hl264_0, hi264_0⟩ := at_L1 HR1.out x31_2 p264 q264
                    cases e264
                    (try replace hx264_0 := (HB.out.cell (World.block_lt_of_cell? w _ hx264_0)).trans hx264_0)
                    have HR264_0 := Aside0.mk hi264_0
                    have HC264_0 := Aside0.mk hl264_0
                    clear hi264_0 hl264_0
                    replace p264 := eq_true p264
                    replace q264 := eq_true q264
                    obtain ⟨Ao19, co19, eo19⟩ := Kd.S_slice HO_6.out
                    subst eo19
                    have p265 : 0 ≤ (x31_2 : Int) := of_decide_eq_true (by first | (with_reducible assumption) | assumption)
                    have q265 : x31_2 < (x6_2.length : Int) := of_decide_eq_true (by first | (with_reducible assumption) | assumption)
                    obtain ⟨ad265, A265_0, c265_0, e265, hx265_0, hl265_0, hi265_0⟩ := at_L1 (Kd.S_reads' HO_6.out).2.2 x31_2 p265 q265
                    cases e265
                    obtain ⟨ce265, hce265, hMe265, hcc265⟩ := Kd.S_get HO_6.out [] x31_2 p265 (by first | exact q265 | exact of_decide_eq_true (by first | (with_reducible assumption) | assumption) | (have e_ := (Kd.S_reads' HO_6.out).1; omega))
                    obtain ⟨ve265_0, rfl, ge265_0⟩ := hMe265
                    have hv265_0 := hcc265 0 _ rfl
                    rw [Nat.add_zero, show ((Kd.slice 3 (Kd.int .i64))).sz = 1 from rfl, Nat.mul_one] at hv265_0
                    replace hv265_0 := Option.some.inj (hv265_0.symm.trans hx265_0)
                    rw [hv265_0] at ge265_0
                    have HL265_0 := Aside0.mk (show Kd.R (Kd.int .i64) 3 _ _ _ _ (rd_L1 x6_2 x31_2) from ge265_0)
                    clear hv265_0 ge265_0
                    have HX265_0 := Aside0.mk hx265_0
                    clear hcc265 hce265
                    have HR265_0 := Aside0.mk hi265_0
                    have HC265_0 := Aside0.mk hl265_0
                    clear hi265_0 hl265_0
                    replace p265 := eq_true p265
                    replace q265 := eq_true q265
                    have hq20 : (x31_2 : Int) < (x6_2.length : Int) := (by have h_ : (x31_2 : Int) < ((x6_2.length : Int) : Int) := of_decide_eq_true (by first | (with_reducible assumption) | assumption); first | exact h_ | (have e_ := (Kd.S_reads' HO_6.out).1; omega) | simpa only [List.length_set, List.length_set] using h_)
                    obtain ⟨oki20, ce20, hcl20, hM20, hcc20, hok20, hbk20⟩ := Kd.S_borrow HO_6.out [] (x31_2 : Int) (of_decide_eq_true (by first | (with_reducible assumption) | assumption)) hq20
                    obtain ⟨ve20_0, rfl, ge20_0⟩ := hM20
                    have hv20 := hcc20 0 _ rfl
                    rw [Nat.add_zero, show ((Kd.slice 3 (Kd.int .i64))).sz = 1 from rfl, Nat.mul_one] at hv20
                    replace hv20 := Option.some.inj (hv20.symm.trans HX265_0.out)
                    subst hv20
                    clear hcc20 hcl20
                    replace ge20_0 := (show Kd.R (Kd.int .i64) 3 _ _ _ _ (rd_L1 x6_2 x31_2) from ge20_0)
                    go_wp2_with (first | ((with_reducible refine gate_builtin (b := .copy) (xs := #[.tmp 39, .tmp 40]) rfl ?_); refine copy_event rfl (.tmp 39) (.tmp 40) 22 3 rfl Try.underlying22 (by first | rfl | (have h_ := info3; revert h_; cases Try.prog.info? 3 with | none => simp | some i_ => simp; intro _ h2_ _; exact h2_)) rfl rfl ge20_0 ?cC_ (xb HB.out) (below_size (xb HB.out)) ?_; (case cC_ => first | exact xc (Kd.C_below HR264_0.out HB.out) | exact xc HR264_0.out); intro w21 hz_ hg hb; rw [← Ny266.out] at hz_; have hp_ : Kd.S (Kd.slice 3 (Kd.int .i64)) 22 w21 w.heap.size (fun k_ => some k_ ≠ (v262 : Value).ownBlock ∧ k_ ≠ dmO N289_ k_) (.slice (some ad265) x6_2.length co19) y268 := (by rw [Ny268.out]; exact hbk20 hg (fun k_ e_ => ge20_0.1 _ e_) (Kd.M_row hz_)); have hm_ := Kd.R_mono hz_ hok20; clear hbk20; have n0_ := Aside0.mk (hp_); have n1_ := Aside0.mk (Kd.S_grown (xS HO_7.out) hg (fun k_ (hk_ : (fun k_ => some k_ ≠ (.slice (some ad265) x6_2.length co19 : Value).ownBlock ∧ k_ ≠ dmI N289_ k_) k_) e_ => dmNo hk_.2 ((HL265_0.out.1 k_ e_.symm).1.2))); have n2_ := Aside0.mk (hb); have n3_ := Aside0.mk (hm_); have n4_ := Aside0.mk ((Kd.R_reads' hm_).2.1); clear HO_6; clear HO_7; clear HB; clear HL265_0; have HO_6 := n0_; have HO_7 := n1_; have HB := n2_; have HL291 := n3_; have HC267 := n4_; clear n0_ n1_ n2_ n3_ n4_; clear hg hb hp_ hz_ hm_ hok20))
                    go_roundg k2
                    case measure => have := HJ2.out; have := HK2.out; omega
                    case rel => exact ⟨(y268), (wrap64 (x31_2 + 1)), (by first | rfl | (simp; done) | (simp [*]; done)), H', ⟨by have := HJ2.out; have := HK2.out; omega⟩, ⟨by (with_reducible repeat (first | apply Kd.S_alloc | apply Kd.S_drewN | apply Kd.S_drew)); first | exact HO_6.out | exact Kd.S_mono HO_6.out xi⟩, ⟨by (with_reducible repeat (first | apply Kd.S_alloc | apply Kd.S_drewN | apply Kd.S_drew)); first | exact HO_7.out | exact Kd.S_mono HO_7.out xi⟩, ⟨by repeat (first | (with_reducible first | exact HB.out | apply below_alloc | apply pw_below_drewN | apply below_drew1) | exact HB.out)⟩⟩
                  · rw [if_neg c18] at H
                    exact absurd H (by simp)
                · rw [if_neg c17] at H
                  exact absurd H (by simp)
              · rw [if_neg c16] at H
                exact absurd H (by simp)
            · rw [if_neg c15] at H
              have c15b0 : decide (x31_2 < (l1.length : Int)) = false := decide_eq_false c15
              clear c15
              replace H := Option.bind_eq_some_iff.mp H
              obtain ⟨⟨t269, t270⟩, A220, H⟩ := H
              replace H : (impl_HooksOfReverse.l1 k2 l0 x6_2 t261 t269 t270) = some (r1, r2) := H
              have A22 := Aside0.mk A220
              clear A220
              have H' := Aside0.mk H
              clear H
              obtain ⟨Ao23, co23, eo23⟩ := Kd.S_slice HO_6.out
              subst eo23
              go_wp2_with (first | ((with_reducible refine gate_callee (f := 37) rfl ?_); refine goesL_ (some 45) rfl rfl Try.func37 (by kernel_rfl) rfl #[.slice Ao23 x6_2.length co23] rfl xm ?_; (with_reducible refine (impl_start.calls k2 _ _ x6_2 t269 t270 _ ?side1 ?side2 A22.out).mono ?_); (case side1 => repeat (first | exact (Kd.S_reads' HO_6.out).2.2 | (with_reducible refine Kd.C_alloc ?_ _) | (with_reducible refine Kd.C_drewN ?_ _) | (with_reducible refine Kd.C_drew ?_))); (case side2 => exact (Kd.S_reads' HO_6.out).2.1); rintro e w' ⟨rfl, ⟨nd, rfl⟩⟩; refine ⟨_, rfl, ?_⟩))
              go_loopg [10, 11] k2 (fun kq v10 v11 w' => ∃ (x6_3 : List (List Int)) (x7_3 : List (List Int)) (x10_3 : Int) (x11_3 : Bool), v10 = .int .i64 x10_3 ∧ v11 = .bool x11_3 ∧ Aside0 (impl_HooksOfReverse.l1 kq l0 x6_3 x7_3 x10_3 x11_3 = some (r1, r2)) ∧ Aside0 (kq ≤ k2) ∧ Aside0 (Kd.S (Kd.slice 3 (Kd.int .i64)) 22 w' w.heap.size (fun k_ => some k_ ≠ (v262 : Value).ownBlock ∧ k_ ≠ dmO N289_ k_) (.slice Ao23 x6_2.length co23) x6_3) ∧ Aside0 (Kd.S (Kd.slice 3 (Kd.int .i64)) 22 w' w.heap.size (fun k_ => some k_ ≠ ((.slice Ao23 x6_2.length co23) : Value).ownBlock ∧ k_ ≠ dmI N289_ k_) v262 x7_3) ∧ Aside0 (Below w.heap.size w w'))
              case atStart => exact ⟨(x6_2), (t261), (t269), (t270), (by first | rfl | (simp; done) | (simp [*]; done)), (by first | rfl | (simp; done) | (simp [*]; done)), H', ⟨Nat.le_refl _⟩, ⟨by (with_reducible repeat (first | apply Kd.S_alloc | apply Kd.S_drewN | apply Kd.S_drew)); first | exact HO_6.out | exact Kd.S_mono HO_6.out xi⟩, ⟨by (with_reducible repeat (first | apply Kd.S_alloc | apply Kd.S_drewN | apply Kd.S_drew)); first | exact HO_7.out | exact Kd.S_mono HO_7.out xi⟩, ⟨by repeat (first | (with_reducible first | exact HB.out | apply below_alloc | apply pw_below_drewN | apply below_drew1) | exact HB.out)⟩⟩
              case round =>
                clear H'
                try clear c1
                try clear c2
                try clear p2
                try clear q2
                try clear hx2
                try clear c3
                try clear c5
                try clear p6
                try clear c10
                try clear c15
                try clear c15b0
                try clear c16
                try clear c16b0
                try clear c17
                try clear c17b0
                try clear c18
                try clear c18b0
                try clear c20
                try clear q20
                try clear hx264_0
                try clear hx265_0
                try clear p2
                try clear p264
                try clear p265
                try clear q264
                try clear q265
                obtain ⟨x6_3, x7_3, x10_3, x11_3, rfl, rfl, HA, HK3, HO_6, HO_7, HB⟩ := hrel
                have hl6_3 := (Kd.S_reads' HO_6.out).1
                rw [hl6_3] at HO_6
                (try simp only [hl6_3])
                (try simp only [hl6_3] at HO_7)
                cases gk with
                | zero => exact absurd HA.out (by simp [impl_HooksOfReverse.l1])
                | succ k3 =>
                  have H := HA.out
                  clear HA
                  simp only [impl_HooksOfReverse.l1] at H
                  by_cases c24 : x11_3 = true
                  · subst c24
                    have H1 : ((impl_column.f k3 l0 x10_3).bind fun t271 => (impl_HooksOfReverse.l2 k3 l0 x6_3 x7_3 x10_3 (wrap64 (t271 - 1)) x10_3)) = some (r1, r2) := by rw [if_pos rfl] at H; exact H
                    clear H
                    have H := H1
                    clear H1
                    replace H := Option.bind_eq_some_iff.mp H
                    obtain ⟨t271, A250, H⟩ := H
                    replace H : (impl_HooksOfReverse.l2 k3 l0 x6_3 x7_3 x10_3 (wrap64 (t271 - 1)) x10_3) = some (r1, r2) := H
                    have A25 := Aside0.mk A250
                    clear A250
                    have H' := Aside0.mk H
                    clear H
                    go_wp2_with (first | ((with_reducible refine gate_callee (f := 26) rfl ?_); refine goesL_ (some 56) rfl rfl Try.func26 (by kernel_rfl) rfl #[.slice A0 l0.length c0, .int .i64 x10_3] rfl xm ?_; (with_reducible refine (impl_column.calls k3 _ _ l0 x10_3 t271 _ ?side1 ?side2 A25.out).mono ?_); (case side1 => first | exact xc (Kd.C_below HR0.out HB.out) | exact xc HR0.out); (case side2 => exact HC0.out); rintro e w' ⟨rfl, ⟨nd, rfl⟩⟩; refine ⟨_, rfl, ?_⟩))
                    go_loopg [12, 13] k3 (fun kq v12 v13 w' => ∃ (x6_4 : List (List Int)) (x12_4 : Int) (x13_4 : Int), v12 = .int .i64 x12_4 ∧ v13 = .int .i64 x13_4 ∧ Aside0 (impl_HooksOfReverse.l2 kq l0 x6_4 x7_3 x10_3 x12_4 x13_4 = some (r1, r2)) ∧ Aside0 (kq ≤ k3) ∧ Aside0 (Kd.S (Kd.slice 3 (Kd.int .i64)) 22 w' w.heap.size (fun k_ => some k_ ≠ (v262 : Value).ownBlock ∧ k_ ≠ dmO N289_ k_) (.slice Ao23 x6_3.length co23) x6_4) ∧ Aside0 (Kd.S (Kd.slice 3 (Kd.int .i64)) 22 w' w.heap.size (fun k_ => some k_ ≠ ((.slice Ao23 x6_3.length co23) : Value).ownBlock ∧ k_ ≠ dmI N289_ k_) v262 x7_3) ∧ Aside0 (Below w.heap.size w w'))
                    case atStart => exact ⟨(x6_3), (wrap64 (t271 - 1)), (x10_3), (by first | rfl | (simp; done) | (simp [*]; done)), (by first | rfl | (simp; done) | (simp [*]; done)), H', ⟨Nat.le_refl _⟩, ⟨by (try simp only [hl6_3]); (with_reducible repeat (first | apply Kd.S_alloc | apply Kd.S_drewN | apply Kd.S_drew)); first | exact HO_6.out | exact Kd.S_mono HO_6.out xi⟩, ⟨by (try simp only [hl6_3]); (with_reducible repeat (first | apply Kd.S_alloc | apply Kd.S_drewN | apply Kd.S_drew)); first | exact HO_7.out | exact Kd.S_mono HO_7.out xi⟩, ⟨by repeat (first | (with_reducible first | exact HB.out | apply below_alloc | apply pw_below_drewN | apply below_drew1) | exact HB.out)⟩⟩
                    case round =>
                      clear H'
                      try clear c1
                      try clear c2
                      try clear p2
                      try clear q2
                      try clear hx2
                      try clear c3
                      try clear c5
                      try clear p6
                      try clear c10
                      try clear c15
                      try clear c15b0
                      try clear c16
                      try clear c16b0
                      try clear c17
                      try clear c17b0
                      try clear c18
                      try clear c18b0
                      try clear c20
                      try clear q20
                      try clear c24
                      try clear hx264_0
                      try clear hx265_0
                      try clear p2
                      try clear p264
                      try clear p265
                      try clear p6
                      try clear q2
                      try clear q20
                      try clear q264
                      try clear q265
                      obtain ⟨x6_4, x12_4, x13_4, rfl, rfl, HA, HK4, HO_6, HO_7, HB⟩ := hrel
                      have hl6_4 := (Kd.S_reads' HO_6.out).1
                      rw [hl6_4] at HO_6
                      (try simp only [hl6_4])
                      (try simp only [hl6_4] at HO_7)
                      cases gk with
                      | zero => exact absurd HA.out (by simp [impl_HooksOfReverse.l2])
                      | succ k4 =>
                        have H := HA.out
                        clear HA
                        simp only [impl_HooksOfReverse.l2] at H
                        by_cases c26 : 0 ≤ x12_4
                        · rw [if_pos c26] at H
                          have c26b0 : decide (0 ≤ x12_4) = true := decide_eq_true c26
                          clear c26
                          by_cases c27 : x12_4 < (x6_4.length : Int)
                          · rw [if_pos c27] at H
                            have c27b0 : decide (x12_4 < (x6_4.length : Int)) = true := decide_eq_true c27
                            have c27b0x := c27b0
                            (try simp only [hl6_3, hl6_4] at c27b0x)
                            clear c27
                            by_cases c28 : 0 ≤ x13_4
                            · rw [if_pos c28] at H
                              have c28b0 : decide (0 ≤ x13_4) = true := decide_eq_true c28
                              clear c28
                              by_cases c29 : x13_4 < ((rd_L1 x6_4 x12_4).length : Int)
                              · rw [if_pos c29] at H
                                have c29b0 : decide (x13_4 < ((rd_L1 x6_4 x12_4).length : Int)) = true := decide_eq_true c29
                                have c29b0x := c29b0
                                (try simp only [hl6_3, hl6_4] at c29b0x)
                                clear c29
                                obtain ⟨y276, hy276⟩ : ∃ y_ : List Int, y_ = ((rd_L1 x6_4 x12_4).set (x13_4 : Int).toNat (wrap64 ((rd (rd_L1 x6_4 x12_4) x13_4) - 1))) := ⟨_, rfl⟩
                                replace H : ((some (x6_4.set (x12_4 : Int).toNat y276 : List (List Int))).bind fun y278 => (if x12_4 > 0 then (if 0 ≤ (wrap64 (x12_4 - 1)) then (if (wrap64 (x12_4 - 1)) < (x6_4.length : Int) then (if x13_4 < ((rd_L1 y278 (wrap64 (x12_4 - 1))).length : Int) then (if (rd (rd_L1 y278 (wrap64 (x12_4 - 1))) x13_4) = (rd (rd_L1 x6_4 x12_4) x13_4) then (impl_HooksOfReverse.j4 k4 l0 y278 x7_3 x10_3 x12_4 x13_4 ((rd (rd_L1 x6_4 x12_4) x13_4) != 0)) else (impl_HooksOfReverse.j4 k4 l0 y278 x7_3 x10_3 x12_4 x13_4 false)) else (none)) else (none)) else (none)) else (impl_HooksOfReverse.j4 k4 l0 y278 x7_3 x10_3 x12_4 x13_4 false))) = some (r1, r2) := by first | (rw [hy276]; with_reducible exact H) | (have H2_ := (Option.bind_some _ _).symm.trans H; rw [hy276]; with_reducible exact H2_) | (have H2_ := (Option.bind_some _ _).symm.trans H; with_reducible exact H2_) | with_reducible exact H | (rw [hy276]; exact H) | exact H
                                have Ny276 := Aside0.mk hy276
                                clear hy276
                                obtain ⟨y278, hy278⟩ : ∃ y_ : List (List Int), y_ = (x6_4.set (x12_4 : Int).toNat y276) := ⟨_, rfl⟩
                                replace H : (if x12_4 > 0 then (if 0 ≤ (wrap64 (x12_4 - 1)) then (if (wrap64 (x12_4 - 1)) < (x6_4.length : Int) then (if x13_4 < ((rd_L1 y278 (wrap64 (x12_4 - 1))).length : Int) then (if (rd (rd_L1 y278 (wrap64 (x12_4 - 1))) x13_4) = (rd (rd_L1 x6_4 x12_4) x13_4) then (impl_HooksOfReverse.j4 k4 l0 y278 x7_3 x10_3 x12_4 x13_4 ((rd (rd_L1 x6_4 x12_4) x13_4) != 0)) else (impl_HooksOfReverse.j4 k4 l0 y278 x7_3 x10_3 x12_4 x13_4 false)) else (none)) else (none)) else (none)) else (impl_HooksOfReverse.j4 k4 l0 y278 x7_3 x10_3 x12_4 x13_4 false)) = some (r1, r2) := by first | (rw [hy278]; with_reducible exact H) | (have H2_ := (Option.bind_some _ _).symm.trans H; rw [hy278]; with_reducible exact H2_) | (have H2_ := (Option.bind_some _ _).symm.trans H; with_reducible exact H2_) | with_reducible exact H | (rw [hy278]; exact H) | exact H
                                have Ny278 := Aside0.mk hy278
                                clear hy278
                                have HC31 := Aside0.mk H
                                clear H
                                have p272 : 0 ≤ (x12_4 : Int) := of_decide_eq_true (by first | (with_reducible assumption) | assumption)
                                have q272 : x12_4 < (x6_4.length : Int) := of_decide_eq_true (by first | (with_reducible assumption) | assumption)
                                obtain ⟨ad272, A272_0, c272_0, e272, hx272_0, hl272_0, hi272_0⟩ := at_L1 (Kd.S_reads' HO_6.out).2.2 x12_4 p272 q272
                                cases e272
                                obtain ⟨ce272, hce272, hMe272, hcc272⟩ := Kd.S_get HO_6.out [] x12_4 p272 (by first | exact q272 | exact of_decide_eq_true (by first | (with_reducible assumption) | assumption) | (have e_ := (Kd.S_reads' HO_6.out).1; omega))
                                obtain ⟨ve272_0, rfl, ge272_0⟩ := hMe272
                                have hv272_0 := hcc272 0 _ rfl
                                rw [Nat.add_zero, show ((Kd.slice 3 (Kd.int .i64))).sz = 1 from rfl, Nat.mul_one] at hv272_0
                                replace hv272_0 := Option.some.inj (hv272_0.symm.trans hx272_0)
                                rw [hv272_0] at ge272_0
                                have HL272_0 := Aside0.mk (show Kd.R (Kd.int .i64) 3 _ _ _ _ (rd_L1 x6_4 x12_4) from ge272_0)
                                clear hv272_0 ge272_0
                                have HX272_0 := Aside0.mk hx272_0
                                clear hcc272 hce272
                                have HR272_0 := Aside0.mk hi272_0
                                have HC272_0 := Aside0.mk hl272_0
                                clear hi272_0 hl272_0
                                replace p272 := eq_true p272
                                replace q272 := eq_true q272
                                have p273 : 0 ≤ (x13_4 : Int) := of_decide_eq_true (by first | (with_reducible assumption) | assumption)
                                have q273 : x13_4 < ((rd_L1 x6_4 x12_4).length : Int) := of_decide_eq_true (by first | (with_reducible assumption) | assumption)
                                obtain ⟨ad273, e273, hx273_0⟩ := Kd.at_int (by repeat (first | (with_reducible exact HR272_0.out) | (with_reducible refine Kd.C_alloc ?_ _) | (with_reducible refine Kd.C_drewN ?_ _) | (with_reducible refine Kd.C_drew ?_) | exact HR272_0.out)) x13_4 p273 q273
                                cases e273
                                replace p273 := eq_true p273
                                replace q273 := eq_true q273
                                have p274 : 0 ≤ (x12_4 : Int) := of_decide_eq_true (by first | (with_reducible assumption) | assumption)
                                have q274 : x12_4 < (x6_4.length : Int) := of_decide_eq_true (by first | (with_reducible assumption) | assumption)
                                obtain ⟨ad274, A274_0, c274_0, e274, hx274_0, hl274_0, hi274_0⟩ := at_L1 (Kd.S_reads' HO_6.out).2.2 x12_4 p274 q274
                                obtain rfl : ad272 = ad274 := (by injection e274)
                                obtain ⟨ce274, hce274, hMe274, hcc274⟩ := Kd.S_get HO_6.out [] x12_4 p274 (by first | exact q274 | exact of_decide_eq_true (by first | (with_reducible assumption) | assumption) | (have e_ := (Kd.S_reads' HO_6.out).1; omega))
                                obtain ⟨ve274_0, rfl, ge274_0⟩ := hMe274
                                have hv274_0 := hcc274 0 _ rfl
                                rw [Nat.add_zero, show ((Kd.slice 3 (Kd.int .i64))).sz = 1 from rfl, Nat.mul_one] at hv274_0
                                replace hv274_0 := Option.some.inj (hv274_0.symm.trans hx274_0)
                                rw [hv274_0] at ge274_0
                                have HL274_0 := Aside0.mk (show Kd.R (Kd.int .i64) 3 _ _ _ _ (rd_L1 x6_4 x12_4) from ge274_0)
                                clear hv274_0 ge274_0
                                have HX274_0 := Aside0.mk hx274_0
                                clear hcc274 hce274
                                have HR274_0 := Aside0.mk hi274_0
                                have HC274_0 := Aside0.mk hl274_0
                                clear hi274_0 hl274_0
                                replace p274 := eq_true p274
                                replace q274 := eq_true q274
                                have ea_ := Option.some.inj (hx272_0.symm.trans hx274_0)
                                injection ea_ with ea_ en_ ec_
                                subst ea_
                                subst ec_
                                clear en_
                                have p275 : 0 ≤ (x13_4 : Int) := of_decide_eq_true (by first | (with_reducible assumption) | assumption)
                                have q275 : x13_4 < ((rd_L1 x6_4 x12_4).length : Int) := of_decide_eq_true (by first | (with_reducible assumption) | assumption)
                                obtain ⟨ad275, e275, hx275_0⟩ := Kd.at_int (by repeat (first | (with_reducible exact HR274_0.out) | (with_reducible refine Kd.C_alloc ?_ _) | (with_reducible refine Kd.C_drewN ?_ _) | (with_reducible refine Kd.C_drew ?_) | exact HR274_0.out)) x13_4 p275 q275
                                cases e275
                                replace p275 := eq_true p275
                                replace q275 := eq_true q275
                                have p30 : 0 ≤ (x13_4 : Int) := of_decide_eq_true (by first | (with_reducible assumption) | assumption)
                                have q30 : (x13_4 : Int) < (((rd_L1 x6_4 x12_4).length : Int) : Int) := of_decide_eq_true (by first | (with_reducible assumption) | assumption)
                                obtain ⟨go30, co30, eo30, gb30, gl30, cl30, HG30⟩ := Kd.R_form HL274_0.out (by omega)
                                (first | cases eo30 | (injection eo30 with ea_ en_ ec_; (first | subst ea_ | (injection ea_ with ea_; subst ea_)); subst ec_; clear en_))
                                have GB30 := Aside0.mk gb30
                                have GG30 := Aside0.mk HG30
                                clear gb30 gl30 HG30
                                (first | simp only [add_plain] at hx275_0 | skip)
                                obtain ⟨hx30_0, hf30_0⟩ := Kd.R_celln 0 HL274_0.out (x13_4 : Int) p30 q30
                                replace p30 := eq_true p30
                                replace q30 := eq_true q30
                                have hq32 : (x12_4 : Int) < (x6_4.length : Int) := (by have h_ : (x12_4 : Int) < ((x6_4.length : Int) : Int) := of_decide_eq_true (by first | (with_reducible assumption) | assumption); first | exact h_ | (have e_ := (Kd.S_reads' HO_6.out).1; omega) | simpa only [List.length_set, List.length_set] using h_)
                                obtain ⟨oki32, ce32, hcl32, hM32, hcc32, hok32, hbk32⟩ := Kd.S_borrow HO_6.out [] (x12_4 : Int) (of_decide_eq_true (by first | (with_reducible assumption) | assumption)) hq32
                                obtain ⟨ve32_0, rfl, ge32_0⟩ := hM32
                                have hv32 := hcc32 0 _ rfl
                                rw [Nat.add_zero, show ((Kd.slice 3 (Kd.int .i64))).sz = 1 from rfl, Nat.mul_one] at hv32
                                replace hv32 := Option.some.inj (hv32.symm.trans HX274_0.out)
                                subst hv32
                                clear hcc32 hcl32
                                replace ge32_0 := (show Kd.R (Kd.int .i64) 3 _ _ _ _ (rd_L1 x6_4 x12_4) from ge32_0)
                                have HP32 := Kd.R_putg ge32_0 (x13_4 : Int) (wrap64 ((rd (rd_L1 x6_4 x12_4) x13_4) - 1))
                                go_upto_region 15 with (first | ((with_reducible refine gate_store (t := 3) (p := 74) rfl ?_); refine store_event (t := 3) (p := 74) (v := ?vo_w33) (w1 := (wr.setCell ⟨go30, (x13_4 : Int).toNat, none⟩ (.int .i64 (wrap64 ((rd (rd_L1 x6_4 x12_4) x13_4) - 1))))) ?hg ?ho ?hn ?hr ?_; (case ho => rfl); (case hg => rfl); (case hn => rfl); (case hr => first | (go_simp; done) | (go_simp; rfl)); intro w33 hw; have hg : wr.grownBy w33 (some go30) := (by rw [hw]; exact HP32.2); have hz_ : Kd.R (Kd.int .i64) 3 w33 w.heap.size oki32 (.slice (some ⟨go30, 0, none⟩) (rd_L1 x6_4 x12_4).length c272_0) y276 := (by rw [hw, Ny276.out]; exact HP32.1); have hp_ : Kd.S (Kd.slice 3 (Kd.int .i64)) 22 w33 w.heap.size (fun k_ => some k_ ≠ (v262 : Value).ownBlock ∧ k_ ≠ dmO N289_ k_) (.slice (some ad272) x6_4.length co23) y278 := (by rw [Ny278.out]; exact hbk32 hg (fun k_ e_ => by injection e_ with e_; subst e_; exact ge32_0.1 _ rfl) (Kd.M_row hz_)); have hm_ := Kd.R_mono hz_ hok32; clear HP32 hbk32; have n0_ := Aside0.mk (hp_); have n1_ := Aside0.mk (Kd.S_grown (xS HO_7.out) hg (fun k_ hk_ e_ => (by have q_ := Option.some.inj e_; subst q_; exact dmNo hk_.2 ((HL274_0.out.1 _ rfl).1.2)))); have n2_ := Aside0.mk ((by rw [hw]; exact below_set (HB.out) GB30.out : Below w.heap.size w w33)); have n3_ := Aside0.mk (hm_); have n4_ := Aside0.mk ((Kd.R_reads' hm_).2.1); clear HO_6; clear HO_7; clear HB; clear HL272_0; clear HL274_0; have HO_6 := n0_; have HO_7 := n1_; have HB := n2_; have HL292 := n3_; have HC277 := n4_; clear n0_ n1_ n2_ n3_ n4_; clear hg hw hp_ hz_ hm_ hok32))
                                (try simp only [Act.put, List.setIfInBounds_toArray, List.set_cons_zero, List.set_cons_succ])
                                go_cut [92] (fun v92 wc => ∃ (kq : Nat) (x92_30 : Bool), v92 = .bool x92_30 ∧ Aside0 (impl_HooksOfReverse.j4 kq l0 y278 x7_3 x10_3 x12_4 x13_4 x92_30 = some (r1, r2)) ∧ Aside0 (kq ≤ k4) ∧ Aside0 (Kd.S (Kd.slice 3 (Kd.int .i64)) 22 wc w.heap.size (fun k_ => some k_ ≠ (v262 : Value).ownBlock ∧ k_ ≠ dmO N289_ k_) (.slice (some ad272) x6_4.length co23) y278) ∧ Aside0 (Kd.S (Kd.slice 3 (Kd.int .i64)) 22 wc w.heap.size (fun k_ => some k_ ≠ ((.slice (some ad272) x6_4.length co23) : Value).ownBlock ∧ k_ ≠ dmI N289_ k_) v262 x7_3) ∧ Aside0 (Below w.heap.size w wc))
                                case first =>
                                  have H := HC31.out
                                  clear HC31
                                  by_cases c34 : x12_4 > 0
                                  · rw [if_pos c34] at H
                                    have c34b0 : decide (0 < x12_4) = true := decide_eq_true c34
                                    clear c34
                                    (first | rw [c34b0] | (simp only [i64_w, i32_w]; rw [c34b0]) | skip)
                                    obtain ⟨ji35, hji35⟩ : ∃ j_ : Int, (wrap64 (x12_4 - 1)) = j_ := ⟨_, rfl⟩
                                    replace H : (if 0 ≤ (ji35) then (if (ji35) < (x6_4.length : Int) then (if x13_4 < ((rd_L1 y278 (ji35)).length : Int) then (if (rd (rd_L1 y278 (ji35)) x13_4) = (rd (rd_L1 x6_4 x12_4) x13_4) then (impl_HooksOfReverse.j4 k4 l0 y278 x7_3 x10_3 x12_4 x13_4 ((rd (rd_L1 x6_4 x12_4) x13_4) != 0)) else (impl_HooksOfReverse.j4 k4 l0 y278 x7_3 x10_3 x12_4 x13_4 false)) else (none)) else (none)) else (none)) = some (r1, r2) := by first | (rw [hji35] at H; exact H) | (simp only [hji35] at H ⊢; exact H)
                                    have hji35w : (IntKind.i64.wrap (x12_4 - 1)) = ji35 := (i64_w _).trans hji35
                                    by_cases c36 : 0 ≤ (ji35)
                                    · rw [if_pos c36] at H
                                      have c36b0 : decide (0 ≤ (ji35)) = true := decide_eq_true c36
                                      clear c36
                                      by_cases c37 : (ji35) < (x6_4.length : Int)
                                      · rw [if_pos c37] at H
                                        have c37b0 : decide ((ji35) < (x6_4.length : Int)) = true := decide_eq_true c37
                                        have c37b0x := c37b0
                                        (try simp only [hl6_3, hl6_4] at c37b0x)
                                        clear c37
                                        by_cases c38 : x13_4 < ((rd_L1 y278 (ji35)).length : Int)
                                        · rw [if_pos c38] at H
                                          have c38b0 : decide (x13_4 < ((rd_L1 y278 (ji35)).length : Int)) = true := decide_eq_true c38
                                          have c38b0x := c38b0
                                          (try simp only [hl6_3, hl6_4] at c38b0x)
                                          clear c38
                                          by_cases c39 : (rd (rd_L1 y278 (ji35)) x13_4) = (rd (rd_L1 x6_4 x12_4) x13_4)
                                          · rw [if_pos c39] at H
                                            have c39b0 : ((rd (rd_L1 y278 (ji35)) x13_4) == (rd (rd_L1 x6_4 x12_4) x13_4)) = true := beq_iff_eq.mpr c39
                                            have c39b1 : ((rd (rd_L1 y278 (ji35)) x13_4) != (rd (rd_L1 x6_4 x12_4) x13_4)) = false := bne_eq_false_iff_eq.mpr c39
                                            clear c39
                                            have H' := Aside0.mk H
                                            clear H
                                            have p279 : 0 ≤ ((ji35) : Int) := of_decide_eq_true (by first | (with_reducible assumption) | assumption)
                                            have q279 : (ji35) < (y278.length : Int) := (by have h_ : ((ji35) : Int) < ((x6_4.length : Int) : Int) := of_decide_eq_true (by first | (with_reducible assumption) | assumption); first | (have e_ := (Kd.S_reads' HO_6.out).1; omega) | simpa only [Ny278.out, List.length_set] using h_)
                                            have ql279 : (((ji35) : Int) < ((x6_4.length : Int) : Int)) = True := eq_true (of_decide_eq_true (by first | (with_reducible assumption) | assumption))
                                            obtain ⟨ad279, A279_0, c279_0, e279, hx279_0, hl279_0, hi279_0⟩ := at_L1 (Kd.S_reads' HO_6.out).2.2 (ji35) p279 q279
                                            obtain rfl : ad272 = ad279 := (by injection e279)
                                            obtain ⟨ce279, hce279, hMe279, hcc279⟩ := Kd.S_get HO_6.out [] (ji35) p279 (by first | exact q279 | exact of_decide_eq_true (by first | (with_reducible assumption) | assumption) | (have e_ := (Kd.S_reads' HO_6.out).1; omega))
                                            obtain ⟨ve279_0, rfl, ge279_0⟩ := hMe279
                                            have hv279_0 := hcc279 0 _ rfl
                                            rw [Nat.add_zero, show ((Kd.slice 3 (Kd.int .i64))).sz = 1 from rfl, Nat.mul_one] at hv279_0
                                            replace hv279_0 := Option.some.inj (hv279_0.symm.trans hx279_0)
                                            rw [hv279_0] at ge279_0
                                            have HL279_0 := Aside0.mk (show Kd.R (Kd.int .i64) 3 _ _ _ _ (rd_L1 y278 (ji35)) from ge279_0)
                                            clear hv279_0 ge279_0
                                            have HX279_0 := Aside0.mk hx279_0
                                            clear hcc279 hce279
                                            have HR279_0 := Aside0.mk hi279_0
                                            have HC279_0 := Aside0.mk hl279_0
                                            clear hi279_0 hl279_0
                                            replace p279 := eq_true p279
                                            replace q279 := eq_true q279
                                            have p280 : 0 ≤ (x13_4 : Int) := of_decide_eq_true (by first | (with_reducible assumption) | assumption)
                                            have q280 : x13_4 < ((rd_L1 y278 (ji35)).length : Int) := of_decide_eq_true (by first | (with_reducible assumption) | assumption)
                                            obtain ⟨ad280, e280, hx280_0⟩ := Kd.at_int (by repeat (first | (with_reducible exact HR279_0.out) | (with_reducible refine Kd.C_alloc ?_ _) | (with_reducible refine Kd.C_drewN ?_ _) | (with_reducible refine Kd.C_drew ?_) | exact HR279_0.out)) x13_4 p280 q280
                                            cases e280
                                            replace p280 := eq_true p280
                                            replace q280 := eq_true q280
                                            go_wp2
                                            go_meet
                                            case rel => exact ⟨_, (((rd (rd_L1 x6_4 x12_4) x13_4) != 0)), (by first | rfl | (simp; done) | (simp [*]; done)), H', ⟨by have := HJ2.out; have := HK2.out; have := HK3.out; have := HK4.out; first | omega | exact Nat.le_refl _⟩, ⟨by (try simp only [hl6_3]); (try simp only [hl6_4]); (with_reducible repeat (first | apply Kd.S_alloc | apply Kd.S_drewN | apply Kd.S_drew)); first | exact HO_6.out | exact Kd.S_mono HO_6.out xi⟩, ⟨by (try simp only [hl6_3]); (try simp only [hl6_4]); (with_reducible repeat (first | apply Kd.S_alloc | apply Kd.S_drewN | apply Kd.S_drew)); first | exact HO_7.out | exact Kd.S_mono HO_7.out xi⟩, ⟨by repeat (first | (with_reducible first | exact HB.out | apply below_alloc | apply pw_below_drewN | apply below_drew1) | exact HB.out)⟩⟩
                                          · rw [if_neg c39] at H
                                            have c39b0 : ((rd (rd_L1 y278 (ji35)) x13_4) == (rd (rd_L1 x6_4 x12_4) x13_4)) = false := beq_eq_false_iff_ne.mpr c39
                                            have c39b1 : ((rd (rd_L1 y278 (ji35)) x13_4) != (rd (rd_L1 x6_4 x12_4) x13_4)) = true := bne_iff_ne.mpr c39
                                            have H' := Aside0.mk H
                                            clear H
                                            have p279 : 0 ≤ ((ji35) : Int) := of_decide_eq_true (by first | (with_reducible assumption) | assumption)
                                            have q279 : (ji35) < (y278.length : Int) := (by have h_ : ((ji35) : Int) < ((x6_4.length : Int) : Int) := of_decide_eq_true (by first | (with_reducible assumption) | assumption); first | (have e_ := (Kd.S_reads' HO_6.out).1; omega) | simpa only [Ny278.out, List.length_set] using h_)
                                            have ql279 : (((ji35) : Int) < ((x6_4.length : Int) : Int)) = True := eq_true (of_decide_eq_true (by first | (with_reducible assumption) | assumption))
                                            obtain ⟨ad279, A279_0, c279_0, e279, hx279_0, hl279_0, hi279_0⟩ := at_L1 (Kd.S_reads' HO_6.out).2.2 (ji35) p279 q279
                                            obtain rfl : ad272 = ad279 := (by injection e279)
                                            obtain ⟨ce279, hce279, hMe279, hcc279⟩ := Kd.S_get HO_6.out [] (ji35) p279 (by first | exact q279 | exact of_decide_eq_true (by first | (with_reducible assumption) | assumption) | (have e_ := (Kd.S_reads' HO_6.out).1; omega))
                                            obtain ⟨ve279_0, rfl, ge279_0⟩ := hMe279
                                            have hv279_0 := hcc279 0 _ rfl
                                            rw [Nat.add_zero, show ((Kd.slice 3 (Kd.int .i64))).sz = 1 from rfl, Nat.mul_one] at hv279_0
                                            replace hv279_0 := Option.some.inj (hv279_0.symm.trans hx279_0)
                                            rw [hv279_0] at ge279_0
                                            have HL279_0 := Aside0.mk (show Kd.R (Kd.int .i64) 3 _ _ _ _ (rd_L1 y278 (ji35)) from ge279_0)
                                            clear hv279_0 ge279_0
                                            have HX279_0 := Aside0.mk hx279_0
                                            clear hcc279 hce279
                                            have HR279_0 := Aside0.mk hi279_0
                                            have HC279_0 := Aside0.mk hl279_0
                                            clear hi279_0 hl279_0
                                            replace p279 := eq_true p279
                                            replace q279 := eq_true q279
                                            have p280 : 0 ≤ (x13_4 : Int) := of_decide_eq_true (by first | (with_reducible assumption) | assumption)
                                            have q280 : x13_4 < ((rd_L1 y278 (ji35)).length : Int) := of_decide_eq_true (by first | (with_reducible assumption) | assumption)
                                            obtain ⟨ad280, e280, hx280_0⟩ := Kd.at_int (by repeat (first | (with_reducible exact HR279_0.out) | (with_reducible refine Kd.C_alloc ?_ _) | (with_reducible refine Kd.C_drewN ?_ _) | (with_reducible refine Kd.C_drew ?_) | exact HR279_0.out)) x13_4 p280 q280
                                            cases e280
                                            replace p280 := eq_true p280
                                            replace q280 := eq_true q280
                                            go_wp2
                                            go_meet
                                            case rel => exact ⟨_, (false), (by first | rfl | (simp; done) | (simp [*]; done)), H', ⟨by have := HJ2.out; have := HK2.out; have := HK3.out; have := HK4.out; first | omega | exact Nat.le_refl _⟩, ⟨by (try simp only [hl6_3]); (try simp only [hl6_4]); (with_reducible repeat (first | apply Kd.S_alloc | apply Kd.S_drewN | apply Kd.S_drew)); first | exact HO_6.out | exact Kd.S_mono HO_6.out xi⟩, ⟨by (try simp only [hl6_3]); (try simp only [hl6_4]); (with_reducible repeat (first | apply Kd.S_alloc | apply Kd.S_drewN | apply Kd.S_drew)); first | exact HO_7.out | exact Kd.S_mono HO_7.out xi⟩, ⟨by repeat (first | (with_reducible first | exact HB.out | apply below_alloc | apply pw_below_drewN | apply below_drew1) | exact HB.out)⟩⟩
                                        · rw [if_neg c38] at H
                                          exact absurd H (by simp)
                                      · rw [if_neg c37] at H
                                        exact absurd H (by simp)
                                    · rw [if_neg c36] at H
                                      exact absurd H (by simp)
                                  · rw [if_neg c34] at H
                                    have c34b0 : decide (0 < x12_4) = false := decide_eq_false c34
                                    clear c34
                                    (first | rw [c34b0] | (simp only [i64_w, i32_w]; rw [c34b0]) | skip)
                                    have H' := Aside0.mk H
                                    clear H
                                    go_wp2
                                    go_meet
                                    case rel => exact ⟨_, (false), (by first | rfl | (simp; done) | (simp [*]; done)), H', ⟨by have := HJ2.out; have := HK2.out; have := HK3.out; have := HK4.out; first | omega | exact Nat.le_refl _⟩, ⟨by (try simp only [hl6_3]); (try simp only [hl6_4]); (with_reducible repeat (first | apply Kd.S_alloc | apply Kd.S_drewN | apply Kd.S_drew)); first | exact HO_6.out | exact Kd.S_mono HO_6.out xi⟩, ⟨by (try simp only [hl6_3]); (try simp only [hl6_4]); (with_reducible repeat (first | apply Kd.S_alloc | apply Kd.S_drewN | apply Kd.S_drew)); first | exact HO_7.out | exact Kd.S_mono HO_7.out xi⟩, ⟨by repeat (first | (with_reducible first | exact HB.out | apply below_alloc | apply pw_below_drewN | apply below_drew1) | exact HB.out)⟩⟩
                                case rest =>
                                  clear HC31
                                  try clear c1
                                  try clear c2
                                  try clear p2
                                  try clear q2
                                  try clear hx2
                                  try clear c3
                                  try clear p3
                                  try clear q3
                                  try clear hx3
                                  try clear hf3
                                  try clear c5
                                  try clear p6
                                  try clear c10
                                  try clear c15
                                  try clear c15b0
                                  try clear c16
                                  try clear c16b0
                                  try clear c17
                                  try clear c17b0
                                  try clear c18
                                  try clear c18b0
                                  try clear c20
                                  try clear q20
                                  try clear c24
                                  try clear c26
                                  try clear c26b0
                                  try clear p26
                                  try clear q26
                                  try clear hx26
                                  try clear c27
                                  try clear c27b0
                                  try clear p27
                                  try clear q27
                                  try clear hx27
                                  try clear c28
                                  try clear c28b0
                                  try clear p28
                                  try clear q28
                                  try clear hx28
                                  try clear c29
                                  try clear c29b0
                                  try clear p30
                                  try clear q30
                                  try clear hx30
                                  try clear hf30
                                  try clear c32
                                  try clear q32
                                  try clear c34
                                  try clear c34b0
                                  try clear c36
                                  try clear c36b0
                                  try clear c37
                                  try clear c37b0
                                  try clear c38
                                  try clear c38b0
                                  try clear c39
                                  try clear c39b0
                                  try clear c39b1
                                  try clear hx264_0
                                  try clear hx265_0
                                  try clear hx272_0
                                  try clear hx273_0
                                  try clear hx274_0
                                  try clear hx275_0
                                  try clear hx279_0
                                  try clear hx280_0
                                  try clear hx30_0
                                  try clear p2
                                  try clear p264
                                  try clear p265
                                  try clear p272
                                  try clear p273
                                  try clear p274
                                  try clear p275
                                  try clear p279
                                  try clear p280
                                  try clear p30
                                  try clear p6
                                  try clear q2
                                  try clear q20
                                  try clear q264
                                  try clear q265
                                  try clear q272
                                  try clear q273
                                  try clear q274
                                  try clear q275
                                  try clear q279
                                  try clear q280
                                  try clear q30
                                  obtain ⟨kq, x92_30, rfl, HA, HJ30, HO_6, HO_7, HB⟩ := hcut
                                  have hl6_30 := (Kd.S_reads' HO_6.out).1
                                  rw [hl6_30] at HO_6
                                  (try simp only [hl6_30])
                                  (try simp only [hl6_30] at HO_7)
                                  cases kq with
                                  | zero => exact absurd HA.out (by simp [impl_HooksOfReverse.j4])
                                  | succ kj30 =>
                                    have H := HA.out
                                    clear HA
                                    simp only [impl_HooksOfReverse.j4] at H
                                    by_cases c40 : x92_30 = true
                                    · subst c40
                                      have H1 : (impl_HooksOfReverse.l2 kj30 l0 y278 x7_3 x10_3 (wrap64 (x12_4 - 1)) x13_4) = some (r1, r2) := by rw [if_pos rfl] at H; exact H
                                      clear H
                                      have H := H1
                                      clear H1
                                      have H' := Aside0.mk H
                                      clear H
                                      go_wp2
                                      (try simp only [← hl6_4, ← hl6_30])
                                      go_roundg kj30
                                      case measure => have := HJ2.out; have := HK2.out; have := HK3.out; have := HK4.out; have := HJ30.out; omega
                                      case rel => exact ⟨(y278), (wrap64 (x12_4 - 1)), (x13_4), (by first | rfl | (simp; done) | (simp [*]; done)), (by first | rfl | (simp; done) | (simp [*]; done)), H', ⟨by have := HJ2.out; have := HK2.out; have := HK3.out; have := HK4.out; have := HJ30.out; omega⟩, ⟨by (try simp only [hl6_3]); (try simp only [hl6_4]); (try simp only [hl6_30]); (with_reducible repeat (first | apply Kd.S_alloc | apply Kd.S_drewN | apply Kd.S_drew)); first | exact HO_6.out | exact Kd.S_mono HO_6.out xi⟩, ⟨by (try simp only [hl6_3]); (try simp only [hl6_4]); (try simp only [hl6_30]); (with_reducible repeat (first | apply Kd.S_alloc | apply Kd.S_drewN | apply Kd.S_drew)); first | exact HO_7.out | exact Kd.S_mono HO_7.out xi⟩, ⟨by repeat (first | (with_reducible first | exact HB.out | apply below_alloc | apply pw_below_drewN | apply below_drew1) | exact HB.out)⟩⟩
                                    · replace c40 := Bool.eq_false_iff.mpr c40
                                      subst c40
                                      have H1 : (if 0 ≤ x12_4 then (if x12_4 < (l0.length : Int) then (if (wrap64 (x13_4 + 1)) < (rd l0 x12_4) then (impl_HooksOfReverse.l2 kj30 l0 y278 x7_3 x10_3 x12_4 (wrap64 (x13_4 + 1))) else (if x12_4 < (x7_3.length : Int) then (if 0 ≤ x10_3 then (if x10_3 < ((rd_L1 x7_3 x12_4).length : Int) then ((impl_start.f kj30 y278).bind fun bt287 => (impl_HooksOfReverse.l1 kj30 l0 y278 (x7_3.set (x12_4 : Int).toNat ((rd_L1 x7_3 x12_4).set (x10_3 : Int).toNat (wrap64 ((rd (rd_L1 x7_3 x12_4) x10_3) + 1)))) bt287.1 bt287.2)) else (none)) else (none)) else (none))) else (none)) else (none)) = some (r1, r2) := by rw [if_neg (show ¬ (false = true) by decide)] at H; exact H
                                      clear H
                                      have H := H1
                                      clear H1
                                      by_cases c41 : 0 ≤ x12_4
                                      · rw [if_pos c41] at H
                                        have c41b0 : decide (0 ≤ x12_4) = true := decide_eq_true c41
                                        clear c41
                                        by_cases c42 : x12_4 < (l0.length : Int)
                                        · rw [if_pos c42] at H
                                          have c42b0 : decide (x12_4 < (l0.length : Int)) = true := decide_eq_true c42
                                          have c42b0x := c42b0
                                          (try simp only [hl6_3, hl6_4, hl6_30] at c42b0x)
                                          clear c42
                                          by_cases c43 : (wrap64 (x13_4 + 1)) < (rd l0 x12_4)
                                          · rw [if_pos c43] at H
                                            have c43b0 : decide ((wrap64 (x13_4 + 1)) < (rd l0 x12_4)) = true := decide_eq_true c43
                                            clear c43
                                            have H' := Aside0.mk H
                                            clear H
                                            have p281 : 0 ≤ (x12_4 : Int) := of_decide_eq_true (by first | (with_reducible assumption) | assumption)
                                            have q281 : x12_4 < (l0.length : Int) := of_decide_eq_true (by first | (with_reducible assumption) | assumption)
                                            obtain ⟨ad281, e281, hx281_0⟩ := Kd.at_int HR0.out x12_4 p281 q281
                                            cases e281
                                            (try replace hx281_0 := (HB.out.cell (World.block_lt_of_cell? w _ hx281_0)).trans hx281_0)
                                            replace p281 := eq_true p281
                                            replace q281 := eq_true q281
                                            go_wp2
                                            (try simp only [← hl6_4, ← hl6_30])
                                            go_roundg kj30
                                            case measure => have := HJ2.out; have := HK2.out; have := HK3.out; have := HK4.out; have := HJ30.out; omega
                                            case rel => exact ⟨(y278), (x12_4), (wrap64 (x13_4 + 1)), (by first | rfl | (simp; done) | (simp [*]; done)), (by first | rfl | (simp; done) | (simp [*]; done)), H', ⟨by have := HJ2.out; have := HK2.out; have := HK3.out; have := HK4.out; have := HJ30.out; omega⟩, ⟨by (try simp only [hl6_3]); (try simp only [hl6_4]); (try simp only [hl6_30]); (with_reducible repeat (first | apply Kd.S_alloc | apply Kd.S_drewN | apply Kd.S_drew)); first | exact HO_6.out | exact Kd.S_mono HO_6.out xi⟩, ⟨by (try simp only [hl6_3]); (try simp only [hl6_4]); (try simp only [hl6_30]); (with_reducible repeat (first | apply Kd.S_alloc | apply Kd.S_drewN | apply Kd.S_drew)); first | exact HO_7.out | exact Kd.S_mono HO_7.out xi⟩, ⟨by repeat (first | (with_reducible first | exact HB.out | apply below_alloc | apply pw_below_drewN | apply below_drew1) | exact HB.out)⟩⟩
                                          · rw [if_neg c43] at H
                                            have c43b0 : decide ((wrap64 (x13_4 + 1)) < (rd l0 x12_4)) = false := decide_eq_false c43
                                            clear c43
                                            by_cases c44 : x12_4 < (x7_3.length : Int)
                                            · rw [if_pos c44] at H
                                              have c44b0 : decide (x12_4 < (x7_3.length : Int)) = true := decide_eq_true c44
                                              have c44b0x := c44b0
                                              (try simp only [hl6_3, hl6_4, hl6_30] at c44b0x)
                                              clear c44
                                              by_cases c45 : 0 ≤ x10_3
                                              · rw [if_pos c45] at H
                                                have c45b0 : decide (0 ≤ x10_3) = true := decide_eq_true c45
                                                clear c45
                                                by_cases c46 : x10_3 < ((rd_L1 x7_3 x12_4).length : Int)
                                                · rw [if_pos c46] at H
                                                  have c46b0 : decide (x10_3 < ((rd_L1 x7_3 x12_4).length : Int)) = true := decide_eq_true c46
                                                  have c46b0x := c46b0
                                                  (try simp only [hl6_3, hl6_4, hl6_30] at c46b0x)
                                                  clear c46
                                                  obtain ⟨y284, hy284⟩ : ∃ y_ : List Int, y_ = ((rd_L1 x7_3 x12_4).set (x10_3 : Int).toNat (wrap64 ((rd (rd_L1 x7_3 x12_4) x10_3) + 1))) := ⟨_, rfl⟩
                                                  replace H : ((impl_start.f kj30 y278).bind fun bt287 => (impl_HooksOfReverse.l1 kj30 l0 y278 (x7_3.set (x12_4 : Int).toNat y284) bt287.1 bt287.2)) = some (r1, r2) := by first | (rw [hy284]; with_reducible exact H) | (have H2_ := (Option.bind_some _ _).symm.trans H; rw [hy284]; with_reducible exact H2_) | (have H2_ := (Option.bind_some _ _).symm.trans H; with_reducible exact H2_) | with_reducible exact H | (rw [hy284]; exact H) | exact H
                                                  have Ny284 := Aside0.mk hy284
                                                  clear hy284
                                                  obtain ⟨y286, hy286⟩ : ∃ y_ : List (List Int), y_ = (x7_3.set (x12_4 : Int).toNat y284) := ⟨_, rfl⟩
                                                  replace H : ((impl_start.f kj30 y278).bind fun bt287 => (impl_HooksOfReverse.l1 kj30 l0 y278 y286 bt287.1 bt287.2)) = some (r1, r2) := by first | (rw [hy286]; with_reducible exact H) | (have H2_ := (Option.bind_some _ _).symm.trans H; rw [hy286]; with_reducible exact H2_) | (have H2_ := (Option.bind_some _ _).symm.trans H; with_reducible exact H2_) | with_reducible exact H | (rw [hy286]; exact H) | exact H
                                                  have Ny286 := Aside0.mk hy286
                                                  clear hy286
                                                  replace H := Option.bind_eq_some_iff.mp H
                                                  obtain ⟨⟨t287, t288⟩, A480, H⟩ := H
                                                  replace H : (impl_HooksOfReverse.l1 kj30 l0 y278 y286 t287 t288) = some (r1, r2) := H
                                                  have A48 := Aside0.mk A480
                                                  clear A480
                                                  have H' := Aside0.mk H
                                                  clear H
                                                  have p281 : 0 ≤ (x12_4 : Int) := of_decide_eq_true (by first | (with_reducible assumption) | assumption)
                                                  have q281 : x12_4 < (l0.length : Int) := of_decide_eq_true (by first | (with_reducible assumption) | assumption)
                                                  obtain ⟨ad281, e281, hx281_0⟩ := Kd.at_int HR0.out x12_4 p281 q281
                                                  cases e281
                                                  (try replace hx281_0 := (HB.out.cell (World.block_lt_of_cell? w _ hx281_0)).trans hx281_0)
                                                  replace p281 := eq_true p281
                                                  replace q281 := eq_true q281
                                                  obtain ⟨Ao49, co49, eo49⟩ := Kd.S_slice HO_7.out
                                                  subst eo49
                                                  have p282 : 0 ≤ (x12_4 : Int) := of_decide_eq_true (by first | (with_reducible assumption) | assumption)
                                                  have q282 : x12_4 < (x7_3.length : Int) := of_decide_eq_true (by first | (with_reducible assumption) | assumption)
                                                  obtain ⟨ad282, A282_0, c282_0, e282, hx282_0, hl282_0, hi282_0⟩ := at_L1 (Kd.S_reads' HO_7.out).2.2 x12_4 p282 q282
                                                  cases e282
                                                  obtain ⟨ce282, hce282, hMe282, hcc282⟩ := Kd.S_get HO_7.out [] x12_4 p282 (by first | exact q282 | exact of_decide_eq_true (by first | (with_reducible assumption) | assumption) | (have e_ := (Kd.S_reads' HO_7.out).1; omega))
                                                  obtain ⟨ve282_0, rfl, ge282_0⟩ := hMe282
                                                  have hv282_0 := hcc282 0 _ rfl
                                                  rw [Nat.add_zero, show ((Kd.slice 3 (Kd.int .i64))).sz = 1 from rfl, Nat.mul_one] at hv282_0
                                                  replace hv282_0 := Option.some.inj (hv282_0.symm.trans hx282_0)
                                                  rw [hv282_0] at ge282_0
                                                  have HL282_0 := Aside0.mk (show Kd.R (Kd.int .i64) 3 _ _ _ _ (rd_L1 x7_3 x12_4) from ge282_0)
                                                  clear hv282_0 ge282_0
                                                  have HX282_0 := Aside0.mk hx282_0
                                                  clear hcc282 hce282
                                                  have HR282_0 := Aside0.mk hi282_0
                                                  have HC282_0 := Aside0.mk hl282_0
                                                  clear hi282_0 hl282_0
                                                  replace p282 := eq_true p282
                                                  replace q282 := eq_true q282
                                                  have p283 : 0 ≤ (x10_3 : Int) := of_decide_eq_true (by first | (with_reducible assumption) | assumption)
                                                  have q283 : x10_3 < ((rd_L1 x7_3 x12_4).length : Int) := of_decide_eq_true (by first | (with_reducible assumption) | assumption)
                                                  obtain ⟨ad283, e283, hx283_0⟩ := Kd.at_int (by repeat (first | (with_reducible exact HR282_0.out) | (with_reducible refine Kd.C_alloc ?_ _) | (with_reducible refine Kd.C_drewN ?_ _) | (with_reducible refine Kd.C_drew ?_) | exact HR282_0.out)) x10_3 p283 q283
                                                  cases e283
                                                  replace p283 := eq_true p283
                                                  replace q283 := eq_true q283
                                                  have p47 : 0 ≤ (x10_3 : Int) := of_decide_eq_true (by first | (with_reducible assumption) | assumption)
                                                  have q47 : (x10_3 : Int) < (((rd_L1 x7_3 x12_4).length : Int) : Int) := of_decide_eq_true (by first | (with_reducible assumption) | assumption)
                                                  obtain ⟨go47, co47, eo47, gb47, gl47, cl47, HG47⟩ := Kd.R_form HL282_0.out (by omega)
                                                  (first | cases eo47 | (injection eo47 with ea_ en_ ec_; (first | subst ea_ | (injection ea_ with ea_; subst ea_)); subst ec_; clear en_))
                                                  have GB47 := Aside0.mk gb47
                                                  have GG47 := Aside0.mk HG47
                                                  clear gb47 gl47 HG47
                                                  (first | simp only [add_plain] at hx283_0 | skip)
                                                  obtain ⟨hx47_0, hf47_0⟩ := Kd.R_celln 0 HL282_0.out (x10_3 : Int) p47 q47
                                                  replace p47 := eq_true p47
                                                  replace q47 := eq_true q47
                                                  have hq50 : (x12_4 : Int) < (x7_3.length : Int) := (by have h_ : (x12_4 : Int) < ((x7_3.length : Int) : Int) := of_decide_eq_true (by first | (with_reducible assumption) | assumption); first | exact h_ | (have e_ := (Kd.S_reads' HO_7.out).1; omega) | simpa only [List.length_set, List.length_set] using h_)
                                                  obtain ⟨oki50, ce50, hcl50, hM50, hcc50, hok50, hbk50⟩ := Kd.S_borrow HO_7.out [] (x12_4 : Int) (of_decide_eq_true (by first | (with_reducible assumption) | assumption)) hq50
                                                  obtain ⟨ve50_0, rfl, ge50_0⟩ := hM50
                                                  have hv50 := hcc50 0 _ rfl
                                                  rw [Nat.add_zero, show ((Kd.slice 3 (Kd.int .i64))).sz = 1 from rfl, Nat.mul_one] at hv50
                                                  replace hv50 := Option.some.inj (hv50.symm.trans HX282_0.out)
                                                  subst hv50
                                                  clear hcc50 hcl50
                                                  replace ge50_0 := (show Kd.R (Kd.int .i64) 3 _ _ _ _ (rd_L1 x7_3 x12_4) from ge50_0)
                                                  have HP50 := Kd.R_putg ge50_0 (x10_3 : Int) (wrap64 ((rd (rd_L1 x7_3 x12_4) x10_3) + 1))
                                                  go_wp2_with (first | ((with_reducible refine gate_store (t := 3) (p := 112) rfl ?_); refine store_event (t := 3) (p := 112) (v := ?vo_w51) (w1 := (wc.setCell ⟨go47, (x10_3 : Int).toNat, none⟩ (.int .i64 (wrap64 ((rd (rd_L1 x7_3 x12_4) x10_3) + 1))))) ?hg ?ho ?hn ?hr ?_; (case ho => rfl); (case hg => rfl); (case hn => rfl); (case hr => first | (go_simp; done) | (go_simp; rfl)); intro w51 hw; have hg : wc.grownBy w51 (some go47) := (by rw [hw]; exact HP50.2); have hz_ : Kd.R (Kd.int .i64) 3 w51 w.heap.size oki50 (.slice (some ⟨go47, 0, none⟩) (rd_L1 x7_3 x12_4).length c282_0) y284 := (by rw [hw, Ny284.out]; exact HP50.1); have hp_ : Kd.S (Kd.slice 3 (Kd.int .i64)) 22 w51 w.heap.size (fun k_ => some k_ ≠ (.slice (some ad272) y278.length co23 : Value).ownBlock ∧ k_ ≠ dmI N289_ k_) (.slice (some ad282) x7_3.length co49) y286 := (by rw [Ny286.out]; exact hbk50 hg (fun k_ e_ => by injection e_ with e_; subst e_; exact ge50_0.1 _ rfl) (Kd.M_row hz_)); have hm_ := Kd.R_mono hz_ hok50; clear HP50 hbk50; have n0_ := Aside0.mk (Kd.S_grown (xS HO_6.out) hg (fun k_ hk_ e_ => (by have q_ := Option.some.inj e_; subst q_; exact dmNo ((HL282_0.out.1 _ rfl).1.2) hk_.2))); have n1_ := Aside0.mk (hp_); have n2_ := Aside0.mk ((by rw [hw]; exact below_set (HB.out) GB47.out : Below w.heap.size w w51)); have n3_ := Aside0.mk (hm_); have n4_ := Aside0.mk ((Kd.R_reads' hm_).2.1); clear HO_6; clear HO_7; clear HB; clear HL282_0; have HO_6 := n0_; have HO_7 := n1_; have HB := n2_; have HL293 := n3_; have HC285 := n4_; clear n0_ n1_ n2_ n3_ n4_; clear hg hw hp_ hz_ hm_ hok50) | ((with_reducible refine gate_callee (f := 37) rfl ?_); refine goesL_ (some 51) rfl rfl Try.func37 (by kernel_rfl) rfl #[.slice (some ad272) y278.length co23] rfl xm ?_; (with_reducible refine (impl_start.calls kj30 _ _ y278 t287 t288 _ ?side1 ?side2 A48.out).mono ?_); (case side1 => repeat (first | exact (Kd.S_reads' HO_6.out).2.2 | (with_reducible refine Kd.C_alloc ?_ _) | (with_reducible refine Kd.C_drewN ?_ _) | (with_reducible refine Kd.C_drew ?_))); (case side2 => exact (Kd.S_reads' HO_6.out).2.1); rintro e w' ⟨rfl, ⟨nd, rfl⟩⟩; refine ⟨_, rfl, ?_⟩))
                                                  (try simp only [← hl6_3, ← hl6_4, ← hl6_30])
                                                  go_roundg kj30
                                                  case measure => have := HJ2.out; have := HK2.out; have := HK3.out; have := HK4.out; have := HJ30.out; omega
                                                  case rel => exact ⟨(y278), (y286), (t287), (t288), (by first | rfl | (simp; done) | (simp [*]; done)), (by first | rfl | (simp; done) | (simp [*]; done)), H', ⟨by have := HJ2.out; have := HK2.out; have := HK3.out; have := HK4.out; have := HJ30.out; omega⟩, ⟨by (try simp only [hl6_3]); (try simp only [hl6_4]); (try simp only [hl6_30]); (with_reducible repeat (first | apply Kd.S_alloc | apply Kd.S_drewN | apply Kd.S_drew)); first | exact HO_6.out | exact Kd.S_mono HO_6.out xi⟩, ⟨by (try simp only [hl6_3]); (try simp only [hl6_4]); (try simp only [hl6_30]); (with_reducible repeat (first | apply Kd.S_alloc | apply Kd.S_drewN | apply Kd.S_drew)); first | exact HO_7.out | exact Kd.S_mono HO_7.out xi⟩, ⟨by repeat (first | (with_reducible first | exact HB.out | apply below_alloc | apply pw_below_drewN | apply below_drew1) | exact HB.out)⟩⟩
                                                · rw [if_neg c46] at H
                                                  exact absurd H (by simp)
                                              · rw [if_neg c45] at H
                                                exact absurd H (by simp)
                                            · rw [if_neg c44] at H
                                              exact absurd H (by simp)
                                        · rw [if_neg c42] at H
                                          exact absurd H (by simp)
                                      · rw [if_neg c41] at H
                                        exact absurd H (by simp)
                              · rw [if_neg c29] at H
                                exact absurd H (by simp)
                            · rw [if_neg c28] at H
                              exact absurd H (by simp)
                          · rw [if_neg c27] at H
                            exact absurd H (by simp)
                        · rw [if_neg c26] at H
                          exact absurd H (by simp)
                  · replace c24 := Bool.eq_false_iff.mpr c24
                    subst c24
                    have H1 : (some (x7_3, true)) = some (r1, r2) := by rw [if_neg (show ¬ (false = true) by decide)] at H; exact H
                    clear H
                    have H := H1
                    clear H1
                    simp only [Option.some.injEq, Prod.mk.injEq] at H
                    obtain ⟨rfl, rfl⟩ := H
                    go_wp2
                    go_ret2
                    exact ⟨_, by first | rfl | (simp [errW_none, errW_some] <;> rfl) | (simp [*, errW_none, errW_some] <;> rfl), by (with_reducible repeat (first | apply Kd.S_alloc | apply Kd.S_drewN | apply Kd.S_drew)); exact Kd.S_mono HO_7.out (fun _ hk => trivial), by repeat (first | (with_reducible first | exact HB.out | apply below_alloc | apply pw_below_drewN | apply below_drew1) | exact HB.out)⟩

end Go.Proofs.Ytnmndjpkfcnaoaa.PFnExactHooksOfReverse
