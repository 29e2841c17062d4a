-- Written by a program of this session (wip/print/xprint.py).
import Derived.Test.YtnmndjpkfcnaoaaPFnExactHooksOfReversex0
import Derived.Test.YtnmndjpkfcnaoaaPFnExactHooksOfReversex8
namespace Go.Proofs.Ytnmndjpkfcnaoaa.PFnExactHooksOfReverse
open Go.RowKit Go.Proofs.YtnmndjpkfcnaoaaW.PrintWords Go.Proofs.YtnmndjpkfcnaoaaW.PrintLast Go.Proofs.YtnmndjpkfcnaoaaW.PrintMore
attribute [local go_sem] max2_int min2_int max_two min_two max_three min_three max_four min_four   -- for this text's walks alone
set_option linter.unusedVariables false
set_option linter.unusedSimpArgs false

/-! ### impl_IsFilling: function 28 -/
mutual
def impl_IsFilling.j0 : Nat → List Int → List (List Int) → Bool → Option (Bool)
  | 0, _, _, _ => none
  | k + 1, x0, x1, x16 => if x16 = true then (some false) else (impl_IsFilling.l0 k x0 x1 (x1.length : Int) 0)
def impl_IsFilling.l0 : Nat → List Int → List (List Int) → Int → Int → Option (Bool)
  | 0, _, _, _, _ => none
  | k + 1, x0, x17, x18, x19 => if x19 < x18 then (if 0 ≤ x19 then (if x19 < (x17.length : Int) then (if x19 < (x0.length : Int) then (if ((rd_L1 x17 x19).length : Int) = (rd x0 x19) then ((slices_ContainsFunc_int_int__impl_IsFilling_1.f k (rd_L1 x17 x19)).bind fun t231 => (if t231 = true then (some false) else (impl_IsFilling.l0 k x0 x17 x18 (wrap64 (x19 + 1))))) else (some false)) else (none)) else (none)) else (none)) else (some true)
end
def impl_IsFilling.f (k : Nat) (l0 : List Int) (l1 : List (List Int)) : Option (Bool) := (impl_IsPartition.f k l0).bind fun t228 => (if t228 = true then (impl_IsFilling.j0 k l0 l1 ((l1.length : Int) != (l0.length : Int))) else (impl_IsFilling.j0 k l0 l1 true))
theorem impl_IsFilling.mono_l : ∀ k, (∀ y0 y1 y2, LeO (impl_IsFilling.j0 k y0 y1 y2) (impl_IsFilling.j0 (k + 1) y0 y1 y2)) ∧ (∀ y0 y1 y2 y3, LeO (impl_IsFilling.l0 k y0 y1 y2 y3) (impl_IsFilling.l0 (k + 1) y0 y1 y2 y3))
  | 0 => ⟨fun _ _ _ r h => by simp [impl_IsFilling.j0] at h, fun _ _ _ _ r h => by simp [impl_IsFilling.l0] at h⟩
  | k + 1 => by
    obtain ⟨ih0, ih1⟩ := impl_IsFilling.mono_l k
    refine ⟨?_, ?_⟩
    · intro y0 y1 y2
      unfold impl_IsFilling.j0
      repeat' first
      | (with_reducible exact ih0 _ _ _)
      | (with_reducible exact ih1 _ _ _ _)
      | (with_reducible exact impl_IsPartition.mono _ _)
      | (with_reducible exact slices_ContainsFunc_int_int__impl_IsFilling_1.mono _ _)
      | (with_reducible exact LeO.refl _)
      | (with_reducible exact LeO.none _)
      | (with_reducible refine LeO.ite ?_ ?_)
      | (with_reducible refine LeO.bind ?_ (fun _ => ?_))
      | exact ih0 _ _ _
      | exact ih1 _ _ _ _
      | exact impl_IsPartition.mono _ _
      | exact slices_ContainsFunc_int_int__impl_IsFilling_1.mono _ _
      | exact LeO.none _
      | refine LeO.ite ?_ ?_
      | refine LeO.bind ?_ (fun _ => ?_)
    · intro y0 y1 y2 y3
      unfold impl_IsFilling.l0
      repeat' first
      | (with_reducible exact ih0 _ _ _)
      | (with_reducible exact ih1 _ _ _ _)
      | (with_reducible exact impl_IsPartition.mono _ _)
      | (with_reducible exact slices_ContainsFunc_int_int__impl_IsFilling_1.mono _ _)
      | (with_reducible exact LeO.refl _)
      | (with_reducible exact LeO.none _)
      | (with_reducible refine LeO.ite ?_ ?_)
      | (with_reducible refine LeO.bind ?_ (fun _ => ?_))
      | exact ih0 _ _ _
      | exact ih1 _ _ _ _
      | exact impl_IsPartition.mono _ _
      | exact slices_ContainsFunc_int_int__impl_IsFilling_1.mono _ _
      | exact LeO.none _
      | refine LeO.ite ?_ ?_
      | refine LeO.bind ?_ (fun _ => ?_)
theorem impl_IsFilling.mono : ∀ a0 a1 k, LeO (impl_IsFilling.f k a0 a1) (impl_IsFilling.f (k + 1) a0 a1) := by
  intro a0 a1 k
  obtain ⟨ih0, ih1⟩ := impl_IsFilling.mono_l k
  unfold impl_IsFilling.f
  repeat' first
      | (with_reducible exact ih0 _ _ _)
      | (with_reducible exact ih1 _ _ _ _)
      | (with_reducible exact impl_IsPartition.mono _ _)
      | (with_reducible exact slices_ContainsFunc_int_int__impl_IsFilling_1.mono _ _)
      | (with_reducible exact LeO.refl _)
      | (with_reducible exact LeO.none _)
      | (with_reducible refine LeO.ite ?_ ?_)
      | (with_reducible refine LeO.bind ?_ (fun _ => ?_))
      | exact ih0 _ _ _
      | exact ih1 _ _ _ _
      | exact impl_IsPartition.mono _ _
      | exact slices_ContainsFunc_int_int__impl_IsFilling_1.mono _ _
      | exact LeO.none _
      | refine LeO.ite ?_ ?_
      | refine LeO.bind ?_ (fun _ => ?_)
set_option maxHeartbeats 8000000 in
set_option maxRecDepth 100000 in
theorem impl_IsFilling.calls (k : Nat) (A0 : Option Addr) (c0 : Nat) (l0 : List Int) (A1 : Option Addr) (c1 : Nat) (l1 : List (List Int)) (r : Bool) (w : World) (hr0 : Kd.C (Kd.int .i64) w A0 l0.length l0) (hc0 : l0.length ≤ c0) (hr1 : Kd.C (Kd.slice 3 (Kd.int .i64)) w A1 l1.length l1) (hc1 : l1.length ≤ c1) (h : impl_IsFilling.f k l0 l1 = some r) :
    Calls Try.prog 28 #[.slice A0 l0.length c0, .slice A1 l1.length c1] w fun e w' => e = .returned (.bool r) ∧ Drawn0 w w' := by
  have HR0 := Aside0.mk hr0
  have HC0 := Aside0.mk hc0
  clear hr0 hc0
  have HR1 := Aside0.mk hr1
  have HC1 := Aside0.mk hc1
  clear hr1 hc1
  have H : ((impl_IsPartition.f k l0).bind fun t228 => (if t228 = true then (impl_IsFilling.j0 k l0 l1 ((l1.length : Int) != (l0.length : Int))) else (impl_IsFilling.j0 k l0 l1 true))) = some r := h
  clear h
  have HC3 := Aside0.mk H
  clear H
  go_enter Try.func28, Try.ntmps28
  go_upto_region 1 with (fail)
  go_cut [16] (fun v16 wc => ∃ (kq : Nat) (x16_2 : Bool), v16 = .bool x16_2 ∧ Aside0 (impl_IsFilling.j0 kq l0 l1 x16_2 = some r) ∧ Aside0 (kq ≤ k) ∧ Drawn0 w wc)
  case first =>
    have H := HC3.out
    clear HC3
    replace H := Option.bind_eq_some_iff.mp H
    obtain ⟨t228, A40, H⟩ := H
    replace H : (if t228 = true then (impl_IsFilling.j0 k l0 l1 ((l1.length : Int) != (l0.length : Int))) else (impl_IsFilling.j0 k l0 l1 true)) = some r := H
    have A4 := Aside0.mk A40
    clear A40
    by_cases c5 : t228 = true
    · subst c5
      have H1 : (impl_IsFilling.j0 k l0 l1 ((l1.length : Int) != (l0.length : Int))) = some r := by rw [if_pos rfl] at H; exact H
      clear H
      have H := H1
      clear H1
      have H' := Aside0.mk H
      clear H
      go_wp2_with (first | ((with_reducible refine gate_callee (f := 42) rfl ?_); refine goesL_ (some 8) rfl rfl Try.func42 (by kernel_rfl) rfl #[.slice A0 l0.length c0] rfl xm ?_; (with_reducible refine (impl_IsPartition.calls k _ _ l0 true _ ?side1 ?side2 A4.out).mono ?_); (case side1 => exact xc HR0.out); (case side2 => exact HC0.out); rintro e w' ⟨rfl, ⟨nd, rfl⟩⟩; refine ⟨_, rfl, ?_⟩))
      go_meet
      case rel => exact ⟨_, (((l1.length : Int) != (l0.length : Int))), (by first | rfl | (simp; done) | (simp [*]; done)), H', ⟨by first | omega | exact Nat.le_refl _⟩, by repeat (first | exact Drawn0.refl _ | apply Drawn0.step)⟩
    · replace c5 := Bool.eq_false_iff.mpr c5
      subst c5
      have H1 : (impl_IsFilling.j0 k l0 l1 true) = some r := by rw [if_neg (show ¬ (false = true) by decide)] at H; exact H
      clear H
      have H := H1
      clear H1
      have H' := Aside0.mk H
      clear H
      go_wp2_with (first | ((with_reducible refine gate_callee (f := 42) rfl ?_); refine goesL_ (some 8) rfl rfl Try.func42 (by kernel_rfl) rfl #[.slice A0 l0.length c0] rfl xm ?_; (with_reducible refine (impl_IsPartition.calls k _ _ l0 false _ ?side1 ?side2 A4.out).mono ?_); (case side1 => exact xc HR0.out); (case side2 => exact HC0.out); rintro e w' ⟨rfl, ⟨nd, rfl⟩⟩; refine ⟨_, rfl, ?_⟩))
      go_meet
      case rel => exact ⟨_, (true), (by first | rfl | (simp; done) | (simp [*]; done)), H', ⟨by first | omega | exact Nat.le_refl _⟩, by repeat (first | exact Drawn0.refl _ | apply Drawn0.step)⟩
  case rest =>
    clear HC3
    try clear c1
    try clear c2
    try clear p2
    try clear c4
    try clear c5
    obtain ⟨kq, x16_2, rfl, HA, HJ2, ⟨mc2, rfl⟩⟩ := hcut
    cases kq with
    | zero => exact absurd HA.out (by simp [impl_IsFilling.j0])
    | succ kj2 =>
      have H := HA.out
      clear HA
      simp only [impl_IsFilling.j0] at H
      by_cases c6 : x16_2 = true
      · subst c6
        have H1 : (some false) = some r := by rw [if_pos rfl] at H; exact H
        clear H
        have H := H1
        clear H1
        obtain rfl := Option.some.inj H
        go_wp2
        go_ret
        exact ⟨by first | rfl | (simp; done) | (simp [*]; done), by repeat (first | exact Drawn0.refl _ | apply Drawn0.step)⟩
      · replace c6 := Bool.eq_false_iff.mpr c6
        subst c6
        have H1 : (impl_IsFilling.l0 kj2 l0 l1 (l1.length : Int) 0) = some r := by rw [if_neg (show ¬ (false = true) by decide)] at H; exact H
        clear H
        have H := H1
        clear H1
        have H' := Aside0.mk H
        clear H
        go_wp2
        go_loopg [19] kj2 (fun kq v19 w' => ∃ (x19_2 : Int), v19 = .int .i64 x19_2 ∧ Aside0 (impl_IsFilling.l0 kq l0 l1 (l1.length : Int) x19_2 = some r) ∧ Aside0 (kq ≤ kj2) ∧ Drawn0 w w')
        case atStart => exact ⟨(0), (by first | rfl | (simp; done) | (simp [*]; done)), H', ⟨Nat.le_refl _⟩, by repeat (first | exact Drawn0.refl _ | apply Drawn0.step)⟩
        case round =>
          clear H'
          try clear c1
          try clear c2
          try clear p2
          try clear c4
          try clear c5
          try clear c6
          try clear p2
          obtain ⟨x19_2, rfl, HA, HK2, ⟨m2, rfl⟩⟩ := hrel
          cases gk with
          | zero => exact absurd HA.out (by simp [impl_IsFilling.l0])
          | succ k2 =>
            have H := HA.out
            clear HA
            simp only [impl_IsFilling.l0] at H
            by_cases c7 : x19_2 < (l1.length : Int)
            · rw [if_pos c7] at H
              have c7b0 : decide (x19_2 < (l1.length : Int)) = true := decide_eq_true c7
              clear c7
              by_cases c8 : 0 ≤ x19_2
              · rw [if_pos c8] at H
                have c8b0 : decide (0 ≤ x19_2) = true := decide_eq_true c8
                clear c8
                by_cases c9 : x19_2 < (l1.length : Int)
                · rw [if_pos c9] at H
                  have c9b0 : decide (x19_2 < (l1.length : Int)) = true := decide_eq_true c9
                  clear c9
                  by_cases c10 : x19_2 < (l0.length : Int)
                  · rw [if_pos c10] at H
                    have c10b0 : decide (x19_2 < (l0.length : Int)) = true := decide_eq_true c10
                    clear c10
                    by_cases c11 : ((rd_L1 l1 x19_2).length : Int) = (rd l0 x19_2)
                    · rw [if_pos c11] at H
                      have c11b0 : (((rd_L1 l1 x19_2).length : Int) == (rd l0 x19_2)) = true := beq_iff_eq.mpr c11
                      have c11b1 : (((rd_L1 l1 x19_2).length : Int) != (rd l0 x19_2)) = false := bne_eq_false_iff_eq.mpr c11
                      clear c11
                      replace H := Option.bind_eq_some_iff.mp H
                      obtain ⟨t231, A120, H⟩ := H
                      replace H : (if t231 = true then (some false) else (impl_IsFilling.l0 k2 l0 l1 (l1.length : Int) (wrap64 (x19_2 + 1)))) = some r := H
                      have A12 := Aside0.mk A120
                      clear A120
                      by_cases c13 : t231 = true
                      · subst c13
                        have H1 : (some false) = some r := by rw [if_pos rfl] at H; exact H
                        clear H
                        have H := H1
                        clear H1
                        obtain rfl := Option.some.inj H
                        have p229 : 0 ≤ (x19_2 : Int) := of_decide_eq_true (by first | (with_reducible assumption) | assumption)
                        have q229 : x19_2 < (l1.length : Int) := of_decide_eq_true (by first | (with_reducible assumption) | assumption)
                        obtain ⟨ad229, A229_0, c229_0, e229, hx229_0, hl229_0, hi229_0⟩ := at_L1 HR1.out x19_2 p229 q229
                        cases e229
                        have HR229_0 := Aside0.mk hi229_0
                        have HC229_0 := Aside0.mk hl229_0
                        clear hi229_0 hl229_0
                        replace p229 := eq_true p229
                        replace q229 := eq_true q229
                        have p230 : 0 ≤ (x19_2 : Int) := of_decide_eq_true (by first | (with_reducible assumption) | assumption)
                        have q230 : x19_2 < (l0.length : Int) := of_decide_eq_true (by first | (with_reducible assumption) | assumption)
                        obtain ⟨ad230, e230, hx230_0⟩ := Kd.at_int HR0.out x19_2 p230 q230
                        cases e230
                        replace p230 := eq_true p230
                        replace q230 := eq_true q230
                        go_wp2_with (first | (go_at_call 43; (with_reducible refine (slices_ContainsFunc_int_int__impl_IsFilling_1.calls k2 _ _ (rd_L1 l1 x19_2)  true _ ?side1 ?side2 A12.out).mono ?_); (case side1 => exact xc HR229_0.out); (case side2 => exact HC229_0.out); rintro e w' ⟨rfl, ⟨nd, rfl⟩⟩))
                        go_ret
                        exact ⟨by first | rfl | (simp; done) | (simp [*]; done), by repeat (first | exact Drawn0.refl _ | apply Drawn0.step)⟩
                      · replace c13 := Bool.eq_false_iff.mpr c13
                        subst c13
                        have H1 : (impl_IsFilling.l0 k2 l0 l1 (l1.length : Int) (wrap64 (x19_2 + 1))) = some r := by rw [if_neg (show ¬ (false = true) by decide)] at H; exact H
                        clear H
                        have H := H1
                        clear H1
                        have H' := Aside0.mk H
                        clear H
                        have p229 : 0 ≤ (x19_2 : Int) := of_decide_eq_true (by first | (with_reducible assumption) | assumption)
                        have q229 : x19_2 < (l1.length : Int) := of_decide_eq_true (by first | (with_reducible assumption) | assumption)
                        obtain ⟨ad229, A229_0, c229_0, e229, hx229_0, hl229_0, hi229_0⟩ := at_L1 HR1.out x19_2 p229 q229
                        cases e229
                        have HR229_0 := Aside0.mk hi229_0
                        have HC229_0 := Aside0.mk hl229_0
                        clear hi229_0 hl229_0
                        replace p229 := eq_true p229
                        replace q229 := eq_true q229
                        have p230 : 0 ≤ (x19_2 : Int) := of_decide_eq_true (by first | (with_reducible assumption) | assumption)
                        have q230 : x19_2 < (l0.length : Int) := of_decide_eq_true (by first | (with_reducible assumption) | assumption)
                        obtain ⟨ad230, e230, hx230_0⟩ := Kd.at_int HR0.out x19_2 p230 q230
                        cases e230
                        replace p230 := eq_true p230
                        replace q230 := eq_true q230
                        go_wp2_with (first | (go_at_call 43; (with_reducible refine (slices_ContainsFunc_int_int__impl_IsFilling_1.calls k2 _ _ (rd_L1 l1 x19_2)  false _ ?side1 ?side2 A12.out).mono ?_); (case side1 => exact xc HR229_0.out); (case side2 => exact HC229_0.out); rintro e w' ⟨rfl, ⟨nd, rfl⟩⟩))
                        go_roundg k2
                        case measure => have := HJ2.out; have := HK2.out; omega
                        case rel => exact ⟨(wrap64 (x19_2 + 1)), (by first | rfl | (simp; done) | (simp [*]; done)), H', ⟨by have := HJ2.out; have := HK2.out; omega⟩, by repeat (first | exact Drawn0.refl _ | apply Drawn0.step)⟩
                    · rw [if_neg c11] at H
                      have c11b0 : (((rd_L1 l1 x19_2).length : Int) == (rd l0 x19_2)) = false := beq_eq_false_iff_ne.mpr c11
                      have c11b1 : (((rd_L1 l1 x19_2).length : Int) != (rd l0 x19_2)) = true := bne_iff_ne.mpr c11
                      obtain rfl := Option.some.inj H
                      have p229 : 0 ≤ (x19_2 : Int) := of_decide_eq_true (by first | (with_reducible assumption) | assumption)
                      have q229 : x19_2 < (l1.length : Int) := of_decide_eq_true (by first | (with_reducible assumption) | assumption)
                      obtain ⟨ad229, A229_0, c229_0, e229, hx229_0, hl229_0, hi229_0⟩ := at_L1 HR1.out x19_2 p229 q229
                      cases e229
                      have HR229_0 := Aside0.mk hi229_0
                      have HC229_0 := Aside0.mk hl229_0
                      clear hi229_0 hl229_0
                      replace p229 := eq_true p229
                      replace q229 := eq_true q229
                      have p230 : 0 ≤ (x19_2 : Int) := of_decide_eq_true (by first | (with_reducible assumption) | assumption)
                      have q230 : x19_2 < (l0.length : Int) := of_decide_eq_true (by first | (with_reducible assumption) | assumption)
                      obtain ⟨ad230, e230, hx230_0⟩ := Kd.at_int HR0.out x19_2 p230 q230
                      cases e230
                      replace p230 := eq_true p230
                      replace q230 := eq_true q230
                      go_wp2
                      go_ret
                      exact ⟨by first | rfl | (simp; done) | (simp [*]; done), by repeat (first | exact Drawn0.refl _ | apply Drawn0.step)⟩
                  · rw [if_neg c10] at H
                    exact absurd H (by simp)
                · rw [if_neg c9] at H
                  exact absurd H (by simp)
              · rw [if_neg c8] at H
                exact absurd H (by simp)
            · rw [if_neg c7] at H
              have c7b0 : decide (x19_2 < (l1.length : Int)) = false := decide_eq_false c7
              clear c7
              obtain rfl := Option.some.inj H
              go_wp2
              go_ret
              exact ⟨by first | rfl | (simp; done) | (simp [*]; done), by repeat (first | exact Drawn0.refl _ | apply Drawn0.step)⟩

/-! ### impl_IsReverse: function 34 -/
mutual
def impl_IsReverse.l0 : Nat → List (List Int) → List (List Int) → Int → Int → Option (Bool)
  | 0, _, _, _, _ => none
  | k + 1, x1, x13, x14, x15 => if x15 < x14 then (if 0 ≤ x15 then (if x15 < (x13.length : Int) then (impl_IsReverse.l1 k x1 x15 (rd_L1 x13 x15) x13 x14 x15 (rd_L1 x13 x15) ((rd_L1 x13 x15).length : Int) 0) else (none)) else (none)) else (some true)
def impl_IsReverse.l1 : Nat → List (List Int) → Int → List Int → List (List Int) → Int → Int → List Int → Int → Int → Option (Bool)
  | 0, _, _, _, _, _, _, _, _, _ => none
  | k + 1, x1, x5, x6, x13, x14, x15, x20, x21, x22 => if x22 < x21 then (if 0 ≤ x22 then (if x22 < (x20.length : Int) then (if x22 > 0 then (if 0 ≤ (wrap64 (x22 - 1)) then (if (wrap64 (x22 - 1)) < (x6.length : Int) then (if (rd x20 x22) < (rd x6 (wrap64 (x22 - 1))) then (some false) else (if x5 > 0 then (if 0 ≤ (wrap64 (x5 - 1)) then (if (wrap64 (x5 - 1)) < (x1.length : Int) then (if x22 < ((rd_L1 x1 (wrap64 (x5 - 1))).length : Int) then (if (rd x20 x22) < (rd (rd_L1 x1 (wrap64 (x5 - 1))) x22) then (some false) else (impl_IsReverse.l1 k x1 x5 x6 x13 x14 x15 x20 x21 (wrap64 (x22 + 1)))) else (none)) else (none)) else (none)) else (impl_IsReverse.l1 k x1 x5 x6 x13 x14 x15 x20 x21 (wrap64 (x22 + 1))))) else (none)) else (none)) else (if x5 > 0 then (if 0 ≤ (wrap64 (x5 - 1)) then (if (wrap64 (x5 - 1)) < (x1.length : Int) then (if x22 < ((rd_L1 x1 (wrap64 (x5 - 1))).length : Int) then (if (rd x20 x22) < (rd (rd_L1 x1 (wrap64 (x5 - 1))) x22) then (some false) else (impl_IsReverse.l1 k x1 x5 x6 x13 x14 x15 x20 x21 (wrap64 (x22 + 1)))) else (none)) else (none)) else (none)) else (impl_IsReverse.l1 k x1 x5 x6 x13 x14 x15 x20 x21 (wrap64 (x22 + 1))))) else (none)) else (none)) else (impl_IsReverse.l0 k x1 x13 x14 (wrap64 (x15 + 1)))
end
def impl_IsReverse.f (k : Nat) (l0 : List Int) (l1 : List (List Int)) : Option (Bool) := (impl_IsFilling.f k l0 l1).bind fun t232 => (if t232 = true then (impl_IsReverse.l0 k l1 l1 (l1.length : Int) 0) else (some false))
theorem impl_IsReverse.mono_l : ∀ k, (∀ y0 y1 y2 y3, LeO (impl_IsReverse.l0 k y0 y1 y2 y3) (impl_IsReverse.l0 (k + 1) y0 y1 y2 y3)) ∧ (∀ y0 y1 y2 y3 y4 y5 y6 y7 y8, LeO (impl_IsReverse.l1 k y0 y1 y2 y3 y4 y5 y6 y7 y8) (impl_IsReverse.l1 (k + 1) y0 y1 y2 y3 y4 y5 y6 y7 y8))
  | 0 => ⟨fun _ _ _ _ r h => by simp [impl_IsReverse.l0] at h, fun _ _ _ _ _ _ _ _ _ r h => by simp [impl_IsReverse.l1] at h⟩
  | k + 1 => by
    obtain ⟨ih0, ih1⟩ := impl_IsReverse.mono_l k
    refine ⟨?_, ?_⟩
    · intro y0 y1 y2 y3
      unfold impl_IsReverse.l0
      repeat' first
      | (with_reducible exact ih0 _ _ _ _)
      | (with_reducible exact ih1 _ _ _ _ _ _ _ _ _)
      | (with_reducible exact impl_IsFilling.mono _ _ _)
      | (with_reducible exact LeO.refl _)
      | (with_reducible exact LeO.none _)
      | (with_reducible refine LeO.ite ?_ ?_)
      | (with_reducible refine LeO.bind ?_ (fun _ => ?_))
      | exact ih0 _ _ _ _
      | exact ih1 _ _ _ _ _ _ _ _ _
      | exact impl_IsFilling.mono _ _ _
      | exact LeO.none _
      | refine LeO.ite ?_ ?_
      | refine LeO.bind ?_ (fun _ => ?_)
    · intro y0 y1 y2 y3 y4 y5 y6 y7 y8
      unfold impl_IsReverse.l1
      repeat' first
      | (with_reducible exact ih0 _ _ _ _)
      | (with_reducible exact ih1 _ _ _ _ _ _ _ _ _)
      | (with_reducible exact impl_IsFilling.mono _ _ _)
      | (with_reducible exact LeO.refl _)
      | (with_reducible exact LeO.none _)
      | (with_reducible refine LeO.ite ?_ ?_)
      | (with_reducible refine LeO.bind ?_ (fun _ => ?_))
      | exact ih0 _ _ _ _
      | exact ih1 _ _ _ _ _ _ _ _ _
      | exact impl_IsFilling.mono _ _ _
      | exact LeO.none _
      | refine LeO.ite ?_ ?_
      | refine LeO.bind ?_ (fun _ => ?_)
theorem impl_IsReverse.mono : ∀ a0 a1 k, LeO (impl_IsReverse.f k a0 a1) (impl_IsReverse.f (k + 1) a0 a1) := by
  intro a0 a1 k
  obtain ⟨ih0, ih1⟩ := impl_IsReverse.mono_l k
  unfold impl_IsReverse.f
  repeat' first
      | (with_reducible exact ih0 _ _ _ _)
      | (with_reducible exact ih1 _ _ _ _ _ _ _ _ _)
      | (with_reducible exact impl_IsFilling.mono _ _ _)
      | (with_reducible exact LeO.refl _)
      | (with_reducible exact LeO.none _)
      | (with_reducible refine LeO.ite ?_ ?_)
      | (with_reducible refine LeO.bind ?_ (fun _ => ?_))
      | exact ih0 _ _ _ _
      | exact ih1 _ _ _ _ _ _ _ _ _
      | exact impl_IsFilling.mono _ _ _
      | exact LeO.none _
      | refine LeO.ite ?_ ?_
      | refine LeO.bind ?_ (fun _ => ?_)
set_option maxHeartbeats 8000000 in
set_option maxRecDepth 100000 in
theorem impl_IsReverse.calls (k : Nat) (A0 : Option Addr) (c0 : Nat) (l0 : List Int) (A1 : Option Addr) (c1 : Nat) (l1 : List (List Int)) (r : Bool) (w : World) (hr0 : Kd.C (Kd.int .i64) w A0 l0.length l0) (hc0 : l0.length ≤ c0) (hr1 : Kd.C (Kd.slice 3 (Kd.int .i64)) w A1 l1.length l1) (hc1 : l1.length ≤ c1) (h : impl_IsReverse.f k l0 l1 = some r) :
    Calls Try.prog 34 #[.slice A0 l0.length c0, .slice A1 l1.length c1] w fun e w' => e = .returned (.bool r) ∧ Drawn0 w w' := by
  have HR0 := Aside0.mk hr0
  have HC0 := Aside0.mk hc0
  clear hr0 hc0
  have HR1 := Aside0.mk hr1
  have HC1 := Aside0.mk hc1
  clear hr1 hc1
  have H : ((impl_IsFilling.f k l0 l1).bind fun t232 => (if t232 = true then (impl_IsReverse.l0 k l1 l1 (l1.length : Int) 0) else (some false))) = some r := h
  clear h
  replace H := Option.bind_eq_some_iff.mp H
  obtain ⟨t232, A30, H⟩ := H
  replace H : (if t232 = true then (impl_IsReverse.l0 k l1 l1 (l1.length : Int) 0) else (some false)) = some r := H
  have A3 := Aside0.mk A30
  clear A30
  by_cases c4 : t232 = true
  · subst c4
    have H1 : (impl_IsReverse.l0 k l1 l1 (l1.length : Int) 0) = some r := by rw [if_pos rfl] at H; exact H
    clear H
    have H := H1
    clear H1
    have H' := Aside0.mk H
    clear H
    go_enter Try.func34, Try.ntmps34
    go_wp2_with (first | ((with_reducible refine gate_callee (f := 28) rfl ?_); refine goesL_ (some 11) rfl rfl Try.func28 (by kernel_rfl) rfl #[.slice A0 l0.length c0, .slice A1 l1.length c1] rfl xm ?_; (with_reducible refine (impl_IsFilling.calls k _ _ l0 _ _ l1 true _ ?side1 ?side2 ?side3 ?side4 A3.out).mono ?_); (case side1 => exact xc HR0.out); (case side2 => exact HC0.out); (case side3 => exact xc HR1.out); (case side4 => exact HC1.out); rintro e w' ⟨rfl, ⟨nd, rfl⟩⟩; refine ⟨_, rfl, ?_⟩))
    go_loopg [15] k (fun kq v15 w' => ∃ (x15_1 : Int), v15 = .int .i64 x15_1 ∧ Aside0 (impl_IsReverse.l0 kq l1 l1 (l1.length : Int) x15_1 = some r) ∧ Aside0 (kq ≤ k) ∧ Drawn0 w w')
    case atStart => exact ⟨(0), (by first | rfl | (simp; done) | (simp [*]; done)), H', ⟨Nat.le_refl _⟩, by repeat (first | exact Drawn0.refl _ | apply Drawn0.step)⟩
    case round =>
      clear H'
      try clear c1
      try clear c2
      try clear p2
      try clear c3
      try clear c4
      obtain ⟨x15_1, rfl, HA, HK1, ⟨m1, rfl⟩⟩ := hrel
      cases gk with
      | zero => exact absurd HA.out (by simp [impl_IsReverse.l0])
      | succ k1 =>
        have H := HA.out
        clear HA
        simp only [impl_IsReverse.l0] at H
        by_cases c5 : x15_1 < (l1.length : Int)
        · rw [if_pos c5] at H
          have c5b0 : decide (x15_1 < (l1.length : Int)) = true := decide_eq_true c5
          clear c5
          by_cases c6 : 0 ≤ x15_1
          · rw [if_pos c6] at H
            have c6b0 : decide (0 ≤ x15_1) = true := decide_eq_true c6
            clear c6
            by_cases c7 : x15_1 < (l1.length : Int)
            · rw [if_pos c7] at H
              have c7b0 : decide (x15_1 < (l1.length : Int)) = true := decide_eq_true c7
              clear c7
              have H' := Aside0.mk H
              clear H
              have p233 : 0 ≤ (x15_1 : Int) := of_decide_eq_true (by first | (with_reducible assumption) | assumption)
              have q233 : x15_1 < (l1.length : Int) := of_decide_eq_true (by first | (with_reducible assumption) | assumption)
              obtain ⟨ad233, A233_0, c233_0, e233, hx233_0, hl233_0, hi233_0⟩ := at_L1 HR1.out x15_1 p233 q233
              cases e233
              have HR233_0 := Aside0.mk hi233_0
              have HC233_0 := Aside0.mk hl233_0
              clear hi233_0 hl233_0
              replace p233 := eq_true p233
              replace q233 := eq_true q233
              go_wp2
              go_loopg [22] k1 (fun kq v22 w' => ∃ (x22_2 : Int), v22 = .int .i64 x22_2 ∧ Aside0 (impl_IsReverse.l1 kq l1 x15_1 (rd_L1 l1 x15_1) l1 (l1.length : Int) x15_1 (rd_L1 l1 x15_1) ((rd_L1 l1 x15_1).length : Int) x22_2 = some r) ∧ Aside0 (kq ≤ k1) ∧ Drawn0 w w')
              case atStart => exact ⟨(0), (by first | rfl | (simp; done) | (simp [*]; done)), H', ⟨Nat.le_refl _⟩, by repeat (first | exact Drawn0.refl _ | apply Drawn0.step)⟩
              case round =>
                clear H'
                try clear c1
                try clear c2
                try clear p2
                try clear q2
                try clear hx2
                try clear c3
                try clear c4
                try clear c5
                try clear c5b0
                try clear c6
                try clear c6b0
                try clear c7
                try clear c7b0
                try clear hx233_0
                try clear p2
                try clear p233
                try clear q233
                obtain ⟨x22_2, rfl, HA, HK2, ⟨m2, rfl⟩⟩ := hrel
                cases gk with
                | zero => exact absurd HA.out (by simp [impl_IsReverse.l1])
                | succ k2 =>
                  have H := HA.out
                  clear HA
                  simp only [impl_IsReverse.l1] at H
                  by_cases c8 : x22_2 < ((rd_L1 l1 x15_1).length : Int)
                  · rw [if_pos c8] at H
                    have c8b0 : decide (x22_2 < ((rd_L1 l1 x15_1).length : Int)) = true := decide_eq_true c8
                    clear c8
                    by_cases c9 : 0 ≤ x22_2
                    · rw [if_pos c9] at H
                      have c9b0 : decide (0 ≤ x22_2) = true := decide_eq_true c9
                      clear c9
                      by_cases c10 : x22_2 < ((rd_L1 l1 x15_1).length : Int)
                      · rw [if_pos c10] at H
                        have c10b0 : decide (x22_2 < ((rd_L1 l1 x15_1).length : Int)) = true := decide_eq_true c10
                        clear c10
                        by_cases c11 : x22_2 > 0
                        · rw [if_pos c11] at H
                          have c11b0 : decide (0 < x22_2) = true := decide_eq_true c11
                          clear c11
                          obtain ⟨ji12, hji12⟩ : ∃ j_ : Int, (wrap64 (x22_2 - 1)) = j_ := ⟨_, rfl⟩
                          replace H : (if 0 ≤ (ji12) then (if (ji12) < ((rd_L1 l1 x15_1).length : Int) then (if (rd (rd_L1 l1 x15_1) x22_2) < (rd (rd_L1 l1 x15_1) (ji12)) then (some false) else (if x15_1 > 0 then (if 0 ≤ (wrap64 (x15_1 - 1)) then (if (wrap64 (x15_1 - 1)) < (l1.length : Int) then (if x22_2 < ((rd_L1 l1 (wrap64 (x15_1 - 1))).length : Int) then (if (rd (rd_L1 l1 x15_1) x22_2) < (rd (rd_L1 l1 (wrap64 (x15_1 - 1))) x22_2) then (some false) else (impl_IsReverse.l1 k2 l1 x15_1 (rd_L1 l1 x15_1) l1 (l1.length : Int) x15_1 (rd_L1 l1 x15_1) ((rd_L1 l1 x15_1).length : Int) (wrap64 (x22_2 + 1)))) else (none)) else (none)) else (none)) else (impl_IsReverse.l1 k2 l1 x15_1 (rd_L1 l1 x15_1) l1 (l1.length : Int) x15_1 (rd_L1 l1 x15_1) ((rd_L1 l1 x15_1).length : Int) (wrap64 (x22_2 + 1))))) else (none)) else (none)) = some r := by first | (rw [hji12] at H; exact H) | (simp only [hji12] at H ⊢; exact H)
                          have hji12w : (IntKind.i64.wrap (x22_2 - 1)) = ji12 := (i64_w _).trans hji12
                          by_cases c13 : 0 ≤ (ji12)
                          · rw [if_pos c13] at H
                            have c13b0 : decide (0 ≤ (ji12)) = true := decide_eq_true c13
                            clear c13
                            by_cases c14 : (ji12) < ((rd_L1 l1 x15_1).length : Int)
                            · rw [if_pos c14] at H
                              have c14b0 : decide ((ji12) < ((rd_L1 l1 x15_1).length : Int)) = true := decide_eq_true c14
                              clear c14
                              by_cases c15 : (rd (rd_L1 l1 x15_1) x22_2) < (rd (rd_L1 l1 x15_1) (ji12))
                              · rw [if_pos c15] at H
                                have c15b0 : decide ((rd (rd_L1 l1 x15_1) x22_2) < (rd (rd_L1 l1 x15_1) (ji12))) = true := decide_eq_true c15
                                clear c15
                                obtain rfl := Option.some.inj H
                                have p234 : 0 ≤ (x22_2 : Int) := of_decide_eq_true (by first | (with_reducible assumption) | assumption)
                                have q234 : x22_2 < ((rd_L1 l1 x15_1).length : Int) := of_decide_eq_true (by first | (with_reducible assumption) | assumption)
                                obtain ⟨ad234, e234, hx234_0⟩ := Kd.at_int HR233_0.out x22_2 p234 q234
                                cases e234
                                replace p234 := eq_true p234
                                replace q234 := eq_true q234
                                have p235 : 0 ≤ ((ji12) : Int) := of_decide_eq_true (by first | (with_reducible assumption) | assumption)
                                have q235 : (ji12) < ((rd_L1 l1 x15_1).length : Int) := of_decide_eq_true (by first | (with_reducible assumption) | assumption)
                                obtain ⟨ad235, e235, hx235_0⟩ := Kd.at_int HR233_0.out (ji12) p235 q235
                                obtain rfl : ad234 = ad235 := (by injection e235)
                                replace p235 := eq_true p235
                                replace q235 := eq_true q235
                                go_wp2
                                go_ret
                                exact ⟨by first | rfl | (simp; done) | (simp only [← hji12] <;> (first | rfl | simp)) | (simp [*]; done), by repeat (first | exact Drawn0.refl _ | apply Drawn0.step)⟩
                              · rw [if_neg c15] at H
                                have c15b0 : decide ((rd (rd_L1 l1 x15_1) x22_2) < (rd (rd_L1 l1 x15_1) (ji12))) = false := decide_eq_false c15
                                clear c15
                                by_cases c16 : x15_1 > 0
                                · rw [if_pos c16] at H
                                  have c16b0 : decide (0 < x15_1) = true := decide_eq_true c16
                                  clear c16
                                  obtain ⟨ji17, hji17⟩ : ∃ j_ : Int, (wrap64 (x15_1 - 1)) = j_ := ⟨_, rfl⟩
                                  replace H : (if 0 ≤ (ji17) then (if (ji17) < (l1.length : Int) then (if x22_2 < ((rd_L1 l1 (ji17)).length : Int) then (if (rd (rd_L1 l1 x15_1) x22_2) < (rd (rd_L1 l1 (ji17)) x22_2) then (some false) else (impl_IsReverse.l1 k2 l1 x15_1 (rd_L1 l1 x15_1) l1 (l1.length : Int) x15_1 (rd_L1 l1 x15_1) ((rd_L1 l1 x15_1).length : Int) (wrap64 (x22_2 + 1)))) else (none)) else (none)) else (none)) = some r := by first | (rw [hji17] at H; exact H) | (simp only [hji17] at H ⊢; exact H)
                                  have hji17w : (IntKind.i64.wrap (x15_1 - 1)) = ji17 := (i64_w _).trans hji17
                                  by_cases c18 : 0 ≤ (ji17)
                                  · rw [if_pos c18] at H
                                    have c18b0 : decide (0 ≤ (ji17)) = true := decide_eq_true c18
                                    clear c18
                                    by_cases c19 : (ji17) < (l1.length : Int)
                                    · rw [if_pos c19] at H
                                      have c19b0 : decide ((ji17) < (l1.length : Int)) = true := decide_eq_true c19
                                      clear c19
                                      by_cases c20 : x22_2 < ((rd_L1 l1 (ji17)).length : Int)
                                      · rw [if_pos c20] at H
                                        have c20b0 : decide (x22_2 < ((rd_L1 l1 (ji17)).length : Int)) = true := decide_eq_true c20
                                        clear c20
                                        by_cases c21 : (rd (rd_L1 l1 x15_1) x22_2) < (rd (rd_L1 l1 (ji17)) x22_2)
                                        · rw [if_pos c21] at H
                                          have c21b0 : decide ((rd (rd_L1 l1 x15_1) x22_2) < (rd (rd_L1 l1 (ji17)) x22_2)) = true := decide_eq_true c21
                                          clear c21
                                          obtain rfl := Option.some.inj H
                                          have p234 : 0 ≤ (x22_2 : Int) := of_decide_eq_true (by first | (with_reducible assumption) | assumption)
                                          have q234 : x22_2 < ((rd_L1 l1 x15_1).length : Int) := of_decide_eq_true (by first | (with_reducible assumption) | assumption)
                                          obtain ⟨ad234, e234, hx234_0⟩ := Kd.at_int HR233_0.out x22_2 p234 q234
                                          cases e234
                                          replace p234 := eq_true p234
                                          replace q234 := eq_true q234
                                          have p235 : 0 ≤ ((ji12) : Int) := of_decide_eq_true (by first | (with_reducible assumption) | assumption)
                                          have q235 : (ji12) < ((rd_L1 l1 x15_1).length : Int) := of_decide_eq_true (by first | (with_reducible assumption) | assumption)
                                          obtain ⟨ad235, e235, hx235_0⟩ := Kd.at_int HR233_0.out (ji12) p235 q235
                                          obtain rfl : ad234 = ad235 := (by injection e235)
                                          replace p235 := eq_true p235
                                          replace q235 := eq_true q235
                                          have p236 : 0 ≤ ((ji17) : Int) := of_decide_eq_true (by first | (with_reducible assumption) | assumption)
                                          have q236 : (ji17) < (l1.length : Int) := of_decide_eq_true (by first | (with_reducible assumption) | assumption)
                                          obtain ⟨ad236, A236_0, c236_0, e236, hx236_0, hl236_0, hi236_0⟩ := at_L1 HR1.out (ji17) p236 q236
                                          obtain rfl : ad233 = ad236 := (by injection e236)
                                          have HR236_0 := Aside0.mk hi236_0
                                          have HC236_0 := Aside0.mk hl236_0
                                          clear hi236_0 hl236_0
                                          replace p236 := eq_true p236
                                          replace q236 := eq_true q236
                                          have p237 : 0 ≤ (x22_2 : Int) := of_decide_eq_true (by first | (with_reducible assumption) | assumption)
                                          have q237 : x22_2 < ((rd_L1 l1 (ji17)).length : Int) := of_decide_eq_true (by first | (with_reducible assumption) | assumption)
                                          obtain ⟨ad237, e237, hx237_0⟩ := Kd.at_int HR236_0.out x22_2 p237 q237
                                          cases e237
                                          replace p237 := eq_true p237
                                          replace q237 := eq_true q237
                                          go_wp2
                                          go_ret
                                          exact ⟨by first | rfl | (simp; done) | (simp only [← hji12, ← hji17] <;> (first | rfl | simp)) | (simp [*]; done), by repeat (first | exact Drawn0.refl _ | apply Drawn0.step)⟩
                                        · rw [if_neg c21] at H
                                          have c21b0 : decide ((rd (rd_L1 l1 x15_1) x22_2) < (rd (rd_L1 l1 (ji17)) x22_2)) = false := decide_eq_false c21
                                          clear c21
                                          have H' := Aside0.mk H
                                          clear H
                                          have p234 : 0 ≤ (x22_2 : Int) := of_decide_eq_true (by first | (with_reducible assumption) | assumption)
                                          have q234 : x22_2 < ((rd_L1 l1 x15_1).length : Int) := of_decide_eq_true (by first | (with_reducible assumption) | assumption)
                                          obtain ⟨ad234, e234, hx234_0⟩ := Kd.at_int HR233_0.out x22_2 p234 q234
                                          cases e234
                                          replace p234 := eq_true p234
                                          replace q234 := eq_true q234
                                          have p235 : 0 ≤ ((ji12) : Int) := of_decide_eq_true (by first | (with_reducible assumption) | assumption)
                                          have q235 : (ji12) < ((rd_L1 l1 x15_1).length : Int) := of_decide_eq_true (by first | (with_reducible assumption) | assumption)
                                          obtain ⟨ad235, e235, hx235_0⟩ := Kd.at_int HR233_0.out (ji12) p235 q235
                                          obtain rfl : ad234 = ad235 := (by injection e235)
                                          replace p235 := eq_true p235
                                          replace q235 := eq_true q235
                                          have p236 : 0 ≤ ((ji17) : Int) := of_decide_eq_true (by first | (with_reducible assumption) | assumption)
                                          have q236 : (ji17) < (l1.length : Int) := of_decide_eq_true (by first | (with_reducible assumption) | assumption)
                                          obtain ⟨ad236, A236_0, c236_0, e236, hx236_0, hl236_0, hi236_0⟩ := at_L1 HR1.out (ji17) p236 q236
                                          obtain rfl : ad233 = ad236 := (by injection e236)
                                          have HR236_0 := Aside0.mk hi236_0
                                          have HC236_0 := Aside0.mk hl236_0
                                          clear hi236_0 hl236_0
                                          replace p236 := eq_true p236
                                          replace q236 := eq_true q236
                                          have p237 : 0 ≤ (x22_2 : Int) := of_decide_eq_true (by first | (with_reducible assumption) | assumption)
                                          have q237 : x22_2 < ((rd_L1 l1 (ji17)).length : Int) := of_decide_eq_true (by first | (with_reducible assumption) | assumption)
                                          obtain ⟨ad237, e237, hx237_0⟩ := Kd.at_int HR236_0.out x22_2 p237 q237
                                          cases e237
                                          replace p237 := eq_true p237
                                          replace q237 := eq_true q237
                                          go_wp2
                                          go_roundg k2
                                          case measure => have := HK1.out; have := HK2.out; omega
                                          case rel => exact ⟨(wrap64 (x22_2 + 1)), (by first | rfl | (simp; done) | (simp [*]; done)), H', ⟨by have := HK1.out; have := HK2.out; omega⟩, by repeat (first | exact Drawn0.refl _ | apply Drawn0.step)⟩
                                      · rw [if_neg c20] at H
                                        exact absurd H (by simp)
                                    · rw [if_neg c19] at H
                                      exact absurd H (by simp)
                                  · rw [if_neg c18] at H
                                    exact absurd H (by simp)
                                · rw [if_neg c16] at H
                                  have c16b0 : decide (0 < x15_1) = false := decide_eq_false c16
                                  clear c16
                                  have H' := Aside0.mk H
                                  clear H
                                  have p234 : 0 ≤ (x22_2 : Int) := of_decide_eq_true (by first | (with_reducible assumption) | assumption)
                                  have q234 : x22_2 < ((rd_L1 l1 x15_1).length : Int) := of_decide_eq_true (by first | (with_reducible assumption) | assumption)
                                  obtain ⟨ad234, e234, hx234_0⟩ := Kd.at_int HR233_0.out x22_2 p234 q234
                                  cases e234
                                  replace p234 := eq_true p234
                                  replace q234 := eq_true q234
                                  have p235 : 0 ≤ ((ji12) : Int) := of_decide_eq_true (by first | (with_reducible assumption) | assumption)
                                  have q235 : (ji12) < ((rd_L1 l1 x15_1).length : Int) := of_decide_eq_true (by first | (with_reducible assumption) | assumption)
                                  obtain ⟨ad235, e235, hx235_0⟩ := Kd.at_int HR233_0.out (ji12) p235 q235
                                  obtain rfl : ad234 = ad235 := (by injection e235)
                                  replace p235 := eq_true p235
                                  replace q235 := eq_true q235
                                  go_wp2
                                  go_roundg k2
                                  case measure => have := HK1.out; have := HK2.out; omega
                                  case rel => exact ⟨(wrap64 (x22_2 + 1)), (by first | rfl | (simp; done) | (simp [*]; done)), H', ⟨by have := HK1.out; have := HK2.out; omega⟩, by repeat (first | exact Drawn0.refl _ | apply Drawn0.step)⟩
                            · rw [if_neg c14] at H
                              exact absurd H (by simp)
                          · rw [if_neg c13] at H
                            exact absurd H (by simp)
                        · rw [if_neg c11] at H
                          have c11b0 : decide (0 < x22_2) = false := decide_eq_false c11
                          clear c11
                          by_cases c22 : x15_1 > 0
                          · rw [if_pos c22] at H
                            have c22b0 : decide (0 < x15_1) = true := decide_eq_true c22
                            clear c22
                            obtain ⟨ji23, hji23⟩ : ∃ j_ : Int, (wrap64 (x15_1 - 1)) = j_ := ⟨_, rfl⟩
                            replace H : (if 0 ≤ (ji23) then (if (ji23) < (l1.length : Int) then (if x22_2 < ((rd_L1 l1 (ji23)).length : Int) then (if (rd (rd_L1 l1 x15_1) x22_2) < (rd (rd_L1 l1 (ji23)) x22_2) then (some false) else (impl_IsReverse.l1 k2 l1 x15_1 (rd_L1 l1 x15_1) l1 (l1.length : Int) x15_1 (rd_L1 l1 x15_1) ((rd_L1 l1 x15_1).length : Int) (wrap64 (x22_2 + 1)))) else (none)) else (none)) else (none)) = some r := by first | (rw [hji23] at H; exact H) | (simp only [hji23] at H ⊢; exact H)
                            have hji23w : (IntKind.i64.wrap (x15_1 - 1)) = ji23 := (i64_w _).trans hji23
                            by_cases c24 : 0 ≤ (ji23)
                            · rw [if_pos c24] at H
                              have c24b0 : decide (0 ≤ (ji23)) = true := decide_eq_true c24
                              clear c24
                              by_cases c25 : (ji23) < (l1.length : Int)
                              · rw [if_pos c25] at H
                                have c25b0 : decide ((ji23) < (l1.length : Int)) = true := decide_eq_true c25
                                clear c25
                                by_cases c26 : x22_2 < ((rd_L1 l1 (ji23)).length : Int)
                                · rw [if_pos c26] at H
                                  have c26b0 : decide (x22_2 < ((rd_L1 l1 (ji23)).length : Int)) = true := decide_eq_true c26
                                  clear c26
                                  by_cases c27 : (rd (rd_L1 l1 x15_1) x22_2) < (rd (rd_L1 l1 (ji23)) x22_2)
                                  · rw [if_pos c27] at H
                                    have c27b0 : decide ((rd (rd_L1 l1 x15_1) x22_2) < (rd (rd_L1 l1 (ji23)) x22_2)) = true := decide_eq_true c27
                                    clear c27
                                    obtain rfl := Option.some.inj H
                                    have p234 : 0 ≤ (x22_2 : Int) := of_decide_eq_true (by first | (with_reducible assumption) | assumption)
                                    have q234 : x22_2 < ((rd_L1 l1 x15_1).length : Int) := of_decide_eq_true (by first | (with_reducible assumption) | assumption)
                                    obtain ⟨ad234, e234, hx234_0⟩ := Kd.at_int HR233_0.out x22_2 p234 q234
                                    cases e234
                                    replace p234 := eq_true p234
                                    replace q234 := eq_true q234
                                    have p238 : 0 ≤ ((ji23) : Int) := of_decide_eq_true (by first | (with_reducible assumption) | assumption)
                                    have q238 : (ji23) < (l1.length : Int) := of_decide_eq_true (by first | (with_reducible assumption) | assumption)
                                    obtain ⟨ad238, A238_0, c238_0, e238, hx238_0, hl238_0, hi238_0⟩ := at_L1 HR1.out (ji23) p238 q238
                                    obtain rfl : ad233 = ad238 := (by injection e238)
                                    have HR238_0 := Aside0.mk hi238_0
                                    have HC238_0 := Aside0.mk hl238_0
                                    clear hi238_0 hl238_0
                                    replace p238 := eq_true p238
                                    replace q238 := eq_true q238
                                    have p239 : 0 ≤ (x22_2 : Int) := of_decide_eq_true (by first | (with_reducible assumption) | assumption)
                                    have q239 : x22_2 < ((rd_L1 l1 (ji23)).length : Int) := of_decide_eq_true (by first | (with_reducible assumption) | assumption)
                                    obtain ⟨ad239, e239, hx239_0⟩ := Kd.at_int HR238_0.out x22_2 p239 q239
                                    cases e239
                                    replace p239 := eq_true p239
                                    replace q239 := eq_true q239
                                    go_wp2
                                    go_ret
                                    exact ⟨by first | rfl | (simp; done) | (simp only [← hji23] <;> (first | rfl | simp)) | (simp [*]; done), by repeat (first | exact Drawn0.refl _ | apply Drawn0.step)⟩
                                  · rw [if_neg c27] at H
                                    have c27b0 : decide ((rd (rd_L1 l1 x15_1) x22_2) < (rd (rd_L1 l1 (ji23)) x22_2)) = false := decide_eq_false c27
                                    clear c27
                                    have H' := Aside0.mk H
                                    clear H
                                    have p234 : 0 ≤ (x22_2 : Int) := of_decide_eq_true (by first | (with_reducible assumption) | assumption)
                                    have q234 : x22_2 < ((rd_L1 l1 x15_1).length : Int) := of_decide_eq_true (by first | (with_reducible assumption) | assumption)
                                    obtain ⟨ad234, e234, hx234_0⟩ := Kd.at_int HR233_0.out x22_2 p234 q234
                                    cases e234
                                    replace p234 := eq_true p234
                                    replace q234 := eq_true q234
                                    have p238 : 0 ≤ ((ji23) : Int) := of_decide_eq_true (by first | (with_reducible assumption) | assumption)
                                    have q238 : (ji23) < (l1.length : Int) := of_decide_eq_true (by first | (with_reducible assumption) | assumption)
                                    obtain ⟨ad238, A238_0, c238_0, e238, hx238_0, hl238_0, hi238_0⟩ := at_L1 HR1.out (ji23) p238 q238
                                    obtain rfl : ad233 = ad238 := (by injection e238)
                                    have HR238_0 := Aside0.mk hi238_0
                                    have HC238_0 := Aside0.mk hl238_0
                                    clear hi238_0 hl238_0
                                    replace p238 := eq_true p238
                                    replace q238 := eq_true q238
                                    have p239 : 0 ≤ (x22_2 : Int) := of_decide_eq_true (by first | (with_reducible assumption) | assumption)
                                    have q239 : x22_2 < ((rd_L1 l1 (ji23)).length : Int) := of_decide_eq_true (by first | (with_reducible assumption) | assumption)
                                    obtain ⟨ad239, e239, hx239_0⟩ := Kd.at_int HR238_0.out x22_2 p239 q239
                                    cases e239
                                    replace p239 := eq_true p239
                                    replace q239 := eq_true q239
                                    go_wp2
                                    go_roundg k2
                                    case measure => have := HK1.out; have := HK2.out; omega
                                    case rel => exact ⟨(wrap64 (x22_2 + 1)), (by first | rfl | (simp; done) | (simp [*]; done)), H', ⟨by have := HK1.out; have := HK2.out; omega⟩, by repeat (first | exact Drawn0.refl _ | apply Drawn0.step)⟩
                                · rw [if_neg c26] at H
                                  exact absurd H (by simp)
                              · rw [if_neg c25] at H
                                exact absurd H (by simp)
                            · rw [if_neg c24] at H
                              exact absurd H (by simp)
                          · rw [if_neg c22] at H
                            have c22b0 : decide (0 < x15_1) = false := decide_eq_false c22
                            clear c22
                            have H' := Aside0.mk H
                            clear H
                            have p234 : 0 ≤ (x22_2 : Int) := of_decide_eq_true (by first | (with_reducible assumption) | assumption)
                            have q234 : x22_2 < ((rd_L1 l1 x15_1).length : Int) := of_decide_eq_true (by first | (with_reducible assumption) | assumption)
                            obtain ⟨ad234, e234, hx234_0⟩ := Kd.at_int HR233_0.out x22_2 p234 q234
                            cases e234
                            replace p234 := eq_true p234
                            replace q234 := eq_true q234
                            go_wp2
                            go_roundg k2
                            case measure => have := HK1.out; have := HK2.out; omega
                            case rel => exact ⟨(wrap64 (x22_2 + 1)), (by first | rfl | (simp; done) | (simp [*]; done)), H', ⟨by have := HK1.out; have := HK2.out; omega⟩, by repeat (first | exact Drawn0.refl _ | apply Drawn0.step)⟩
                      · rw [if_neg c10] at H
                        exact absurd H (by simp)
                    · rw [if_neg c9] at H
                      exact absurd H (by simp)
                  · rw [if_neg c8] at H
                    have c8b0 : decide (x22_2 < ((rd_L1 l1 x15_1).length : Int)) = false := decide_eq_false c8
                    clear c8
                    have H' := Aside0.mk H
                    clear H
                    go_wp2
                    go_roundg k2
                    case measure => have := HK1.out; have := HK2.out; omega
                    case rel => exact ⟨(wrap64 (x15_1 + 1)), (by first | rfl | (simp; done) | (simp [*]; done)), H', ⟨by have := HK1.out; have := HK2.out; omega⟩, by repeat (first | exact Drawn0.refl _ | apply Drawn0.step)⟩
            · rw [if_neg c7] at H
              exact absurd H (by simp)
          · rw [if_neg c6] at H
            exact absurd H (by simp)
        · rw [if_neg c5] at H
          have c5b0 : decide (x15_1 < (l1.length : Int)) = false := decide_eq_false c5
          clear c5
          obtain rfl := Option.some.inj H
          go_wp2
          go_ret
          exact ⟨by first | rfl | (simp; done) | (simp [*]; done), by repeat (first | exact Drawn0.refl _ | apply Drawn0.step)⟩
  · replace c4 := Bool.eq_false_iff.mpr c4
    subst c4
    have H1 : (some false) = some r := by rw [if_neg (show ¬ (false = true) by decide)] at H; exact H
    clear H
    have H := H1
    clear H1
    obtain rfl := Option.some.inj H
    go_enter Try.func34, Try.ntmps34
    go_wp2_with (first | ((with_reducible refine gate_callee (f := 28) rfl ?_); refine goesL_ (some 11) rfl rfl Try.func28 (by kernel_rfl) rfl #[.slice A0 l0.length c0, .slice A1 l1.length c1] rfl xm ?_; (with_reducible refine (impl_IsFilling.calls k _ _ l0 _ _ l1 false _ ?side1 ?side2 ?side3 ?side4 A3.out).mono ?_); (case side1 => exact xc HR0.out); (case side2 => exact HC0.out); (case side3 => exact xc HR1.out); (case side4 => exact HC1.out); rintro e w' ⟨rfl, ⟨nd, rfl⟩⟩; refine ⟨_, rfl, ?_⟩))
    go_ret
    exact ⟨by first | rfl | (simp; done) | (simp [*]; done), by repeat (first | exact Drawn0.refl _ | apply Drawn0.step)⟩

/-! ### impl_sum: function 35 -/
def impl_sum.l0 : Nat → Int → List Int → Int → Int → Option (Int)
  | 0, _, _, _, _ => none
  | k + 1, x3, x6, x7, x8 => if x8 < x7 then (if 0 ≤ x8 then (if x8 < (x6.length : Int) then (impl_sum.l0 k (wrap64 (x3 + (rd x6 x8))) x6 x7 (wrap64 (x8 + 1))) else (none)) else (none)) else (some x3)
def impl_sum.f (k : Nat) (l0 : List Int) : Option (Int) := impl_sum.l0 k 0 l0 (l0.length : Int) 0
theorem impl_sum.mono_l : ∀ k, (∀ y0 y1 y2 y3, LeO (impl_sum.l0 k y0 y1 y2 y3) (impl_sum.l0 (k + 1) y0 y1 y2 y3))
  | 0 => fun _ _ _ _ r h => by simp [impl_sum.l0] at h
  | k + 1 => by
    have ih0 := impl_sum.mono_l k
    · intro y0 y1 y2 y3
      unfold impl_sum.l0
      repeat' first
      | (with_reducible exact ih0 _ _ _ _)
      | (with_reducible exact LeO.refl _)
      | (with_reducible exact LeO.none _)
      | (with_reducible refine LeO.ite ?_ ?_)
      | (with_reducible refine LeO.bind ?_ (fun _ => ?_))
      | exact ih0 _ _ _ _
      | exact LeO.none _
      | refine LeO.ite ?_ ?_
      | refine LeO.bind ?_ (fun _ => ?_)
theorem impl_sum.mono : ∀ a0 k, LeO (impl_sum.f k a0) (impl_sum.f (k + 1) a0) := by
  intro a0 k
  have ih0 := impl_sum.mono_l k
  unfold impl_sum.f
  repeat' first
      | (with_reducible exact ih0 _ _ _ _)
      | (with_reducible exact LeO.refl _)
      | (with_reducible exact LeO.none _)
      | (with_reducible refine LeO.ite ?_ ?_)
      | (with_reducible refine LeO.bind ?_ (fun _ => ?_))
      | exact ih0 _ _ _ _
      | exact LeO.none _
      | refine LeO.ite ?_ ?_
      | refine LeO.bind ?_ (fun _ => ?_)
set_option maxHeartbeats 8000000 in
set_option maxRecDepth 100000 in
theorem impl_sum.calls (k : Nat) (A0 : Option Addr) (c0 : Nat) (l0 : List Int) (r : Int) (w : World) (hr0 : Kd.C (Kd.int .i64) w A0 l0.length l0) (hc0 : l0.length ≤ c0) (h : impl_sum.f k l0 = some r) :
    Calls Try.prog 35 #[.slice A0 l0.length c0] w fun e w' => e = .returned (.int .i64 r) ∧ Drawn0 w w' := by
  have HR0 := Aside0.mk hr0
  have HC0 := Aside0.mk hc0
  clear hr0 hc0
  have H : (impl_sum.l0 k 0 l0 (l0.length : Int) 0) = some r := h
  clear h
  have H' := Aside0.mk H
  clear H
  go_enter Try.func35, Try.ntmps35
  go_wp2
  go_loopg [3, 8] k (fun kq v3 v8 w' => ∃ (x3_1 : Int) (x8_1 : Int), v3 = .int .i64 x3_1 ∧ v8 = .int .i64 x8_1 ∧ Aside0 (impl_sum.l0 kq x3_1 l0 (l0.length : Int) x8_1 = some r) ∧ Aside0 (kq ≤ k) ∧ Drawn0 w w')
  case atStart => exact ⟨(0), (0), (by first | rfl | (simp; done) | (simp [*]; done)), (by first | rfl | (simp; done) | (simp [*]; done)), H', ⟨Nat.le_refl _⟩, by repeat (first | exact Drawn0.refl _ | apply Drawn0.step)⟩
  case round =>
    clear H'
    obtain ⟨x3_1, x8_1, rfl, rfl, HA, HK1, ⟨m1, rfl⟩⟩ := hrel
    cases gk with
    | zero => exact absurd HA.out (by simp [impl_sum.l0])
    | succ k1 =>
      have H := HA.out
      clear HA
      simp only [impl_sum.l0] at H
      by_cases c2 : x8_1 < (l0.length : Int)
      · rw [if_pos c2] at H
        have c2b0 : decide (x8_1 < (l0.length : Int)) = true := decide_eq_true c2
        clear c2
        by_cases c3 : 0 ≤ x8_1
        · rw [if_pos c3] at H
          have c3b0 : decide (0 ≤ x8_1) = true := decide_eq_true c3
          clear c3
          by_cases c4 : x8_1 < (l0.length : Int)
          · rw [if_pos c4] at H
            have c4b0 : decide (x8_1 < (l0.length : Int)) = true := decide_eq_true c4
            clear c4
            have H' := Aside0.mk H
            clear H
            have p240 : 0 ≤ (x8_1 : Int) := of_decide_eq_true (by first | (with_reducible assumption) | assumption)
            have q240 : x8_1 < (l0.length : Int) := of_decide_eq_true (by first | (with_reducible assumption) | assumption)
            obtain ⟨ad240, e240, hx240_0⟩ := Kd.at_int HR0.out x8_1 p240 q240
            cases e240
            replace p240 := eq_true p240
            replace q240 := eq_true q240
            go_wp2
            go_roundg k1
            case measure => have := HK1.out; omega
            case rel => exact ⟨(wrap64 (x3_1 + (rd l0 x8_1))), (wrap64 (x8_1 + 1)), (by first | rfl | (simp; done) | (simp [*]; done)), (by first | rfl | (simp; done) | (simp [*]; done)), H', ⟨by have := HK1.out; omega⟩, by repeat (first | exact Drawn0.refl _ | apply Drawn0.step)⟩
          · rw [if_neg c4] at H
            exact absurd H (by simp)
        · rw [if_neg c3] at H
          exact absurd H (by simp)
      · rw [if_neg c2] at H
        have c2b0 : decide (x8_1 < (l0.length : Int)) = false := decide_eq_false c2
        clear c2
        obtain rfl := Option.some.inj H
        go_wp2
        go_ret
        exact ⟨by first | rfl | (simp; done) | (simp [*]; done), by repeat (first | exact Drawn0.refl _ | apply Drawn0.step)⟩

-- NOT PRINTED: function 46 (slices_Grow_int_int)

/-! ### slices_Grow_int_int__nil: function 46 -/
def slices_Grow_int_int__nil.f (a1 : Int) : Option (List Int) := if 0 ≤ a1 ∧ a1 ≤ 17592186044416 then some [] else none
set_option maxHeartbeats 8000000 in
theorem slices_Grow_int_int__nil.calls (a1 : Int) (r : List Int) (w : World) (h : slices_Grow_int_int__nil.f a1 = some r) :
    Calls Try.prog 46 #[.slice none 0 0, .int .i64 a1] w fun e w' => ∃ v0_ : Value, e = .returned (v0_) ∧ Kd.R (Kd.int .i64) 3 w' w.heap.size (fun _ => True) v0_ r ∧ Below w.heap.size w w' := by
  unfold slices_Grow_int_int__nil.f at h
  by_cases hc : 0 ≤ a1 ∧ a1 ≤ 17592186044416
  · rw [if_pos hc] at h
    obtain rfl := Option.some.inj h
    obtain ⟨h0, h1⟩ := hc
    clear h
    have c0 : decide (a1 < 0) = false := decide_eq_false (by omega)
    have HB := Aside0.mk (Below.refl w.heap.size w)
    by_cases hp : a1 > 0
    · have c1 : decide (a1 > 0) = true := decide_eq_true hp
      have c2 : (0 < a1) = True := eq_true (by omega)
      have w1 : wrap64 a1 = a1 := by unfold wrap64; omega
      go_enter Try.func46, Try.ntmps46
      go_wp2_with (first | (at_builtin; refine Kd.R_append_zeros (Kd.int .i64) (w0 := w) w.heap.size rfl (.tmp 20) (.tmp 21) 22 3 3 (.int .i64 0) 8 rfl Try.underlying22 Try.underlying3 info3 rfl (by decide) (by omega) (.slice none 0 0) [] 0 (a1 : Int) (fun _ => True) rfl rfl rfl (fun _ _ => trivial) (Kd.R_nil _ _ _ _ _) h0 HB.out (Nat.le_refl _) (by simp; omega) ?_; intro v1 w9 ho hb hg hat; obtain ⟨Ao, co, eo⟩ := Kd.R_slice ho; subst eo; have HO := Aside0.mk ho; have HB2 := Aside0.mk hb; clear ho hb hg hat))
      go_ret
      have h2 := Kd.R_take HO.out (m := 0) (Nat.zero_le _)
      rw [List.take_zero] at h2
      exact ⟨_, rfl, h2, HB2.out⟩
    · obtain rfl : a1 = 0 := by omega
      go_enter Try.func46, Try.ntmps46
      go_wp2
      go_ret
      exact ⟨_, rfl, Kd.R_nil _ _ _ _ _, HB.out⟩
  · rw [if_neg hc] at h
    cases h


end Go.Proofs.Ytnmndjpkfcnaoaa.PFnExactHooksOfReverse
