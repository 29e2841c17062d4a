-- Written by a program of this session (wip/print/xprint.py).
import Derived.Test.YtneipehcmmigeaaDoorPFnExactCompleteOfSchurx0
import Derived.Test.YtneipehcmmigeaaDoorPFnExactCompleteOfSchurx4
namespace Go.Proofs.YtneipehcmmigeaaDoor.PFnExactCompleteOfSchur
open Go.RowKit Go.Proofs.YtneipehcmmigeaaDoorW.PrintWords Go.Proofs.YtneipehcmmigeaaDoorW.PrintLast Go.Proofs.YtneipehcmmigeaaDoorW.PrintMore
attribute [local go_sem] max2_int min2_int max_two min_two max_three min_three max_four min_four   -- for this text's walks alone
set_option linter.unusedVariables false
set_option linter.unusedSimpArgs false

/-! ### spec_l2Same: function 14 -/
def spec_l2Same.l0 : Nat → List Int → List Int → Int → Option (Bool)
  | 0, _, _, _ => none
  | k + 1, x0, x1, x5 => if x5 < (x0.length : Int) then (if 0 ≤ x5 then (if x5 < (x1.length : Int) then (if (rd x0 x5) = (rd x1 x5) then (spec_l2Same.l0 k x0 x1 (wrap64 (x5 + 1))) else (some false)) else (none)) else (none)) else (some true)
def spec_l2Same.f (k : Nat) (l0 : List Int) (l1 : List Int) : Option (Bool) := if (l0.length : Int) = (l1.length : Int) then (spec_l2Same.l0 k l0 l1 0) else (some false)
theorem spec_l2Same.mono_l : ∀ k, (∀ y0 y1 y2, LeO (spec_l2Same.l0 k y0 y1 y2) (spec_l2Same.l0 (k + 1) y0 y1 y2))
  | 0 => fun _ _ _ r h => by simp [spec_l2Same.l0] at h
  | k + 1 => by
    have ih0 := spec_l2Same.mono_l k
    · intro y0 y1 y2
      unfold spec_l2Same.l0
      repeat' first
      | (with_reducible exact ih0 _ _ _)
      | (with_reducible exact LeO.refl _)
      | (with_reducible exact LeO.none _)
      | (with_reducible refine LeO.ite ?_ ?_)
      | (with_reducible refine LeO.bind ?_ (fun _ => ?_))
      | exact ih0 _ _ _
      | exact LeO.none _
      | refine LeO.ite ?_ ?_
      | refine LeO.bind ?_ (fun _ => ?_)
theorem spec_l2Same.mono : ∀ a0 a1 k, LeO (spec_l2Same.f k a0 a1) (spec_l2Same.f (k + 1) a0 a1) := by
  intro a0 a1 k
  have ih0 := spec_l2Same.mono_l k
  unfold spec_l2Same.f
  repeat' first
      | (with_reducible exact ih0 _ _ _)
      | (with_reducible exact LeO.refl _)
      | (with_reducible exact LeO.none _)
      | (with_reducible refine LeO.ite ?_ ?_)
      | (with_reducible refine LeO.bind ?_ (fun _ => ?_))
      | exact ih0 _ _ _
      | exact LeO.none _
      | refine LeO.ite ?_ ?_
      | refine LeO.bind ?_ (fun _ => ?_)
set_option maxHeartbeats 8000000 in
set_option maxRecDepth 100000 in
theorem spec_l2Same.calls (k : Nat) (A0 : Option Addr) (c0 : Nat) (l0 : List Int) (A1 : Option Addr) (c1 : Nat) (l1 : List Int) (r : Bool) (w : World) (hr0 : Kd.C (Kd.int .i64) w A0 l0.length l0) (hc0 : l0.length ≤ c0) (hr1 : Kd.C (Kd.int .i64) w A1 l1.length l1) (hc1 : l1.length ≤ c1) (h : spec_l2Same.f k l0 l1 = some r) :
    Calls Tryd.prog 14 #[.slice A0 l0.length c0, .slice A1 l1.length c1] w fun e w' => e = .returned (.bool r) ∧ Drawn0 w w' := by
  have HR0 := Aside0.mk hr0
  have HC0 := Aside0.mk hc0
  clear hr0 hc0
  have HR1 := Aside0.mk hr1
  have HC1 := Aside0.mk hc1
  clear hr1 hc1
  have H : (if (l0.length : Int) = (l1.length : Int) then (spec_l2Same.l0 k l0 l1 0) else (some false)) = some r := h
  clear h
  by_cases c3 : (l0.length : Int) = (l1.length : Int)
  · rw [if_pos c3] at H
    have c3b0 : ((l0.length : Int) == (l1.length : Int)) = true := beq_iff_eq.mpr c3
    have c3b1 : ((l0.length : Int) != (l1.length : Int)) = false := bne_eq_false_iff_eq.mpr c3
    have c3b2 : (l0.length == l1.length) = true := by first | simpa using c3 | (simp at c3 ⊢; omega)
    clear c3
    have H' := Aside0.mk H
    clear H
    go_enter Tryd.func14, Tryd.ntmps14
    go_wp2
    repeat (go_quiet (fail); try go_wp2)
    go_loopg [5] k (fun kq v5 w' => ∃ (x5_1 : Int), v5 = .int .i64 x5_1 ∧ Aside0 (spec_l2Same.l0 kq l0 l1 x5_1 = some r) ∧ Aside0 (kq ≤ k) ∧ Drawn0 w w')
    case atStart => exact ⟨(0), (by first | rfl | (simp; done) | (simp [*]; done)), H', ⟨Nat.le_refl _⟩, by repeat (first | exact Drawn0.refl _ | apply Drawn0.step)⟩
    case round =>
      clear H'
      try clear c1
      try clear p2
      try clear c3
      try clear c3b0
      try clear c3b1
      try clear c3b2
      obtain ⟨x5_1, rfl, HA, HK1, ⟨m1, rfl⟩⟩ := hrel
      cases gk with
      | zero => exact absurd HA.out (by simp [spec_l2Same.l0])
      | succ k1 =>
        have H := HA.out
        clear HA
        simp only [spec_l2Same.l0] at H
        by_cases c4 : x5_1 < (l0.length : Int)
        · rw [if_pos c4] at H
          have c4b0 : decide (x5_1 < (l0.length : Int)) = true := decide_eq_true c4
          clear c4
          by_cases c5 : 0 ≤ x5_1
          · rw [if_pos c5] at H
            have c5b0 : decide (0 ≤ x5_1) = true := decide_eq_true c5
            clear c5
            by_cases c6 : x5_1 < (l1.length : Int)
            · rw [if_pos c6] at H
              have c6b0 : decide (x5_1 < (l1.length : Int)) = true := decide_eq_true c6
              clear c6
              by_cases c7 : (rd l0 x5_1) = (rd l1 x5_1)
              · rw [if_pos c7] at H
                have c7b0 : ((rd l0 x5_1) == (rd l1 x5_1)) = true := beq_iff_eq.mpr c7
                have c7b1 : ((rd l0 x5_1) != (rd l1 x5_1)) = false := bne_eq_false_iff_eq.mpr c7
                clear c7
                have H' := Aside0.mk H
                clear H
                have p191 : 0 ≤ (x5_1 : Int) := of_decide_eq_true (by first | (with_reducible assumption) | assumption)
                have q191 : x5_1 < (l0.length : Int) := of_decide_eq_true (by first | (with_reducible assumption) | assumption)
                obtain ⟨ad191, e191, hx191_0⟩ := Kd.at_int HR0.out x5_1 p191 q191
                cases e191
                replace p191 := eq_true p191
                replace q191 := eq_true q191
                have p192 : 0 ≤ (x5_1 : Int) := of_decide_eq_true (by first | (with_reducible assumption) | assumption)
                have q192 : x5_1 < (l1.length : Int) := of_decide_eq_true (by first | (with_reducible assumption) | assumption)
                obtain ⟨ad192, e192, hx192_0⟩ := Kd.at_int HR1.out x5_1 p192 q192
                cases e192
                replace p192 := eq_true p192
                replace q192 := eq_true q192
                go_wp2
                repeat (go_quiet (fail); try go_wp2)
                go_roundg k1
                case measure => have := HK1.out; omega
                case rel => exact ⟨(wrap64 (x5_1 + 1)), (by first | rfl | (simp; done) | (simp [*]; done)), H', ⟨by have := HK1.out; omega⟩, by repeat (first | exact Drawn0.refl _ | apply Drawn0.step)⟩
              · rw [if_neg c7] at H
                have c7b0 : ((rd l0 x5_1) == (rd l1 x5_1)) = false := beq_eq_false_iff_ne.mpr c7
                have c7b1 : ((rd l0 x5_1) != (rd l1 x5_1)) = true := bne_iff_ne.mpr c7
                obtain rfl := Option.some.inj H
                have p191 : 0 ≤ (x5_1 : Int) := of_decide_eq_true (by first | (with_reducible assumption) | assumption)
                have q191 : x5_1 < (l0.length : Int) := of_decide_eq_true (by first | (with_reducible assumption) | assumption)
                obtain ⟨ad191, e191, hx191_0⟩ := Kd.at_int HR0.out x5_1 p191 q191
                cases e191
                replace p191 := eq_true p191
                replace q191 := eq_true q191
                have p192 : 0 ≤ (x5_1 : Int) := of_decide_eq_true (by first | (with_reducible assumption) | assumption)
                have q192 : x5_1 < (l1.length : Int) := of_decide_eq_true (by first | (with_reducible assumption) | assumption)
                obtain ⟨ad192, e192, hx192_0⟩ := Kd.at_int HR1.out x5_1 p192 q192
                cases e192
                replace p192 := eq_true p192
                replace q192 := eq_true q192
                go_wp2
                repeat (go_quiet (fail); try go_wp2)
                go_ret
                exact ⟨by first | rfl | (simp; done) | (simp [*]; done), by repeat (first | exact Drawn0.refl _ | apply Drawn0.step)⟩
            · rw [if_neg c6] at H
              exact absurd H (by simp)
          · rw [if_neg c5] at H
            exact absurd H (by simp)
        · rw [if_neg c4] at H
          have c4b0 : decide (x5_1 < (l0.length : Int)) = false := decide_eq_false c4
          clear c4
          obtain rfl := Option.some.inj H
          go_wp2
          repeat (go_quiet (fail); try go_wp2)
          go_ret
          exact ⟨by first | rfl | (simp; done) | (simp [*]; done), by repeat (first | exact Drawn0.refl _ | apply Drawn0.step)⟩
  · rw [if_neg c3] at H
    have c3b0 : ((l0.length : Int) == (l1.length : Int)) = false := beq_eq_false_iff_ne.mpr c3
    have c3b1 : ((l0.length : Int) != (l1.length : Int)) = true := bne_iff_ne.mpr c3
    have c3b2 : (l0.length == l1.length) = false := by first | simpa using c3 | (simp at c3 ⊢; omega)
    obtain rfl := Option.some.inj H
    go_enter Tryd.func14, Tryd.ntmps14
    go_wp2
    repeat (go_quiet (fail); try go_wp2)
    go_ret
    exact ⟨by first | rfl | (simp; done) | (simp [*]; done), by repeat (first | exact Drawn0.refl _ | apply Drawn0.step)⟩

/-! ### spec_l12Index: function 61 -/
def spec_l12Index.l0 : Nat → List (List Int) → List Int → Int → Option (Int)
  | 0, _, _, _ => none
  | k + 1, x0, x1, x5 => if x5 < (x0.length : Int) then (if 0 ≤ x5 then ((spec_l2Same.f k (rd_L1 x0 x5) x1).bind fun t194 => (if t194 = true then (some x5) else (spec_l12Index.l0 k x0 x1 (wrap64 (x5 + 1))))) else (none)) else (some (-1))
def spec_l12Index.f (k : Nat) (l0 : List (List Int)) (l1 : List Int) : Option (Int) := spec_l12Index.l0 k l0 l1 0
theorem spec_l12Index.mono_l : ∀ k, (∀ y0 y1 y2, LeO (spec_l12Index.l0 k y0 y1 y2) (spec_l12Index.l0 (k + 1) y0 y1 y2))
  | 0 => fun _ _ _ r h => by simp [spec_l12Index.l0] at h
  | k + 1 => by
    have ih0 := spec_l12Index.mono_l k
    · intro y0 y1 y2
      unfold spec_l12Index.l0
      repeat' first
      | (with_reducible exact ih0 _ _ _)
      | (with_reducible exact spec_l2Same.mono _ _ _)
      | (with_reducible exact LeO.refl _)
      | (with_reducible exact LeO.none _)
      | (with_reducible refine LeO.ite ?_ ?_)
      | (with_reducible refine LeO.bind ?_ (fun _ => ?_))
      | exact ih0 _ _ _
      | exact spec_l2Same.mono _ _ _
      | exact LeO.none _
      | refine LeO.ite ?_ ?_
      | refine LeO.bind ?_ (fun _ => ?_)
theorem spec_l12Index.mono : ∀ a0 a1 k, LeO (spec_l12Index.f k a0 a1) (spec_l12Index.f (k + 1) a0 a1) := by
  intro a0 a1 k
  have ih0 := spec_l12Index.mono_l k
  unfold spec_l12Index.f
  repeat' first
      | (with_reducible exact ih0 _ _ _)
      | (with_reducible exact spec_l2Same.mono _ _ _)
      | (with_reducible exact LeO.refl _)
      | (with_reducible exact LeO.none _)
      | (with_reducible refine LeO.ite ?_ ?_)
      | (with_reducible refine LeO.bind ?_ (fun _ => ?_))
      | exact ih0 _ _ _
      | exact spec_l2Same.mono _ _ _
      | exact LeO.none _
      | refine LeO.ite ?_ ?_
      | refine LeO.bind ?_ (fun _ => ?_)
set_option maxHeartbeats 8000000 in
set_option maxRecDepth 100000 in
theorem spec_l12Index.calls (k : Nat) (A0 : Option Addr) (c0 : Nat) (l0 : List (List Int)) (A1 : Option Addr) (c1 : Nat) (l1 : List Int) (r : Int) (w : World) (hr0 : Kd.C (Kd.slice 3 (Kd.int .i64)) w A0 l0.length l0) (hc0 : l0.length ≤ c0) (hr1 : Kd.C (Kd.int .i64) w A1 l1.length l1) (hc1 : l1.length ≤ c1) (h : spec_l12Index.f k l0 l1 = some r) :
    Calls Tryd.prog 61 #[.slice A0 l0.length c0, .slice A1 l1.length c1] w fun e w' => e = .returned (.int .i64 r) ∧ Drawn0 w w' := by
  have HR0 := Aside0.mk hr0
  have HC0 := Aside0.mk hc0
  clear hr0 hc0
  have HR1 := Aside0.mk hr1
  have HC1 := Aside0.mk hc1
  clear hr1 hc1
  have H : (spec_l12Index.l0 k l0 l1 0) = some r := h
  clear h
  have H' := Aside0.mk H
  clear H
  go_enter Tryd.func61, Tryd.ntmps61
  go_wp2
  go_loopg [5] k (fun kq v5 w' => ∃ (x5_1 : Int), v5 = .int .i64 x5_1 ∧ Aside0 (spec_l12Index.l0 kq l0 l1 x5_1 = some r) ∧ Aside0 (kq ≤ k) ∧ Drawn0 w w')
  case atStart => exact ⟨(0), (by first | rfl | (simp; done) | (simp [*]; done)), H', ⟨Nat.le_refl _⟩, by repeat (first | exact Drawn0.refl _ | apply Drawn0.step)⟩
  case round =>
    clear H'
    try clear c1
    try clear p2
    obtain ⟨x5_1, rfl, HA, HK1, ⟨m1, rfl⟩⟩ := hrel
    cases gk with
    | zero => exact absurd HA.out (by simp [spec_l12Index.l0])
    | succ k1 =>
      have H := HA.out
      clear HA
      simp only [spec_l12Index.l0] at H
      by_cases c3 : x5_1 < (l0.length : Int)
      · rw [if_pos c3] at H
        have c3b0 : decide (x5_1 < (l0.length : Int)) = true := decide_eq_true c3
        clear c3
        by_cases c4 : 0 ≤ x5_1
        · rw [if_pos c4] at H
          have c4b0 : decide (0 ≤ x5_1) = true := decide_eq_true c4
          clear c4
          replace H := Option.bind_eq_some_iff.mp H
          obtain ⟨t194, A50, H⟩ := H
          replace H : (if t194 = true then (some x5_1) else (spec_l12Index.l0 k1 l0 l1 (wrap64 (x5_1 + 1)))) = some r := H
          have A5 := Aside0.mk A50
          clear A50
          by_cases c6 : t194 = true
          · subst c6
            have H1 : (some x5_1) = some r := by rw [if_pos rfl] at H; exact H
            clear H
            have H := H1
            clear H1
            obtain rfl := Option.some.inj H
            have p193 : 0 ≤ (x5_1 : Int) := of_decide_eq_true (by first | (with_reducible assumption) | assumption)
            have q193 : x5_1 < (l0.length : Int) := of_decide_eq_true (by first | (with_reducible assumption) | assumption)
            obtain ⟨ad193, A193_0, c193_0, e193, hx193_0, hl193_0, hi193_0⟩ := at_L1 HR0.out x5_1 p193 q193
            cases e193
            have HR193_0 := Aside0.mk hi193_0
            have HC193_0 := Aside0.mk hl193_0
            clear hi193_0 hl193_0
            replace p193 := eq_true p193
            replace q193 := eq_true q193
            go_wp2_with (first | ((with_reducible refine gate_callee (f := 14) rfl ?_); refine goesL_ (some 17) rfl rfl Tryd.func14 (by kernel_rfl) rfl #[.slice A193_0 (rd_L1 l0 x5_1).length c193_0, .slice A1 l1.length c1] rfl xm ?_; (with_reducible refine (spec_l2Same.calls k1 _ _ (rd_L1 l0 x5_1) _ _ l1 true _ ?side1 ?side2 ?side3 ?side4 A5.out).mono ?_); (case side1 => exact xc HR193_0.out); (case side2 => exact HC193_0.out); (case side3 => exact xc HR1.out); (case side4 => exact HC1.out); rintro e w' ⟨rfl, ⟨nd, rfl⟩⟩; refine ⟨_, rfl, ?_⟩))
            go_ret
            exact ⟨by first | rfl | (simp; done) | (simp [*]; done), by repeat (first | exact Drawn0.refl _ | apply Drawn0.step)⟩
          · replace c6 := Bool.eq_false_iff.mpr c6
            subst c6
            have H1 : (spec_l12Index.l0 k1 l0 l1 (wrap64 (x5_1 + 1))) = some r := by rw [if_neg (show ¬ (false = true) by decide)] at H; exact H
            clear H
            have H := H1
            clear H1
            have H' := Aside0.mk H
            clear H
            have p193 : 0 ≤ (x5_1 : Int) := of_decide_eq_true (by first | (with_reducible assumption) | assumption)
            have q193 : x5_1 < (l0.length : Int) := of_decide_eq_true (by first | (with_reducible assumption) | assumption)
            obtain ⟨ad193, A193_0, c193_0, e193, hx193_0, hl193_0, hi193_0⟩ := at_L1 HR0.out x5_1 p193 q193
            cases e193
            have HR193_0 := Aside0.mk hi193_0
            have HC193_0 := Aside0.mk hl193_0
            clear hi193_0 hl193_0
            replace p193 := eq_true p193
            replace q193 := eq_true q193
            go_wp2_with (first | ((with_reducible refine gate_callee (f := 14) rfl ?_); refine goesL_ (some 17) rfl rfl Tryd.func14 (by kernel_rfl) rfl #[.slice A193_0 (rd_L1 l0 x5_1).length c193_0, .slice A1 l1.length c1] rfl xm ?_; (with_reducible refine (spec_l2Same.calls k1 _ _ (rd_L1 l0 x5_1) _ _ l1 false _ ?side1 ?side2 ?side3 ?side4 A5.out).mono ?_); (case side1 => exact xc HR193_0.out); (case side2 => exact HC193_0.out); (case side3 => exact xc HR1.out); (case side4 => exact HC1.out); rintro e w' ⟨rfl, ⟨nd, rfl⟩⟩; refine ⟨_, rfl, ?_⟩))
            go_roundg k1
            case measure => have := HK1.out; omega
            case rel => exact ⟨(wrap64 (x5_1 + 1)), (by first | rfl | (simp; done) | (simp [*]; done)), H', ⟨by have := HK1.out; omega⟩, by repeat (first | exact Drawn0.refl _ | apply Drawn0.step)⟩
        · rw [if_neg c4] at H
          exact absurd H (by simp)
      · rw [if_neg c3] at H
        have c3b0 : decide (x5_1 < (l0.length : Int)) = false := decide_eq_false c3
        clear c3
        obtain rfl := Option.some.inj H
        go_wp2
        go_ret
        exact ⟨by first | rfl | (simp; done) | (simp [*]; done), by repeat (first | exact Drawn0.refl _ | apply Drawn0.step)⟩

/-! ### spec_l21Index: function 45 -/
def spec_l21Index.f (k : Nat) (l0 : List (List Int)) (l1 : List Int) : Option (Int) := (spec_l12Index.f k l0 l1).bind fun t195 => (some t195)
theorem spec_l21Index.mono : ∀ a0 a1 k, LeO (spec_l21Index.f k a0 a1) (spec_l21Index.f (k + 1) a0 a1) := by
  intro a0 a1 k
  unfold spec_l21Index.f
  repeat' first
      | (with_reducible exact spec_l12Index.mono _ _ _)
      | (with_reducible exact LeO.refl _)
      | (with_reducible exact LeO.none _)
      | (with_reducible refine LeO.ite ?_ ?_)
      | (with_reducible refine LeO.bind ?_ (fun _ => ?_))
      | exact spec_l12Index.mono _ _ _
      | exact LeO.none _
      | refine LeO.ite ?_ ?_
      | refine LeO.bind ?_ (fun _ => ?_)
set_option maxHeartbeats 8000000 in
set_option maxRecDepth 100000 in
theorem spec_l21Index.calls (k : Nat) (A0 : Option Addr) (c0 : Nat) (l0 : List (List Int)) (A1 : Option Addr) (c1 : Nat) (l1 : List Int) (r : Int) (w : World) (hr0 : Kd.C (Kd.slice 3 (Kd.int .i64)) w A0 l0.length l0) (hc0 : l0.length ≤ c0) (hr1 : Kd.C (Kd.int .i64) w A1 l1.length l1) (hc1 : l1.length ≤ c1) (h : spec_l21Index.f k l0 l1 = some r) :
    Calls Tryd.prog 45 #[.slice A0 l0.length c0, .slice A1 l1.length c1] w fun e w' => e = .returned (.int .i64 r) ∧ Drawn0 w w' := by
  have HR0 := Aside0.mk hr0
  have HC0 := Aside0.mk hc0
  clear hr0 hc0
  have HR1 := Aside0.mk hr1
  have HC1 := Aside0.mk hc1
  clear hr1 hc1
  have H : ((spec_l12Index.f k l0 l1).bind fun t195 => (some t195)) = some r := h
  clear h
  replace H := Option.bind_eq_some_iff.mp H
  obtain ⟨t195, A30, H⟩ := H
  replace H : (some t195) = some r := H
  have A3 := Aside0.mk A30
  clear A30
  obtain rfl := Option.some.inj H
  go_enter Tryd.func45, Tryd.ntmps45
  go_wp2_with (first | ((with_reducible refine gate_callee (f := 61) rfl ?_); refine goesL_ (some 7) rfl rfl Tryd.func61 (by kernel_rfl) rfl #[.slice A0 l0.length c0, .slice A1 l1.length c1] rfl xm ?_; (with_reducible refine (spec_l12Index.calls k _ _ l0 _ _ l1 t195 _ ?side1 ?side2 ?side3 ?side4 A3.out).mono ?_); (case side1 => exact xc HR0.out); (case side2 => exact HC0.out); (case side3 => exact xc HR1.out); (case side4 => exact HC1.out); rintro e w' ⟨rfl, ⟨nd, rfl⟩⟩; refine ⟨_, rfl, ?_⟩))
  go_ret
  exact ⟨by first | rfl | (simp; done) | (simp [*]; done), by repeat (first | exact Drawn0.refl _ | apply Drawn0.step)⟩

/-! ### spec_l21Choose: function 22 -/
mutual
def spec_l21Choose.l0 : Nat → List Bool → Int → List Int → List (List Int) → List Int → List Int → Int → Option (List Bool × List Int)
  | 0, _, _, _, _, _, _, _ => none
  | k + 1, x2, x4, x5, x6, x14, x15, x16 => if x16 ≥ 0 then (if 0 ≤ x16 then (if x16 < (x14.length : Int) then (if (rd x14 x16) > 0 then (if x15.length < 17592186044416 then (spec_l21Choose.l0 k x2 x4 x5 x6 x14 (x15 ++ [rd x14 x16]) (wrap64 (x16 - 1))) else (none)) else (spec_l21Choose.l0 k x2 x4 x5 x6 x14 x15 (wrap64 (x16 - 1)))) else (none)) else (none)) else ((spec_l21Index.f k x6 x15).bind fun t207 => (if 0 ≤ t207 then (if t207 < (x5.length : Int) then (some (x2, (x5.set (t207 : Int).toNat (wrap64 ((rd x5 t207) + x4))))) else (none)) else (none)))
def spec_l21Choose.l1 : Nat → List Int → Int → List Bool → List Int → List Int → List (List Int) → Int → Int → Option (List Bool × List Int)
  | 0, _, _, _, _, _, _, _, _ => none
  | k + 1, x0, x1, x2, x3, x5, x6, x18, x19 => if x19 < (x0.length : Int) then (if 0 ≤ x19 then (if x19 < (x2.length : Int) then (if rdOf false x2 x19 = true then (spec_l21Choose.l1 k x0 x1 x2 x3 x5 x6 x18 (wrap64 (x19 + 1))) else (if 0 ≤ x1 then (if x1 < (x0.length : Int) then (if (wrap64 ((wrap64 ((rd x0 x1) - x1)) + x19)) ≥ 0 then ((some (([] : List Int) : List Int)).bind fun y213 => (if y213.length + x3.length < 17592186044416 then ((some (y213 ++ x3 : List Int)).bind fun y216 => (if y216.length < 17592186044416 then ((spec_l21Choose.f k x0 (wrap64 (x1 + 1)) (x2.set (x19 : Int).toNat true) (y216 ++ [wrap64 ((wrap64 ((rd x0 x1) - x1)) + x19)]) x18 x5 x6).bind fun bt222 => (spec_l21Choose.l1 k x0 x1 (bt222.1.set (x19 : Int).toNat false) x3 bt222.2 x6 (wrap64 (-x18)) (wrap64 (x19 + 1)))) else (none))) else (none))) else (spec_l21Choose.l1 k x0 x1 x2 x3 x5 x6 (wrap64 (-x18)) (wrap64 (x19 + 1)))) else (none)) else (none))) else (none)) else (none)) else (some (x2, x5))
def spec_l21Choose.f : Nat → List Int → Int → List Bool → List Int → Int → List Int → List (List Int) → Option (List Bool × List Int)
  | 0, _, _, _, _, _, _, _ => none
  | k + 1, l0, a1, l2, l3, a4, l5, l6 => if a1 = (l0.length : Int) then ((spec_l23Sorted.f k l3).bind fun t196 => (spec_l21Choose.l0 k l2 a4 l5 l6 t196 (([] : List Int)) (wrap64 ((t196.length : Int) - 1)))) else (spec_l21Choose.l1 k l0 a1 l2 l3 l5 l6 a4 0)
end
theorem spec_l21Choose.mono_l : ∀ k, (∀ y0 y1 y2 y3 y4 y5 y6, LeO (spec_l21Choose.f k y0 y1 y2 y3 y4 y5 y6) (spec_l21Choose.f (k + 1) y0 y1 y2 y3 y4 y5 y6)) ∧ (∀ y0 y1 y2 y3 y4 y5 y6, LeO (spec_l21Choose.l0 k y0 y1 y2 y3 y4 y5 y6) (spec_l21Choose.l0 (k + 1) y0 y1 y2 y3 y4 y5 y6)) ∧ (∀ y0 y1 y2 y3 y4 y5 y6 y7, LeO (spec_l21Choose.l1 k y0 y1 y2 y3 y4 y5 y6 y7) (spec_l21Choose.l1 (k + 1) y0 y1 y2 y3 y4 y5 y6 y7))
  | 0 => ⟨fun _ _ _ _ _ _ _ r h => by simp [spec_l21Choose.f] at h, fun _ _ _ _ _ _ _ r h => by simp [spec_l21Choose.l0] at h, fun _ _ _ _ _ _ _ _ r h => by simp [spec_l21Choose.l1] at h⟩
  | k + 1 => by
    obtain ⟨ih0, ih1, ih2⟩ := spec_l21Choose.mono_l k
    refine ⟨?_, ?_, ?_⟩
    · intro y0 y1 y2 y3 y4 y5 y6
      unfold spec_l21Choose.f
      repeat' first
      | (with_reducible exact ih0 _ _ _ _ _ _ _)
      | (with_reducible exact ih1 _ _ _ _ _ _ _)
      | (with_reducible exact ih2 _ _ _ _ _ _ _ _)
      | (with_reducible exact spec_l21Index.mono _ _ _)
      | (with_reducible exact spec_l23Sorted.mono _ _)
      | (with_reducible exact LeO.refl _)
      | (with_reducible exact LeO.none _)
      | (with_reducible refine LeO.ite ?_ ?_)
      | (with_reducible refine LeO.bind ?_ (fun _ => ?_))
      | exact ih0 _ _ _ _ _ _ _
      | exact ih1 _ _ _ _ _ _ _
      | exact ih2 _ _ _ _ _ _ _ _
      | exact spec_l21Index.mono _ _ _
      | exact spec_l23Sorted.mono _ _
      | exact LeO.none _
      | refine LeO.ite ?_ ?_
      | refine LeO.bind ?_ (fun _ => ?_)
    · intro y0 y1 y2 y3 y4 y5 y6
      unfold spec_l21Choose.l0
      repeat' first
      | (with_reducible exact ih0 _ _ _ _ _ _ _)
      | (with_reducible exact ih1 _ _ _ _ _ _ _)
      | (with_reducible exact ih2 _ _ _ _ _ _ _ _)
      | (with_reducible exact spec_l21Index.mono _ _ _)
      | (with_reducible exact spec_l23Sorted.mono _ _)
      | (with_reducible exact LeO.refl _)
      | (with_reducible exact LeO.none _)
      | (with_reducible refine LeO.ite ?_ ?_)
      | (with_reducible refine LeO.bind ?_ (fun _ => ?_))
      | exact ih0 _ _ _ _ _ _ _
      | exact ih1 _ _ _ _ _ _ _
      | exact ih2 _ _ _ _ _ _ _ _
      | exact spec_l21Index.mono _ _ _
      | exact spec_l23Sorted.mono _ _
      | exact LeO.none _
      | refine LeO.ite ?_ ?_
      | refine LeO.bind ?_ (fun _ => ?_)
    · intro y0 y1 y2 y3 y4 y5 y6 y7
      unfold spec_l21Choose.l1
      repeat' first
      | (with_reducible exact ih0 _ _ _ _ _ _ _)
      | (with_reducible exact ih1 _ _ _ _ _ _ _)
      | (with_reducible exact ih2 _ _ _ _ _ _ _ _)
      | (with_reducible exact spec_l21Index.mono _ _ _)
      | (with_reducible exact spec_l23Sorted.mono _ _)
      | (with_reducible exact LeO.refl _)
      | (with_reducible exact LeO.none _)
      | (with_reducible refine LeO.ite ?_ ?_)
      | (with_reducible refine LeO.bind ?_ (fun _ => ?_))
      | exact ih0 _ _ _ _ _ _ _
      | exact ih1 _ _ _ _ _ _ _
      | exact ih2 _ _ _ _ _ _ _ _
      | exact spec_l21Index.mono _ _ _
      | exact spec_l23Sorted.mono _ _
      | exact LeO.none _
      | refine LeO.ite ?_ ?_
      | refine LeO.bind ?_ (fun _ => ?_)
theorem spec_l21Choose.mono : ∀ a0 a1 a2 a3 a4 a5 a6 k, LeO (spec_l21Choose.f k a0 a1 a2 a3 a4 a5 a6) (spec_l21Choose.f (k + 1) a0 a1 a2 a3 a4 a5 a6) := by
  intro a0 a1 a2 a3 a4 a5 a6 k
  obtain ⟨ih0, ih1, ih2⟩ := spec_l21Choose.mono_l k
  exact ih0 a0 a1 a2 a3 a4 a5 a6
set_option maxHeartbeats 8000000 in
set_option maxRecDepth 100000 in
theorem spec_l21Choose.calls (k : Nat) : ∀ (A0 : Option Addr) (c0 : Nat) (l0 : List Int) (a1 : Int) (P2_ : Nat → Prop) (u9000_ : Value) (l2 : List Bool) (A3 : Option Addr) (c3 : Nat) (l3 : List Int) (a4 : Int) (P5_ : Nat → Prop) (u9001_ : Value) (l5 : List Int) (A6 : Option Addr) (c6 : Nat) (l6 : List (List Int)) (r1 : List Bool) (r2 : List Int) (w0 w : World) (hB : Below w0.heap.size w0 w) (hr0 : ∀ W_, Kept w W_ (fun k_ => P2_ k_ ∨ P5_ k_) → Kd.C (Kd.int .i64) W_ A0 l0.length l0) (hc0 : l0.length ≤ c0) (ho2 : Kd.R Kd.bool 4 w w0.heap.size P2_ u9000_ l2) (hr3 : ∀ W_, Kept w W_ (fun k_ => P2_ k_ ∨ P5_ k_) → Kd.C (Kd.int .i64) W_ A3 l3.length l3) (hc3 : l3.length ≤ c3) (ho5 : Kd.R (Kd.int .i64) 3 w w0.heap.size P5_ u9001_ l5) (hr6 : ∀ W_, Kept w W_ (fun k_ => P2_ k_ ∨ P5_ k_) → Kd.C (Kd.slice 3 (Kd.int .i64)) W_ A6 l6.length l6) (hc6 : l6.length ≤ c6) (h : spec_l21Choose.f k l0 a1 l2 l3 a4 l5 l6 = some (r1, r2)),
    Calls Tryd.prog 22 #[.slice A0 l0.length c0, .int .i64 a1, u9000_, .slice A3 l3.length c3, .int .i64 a4, u9001_, .slice A6 l6.length c6] w fun e w' => e = .returned (.tuple #[]) ∧ Kd.R Kd.bool 4 w' w0.heap.size (fun k_ => ((P2_ k_ ∨ P5_ k_) ∨ w.heap.size ≤ k_)) u9000_ r1 ∧ Kd.R (Kd.int .i64) 3 w' w0.heap.size (fun k_ => ((P2_ k_ ∨ P5_ k_) ∨ w.heap.size ≤ k_)) u9001_ r2 ∧ Below w0.heap.size w0 w' ∧ Kept w w' (fun k_ => P2_ k_ ∨ P5_ k_) := by
  induction k using Nat.strongRecOn with
  | _ k ih =>
  intro A0 c0 l0 a1 P2_ u9000_ l2 A3 c3 l3 a4 P5_ u9001_ l5 A6 c6 l6 r1 r2 w0 w hB hr0 hc0 ho2 hr3 hc3 ho5 hr6 hc6 h
  cases k with
  | zero => exact absurd h (by simp [spec_l21Choose.f])
  | succ k =>
  simp only [spec_l21Choose.f] at h
  have HR0 := Aside0.mk hr0
  have HC0 := Aside0.mk hc0
  clear hr0 hc0
  have HO2 := Aside0.mk (show Kd.R Kd.bool 4 w w0.heap.size (fun k_ => ((P2_ k_ ∨ P5_ k_) ∨ w.heap.size ≤ k_)) u9000_ l2 from Kd.R_mono ho2 (fun k_ hk => (.inl (.inl hk))))
  have HR3 := Aside0.mk hr3
  have HC3 := Aside0.mk hc3
  clear hr3 hc3
  have HO5 := Aside0.mk (show Kd.R (Kd.int .i64) 3 w w0.heap.size (fun k_ => ((P2_ k_ ∨ P5_ k_) ∨ w.heap.size ≤ k_)) u9001_ l5 from Kd.R_mono ho5 (fun k_ hk => (.inl (.inr hk))))
  have HR6 := Aside0.mk hr6
  have HC6 := Aside0.mk hc6
  clear hr6 hc6
  have HK := Aside0.mk (Kept.refl w (fun k_ => P2_ k_ ∨ P5_ k_))
  have HW0 := Aside0.mk hB.size
  have HB := Aside0.mk hB
  clear hB
  have H : (if a1 = (l0.length : Int) then ((spec_l23Sorted.f k l3).bind fun t196 => (spec_l21Choose.l0 k l2 a4 l5 l6 t196 (([] : List Int)) (wrap64 ((t196.length : Int) - 1)))) else (spec_l21Choose.l1 k l0 a1 l2 l3 l5 l6 a4 0)) = some (r1, r2) := h
  clear h
  by_cases c8 : a1 = (l0.length : Int)
  · rw [if_pos c8] at H
    have c8b0 : (a1 == (l0.length : Int)) = true := beq_iff_eq.mpr c8
    have c8b1 : (a1 != (l0.length : Int)) = false := bne_eq_false_iff_eq.mpr c8
    clear c8
    replace H := Option.bind_eq_some_iff.mp H
    obtain ⟨t196, A90, H⟩ := H
    replace H : (spec_l21Choose.l0 k l2 a4 l5 l6 t196 (([] : List Int)) (wrap64 ((t196.length : Int) - 1))) = some (r1, r2) := H
    have A9 := Aside0.mk A90
    clear A90
    obtain ⟨y199, hy199⟩ : ∃ y_ : List Int, y_ = (([] : List Int)) := ⟨_, rfl⟩
    replace H : (spec_l21Choose.l0 k l2 a4 l5 l6 t196 y199 (wrap64 ((t196.length : Int) - 1))) = some (r1, r2) := by first | (rw [hy199]; with_reducible exact H) | (have H2_ := (Option.bind_some _ _).symm.trans H; rw [hy199]; with_reducible exact H2_) | (have H2_ := (Option.bind_some _ _).symm.trans H; with_reducible exact H2_) | with_reducible exact H | (rw [hy199]; exact H) | exact H
    have Ny199 := Aside0.mk hy199
    clear hy199
    have H' := Aside0.mk H
    clear H
    go_enter Tryd.func22, Tryd.ntmps22
    go_wp2_with (first | ((with_reducible refine gate_callee (f := 44) rfl ?_); refine goesL_ (some 26) rfl rfl Tryd.func44 (by kernel_rfl) rfl #[.slice A3 l3.length c3] rfl xm ?_; (with_reducible refine (spec_l23Sorted.calls k _ _ l3 t196 _ ?side1 ?side2 A9.out).mono ?_); (case side1 => exact Kd.C_kept_now HR3.out (by repeat (first | (with_reducible first | exact HK.out | apply Kept.alloc | apply Kept.drewN | apply Kept.drew) | exact HK.out))); (case side2 => exact HC3.out); rintro e w10 ⟨v197, rfl, ho0, hb⟩; refine ⟨_, rfl, ?_⟩; have n0_ := Aside0.mk (Kd.R_below (xR HO2.out) hb); have n1_ := Aside0.mk (Kd.R_elder' (xR HO5.out) (Kd.R_base ho0) hb); have n2_ := Aside0.mk (Kd.R_lower (Kd.R_new' (Kd.R_newM (M := fun k_ => ((P2_ k_ ∨ P5_ k_) ∨ w.heap.size ≤ k_)) ho0 (by first | exact HK.out.1 | exact (show Kept w _ (fun k_ => P2_ k_ ∨ P5_ k_) from by repeat (first | (with_reducible first | exact HK.out | apply Kept.alloc | apply Kept.drewN | apply Kept.drew) | exact HK.out)).1) (fun k_ h_ => .inr h_)) (Kd.R_lt (xR HO5.out))) (below_size (xb HB.out))); have n3_ := Aside0.mk (Kept.below (S := (fun k_ => P2_ k_ ∨ P5_ k_)) (by repeat (first | (with_reducible first | exact HK.out | apply Kept.alloc | apply Kept.drewN | apply Kept.drew) | exact HK.out)) hb); have n4_ := Aside0.mk (below_step (xb HB.out) hb); clear HO2; clear HO5; clear HK; clear HB; have HO2 := n0_; have HO5 := n1_; have HO198 := n2_; have HK := n3_; have HB := n4_; clear n0_ n1_ n2_ n3_ n4_; (try clear hb); (try clear hb2); (try clear hk); (try clear hi); (try clear ho0)) | ((with_reducible refine gate_dst (N := 27) rfl ?_); refine Kd.R_lit (Kd.int .i64) _ 3 ?hg (N := 27) ?hd (xs := ([] : List Int)) (inner := []) (ok := fun _ => True) (okp := fun _ => True) ?hr ?hp (fun _ hk => hk) trivial (Below.refl _ _) (Nat.le_refl _) (by simp) ?_; (case hd => rfl); (case hg => rfl); (case hr => first | (go_simp; done) | (go_simp; rfl)); (case hp => exact (Reps.none _ _)); intro v200 w11 ho12 hb hg_ hnew_; clear hg_ hnew_; (first | rw [← Ny199.out] at ho12 | (simp only [Int.reduceToNat] at ho12; rw [← Ny199.out] at ho12)); have n0_ := Aside0.mk (Kd.R_below (xR HO2.out) hb); have n1_ := Aside0.mk (Kd.R_elder' (xR HO5.out) (Kd.R_base ho12) hb); have n2_ := Aside0.mk (Kd.R_elder' (xR HO198.out) (Kd.R_base ho12) hb); have n3_ := Aside0.mk (Kd.R_lower (Kd.R_new' (Kd.R_new' (Kd.R_newM (M := fun k_ => ((P2_ k_ ∨ P5_ k_) ∨ w.heap.size ≤ k_)) ho12 (by first | exact HK.out.1 | exact (show Kept w _ (fun k_ => P2_ k_ ∨ P5_ k_) from by repeat (first | (with_reducible first | exact HK.out | apply Kept.alloc | apply Kept.drewN | apply Kept.drew) | exact HK.out)).1) (fun k_ h_ => .inr h_)) (Kd.R_lt (xR HO5.out))) (Kd.R_lt (xR HO198.out))) (below_size (xb HB.out))); have n4_ := Aside0.mk (Kept.below (S := (fun k_ => P2_ k_ ∨ P5_ k_)) (by repeat (first | (with_reducible first | exact HK.out | apply Kept.alloc | apply Kept.drewN | apply Kept.drew) | exact HK.out)) hb); have n5_ := Aside0.mk (below_step (xb HB.out) hb); clear HO2; clear HO5; clear HO198; clear HK; clear HB; have HO2 := n0_; have HO5 := n1_; have HO198 := n2_; have HO201 := n3_; have HK := n4_; have HB := n5_; clear n0_ n1_ n2_ n3_ n4_ n5_; clear hb ho12; obtain ⟨Ao13, co13, eo13⟩ := Kd.R_slice HO198.out; subst eo13))
    go_loopg [15, 16] k (fun kq v15 v16 w' => ∃ (x15_1 : List Int) (x16_1 : Int), v16 = .int .i64 x16_1 ∧ Aside0 (spec_l21Choose.l0 kq l2 a4 l5 l6 t196 x15_1 x16_1 = some (r1, r2)) ∧ Aside0 (kq ≤ k) ∧ Aside0 (Kd.R Kd.bool 4 w' w0.heap.size (fun k_ => ((P2_ k_ ∨ P5_ k_) ∨ w.heap.size ≤ k_)) u9000_ l2) ∧ Aside0 (Kd.R (Kd.int .i64) 3 w' w0.heap.size (fun k_ => ((P2_ k_ ∨ P5_ k_) ∨ w.heap.size ≤ k_) ∧ some k_ ≠ ((.slice Ao13 t196.length co13) : Value).ownBlock ∧ some k_ ≠ (v15 : Value).ownBlock) u9001_ l5) ∧ Aside0 (Kd.R (Kd.int .i64) 3 w' w0.heap.size (fun k_ => ((P2_ k_ ∨ P5_ k_) ∨ w.heap.size ≤ k_) ∧ some k_ ≠ (u9001_ : Value).ownBlock ∧ some k_ ≠ (v15 : Value).ownBlock) (.slice Ao13 t196.length co13) t196) ∧ Aside0 (Kd.R (Kd.int .i64) 3 w' w0.heap.size (fun k_ => ((P2_ k_ ∨ P5_ k_) ∨ w.heap.size ≤ k_) ∧ some k_ ≠ (u9001_ : Value).ownBlock ∧ some k_ ≠ ((.slice Ao13 t196.length co13) : Value).ownBlock) v15 x15_1) ∧ Aside0 (Kept w w' (fun k_ => P2_ k_ ∨ P5_ k_)) ∧ Aside0 (Below w0.heap.size w0 w'))
    case atStart => exact ⟨(y199), (wrap64 ((t196.length : Int) - 1)), (by first | rfl | (simp; done) | (simp [*]; done)), H', ⟨Nat.le_refl _⟩, ⟨by (with_reducible repeat (first | apply Kd.R_alloc | apply Kd.R_drewN | apply Kd.R_drew)); first | exact HO2.out | exact Kd.R_mono HO2.out xi⟩, ⟨by (with_reducible repeat (first | apply Kd.R_alloc | apply Kd.R_drewN | apply Kd.R_drew)); exact Kd.R_mono HO5.out (fun _ hk => ⟨hk.1.1, ⟨hk.1.2, hk.2⟩⟩)⟩, ⟨by (with_reducible repeat (first | apply Kd.R_alloc | apply Kd.R_drewN | apply Kd.R_drew)); exact Kd.R_mono HO198.out (fun _ hk => ⟨hk.1.1.1, ⟨hk.1.2, hk.2⟩⟩)⟩, ⟨by (with_reducible repeat (first | apply Kd.R_alloc | apply Kd.R_drewN | apply Kd.R_drew)); exact Kd.R_mono HO201.out (fun _ hk => ⟨hk.1.1.1, ⟨hk.1.2, hk.2⟩⟩)⟩, ⟨by repeat (first | (with_reducible first | exact HK.out | apply Kept.alloc | apply Kept.drewN | apply Kept.drew) | exact HK.out)⟩, ⟨by repeat (first | (with_reducible first | exact HB.out | apply below_alloc | apply pw_below_drewN | apply below_drew1) | exact HB.out)⟩⟩
    case round =>
      clear H'
      try clear c2
      try clear p2
      try clear c3
      try clear c4
      try clear c6
      try clear p6
      try clear c8
      try clear c8b0
      try clear c8b1
      obtain ⟨x15_1, x16_1, rfl, HA, HK1, HO_2, HO_5, HO_14, HO_15, HK, HB⟩ := hrel
      cases gk with
      | zero => exact absurd HA.out (by simp [spec_l21Choose.l0])
      | succ k1 =>
        have H := HA.out
        clear HA
        simp only [spec_l21Choose.l0] at H
        by_cases c14 : x16_1 ≥ 0
        · rw [if_pos c14] at H
          have c14b0 : decide (0 ≤ x16_1) = true := decide_eq_true c14
          clear c14
          by_cases c15 : 0 ≤ x16_1
          · rw [if_pos c15] at H
            have c15b0 : decide (0 ≤ x16_1) = true := decide_eq_true c15
            clear c15
            by_cases c16 : x16_1 < (t196.length : Int)
            · rw [if_pos c16] at H
              have c16b0 : decide (x16_1 < (t196.length : Int)) = true := decide_eq_true c16
              clear c16
              by_cases c17 : (rd t196 x16_1) > 0
              · rw [if_pos c17] at H
                have c17b0 : decide (0 < (rd t196 x16_1)) = true := decide_eq_true c17
                clear c17
                by_cases c18 : x15_1.length < 17592186044416
                · rw [if_pos c18] at H
                  have LMc18 := Aside0.mk c18
                  clear c18
                  obtain ⟨y204, hy204⟩ : ∃ y_ : List Int, y_ = (x15_1 ++ [rd t196 x16_1]) := ⟨_, rfl⟩
                  replace H : (spec_l21Choose.l0 k1 l2 a4 l5 l6 t196 y204 (wrap64 (x16_1 - 1))) = some (r1, r2) := by first | (rw [hy204]; with_reducible exact H) | (have H2_ := (Option.bind_some _ _).symm.trans H; rw [hy204]; with_reducible exact H2_) | (have H2_ := (Option.bind_some _ _).symm.trans H; with_reducible exact H2_) | with_reducible exact H | (rw [hy204]; exact H) | exact H
                  have Ny204 := Aside0.mk hy204
                  clear hy204
                  have H' := Aside0.mk H
                  clear H
                  have p202 : 0 ≤ (x16_1 : Int) := of_decide_eq_true (by first | (with_reducible assumption) | assumption)
                  have q202 : x16_1 < (t196.length : Int) := of_decide_eq_true (by first | (with_reducible assumption) | assumption)
                  obtain ⟨ad202, e202, hx202_0⟩ := Kd.at_int (Kd.R_reads' HO_14.out).2.2 x16_1 p202 q202
                  cases e202
                  replace p202 := eq_true p202
                  replace q202 := eq_true q202
                  have p203 : 0 ≤ (x16_1 : Int) := of_decide_eq_true (by first | (with_reducible assumption) | assumption)
                  have q203 : x16_1 < (t196.length : Int) := of_decide_eq_true (by first | (with_reducible assumption) | assumption)
                  obtain ⟨ad203, e203, hx203_0⟩ := Kd.at_int (Kd.R_reads' HO_14.out).2.2 x16_1 p203 q203
                  obtain rfl : ad202 = ad203 := (by injection e203)
                  replace p203 := eq_true p203
                  replace q203 := eq_true q203
                  go_wp2_with (first | ((with_reducible refine gate_builtin (b := .append) (xs := #[.tmp 40, .tmp 45]) rfl ?_); at_builtin; refine Kd.R_append (Kd.int .i64) (w0 := w0) w0.heap.size rfl (.tmp 40) (.tmp 45) 22 3 (.int .i64 0) 8 rfl Tryd.underlying22 info3 rfl (by decide) (by omega) u15 x15_1 (rd t196 x16_1) [.int .i64 (rd t196 x16_1)] (fun k_ => ((P2_ k_ ∨ P5_ k_) ∨ w.heap.size ≤ k_) ∧ some k_ ≠ (u9001_ : Value).ownBlock ∧ some k_ ≠ (.slice (some ad202) t196.length co13 : Value).ownBlock) (fun _ => False) rfl rfl ?aP (fun _ hk => hk.elim) ?aF ?aO ?aB ?aS ?aL ?_; (case aP => exact rfl); (case aB => exact (xb HB.out)); (case aF => exact (fun k_ hk => ⟨(.inr (Nat.le_trans (by first | exact HK.out.1 | exact (show Kept w _ (fun k_ => P2_ k_ ∨ P5_ k_) from by repeat (first | (with_reducible first | exact HK.out | apply Kept.alloc | apply Kept.drewN | apply Kept.drew) | exact HK.out)).1) hk)), Kd.fresh' (Kd.R_lt (xR HO_5.out)) k_ hk, Kd.fresh' (Kd.R_lt (xR HO_14.out)) k_ hk⟩)); (case aO => exact (xR HO_15.out)); (case aS => exact (below_size (xb HB.out))); (case aL => have := LMc18.out; omega); intro v205 w19 ho hb hg hat; rw [← Ny204.out] at ho; have n0_ := Aside0.mk (Kd.R_over' (xR HO_2.out) (Kd.R_typed (xR HO_15.out)) (by decide) hg); have n1_ := Aside0.mk (Kd.R_after (ok := (fun k_ => ((P2_ k_ ∨ P5_ k_) ∨ w.heap.size ≤ k_) ∧ some k_ ≠ (.slice (some ad202) t196.length co13 : Value).ownBlock)) (by (with_reducible repeat (first | apply Kd.R_alloc | apply Kd.R_drewN | apply Kd.R_drew)); exact Kd.R_mono HO_5.out (fun _ hk => ⟨⟨hk.1, hk.2.1⟩, hk.2.2⟩)) hg hat); have n2_ := Aside0.mk (Kd.R_after (ok := (fun k_ => ((P2_ k_ ∨ P5_ k_) ∨ w.heap.size ≤ k_) ∧ some k_ ≠ (u9001_ : Value).ownBlock)) (by (with_reducible repeat (first | apply Kd.R_alloc | apply Kd.R_drewN | apply Kd.R_drew)); exact Kd.R_mono HO_14.out (fun _ hk => ⟨⟨hk.1, hk.2.1⟩, hk.2.2⟩)) hg hat); have n3_ := Aside0.mk (hb); have n4_ := Aside0.mk (Kept.of_grown (S := (fun k_ => P2_ k_ ∨ P5_ k_)) hg (by repeat (first | (with_reducible first | exact HK.out | apply Kept.alloc | apply Kept.drewN | apply Kept.drew) | exact HK.out)) (fun k_ e_ => (HO_15.out.1 k_ e_).1)); have n5_ := Aside0.mk (ho); clear HO_2; clear HO_5; clear HO_14; clear HB; clear HK; clear HO_15; have HO_2 := n0_; have HO_5 := n1_; have HO_14 := n2_; have HB := n3_; have HK := n4_; have HO206 := n5_; clear n0_ n1_ n2_ n3_ n4_ n5_; clear ho hb hg hat))
                  go_roundg k1
                  case measure => have := HK1.out; omega
                  case rel => exact ⟨(y204), (wrap64 (x16_1 - 1)), (by first | rfl | (simp; done) | (simp [*]; done)), H', ⟨by have := HK1.out; omega⟩, ⟨by (with_reducible repeat (first | apply Kd.R_alloc | apply Kd.R_drewN | apply Kd.R_drew)); first | exact HO_2.out | exact Kd.R_mono HO_2.out xi⟩, ⟨by (with_reducible repeat (first | apply Kd.R_alloc | apply Kd.R_drewN | apply Kd.R_drew)); exact Kd.R_mono HO_5.out (fun _ hk => ⟨hk.1.1, ⟨hk.1.2, hk.2⟩⟩)⟩, ⟨by (with_reducible repeat (first | apply Kd.R_alloc | apply Kd.R_drewN | apply Kd.R_drew)); exact Kd.R_mono HO_14.out (fun _ hk => ⟨hk.1.1, ⟨hk.1.2, hk.2⟩⟩)⟩, ⟨by (with_reducible repeat (first | apply Kd.R_alloc | apply Kd.R_drewN | apply Kd.R_drew)); first | exact HO206.out | exact Kd.R_mono HO206.out xi⟩, ⟨by repeat (first | (with_reducible first | exact HK.out | apply Kept.alloc | apply Kept.drewN | apply Kept.drew) | exact HK.out)⟩, ⟨by repeat (first | (with_reducible first | exact HB.out | apply below_alloc | apply pw_below_drewN | apply below_drew1) | exact HB.out)⟩⟩
                · rw [if_neg c18] at H
                  exact absurd H (by simp)
              · rw [if_neg c17] at H
                have c17b0 : decide (0 < (rd t196 x16_1)) = false := decide_eq_false c17
                clear c17
                have H' := Aside0.mk H
                clear H
                have p202 : 0 ≤ (x16_1 : Int) := of_decide_eq_true (by first | (with_reducible assumption) | assumption)
                have q202 : x16_1 < (t196.length : Int) := of_decide_eq_true (by first | (with_reducible assumption) | assumption)
                obtain ⟨ad202, e202, hx202_0⟩ := Kd.at_int (Kd.R_reads' HO_14.out).2.2 x16_1 p202 q202
                cases e202
                replace p202 := eq_true p202
                replace q202 := eq_true q202
                go_wp2
                go_roundg k1
                case measure => have := HK1.out; omega
                case rel => exact ⟨(x15_1), (wrap64 (x16_1 - 1)), (by first | rfl | (simp; done) | (simp [*]; done)), H', ⟨by have := HK1.out; omega⟩, ⟨by (with_reducible repeat (first | apply Kd.R_alloc | apply Kd.R_drewN | apply Kd.R_drew)); first | exact HO_2.out | exact Kd.R_mono HO_2.out xi⟩, ⟨by (with_reducible repeat (first | apply Kd.R_alloc | apply Kd.R_drewN | apply Kd.R_drew)); first | exact HO_5.out | exact Kd.R_mono HO_5.out xi⟩, ⟨by (with_reducible repeat (first | apply Kd.R_alloc | apply Kd.R_drewN | apply Kd.R_drew)); first | exact HO_14.out | exact Kd.R_mono HO_14.out xi⟩, ⟨by (with_reducible repeat (first | apply Kd.R_alloc | apply Kd.R_drewN | apply Kd.R_drew)); first | exact HO_15.out | exact Kd.R_mono HO_15.out xi⟩, ⟨by repeat (first | (with_reducible first | exact HK.out | apply Kept.alloc | apply Kept.drewN | apply Kept.drew) | exact HK.out)⟩, ⟨by repeat (first | (with_reducible first | exact HB.out | apply below_alloc | apply pw_below_drewN | apply below_drew1) | exact HB.out)⟩⟩
            · rw [if_neg c16] at H
              exact absurd H (by simp)
          · rw [if_neg c15] at H
            exact absurd H (by simp)
        · rw [if_neg c14] at H
          have c14b0 : decide (0 ≤ x16_1) = false := decide_eq_false c14
          clear c14
          replace H := Option.bind_eq_some_iff.mp H
          obtain ⟨t207, A200, H⟩ := H
          replace H : (if 0 ≤ t207 then (if t207 < (l5.length : Int) then (some (l2, (l5.set (t207 : Int).toNat (wrap64 ((rd l5 t207) + a4))))) else (none)) else (none)) = some (r1, r2) := H
          have A20 := Aside0.mk A200
          clear A200
          by_cases c21 : 0 ≤ t207
          · rw [if_pos c21] at H
            have c21b0 : decide (0 ≤ t207) = true := decide_eq_true c21
            clear c21
            by_cases c22 : t207 < (l5.length : Int)
            · rw [if_pos c22] at H
              have c22b0 : decide (t207 < (l5.length : Int)) = true := decide_eq_true c22
              clear c22
              obtain ⟨y209, hy209⟩ : ∃ y_ : List Int, y_ = (l5.set (t207 : Int).toNat (wrap64 ((rd l5 t207) + a4))) := ⟨_, rfl⟩
              replace H : (some (l2, y209)) = some (r1, r2) := by first | (rw [hy209]; with_reducible exact H) | (have H2_ := (Option.bind_some _ _).symm.trans H; rw [hy209]; with_reducible exact H2_) | (have H2_ := (Option.bind_some _ _).symm.trans H; with_reducible exact H2_) | with_reducible exact H | (rw [hy209]; exact H) | exact H
              have Ny209 := Aside0.mk hy209
              clear hy209
              simp only [Option.some.injEq, Prod.mk.injEq] at H
              obtain ⟨rfl, rfl⟩ := H
              obtain ⟨Ao24, co24, eo24⟩ := Kd.R_slice HO_15.out
              subst eo24
              go_wp2_with (first | ((with_reducible refine gate_callee (f := 45) rfl ?_); refine goesL_ (some 49) rfl rfl Tryd.func45 (by kernel_rfl) rfl #[.slice A6 l6.length c6, .slice Ao24 x15_1.length co24] rfl xm ?_; (with_reducible refine (spec_l21Index.calls k1 _ _ l6 _ _ x15_1 t207 _ ?side1 ?side2 ?side3 ?side4 A20.out).mono ?_); (case side1 => exact Kd.C_kept_now HR6.out (by repeat (first | (with_reducible first | exact HK.out | apply Kept.alloc | apply Kept.drewN | apply Kept.drew) | exact HK.out))); (case side2 => exact HC6.out); (case side3 => repeat (first | exact (Kd.R_reads' HO_15.out).2.2 | (with_reducible refine Kd.C_alloc ?_ _) | (with_reducible refine Kd.C_drewN ?_ _) | (with_reducible refine Kd.C_drew ?_))); (case side4 => exact (Kd.R_reads' HO_15.out).2.1); rintro e w' ⟨rfl, ⟨nd, rfl⟩⟩; refine ⟨_, rfl, ?_⟩; (try (rw [drewN_self wr]; generalize hq_ : World.drewN wr _ = wr; have n0_ : Aside0 (Kd.R (Kd.int .i64) 3 wr w0.heap.size (fun k_ => ((P2_ k_ ∨ P5_ k_) ∨ w.heap.size ≤ k_) ∧ some k_ ≠ (.slice Ao24 x15_1.length co24 : Value).ownBlock ∧ some k_ ≠ (u9001_ : Value).ownBlock) (.slice Ao13 t196.length co13) t196) := ⟨by rw [← hq_]; exact (by (with_reducible repeat (first | apply Kd.R_alloc | apply Kd.R_drewN | apply Kd.R_drew)); exact Kd.R_mono HO_14.out (fun _ hk => ⟨hk.1, ⟨hk.2.2, hk.2.1⟩⟩))⟩; have n1_ : Aside0 (Kd.R (Kd.int .i64) 3 wr w0.heap.size (fun k_ => ((P2_ k_ ∨ P5_ k_) ∨ w.heap.size ≤ k_) ∧ some k_ ≠ (.slice Ao13 t196.length co13 : Value).ownBlock ∧ some k_ ≠ (u9001_ : Value).ownBlock) (.slice Ao24 x15_1.length co24) x15_1) := ⟨by rw [← hq_]; exact (by (with_reducible repeat (first | apply Kd.R_alloc | apply Kd.R_drewN | apply Kd.R_drew)); exact Kd.R_mono HO_15.out (fun _ hk => ⟨hk.1, ⟨hk.2.2, hk.2.1⟩⟩))⟩; have n2_ : Aside0 (Kd.R Kd.bool 4 wr w0.heap.size (fun k_ => ((P2_ k_ ∨ P5_ k_) ∨ w.heap.size ≤ k_)) u9000_ l2) := ⟨by rw [← hq_]; exact (xR HO_2.out)⟩; have n3_ : Aside0 (Kd.R (Kd.int .i64) 3 wr w0.heap.size (fun k_ => ((P2_ k_ ∨ P5_ k_) ∨ w.heap.size ≤ k_) ∧ some k_ ≠ (.slice Ao13 t196.length co13 : Value).ownBlock ∧ some k_ ≠ (.slice Ao24 x15_1.length co24 : Value).ownBlock) u9001_ l5) := ⟨by rw [← hq_]; exact (xR HO_5.out)⟩; have n4_ : Aside0 (Kept w wr (fun k_ => P2_ k_ ∨ P5_ k_)) := ⟨by rw [← hq_]; exact (by repeat (first | (with_reducible first | exact HK.out | apply Kept.alloc | apply Kept.drewN | apply Kept.drew) | exact HK.out))⟩; have n5_ : Aside0 (Below w0.heap.size w0 wr) := ⟨by rw [← hq_]; exact (xb HB.out)⟩; clear HO_14 HO_15 HO_2 HO_5 HK HB hq_; have HO_14 := n0_; have HO_15 := n1_; have HO_2 := n2_; have HO_5 := n3_; have HK := n4_; have HB := n5_; clear n0_ n1_ n2_ n3_ n4_ n5_)); obtain ⟨Ao25, co25, eo25⟩ := Kd.R_slice HO_5.out; subst eo25; have p208 : 0 ≤ (t207 : Int) := of_decide_eq_true (by first | (with_reducible assumption) | assumption); have q208 : t207 < (l5.length : Int) := of_decide_eq_true (by first | (with_reducible assumption) | assumption); obtain ⟨ad208, e208, hx208_0⟩ := Kd.at_int (Kd.R_reads' HO_5.out).2.2 t207 p208 q208; cases e208; replace p208 := eq_true p208; replace q208 := eq_true q208; have p23 : 0 ≤ (t207 : Int) := of_decide_eq_true (by first | (with_reducible assumption) | assumption); have q23 : (t207 : Int) < ((l5.length : Int) : Int) := of_decide_eq_true (by first | (with_reducible assumption) | assumption); obtain ⟨go23, co23, eo23, gb23, gl23, cl23, HG23⟩ := Kd.R_form HO_5.out (by omega); (first | cases eo23 | (injection eo23 with ea_ en_ ec_; (first | subst ea_ | (injection ea_ with ea_; subst ea_)); subst ec_; clear en_)); have GB23 := Aside0.mk gb23; have GG23 := Aside0.mk HG23; clear gb23 gl23 HG23; have HMgo23 := Aside0.mk (show ((P2_ go23 ∨ P5_ go23) ∨ w.heap.size ≤ go23) from (HO_5.out.1 _ rfl).1); (first | simp only [add_plain] at hx208_0 | skip); obtain ⟨hx23_0, hf23_0⟩ := Kd.R_celln 0 HO_5.out (t207 : Int) p23 q23; replace p23 := eq_true p23; replace q23 := eq_true q23; obtain ⟨hy26_, hz26_⟩ := Kd.R_celln 0 HO_5.out (t207 : Int) (of_decide_eq_true (by first | (with_reducible assumption) | assumption)) (of_decide_eq_true (by first | (with_reducible assumption) | assumption)); have HP26 := Kd.R_putg HO_5.out (t207 : Int) (wrap64 ((rd l5 t207) + a4))) | ((with_reducible refine gate_store (t := 3) (p := 58) rfl ?_); refine store_event (t := 3) (p := 58) (v := ?vo_w27) (w1 := (wr.setCell ⟨go23, (t207 : Int).toNat, none⟩ (.int .i64 (wrap64 ((rd l5 t207) + a4))))) ?hg ?ho ?hn ?hr ?_; (case ho => rfl); (case hg => rfl); (case hn => rfl); (case hr => first | (go_simp; done) | (go_simp; rfl)); intro w27 hw; have hg : wr.grownBy w27 (some go23) := (by rw [hw]; exact HP26.2); have hp_ : Kd.R (Kd.int .i64) 3 w27 w0.heap.size (fun k_ => ((P2_ k_ ∨ P5_ k_) ∨ w.heap.size ≤ k_) ∧ some k_ ≠ (.slice Ao13 t196.length co13 : Value).ownBlock ∧ some k_ ≠ (.slice Ao24 x15_1.length co24 : Value).ownBlock) (.slice (some ⟨go23, 0, none⟩) l5.length co25) y209 := (by rw [hw, Ny209.out]; exact HP26.1); clear HP26; have n0_ := Aside0.mk (Kd.R_over' (v := (.slice (some ⟨go23, 0, none⟩) l5.length co25)) (xR HO_2.out) (Kd.R_typed HO_5.out) (by decide) hg); have n1_ := Aside0.mk (hp_); have n2_ := Aside0.mk (Kd.R_after (v := (.slice (some ⟨go23, 0, none⟩) l5.length co25)) (v1 := (.slice (some ⟨go23, 0, none⟩) l5.length co25)) (ok := (fun k_ => ((P2_ k_ ∨ P5_ k_) ∨ w.heap.size ≤ k_) ∧ some k_ ≠ (.slice Ao24 x15_1.length co24 : Value).ownBlock)) (by (with_reducible repeat (first | apply Kd.R_alloc | apply Kd.R_drewN | apply Kd.R_drew)); exact Kd.R_mono HO_14.out (by first | exact (fun _ hk => ⟨⟨hk.1, hk.2.2⟩, hk.2.1⟩) | exact (fun _ hk => ⟨⟨hk.1, hk.2.1⟩, hk.2.2⟩))) hg (.inl rfl)); have n3_ := Aside0.mk (Kd.R_after (v := (.slice (some ⟨go23, 0, none⟩) l5.length co25)) (v1 := (.slice (some ⟨go23, 0, none⟩) l5.length co25)) (ok := (fun k_ => ((P2_ k_ ∨ P5_ k_) ∨ w.heap.size ≤ k_) ∧ some k_ ≠ (.slice Ao13 t196.length co13 : Value).ownBlock)) (by (with_reducible repeat (first | apply Kd.R_alloc | apply Kd.R_drewN | apply Kd.R_drew)); exact Kd.R_mono HO_15.out (by first | exact (fun _ hk => ⟨⟨hk.1, hk.2.2⟩, hk.2.1⟩) | exact (fun _ hk => ⟨⟨hk.1, hk.2.1⟩, hk.2.2⟩))) hg (.inl rfl)); have n4_ := Aside0.mk ((by rw [hw]; exact below_set (HB.out) GB23.out : Below w0.heap.size w0 w27)); have n5_ := Aside0.mk (Kept.of_grown (S := (fun k_ => P2_ k_ ∨ P5_ k_)) hg (by repeat (first | (with_reducible first | exact HK.out | apply Kept.alloc | apply Kept.drewN | apply Kept.drew) | exact HK.out)) (fun k_ e_ => (HO_5.out.1 k_ e_).1)); clear HO_2; clear HO_5; clear HO_14; clear HO_15; clear HB; clear HK; have HO_2 := n0_; have HO_5 := n1_; have HO_14 := n2_; have HO_15 := n3_; have HB := n4_; have HK := n5_; clear n0_ n1_ n2_ n3_ n4_ n5_; clear hg hw hp_))
              first | go_end0 | ((try simp only [Exit.inBlock, Exit.then]); refine bodyPost_ret (results_none rfl _ _ _) rfl ?_)
              exact ⟨by first | rfl | (simp [errW_none, errW_some] <;> rfl) | (simp [*, errW_none, errW_some] <;> rfl), by (with_reducible repeat (first | apply Kd.R_alloc | apply Kd.R_drewN | apply Kd.R_drew)); first | exact HO_2.out | exact Kd.R_mono HO_2.out xi, by (with_reducible repeat (first | apply Kd.R_alloc | apply Kd.R_drewN | apply Kd.R_drew)); exact Kd.R_mono HO_5.out (fun _ hk => hk.1), by repeat (first | (with_reducible first | exact HB.out | apply below_alloc | apply pw_below_drewN | apply below_drew1) | exact HB.out), by repeat (first | (with_reducible first | exact HK.out | apply Kept.alloc | apply Kept.drewN | apply Kept.drew) | exact HK.out)⟩
            · rw [if_neg c22] at H
              exact absurd H (by simp)
          · rw [if_neg c21] at H
            exact absurd H (by simp)
  · rw [if_neg c8] at H
    have c8b0 : (a1 == (l0.length : Int)) = false := beq_eq_false_iff_ne.mpr c8
    have c8b1 : (a1 != (l0.length : Int)) = true := bne_iff_ne.mpr c8
    have H' := Aside0.mk H
    clear H
    go_enter Tryd.func22, Tryd.ntmps22
    go_wp2
    go_loopg [18, 19] k (fun kq v18 v19 w' => ∃ (x2_1 : List Bool) (x5_1 : List Int) (x18_1 : Int) (x19_1 : Int), v18 = .int .i64 x18_1 ∧ v19 = .int .i64 x19_1 ∧ Aside0 (spec_l21Choose.l1 kq l0 a1 x2_1 l3 x5_1 l6 x18_1 x19_1 = some (r1, r2)) ∧ Aside0 (kq ≤ k) ∧ Aside0 (Kd.R Kd.bool 4 w' w0.heap.size (fun k_ => ((P2_ k_ ∨ P5_ k_) ∨ w.heap.size ≤ k_)) u9000_ x2_1) ∧ Aside0 (Kd.R (Kd.int .i64) 3 w' w0.heap.size (fun k_ => ((P2_ k_ ∨ P5_ k_) ∨ w.heap.size ≤ k_)) u9001_ x5_1) ∧ Aside0 (Kept w w' (fun k_ => P2_ k_ ∨ P5_ k_)) ∧ Aside0 (Below w0.heap.size w0 w'))
    case atStart => exact ⟨(l2), (l5), (a4), (0), (by first | rfl | (simp; done) | (simp [*]; done)), (by first | rfl | (simp; done) | (simp [*]; done)), H', ⟨Nat.le_refl _⟩, ⟨by (with_reducible repeat (first | apply Kd.R_alloc | apply Kd.R_drewN | apply Kd.R_drew)); first | exact HO2.out | exact Kd.R_mono HO2.out xi⟩, ⟨by (with_reducible repeat (first | apply Kd.R_alloc | apply Kd.R_drewN | apply Kd.R_drew)); first | exact HO5.out | exact Kd.R_mono HO5.out xi⟩, ⟨by repeat (first | (with_reducible first | exact HK.out | apply Kept.alloc | apply Kept.drewN | apply Kept.drew) | exact HK.out)⟩, ⟨by repeat (first | (with_reducible first | exact HB.out | apply below_alloc | apply pw_below_drewN | apply below_drew1) | exact HB.out)⟩⟩
    case round =>
      clear H'
      try clear c1
      try clear c2
      try clear p2
      try clear q2
      try clear hx2
      try clear c3
      try clear c4
      try clear c6
      try clear p6
      try clear c8
      try clear c8b0
      try clear c8b1
      try clear c14
      try clear c14b0
      try clear c15
      try clear c15b0
      try clear c16
      try clear c16b0
      try clear c17
      try clear c17b0
      try clear c18
      try clear p20
      try clear q20
      try clear hx20
      try clear c21
      try clear c21b0
      try clear c22
      try clear c22b0
      try clear p23
      try clear q23
      try clear hx23
      try clear hf23
      try clear hx202_0
      try clear hx203_0
      try clear hx208_0
      try clear hx23_0
      try clear p2
      try clear p202
      try clear p203
      try clear p208
      try clear p23
      try clear p6
      try clear q202
      try clear q203
      try clear q208
      try clear q23
      obtain ⟨x2_1, x5_1, x18_1, x19_1, rfl, rfl, HA, HK1, HO_2, HO_5, HK, HB⟩ := hrel
      cases gk with
      | zero => exact absurd HA.out (by simp [spec_l21Choose.l1])
      | succ k1 =>
        have H := HA.out
        clear HA
        simp only [spec_l21Choose.l1] at H
        by_cases c28 : x19_1 < (l0.length : Int)
        · rw [if_pos c28] at H
          have c28b0 : decide (x19_1 < (l0.length : Int)) = true := decide_eq_true c28
          clear c28
          by_cases c29 : 0 ≤ x19_1
          · rw [if_pos c29] at H
            have c29b0 : decide (0 ≤ x19_1) = true := decide_eq_true c29
            clear c29
            by_cases c30 : x19_1 < (x2_1.length : Int)
            · rw [if_pos c30] at H
              have c30b0 : decide (x19_1 < (x2_1.length : Int)) = true := decide_eq_true c30
              clear c30
              obtain ⟨bq31, hbq31⟩ : ∃ b_ : Bool, b_ = (rdOf false x2_1 x19_1) := ⟨_, rfl⟩
              replace H : (if bq31 = true then (spec_l21Choose.l1 k1 l0 a1 x2_1 l3 x5_1 l6 x18_1 (wrap64 (x19_1 + 1))) else (if 0 ≤ a1 then (if a1 < (l0.length : Int) then (if (wrap64 ((wrap64 ((rd l0 a1) - a1)) + x19_1)) ≥ 0 then ((some (([] : List Int) : List Int)).bind fun y213 => (if y213.length + l3.length < 17592186044416 then ((some (y213 ++ l3 : List Int)).bind fun y216 => (if y216.length < 17592186044416 then ((spec_l21Choose.f k1 l0 (wrap64 (a1 + 1)) (x2_1.set (x19_1 : Int).toNat true) (y216 ++ [wrap64 ((wrap64 ((rd l0 a1) - a1)) + x19_1)]) x18_1 x5_1 l6).bind fun bt222 => (spec_l21Choose.l1 k1 l0 a1 (bt222.1.set (x19_1 : Int).toNat false) l3 bt222.2 l6 (wrap64 (-x18_1)) (wrap64 (x19_1 + 1)))) else (none))) else (none))) else (spec_l21Choose.l1 k1 l0 a1 x2_1 l3 x5_1 l6 (wrap64 (-x18_1)) (wrap64 (x19_1 + 1)))) else (none)) else (none))) = some (r1, r2) := by rw [← hbq31] at H; exact H
              have Nbq31 := Aside0.mk hbq31
              clear hbq31
              by_cases c32 : bq31 = true
              · subst c32
                have H1 : (spec_l21Choose.l1 k1 l0 a1 x2_1 l3 x5_1 l6 x18_1 (wrap64 (x19_1 + 1))) = some (r1, r2) := by rw [if_pos rfl] at H; exact H
                clear H
                have H := H1
                clear H1
                have H' := Aside0.mk H
                clear H
                obtain ⟨Ao33, co33, eo33⟩ := Kd.R_slice HO_2.out
                subst eo33
                have p210 : 0 ≤ (x19_1 : Int) := of_decide_eq_true (by first | (with_reducible assumption) | assumption)
                have q210 : x19_1 < (x2_1.length : Int) := of_decide_eq_true (by first | (with_reducible assumption) | assumption)
                obtain ⟨ad210, e210, hx210_0⟩ := Kd.at_bool (Kd.R_reads' HO_2.out).2.2 x19_1 p210 q210
                (try rw [← Nbq31.out] at hx210_0)
                cases e210
                replace p210 := eq_true p210
                replace q210 := eq_true q210
                go_wp2
                go_roundg k1
                case measure => have := HK1.out; omega
                case rel => exact ⟨(x2_1), (x5_1), (x18_1), (wrap64 (x19_1 + 1)), (by first | rfl | (simp; done) | (simp [*]; done)), (by first | rfl | (simp; done) | (simp [*]; done)), H', ⟨by have := HK1.out; omega⟩, ⟨by (with_reducible repeat (first | apply Kd.R_alloc | apply Kd.R_drewN | apply Kd.R_drew)); first | exact HO_2.out | exact Kd.R_mono HO_2.out xi⟩, ⟨by (with_reducible repeat (first | apply Kd.R_alloc | apply Kd.R_drewN | apply Kd.R_drew)); first | exact HO_5.out | exact Kd.R_mono HO_5.out xi⟩, ⟨by repeat (first | (with_reducible first | exact HK.out | apply Kept.alloc | apply Kept.drewN | apply Kept.drew) | exact HK.out)⟩, ⟨by repeat (first | (with_reducible first | exact HB.out | apply below_alloc | apply pw_below_drewN | apply below_drew1) | exact HB.out)⟩⟩
              · replace c32 := Bool.eq_false_iff.mpr c32
                subst c32
                have H1 : (if 0 ≤ a1 then (if a1 < (l0.length : Int) then (if (wrap64 ((wrap64 ((rd l0 a1) - a1)) + x19_1)) ≥ 0 then ((some (([] : List Int) : List Int)).bind fun y213 => (if y213.length + l3.length < 17592186044416 then ((some (y213 ++ l3 : List Int)).bind fun y216 => (if y216.length < 17592186044416 then ((spec_l21Choose.f k1 l0 (wrap64 (a1 + 1)) (x2_1.set (x19_1 : Int).toNat true) (y216 ++ [wrap64 ((wrap64 ((rd l0 a1) - a1)) + x19_1)]) x18_1 x5_1 l6).bind fun bt222 => (spec_l21Choose.l1 k1 l0 a1 (bt222.1.set (x19_1 : Int).toNat false) l3 bt222.2 l6 (wrap64 (-x18_1)) (wrap64 (x19_1 + 1)))) else (none))) else (none))) else (spec_l21Choose.l1 k1 l0 a1 x2_1 l3 x5_1 l6 (wrap64 (-x18_1)) (wrap64 (x19_1 + 1)))) else (none)) else (none)) = some (r1, r2) := by rw [if_neg (show ¬ (false = true) by decide)] at H; exact H
                clear H
                have H := H1
                clear H1
                by_cases c34 : 0 ≤ a1
                · rw [if_pos c34] at H
                  have c34b0 : decide (0 ≤ a1) = true := decide_eq_true c34
                  clear c34
                  by_cases c35 : a1 < (l0.length : Int)
                  · rw [if_pos c35] at H
                    have c35b0 : decide (a1 < (l0.length : Int)) = true := decide_eq_true c35
                    clear c35
                    by_cases c36 : (wrap64 ((wrap64 ((rd l0 a1) - a1)) + x19_1)) ≥ 0
                    · rw [if_pos c36] at H
                      have c36b0 : decide (0 ≤ (wrap64 ((wrap64 ((rd l0 a1) - a1)) + x19_1))) = true := decide_eq_true c36
                      clear c36
                      obtain ⟨y212, hy212⟩ : ∃ y_ : List Bool, y_ = (x2_1.set (x19_1 : Int).toNat true) := ⟨_, rfl⟩
                      replace H : ((some (([] : List Int) : List Int)).bind fun y213 => (if y213.length + l3.length < 17592186044416 then ((some (y213 ++ l3 : List Int)).bind fun y216 => (if y216.length < 17592186044416 then ((spec_l21Choose.f k1 l0 (wrap64 (a1 + 1)) y212 (y216 ++ [wrap64 ((wrap64 ((rd l0 a1) - a1)) + x19_1)]) x18_1 x5_1 l6).bind fun bt222 => (spec_l21Choose.l1 k1 l0 a1 (bt222.1.set (x19_1 : Int).toNat false) l3 bt222.2 l6 (wrap64 (-x18_1)) (wrap64 (x19_1 + 1)))) else (none))) else (none))) = some (r1, r2) := by first | (rw [hy212]; with_reducible exact H) | (have H2_ := (Option.bind_some _ _).symm.trans H; rw [hy212]; with_reducible exact H2_) | (have H2_ := (Option.bind_some _ _).symm.trans H; with_reducible exact H2_) | with_reducible exact H | (rw [hy212]; exact H) | exact H
                      have Ny212 := Aside0.mk hy212
                      clear hy212
                      obtain ⟨y213, hy213⟩ : ∃ y_ : List Int, y_ = (([] : List Int)) := ⟨_, rfl⟩
                      replace H : (if y213.length + l3.length < 17592186044416 then ((some (y213 ++ l3 : List Int)).bind fun y216 => (if y216.length < 17592186044416 then ((spec_l21Choose.f k1 l0 (wrap64 (a1 + 1)) y212 (y216 ++ [wrap64 ((wrap64 ((rd l0 a1) - a1)) + x19_1)]) x18_1 x5_1 l6).bind fun bt222 => (spec_l21Choose.l1 k1 l0 a1 (bt222.1.set (x19_1 : Int).toNat false) l3 bt222.2 l6 (wrap64 (-x18_1)) (wrap64 (x19_1 + 1)))) else (none))) else (none)) = some (r1, r2) := by first | (rw [hy213]; with_reducible exact H) | (have H2_ := (Option.bind_some _ _).symm.trans H; rw [hy213]; with_reducible exact H2_) | (have H2_ := (Option.bind_some _ _).symm.trans H; with_reducible exact H2_) | with_reducible exact H | (rw [hy213]; exact H) | exact H
                      have Ny213 := Aside0.mk hy213
                      clear hy213
                      by_cases c38 : y213.length + l3.length < 17592186044416
                      · rw [if_pos c38] at H
                        have LMc38 := Aside0.mk c38
                        clear c38
                        obtain ⟨y216, hy216⟩ : ∃ y_ : List Int, y_ = (y213 ++ l3) := ⟨_, rfl⟩
                        replace H : (if y216.length < 17592186044416 then ((spec_l21Choose.f k1 l0 (wrap64 (a1 + 1)) y212 (y216 ++ [wrap64 ((wrap64 ((rd l0 a1) - a1)) + x19_1)]) x18_1 x5_1 l6).bind fun bt222 => (spec_l21Choose.l1 k1 l0 a1 (bt222.1.set (x19_1 : Int).toNat false) l3 bt222.2 l6 (wrap64 (-x18_1)) (wrap64 (x19_1 + 1)))) else (none)) = some (r1, r2) := by first | (rw [hy216]; with_reducible exact H) | (have H2_ := (Option.bind_some _ _).symm.trans H; rw [hy216]; with_reducible exact H2_) | (have H2_ := (Option.bind_some _ _).symm.trans H; with_reducible exact H2_) | with_reducible exact H | (rw [hy216]; exact H) | exact H
                        have Ny216 := Aside0.mk hy216
                        clear hy216
                        by_cases c39 : y216.length < 17592186044416
                        · rw [if_pos c39] at H
                          have LMc39 := Aside0.mk c39
                          clear c39
                          obtain ⟨y219, hy219⟩ : ∃ y_ : List Int, y_ = (y216 ++ [wrap64 ((wrap64 ((rd l0 a1) - a1)) + x19_1)]) := ⟨_, rfl⟩
                          replace H : ((spec_l21Choose.f k1 l0 (wrap64 (a1 + 1)) y212 y219 x18_1 x5_1 l6).bind fun bt222 => (spec_l21Choose.l1 k1 l0 a1 (bt222.1.set (x19_1 : Int).toNat false) l3 bt222.2 l6 (wrap64 (-x18_1)) (wrap64 (x19_1 + 1)))) = some (r1, r2) := by first | (rw [hy219]; with_reducible exact H) | (have H2_ := (Option.bind_some _ _).symm.trans H; rw [hy219]; with_reducible exact H2_) | (have H2_ := (Option.bind_some _ _).symm.trans H; with_reducible exact H2_) | with_reducible exact H | (rw [hy219]; exact H) | exact H
                          have Ny219 := Aside0.mk hy219
                          clear hy219
                          replace H := Option.bind_eq_some_iff.mp H
                          obtain ⟨⟨t222, t223⟩, A400, H⟩ := H
                          replace H : (spec_l21Choose.l1 k1 l0 a1 (t222.set (x19_1 : Int).toNat false) l3 t223 l6 (wrap64 (-x18_1)) (wrap64 (x19_1 + 1))) = some (r1, r2) := H
                          have A40 := Aside0.mk A400
                          clear A400
                          obtain ⟨y224, hy224⟩ : ∃ y_ : List Bool, y_ = (t222.set (x19_1 : Int).toNat false) := ⟨_, rfl⟩
                          replace H : (spec_l21Choose.l1 k1 l0 a1 y224 l3 t223 l6 (wrap64 (-x18_1)) (wrap64 (x19_1 + 1))) = some (r1, r2) := by first | (rw [hy224]; with_reducible exact H) | (have H2_ := (Option.bind_some _ _).symm.trans H; rw [hy224]; with_reducible exact H2_) | (have H2_ := (Option.bind_some _ _).symm.trans H; with_reducible exact H2_) | with_reducible exact H | (rw [hy224]; exact H) | exact H
                          have Ny224 := Aside0.mk hy224
                          clear hy224
                          have H' := Aside0.mk H
                          clear H
                          obtain ⟨Ao42, co42, eo42⟩ := Kd.R_slice HO_2.out
                          subst eo42
                          have p210 : 0 ≤ (x19_1 : Int) := of_decide_eq_true (by first | (with_reducible assumption) | assumption)
                          have q210 : x19_1 < (x2_1.length : Int) := of_decide_eq_true (by first | (with_reducible assumption) | assumption)
                          obtain ⟨ad210, e210, hx210_0⟩ := Kd.at_bool (Kd.R_reads' HO_2.out).2.2 x19_1 p210 q210
                          (try rw [← Nbq31.out] at hx210_0)
                          cases e210
                          replace p210 := eq_true p210
                          replace q210 := eq_true q210
                          have p211 : 0 ≤ (a1 : Int) := of_decide_eq_true (by first | (with_reducible assumption) | assumption)
                          have q211 : a1 < (l0.length : Int) := of_decide_eq_true (by first | (with_reducible assumption) | assumption)
                          obtain ⟨ad211, e211, hx211_0⟩ := Kd.at_int (Kd.C_kept_now HR0.out HK.out) a1 p211 q211
                          cases e211
                          replace p211 := eq_true p211
                          replace q211 := eq_true q211
                          have p37 : 0 ≤ (x19_1 : Int) := of_decide_eq_true (by first | (with_reducible assumption) | assumption)
                          have q37 : (x19_1 : Int) < ((x2_1.length : Int) : Int) := of_decide_eq_true (by first | (with_reducible assumption) | assumption)
                          obtain ⟨go37, co37, eo37, gb37, gl37, cl37, HG37⟩ := Kd.R_form HO_2.out (by omega)
                          (first | cases eo37 | (injection eo37 with ea_ en_ ec_; (first | subst ea_ | (injection ea_ with ea_; subst ea_)); subst ec_; clear en_))
                          have GB37 := Aside0.mk gb37
                          have GG37 := Aside0.mk HG37
                          clear gb37 gl37 HG37
                          have HMgo37 := Aside0.mk (show ((P2_ go37 ∨ P5_ go37) ∨ w.heap.size ≤ go37) from (HO_2.out.1 _ rfl))
                          (first | simp only [add_plain] at hx210_0 | skip)
                          obtain ⟨hx37_0, hf37_0⟩ := Kd.R_celln false HO_2.out (x19_1 : Int) p37 q37
                          replace p37 := eq_true p37
                          replace q37 := eq_true q37
                          have HP43 := Kd.R_putg HO_2.out (x19_1 : Int) true
                          go_wp2_with (first | ((with_reducible refine gate_store (t := 4) (p := 82) rfl ?_); refine store_event (t := 4) (p := 82) (v := ?vo_w44) (w1 := (wr.setCell ⟨go37, (x19_1 : Int).toNat, none⟩ (.bool true))) ?hg ?ho ?hn ?hr ?_; (case ho => rfl); (case hg => rfl); (case hn => rfl); (case hr => first | (go_simp; done) | (go_simp; rfl)); intro w44 hw; have hg : wr.grownBy w44 (some go37) := (by rw [hw]; exact HP43.2); have hp_ : Kd.R Kd.bool 4 w44 w0.heap.size (fun k_ => ((P2_ k_ ∨ P5_ k_) ∨ w.heap.size ≤ k_)) (.slice (some ⟨go37, 0, none⟩) x2_1.length co42) y212 := (by rw [hw, Ny212.out]; exact HP43.1); clear HP43; have n0_ := Aside0.mk (hp_); have n1_ := Aside0.mk (Kd.R_over' (v := (.slice (some ⟨go37, 0, none⟩) x2_1.length co42)) (xR HO_5.out) (Kd.R_typed HO_2.out) (by decide) hg); have n2_ := Aside0.mk ((by rw [hw]; exact below_set (HB.out) GB37.out : Below w0.heap.size w0 w44)); have n3_ := Aside0.mk (Kept.of_grown (S := (fun k_ => P2_ k_ ∨ P5_ k_)) hg (by repeat (first | (with_reducible first | exact HK.out | apply Kept.alloc | apply Kept.drewN | apply Kept.drew) | exact HK.out)) (fun k_ e_ => (HO_2.out.1 k_ e_))); clear HO_2; clear HO_5; clear HB; clear HK; have HO_2 := n0_; have HO_5 := n1_; have HB := n2_; have HK := n3_; clear n0_ n1_ n2_ n3_; clear hg hw hp_) | ((with_reducible refine gate_dst (N := 87) rfl ?_); refine Kd.R_lit (Kd.int .i64) _ 3 ?hg (N := 87) ?hd (xs := ([] : List Int)) (inner := []) (ok := fun _ => True) (okp := fun _ => True) ?hr ?hp (fun _ hk => hk) trivial (Below.refl _ _) (Nat.le_refl _) (by simp) ?_; (case hd => rfl); (case hg => rfl); (case hr => first | (go_simp; done) | (go_simp; rfl)); (case hp => exact (Reps.none _ _)); intro v214 w45 ho46 hb hg_ hnew_; clear hg_ hnew_; (first | rw [← Ny213.out] at ho46 | (simp only [Int.reduceToNat] at ho46; rw [← Ny213.out] at ho46)); have n0_ := Aside0.mk (Kd.R_below (xR HO_2.out) hb); have n1_ := Aside0.mk (Kd.R_elder' (xR HO_5.out) (Kd.R_base ho46) hb); have n2_ := Aside0.mk (Kd.R_lower (Kd.R_new' (Kd.R_newM (M := fun k_ => ((P2_ k_ ∨ P5_ k_) ∨ w.heap.size ≤ k_)) ho46 (by first | exact HK.out.1 | exact (show Kept w _ (fun k_ => P2_ k_ ∨ P5_ k_) from by repeat (first | (with_reducible first | exact HK.out | apply Kept.alloc | apply Kept.drewN | apply Kept.drew) | exact HK.out)).1) (fun k_ h_ => .inr h_)) (Kd.R_lt (xR HO_5.out))) (below_size (xb HB.out))); have n3_ := Aside0.mk (Kept.below (S := (fun k_ => P2_ k_ ∨ P5_ k_)) (by repeat (first | (with_reducible first | exact HK.out | apply Kept.alloc | apply Kept.drewN | apply Kept.drew) | exact HK.out)) hb); have n4_ := Aside0.mk (below_step (xb HB.out) hb); clear HO_2; clear HO_5; clear HK; clear HB; have HO_2 := n0_; have HO_5 := n1_; have HO215 := n2_; have HK := n3_; have HB := n4_; clear n0_ n1_ n2_ n3_ n4_; clear hb ho46) | ((with_reducible refine gate_builtin (b := .append) (xs := #[.tmp 87, .tmp 88]) rfl ?_); at_builtin; refine Kd.R_append_rows (Kd.int .i64) (w0 := w0) w0.heap.size rfl (.tmp 87) (.tmp 88) 22 3 (.int .i64 0) 8 rfl Tryd.underlying22 info3 rfl (by decide) (by omega) v214 y213 l3 _ _ _ (fun k_ => ((P2_ k_ ∨ P5_ k_) ∨ w.heap.size ≤ k_) ∧ some k_ ≠ (u9001_ : Value).ownBlock) (fun _ => False) rfl rfl ?aO ?aR (fun _ _ h => h) (fun _ h => h.elim) ?aF ?aB ?aS ?aL ?_; (case aR => exact Kd.C_kept_now HR3.out (by repeat (first | (with_reducible first | exact HK.out | apply Kept.alloc | apply Kept.drewN | apply Kept.drew) | exact HK.out))); (case aB => exact (xb HB.out)); (case aF => exact (fun k_ hk => ⟨(.inr (Nat.le_trans (by first | exact HK.out.1 | exact (show Kept w _ (fun k_ => P2_ k_ ∨ P5_ k_) from by repeat (first | (with_reducible first | exact HK.out | apply Kept.alloc | apply Kept.drewN | apply Kept.drew) | exact HK.out)).1) hk)), Kd.fresh' (Kd.R_lt (xR HO_5.out)) k_ hk⟩)); (case aO => exact (by (with_reducible repeat (first | apply Kd.R_alloc | apply Kd.R_drewN | apply Kd.R_drew)); exact Kd.R_mono HO215.out (fun _ hk => ⟨hk.1.1, hk.2⟩))); (case aS => exact (below_size (xb HB.out))); (case aL => have := LMc38.out; omega); intro v217 w47 ho hb hg hat; rw [← Ny216.out] at ho; have n0_ := Aside0.mk (Kd.R_over' (xR HO_2.out) (Kd.R_typed (xR HO215.out)) (by decide) hg); have n1_ := Aside0.mk (Kd.R_after (ok := (fun k_ => ((P2_ k_ ∨ P5_ k_) ∨ w.heap.size ≤ k_))) (xR HO_5.out) hg hat); have n2_ := Aside0.mk (hb); have n3_ := Aside0.mk (Kept.of_grown (S := (fun k_ => P2_ k_ ∨ P5_ k_)) hg (by repeat (first | (with_reducible first | exact HK.out | apply Kept.alloc | apply Kept.drewN | apply Kept.drew) | exact HK.out)) (fun k_ e_ => (HO215.out.1 k_ e_).1.1)); have n4_ := Aside0.mk (ho); clear HO_2; clear HO_5; clear HB; clear HK; clear HO215; have HO_2 := n0_; have HO_5 := n1_; have HB := n2_; have HK := n3_; have HO218 := n4_; clear n0_ n1_ n2_ n3_ n4_; clear ho hb hg hat) | ((with_reducible refine gate_builtin (b := .append) (xs := #[.tmp 89, .tmp 91]) rfl ?_); at_builtin; refine Kd.R_append (Kd.int .i64) (w0 := w0) w0.heap.size rfl (.tmp 89) (.tmp 91) 22 3 (.int .i64 0) 8 rfl Tryd.underlying22 info3 rfl (by decide) (by omega) v217 y216 (wrap64 ((wrap64 ((rd l0 a1) - a1)) + x19_1)) [.int .i64 (wrap64 ((wrap64 ((rd l0 a1) - a1)) + x19_1))] (fun k_ => ((P2_ k_ ∨ P5_ k_) ∨ w.heap.size ≤ k_) ∧ some k_ ≠ (u9001_ : Value).ownBlock) (fun _ => False) rfl rfl ?aP (fun _ hk => hk.elim) ?aF ?aO ?aB ?aS ?aL ?_; (case aP => exact rfl); (case aB => exact (xb HB.out)); (case aF => exact (fun k_ hk => ⟨(.inr (Nat.le_trans (by first | exact HK.out.1 | exact (show Kept w _ (fun k_ => P2_ k_ ∨ P5_ k_) from by repeat (first | (with_reducible first | exact HK.out | apply Kept.alloc | apply Kept.drewN | apply Kept.drew) | exact HK.out)).1) hk)), Kd.fresh' (Kd.R_lt (xR HO_5.out)) k_ hk⟩)); (case aO => exact (xR HO218.out)); (case aS => exact (below_size (xb HB.out))); (case aL => have := LMc39.out; omega); intro v220 w48 ho hb hg hat; rw [← Ny219.out] at ho; have n0_ := Aside0.mk (Kd.R_over' (xR HO_2.out) (Kd.R_typed (xR HO218.out)) (by decide) hg); have n1_ := Aside0.mk (Kd.R_after (ok := (fun k_ => ((P2_ k_ ∨ P5_ k_) ∨ w.heap.size ≤ k_))) (xR HO_5.out) hg hat); have n2_ := Aside0.mk (hb); have n3_ := Aside0.mk (Kept.of_grown (S := (fun k_ => P2_ k_ ∨ P5_ k_)) hg (by repeat (first | (with_reducible first | exact HK.out | apply Kept.alloc | apply Kept.drewN | apply Kept.drew) | exact HK.out)) (fun k_ e_ => (HO218.out.1 k_ e_).1)); have n4_ := Aside0.mk (ho); clear HO_2; clear HO_5; clear HB; clear HK; clear HO218; have HO_2 := n0_; have HO_5 := n1_; have HB := n2_; have HK := n3_; have HO221 := n4_; clear n0_ n1_ n2_ n3_ n4_; clear ho hb hg hat; obtain ⟨Ao49, co49, eo49⟩ := Kd.R_slice HO221.out; subst eo49; obtain ⟨Ao50, co50, eo50⟩ := Kd.R_slice HO_5.out; subst eo50) | ((with_reducible refine gate_callee (f := 22) rfl ?_); refine goesL_ (some 96) rfl rfl Tryd.func22 (by kernel_rfl) rfl #[.slice (some ad211) l0.length c0, .int .i64 (wrap64 (a1 + 1)), .slice (some ⟨go37, 0, none⟩) x2_1.length co42, .slice Ao49 y219.length co49, .int .i64 x18_1, .slice Ao50 x5_1.length co50, .slice A6 l6.length c6] rfl xm ?_; (with_reducible refine (ih k1 (by have := HK1.out; omega) _ _ l0 (wrap64 (a1 + 1)) (fun k_ => some k_ = (.slice (some ⟨go37, 0, none⟩) x2_1.length co42 : Value).ownBlock) (.slice (some ⟨go37, 0, none⟩) x2_1.length co42) y212 _ _ y219 x18_1 (fun k_ => some k_ = (.slice Ao50 x5_1.length co50 : Value).ownBlock) (.slice Ao50 x5_1.length co50) x5_1 _ _ l6 t222 t223 w0 _ ?side1 ?side2 ?side3 ?side4 ?side5 ?side6 ?side7 ?side8 ?side9 A40.out).mono ?_); (case side1 => repeat (first | (with_reducible first | exact HB.out | apply below_alloc | apply pw_below_drewN | apply below_drew1) | exact HB.out)); (case side2 => exact Kd.C_kept_call HR0.out (by repeat (first | (with_reducible first | exact HK.out | apply Kept.alloc | apply Kept.drewN | apply Kept.drew) | exact HK.out)) (fun k_ hs_ => Or.elim hs_ (fun e_ => (fun e_ => (HO_2.out.1 k_ e_.symm)) e_) (fun e_ => (fun e_ => (HO_5.out.1 k_ e_.symm).1) e_))); (case side3 => exact HC0.out); (case side4 => exact Kd.R_tight rfl HO_2.out); (case side5 => exact Kd.C_kept_own ((Kd.R_apart' HO221.out (Kd.R_typed HO_2.out) (by decide))) (fun k_ hk_ hs_ => Or.elim hs_ (fun e_ => (hk_.2) e_) (fun e_ => (hk_.1.2) e_))); (case side6 => exact (Kd.R_reads' HO221.out).2.1); (case side7 => exact Kd.R_tight rfl HO_5.out); (case side8 => exact Kd.C_kept_call HR6.out (by repeat (first | (with_reducible first | exact HK.out | apply Kept.alloc | apply Kept.drewN | apply Kept.drew) | exact HK.out)) (fun k_ hs_ => Or.elim hs_ (fun e_ => (fun e_ => (HO_2.out.1 k_ e_.symm)) e_) (fun e_ => (fun e_ => (HO_5.out.1 k_ e_.symm).1) e_))); (case side9 => exact HC6.out); rintro e w51 ⟨rfl, hy0, hy1, hb, hkp⟩; refine ⟨_, rfl, ?_⟩; have n0_ := Aside0.mk (Kd.R_reok rfl hy0 (fun k_ e_ => HO_2.out.1 k_ e_)); have n1_ := Aside0.mk (Kd.R_reok rfl hy1 (fun k_ e_ => HO_5.out.1 k_ e_)); have n2_ := Aside0.mk (Kd.R_mono (ok' := fun k_ => ((P2_ k_ ∨ P5_ k_) ∨ w.heap.size ≤ k_) ∧ some k_ ≠ (.slice Ao50 x5_1.length co50 : Value).ownBlock) (Kd.R_keptB ((Kd.R_apart' HO221.out (Kd.R_typed HO_2.out) (by decide))) hkp (fun k_ hk_ hs_ => Or.elim hs_ (fun e_ => (hk_.2) e_) (fun e_ => (hk_.1.2) e_))) (fun k_ hk_ => ⟨hk_.1.1.1, hk_.1.1.2⟩)); have n3_ := Aside0.mk (Kept.then_ (S := (fun k_ => P2_ k_ ∨ P5_ k_)) (by repeat (first | (with_reducible first | exact HK.out | apply Kept.alloc | apply Kept.drewN | apply Kept.drew) | exact HK.out)) hkp (fun k_ hs_ => Or.elim hs_ (fun e_ => (fun e_ => (HO_2.out.1 k_ e_.symm)) e_) (fun e_ => (fun e_ => (HO_5.out.1 k_ e_.symm).1) e_))); have n4_ := Aside0.mk (hb); clear HO_2; clear HO_5; clear HO221; clear HK; clear HB; have HO_2 := n0_; have HO_5 := n1_; have HO221 := n2_; have HK := n3_; have HB := n4_; clear n0_ n1_ n2_ n3_ n4_; (try clear hb); (try clear hkp); (try clear hy0); (try clear hy1); have p41 : 0 ≤ (x19_1 : Int) := of_decide_eq_true (by first | (with_reducible assumption) | assumption); have q41 : (x19_1 : Int) < ((x2_1.length : Int) : Int) := of_decide_eq_true (by first | (with_reducible assumption) | assumption); obtain ⟨hx41_0, hf41_0⟩ := Kd.R_celln false HO_2.out (x19_1 : Int) p41 q41; replace p41 := eq_true p41; replace q41 := eq_true q41; obtain ⟨hy52_, hz52_⟩ := Kd.R_celln false HO_2.out (x19_1 : Int) (of_decide_eq_true (by first | (with_reducible assumption) | assumption)) (of_decide_eq_true (by first | (with_reducible assumption) | assumption)); have HP52 := Kd.R_putg HO_2.out (x19_1 : Int) false) | ((with_reducible refine gate_store (t := 4) (p := 99) rfl ?_); refine store_event (t := 4) (p := 99) (v := ?vo_w53) (w1 := (w51.setCell ⟨go37, (x19_1 : Int).toNat, none⟩ (.bool false))) ?hg ?ho ?hn ?hr ?_; (case ho => rfl); (case hg => rfl); (case hn => rfl); (case hr => first | (go_simp; done) | (go_simp; rfl)); intro w53 hw; have hg : w51.grownBy w53 (some go37) := (by rw [hw]; exact HP52.2); have hp_ : Kd.R Kd.bool 4 w53 w0.heap.size (fun k_ => ((P2_ k_ ∨ P5_ k_) ∨ w.heap.size ≤ k_)) (.slice (some ⟨go37, 0, none⟩) x2_1.length co42) y224 := (by rw [hw, Ny224.out]; exact HP52.1); clear HP52; have n0_ := Aside0.mk (hp_); have n1_ := Aside0.mk (Kd.R_over' (v := (.slice (some ⟨go37, 0, none⟩) x2_1.length co42)) (xR HO_5.out) (Kd.R_typed HO_2.out) (by decide) hg); have n2_ := Aside0.mk (Kd.R_over' (v := (.slice (some ⟨go37, 0, none⟩) x2_1.length co42)) (xR HO221.out) (Kd.R_typed HO_2.out) (by decide) hg); have n3_ := Aside0.mk ((by rw [hw]; exact below_set (HB.out) GB37.out : Below w0.heap.size w0 w53)); have n4_ := Aside0.mk (Kept.of_grown (S := (fun k_ => P2_ k_ ∨ P5_ k_)) hg (by repeat (first | (with_reducible first | exact HK.out | apply Kept.alloc | apply Kept.drewN | apply Kept.drew) | exact HK.out)) (fun k_ e_ => (HO_2.out.1 k_ e_))); clear HO_2; clear HO_5; clear HO221; clear HB; clear HK; have HO_2 := n0_; have HO_5 := n1_; have HO221 := n2_; have HB := n3_; have HK := n4_; clear n0_ n1_ n2_ n3_ n4_; clear hg hw hp_))
                          go_roundg k1
                          case measure => have := HK1.out; omega
                          case rel => exact ⟨(y224), (t223), (wrap64 (-x18_1)), (wrap64 (x19_1 + 1)), (by first | rfl | (simp; done) | (simp [*]; done)), (by first | rfl | (simp; done) | (simp [*]; done)), H', ⟨by have := HK1.out; omega⟩, ⟨by (with_reducible repeat (first | apply Kd.R_alloc | apply Kd.R_drewN | apply Kd.R_drew)); first | exact HO_2.out | exact Kd.R_mono HO_2.out xi⟩, ⟨by (with_reducible repeat (first | apply Kd.R_alloc | apply Kd.R_drewN | apply Kd.R_drew)); exact Kd.R_mono HO_5.out (fun _ hk => hk.1)⟩, ⟨by repeat (first | (with_reducible first | exact HK.out | apply Kept.alloc | apply Kept.drewN | apply Kept.drew) | exact HK.out)⟩, ⟨by repeat (first | (with_reducible first | exact HB.out | apply below_alloc | apply pw_below_drewN | apply below_drew1) | exact HB.out)⟩⟩
                        · rw [if_neg c39] at H
                          exact absurd H (by simp)
                      · rw [if_neg c38] at H
                        exact absurd H (by simp)
                    · rw [if_neg c36] at H
                      have c36b0 : decide (0 ≤ (wrap64 ((wrap64 ((rd l0 a1) - a1)) + x19_1))) = false := decide_eq_false c36
                      clear c36
                      have H' := Aside0.mk H
                      clear H
                      obtain ⟨Ao54, co54, eo54⟩ := Kd.R_slice HO_2.out
                      subst eo54
                      have p210 : 0 ≤ (x19_1 : Int) := of_decide_eq_true (by first | (with_reducible assumption) | assumption)
                      have q210 : x19_1 < (x2_1.length : Int) := of_decide_eq_true (by first | (with_reducible assumption) | assumption)
                      obtain ⟨ad210, e210, hx210_0⟩ := Kd.at_bool (Kd.R_reads' HO_2.out).2.2 x19_1 p210 q210
                      (try rw [← Nbq31.out] at hx210_0)
                      cases e210
                      replace p210 := eq_true p210
                      replace q210 := eq_true q210
                      have p211 : 0 ≤ (a1 : Int) := of_decide_eq_true (by first | (with_reducible assumption) | assumption)
                      have q211 : a1 < (l0.length : Int) := of_decide_eq_true (by first | (with_reducible assumption) | assumption)
                      obtain ⟨ad211, e211, hx211_0⟩ := Kd.at_int (Kd.C_kept_now HR0.out HK.out) a1 p211 q211
                      cases e211
                      replace p211 := eq_true p211
                      replace q211 := eq_true q211
                      go_wp2
                      go_roundg k1
                      case measure => have := HK1.out; omega
                      case rel => exact ⟨(x2_1), (x5_1), (wrap64 (-x18_1)), (wrap64 (x19_1 + 1)), (by first | rfl | (simp; done) | (simp [*]; done)), (by first | rfl | (simp; done) | (simp [*]; done)), H', ⟨by have := HK1.out; omega⟩, ⟨by (with_reducible repeat (first | apply Kd.R_alloc | apply Kd.R_drewN | apply Kd.R_drew)); first | exact HO_2.out | exact Kd.R_mono HO_2.out xi⟩, ⟨by (with_reducible repeat (first | apply Kd.R_alloc | apply Kd.R_drewN | apply Kd.R_drew)); first | exact HO_5.out | exact Kd.R_mono HO_5.out xi⟩, ⟨by repeat (first | (with_reducible first | exact HK.out | apply Kept.alloc | apply Kept.drewN | apply Kept.drew) | exact HK.out)⟩, ⟨by repeat (first | (with_reducible first | exact HB.out | apply below_alloc | apply pw_below_drewN | apply below_drew1) | exact HB.out)⟩⟩
                  · rw [if_neg c35] at H
                    exact absurd H (by simp)
                · rw [if_neg c34] at H
                  exact absurd H (by simp)
            · rw [if_neg c30] at H
              exact absurd H (by simp)
          · rw [if_neg c29] at H
            exact absurd H (by simp)
        · rw [if_neg c28] at H
          have c28b0 : decide (x19_1 < (l0.length : Int)) = false := decide_eq_false c28
          clear c28
          simp only [Option.some.injEq, Prod.mk.injEq] at H
          obtain ⟨rfl, rfl⟩ := H
          go_wp2
          first | go_end0 | ((try simp only [Exit.inBlock, Exit.then]); refine bodyPost_ret (results_none rfl _ _ _) rfl ?_)
          exact ⟨by first | rfl | (simp [errW_none, errW_some] <;> rfl) | (simp [*, errW_none, errW_some] <;> rfl), by (with_reducible repeat (first | apply Kd.R_alloc | apply Kd.R_drewN | apply Kd.R_drew)); first | exact HO_2.out | exact Kd.R_mono HO_2.out xi, by (with_reducible repeat (first | apply Kd.R_alloc | apply Kd.R_drewN | apply Kd.R_drew)); first | exact HO_5.out | exact Kd.R_mono HO_5.out xi, by repeat (first | (with_reducible first | exact HB.out | apply below_alloc | apply pw_below_drewN | apply below_drew1) | exact HB.out), by repeat (first | (with_reducible first | exact HK.out | apply Kept.alloc | apply Kept.drewN | apply Kept.drew) | exact HK.out)⟩

end Go.Proofs.YtneipehcmmigeaaDoor.PFnExactCompleteOfSchur
