import Derived.Test.YtopmggldaicpaacGreatPFnKroneckerx21
namespace Go.Proofs.YtopmggldaicpaacGreat.PFnKronecker
open Go.RowKit Go.Proofs.YtopmggldaicpaacGreatW.PrintWords Go.Proofs.YtopmggldaicpaacGreatW.PrintLast Go.Proofs.YtopmggldaicpaacGreatW.PrintMore
set_option linter.unusedVariables false
set_option linter.unusedSimpArgs false
set_option maxHeartbeats 8000000
set_option maxRecDepth 100000
/-! ### spec_CentralizerSize: function 14 -/
def spec_CentralizerSize.l0 : Nat → List Int → Int → Int → Int → Option (Int)
 | 0, _, _, _, _ => none
 | k + 1, x0, x3, x4, x5 => if x5 < (x0.length : Int) then (if x5 > 0 then (if 0 ≤ x5 then (if 0 ≤ (wrap64 (x5 - 1)) then (if (wrap64 (x5 - 1)) < (x0.length : Int) then (if (rd x0 x5) = (rd x0 (wrap64 (x5 - 1))) then (spec_CentralizerSize.l0 k x0 (wrap64 ((wrap64 (x3 * (rd x0 x5))) * (wrap64 (x4 + 1)))) (wrap64 (x4 + 1)) (wrap64 (x5 + 1))) else (spec_CentralizerSize.l0 k x0 (wrap64 ((wrap64 (x3 * (rd x0 x5))) * 1)) 1 (wrap64 (x5 + 1)))) else (none)) else (none)) else (none)) else (if 0 ≤ x5 then (spec_CentralizerSize.l0 k x0 (wrap64 ((wrap64 (x3 * (rd x0 x5))) * (wrap64 (x4 + 1)))) (wrap64 (x4 + 1)) (wrap64 (x5 + 1))) else (none))) else (some x3)
def spec_CentralizerSize.f (k : Nat) (l0 : List Int) : Option (Int) := (spec_IsPartition.f k l0).bind fun t623 => (if t623 = true then (spec_CentralizerSize.l0 k l0 1 0 0) else (some 0))
theorem spec_CentralizerSize.mono_l : ∀ k, (∀ y0 y1 y2 y3, LeO (spec_CentralizerSize.l0 k y0 y1 y2 y3) (spec_CentralizerSize.l0 (k + 1) y0 y1 y2 y3))
 | 0 => fun _ _ _ _ r h => by simp [spec_CentralizerSize.l0] at h
 | k + 1 => by
  have ih0 := spec_CentralizerSize.mono_l k
  ·intro y0 y1 y2 y3
   unfold spec_CentralizerSize.l0
   repeat' with_reducible first | exact ih0 _ _ _ _ | exact spec_IsPartition.mono _ _ | exact xl | refine LeO.ite ?_ ?_ | refine LeO.bind ?_ fun _ => ?_
theorem spec_CentralizerSize.mono : ∀ a0 k, LeO (spec_CentralizerSize.f k a0) (spec_CentralizerSize.f (k + 1) a0) := by
 intro a0 k
 have ih0 := spec_CentralizerSize.mono_l k
 unfold spec_CentralizerSize.f
 repeat' with_reducible first | exact ih0 _ _ _ _ | exact spec_IsPartition.mono _ _ | exact xl | refine LeO.ite ?_ ?_ | refine LeO.bind ?_ fun _ => ?_
theorem spec_CentralizerSize.calls (k : Nat) (A0 : Option Addr) (c0 : Nat) (l0 : List Int) (r : Int) (w : World) (hr0 : Kd.C (Kd.int .i64) w A0 l0.length l0) (hc0 : l0.length ≤ c0) (h : spec_CentralizerSize.f k l0 = some r) :
  Calls Tryz.prog 14 #[.slice A0 l0.length c0] w fun e w' => e = .returned (.int .i64 r) ∧ Below w.heap.size w w' := by
 have HR0 := ax hr0
 have HC0 := ax hc0
 clear hr0 hc0
 have HB := ax (Below.refl w.heap.size w)
 have H : ((spec_IsPartition.f k l0).bind fun t623 => (if t623 = true then (spec_CentralizerSize.l0 k l0 1 0 0) else (some 0))) = some r := h
 clear h
 obtain ⟨t623, A2, H⟩ := xI H
 by_cases c3 : t623 = true
 ·subst c3
  rw [if_pos rfl] at H
  have H' := ax H
  clear H
  go_enter Tryz.func14, Tryz.ntmps14
  go_wp2_with (first | (go_at_call 20; (with_reducible refine (spec_IsPartition.calls k _ _ l0 true _ ?side1 ?side2 A2.out).mono ?_); (case side1 => exact xc HR0.out); (case side2 => exact HC0.out); rintro e w4 ⟨rfl, hb⟩; replace HB := yB HB hb; (try clear hb)))
  repeat (go_quiet (first | (go_at_call 20; (with_reducible refine (spec_IsPartition.calls k _ _ l0 true _ ?side1 ?side2 A2.out).mono ?_); (case side1 => exact xc HR0.out); (case side2 => exact HC0.out); rintro e w4 ⟨rfl, hb⟩; replace HB := yB HB hb; (try clear hb))); try go_wp2_with (first | (go_at_call 20; (with_reducible refine (spec_IsPartition.calls k _ _ l0 true _ ?side1 ?side2 A2.out).mono ?_); (case side1 => exact xc HR0.out); (case side2 => exact HC0.out); rintro e w4 ⟨rfl, hb⟩; replace HB := yB HB hb; (try clear hb))))
  go_loopg [3, 4, 5] k (fun kq v3 v4 v5 w' => ∃ (x3_1 : Int) (x4_1 : Int) (x5_1 : Int), v3 = .int .i64 x3_1 ∧ v4 = .int .i64 x4_1 ∧ v5 = .int .i64 x5_1 ∧ Aside0 (spec_CentralizerSize.l0 kq l0 x3_1 x4_1 x5_1 = some r) ∧ Aside0 (kq ≤ k) ∧ Aside0 (Below w.heap.size w w'))
  case atStart => exact ⟨(1), (0), (0), xr, xr, xr, H', ⟨Nat.le_refl _⟩, ⟨xb HB.out⟩⟩
  case round =>
   clear H'
   (try clear c3)
   obtain ⟨x3_1, x4_1, x5_1, rfl, rfl, rfl, HA, HK1, HB⟩ := hrel
   cases gk with
   | zero => exact absurd HA.out (by simp [spec_CentralizerSize.l0])
   | succ k1 =>
    have H := HA.out
    clear HA
    simp only [spec_CentralizerSize.l0] at H
    by_cases c5 : x5_1 < (l0.length : Int)
    ·rw [if_pos c5] at H
     have c5b0 := decide_eq_true c5
     clear c5
     by_cases c6 : x5_1 > 0
     ·rw [if_pos c6] at H
      have c6b0 : decide (0 < x5_1) = true := decide_eq_true c6
      clear c6
      obtain ⟨c7b0, H⟩ := xq H
      obtain ⟨ji8, hji8⟩ : ∃ j_ : Int, (wrap64 (x5_1 - 1)) = j_ := ⟨_, rfl⟩
      replace H : (if 0 ≤ (ji8) then (if (ji8) < (l0.length : Int) then (if (rd l0 x5_1) = (rd l0 (ji8)) then (spec_CentralizerSize.l0 k1 l0 (wrap64 ((wrap64 (x3_1 * (rd l0 x5_1))) * (wrap64 (x4_1 + 1)))) (wrap64 (x4_1 + 1)) (wrap64 (x5_1 + 1))) else (spec_CentralizerSize.l0 k1 l0 (wrap64 ((wrap64 (x3_1 * (rd l0 x5_1))) * 1)) 1 (wrap64 (x5_1 + 1)))) else (none)) else (none)) = some r := by first | (rw [hji8] at H; exact H) | (simp only [hji8] at H ⊢; exact H)
      have hji8w : (IntKind.i64.wrap (x5_1 - 1)) = ji8 := (i64_w _).trans hji8
      obtain ⟨c9b0, H⟩ := xq H
      obtain ⟨c10b0, H⟩ := xq H
      by_cases c11 : (rd l0 x5_1) = (rd l0 (ji8))
      ·rw [if_pos c11] at H
       have c11b0 : ((rd l0 x5_1) == (rd l0 (ji8))) = true := beq_iff_eq.mpr c11
       have c11b1 : ((rd l0 x5_1) != (rd l0 (ji8))) = false := bne_eq_false_iff_eq.mpr c11
       clear c11
       have H' := ax H
       clear H
       have p624 : 0 ≤ (x5_1 : Int) := xd
       have q624 : x5_1 < (l0.length : Int) := xd
       obtain ⟨ad624, e624, hx624_0⟩ := Kd.at_int HR0.out x5_1 p624 q624
       cases e624
       (try replace hx624_0 := (HB.out.cell (World.block_lt_of_cell? w _ hx624_0)).trans hx624_0)
       replace p624 := eq_true p624
       replace q624 := eq_true q624
       have p625 : 0 ≤ ((ji8) : Int) := xd
       have q625 : (ji8) < (l0.length : Int) := xd
       obtain ⟨ad625, e625, hx625_0⟩ := Kd.at_int HR0.out (ji8) p625 q625
       obtain rfl : ad624 = ad625 := (by injection e625)
       (try replace hx625_0 := (HB.out.cell (World.block_lt_of_cell? w _ hx625_0)).trans hx625_0)
       replace p625 := eq_true p625
       replace q625 := eq_true q625
       have p626 : 0 ≤ (x5_1 : Int) := xd
       have q626 : x5_1 < (l0.length : Int) := xd
       obtain ⟨ad626, e626, hx626_0⟩ := Kd.at_int HR0.out x5_1 p626 q626
       obtain rfl : ad624 = ad626 := (by injection e626)
       (try replace hx626_0 := (HB.out.cell (World.block_lt_of_cell? w _ hx626_0)).trans hx626_0)
       replace p626 := eq_true p626
       replace q626 := eq_true q626
       go_wp2
       repeat (go_quiet (fail); try go_wp2)
       go_roundg k1
       case measure => have := HK1.out; omega
       case rel => exact ⟨(wrap64 ((wrap64 (x3_1 * (rd l0 x5_1))) * (wrap64 (x4_1 + 1)))), (wrap64 (x4_1 + 1)), (wrap64 (x5_1 + 1)), xr, xr, xr, H', ⟨by have := HK1.out; omega⟩, ⟨xb HB.out⟩⟩
      ·rw [if_neg c11] at H
       have c11b0 : ((rd l0 x5_1) == (rd l0 (ji8))) = false := beq_eq_false_iff_ne.mpr c11
       have c11b1 : ((rd l0 x5_1) != (rd l0 (ji8))) = true := bne_iff_ne.mpr c11
       have H' := ax H
       clear H
       have p624 : 0 ≤ (x5_1 : Int) := xd
       have q624 : x5_1 < (l0.length : Int) := xd
       obtain ⟨ad624, e624, hx624_0⟩ := Kd.at_int HR0.out x5_1 p624 q624
       cases e624
       (try replace hx624_0 := (HB.out.cell (World.block_lt_of_cell? w _ hx624_0)).trans hx624_0)
       replace p624 := eq_true p624
       replace q624 := eq_true q624
       have p625 : 0 ≤ ((ji8) : Int) := xd
       have q625 : (ji8) < (l0.length : Int) := xd
       obtain ⟨ad625, e625, hx625_0⟩ := Kd.at_int HR0.out (ji8) p625 q625
       obtain rfl : ad624 = ad625 := (by injection e625)
       (try replace hx625_0 := (HB.out.cell (World.block_lt_of_cell? w _ hx625_0)).trans hx625_0)
       replace p625 := eq_true p625
       replace q625 := eq_true q625
       have p627 : 0 ≤ (x5_1 : Int) := xd
       have q627 : x5_1 < (l0.length : Int) := xd
       obtain ⟨ad627, e627, hx627_0⟩ := Kd.at_int HR0.out x5_1 p627 q627
       obtain rfl : ad624 = ad627 := (by injection e627)
       (try replace hx627_0 := (HB.out.cell (World.block_lt_of_cell? w _ hx627_0)).trans hx627_0)
       replace p627 := eq_true p627
       replace q627 := eq_true q627
       go_wp2
       repeat (go_quiet (fail); try go_wp2)
       go_roundg k1
       case measure => have := HK1.out; omega
       case rel => exact ⟨(wrap64 ((wrap64 (x3_1 * (rd l0 x5_1))) * 1)), (1), (wrap64 (x5_1 + 1)), xr, xr, xr, H', ⟨by have := HK1.out; omega⟩, ⟨xb HB.out⟩⟩
     ·rw [if_neg c6] at H
      have c6b0 : decide (0 < x5_1) = false := decide_eq_false c6
      clear c6
      obtain ⟨c12b0, H⟩ := xq H
      have H' := ax H
      clear H
      have p628 : 0 ≤ (x5_1 : Int) := xd
      have q628 : x5_1 < (l0.length : Int) := xd
      obtain ⟨ad628, e628, hx628_0⟩ := Kd.at_int HR0.out x5_1 p628 q628
      cases e628
      (try replace hx628_0 := (HB.out.cell (World.block_lt_of_cell? w _ hx628_0)).trans hx628_0)
      replace p628 := eq_true p628
      replace q628 := eq_true q628
      go_wp2
      repeat (go_quiet (fail); try go_wp2)
      go_roundg k1
      case measure => have := HK1.out; omega
      case rel => exact ⟨(wrap64 ((wrap64 (x3_1 * (rd l0 x5_1))) * (wrap64 (x4_1 + 1)))), (wrap64 (x4_1 + 1)), (wrap64 (x5_1 + 1)), xr, xr, xr, H', ⟨by have := HK1.out; omega⟩, ⟨xb HB.out⟩⟩
    ·rw [if_neg c5] at H
     have c5b0 := decide_eq_false c5
     clear c5
     obtain rfl := Option.some.inj H
     go_wp2
     repeat (go_quiet (fail); try go_wp2)
     go_ret
     exact ⟨xe, xb HB.out⟩
 ·replace c3 := Bool.eq_false_iff.mpr c3
  subst c3
  rw [if_neg (show ¬ (false = true) by decide)] at H
  obtain rfl := Option.some.inj H
  go_enter Tryz.func14, Tryz.ntmps14
  go_wp2_with (first | (go_at_call 20; (with_reducible refine (spec_IsPartition.calls k _ _ l0 false _ ?side1 ?side2 A2.out).mono ?_); (case side1 => exact xc HR0.out); (case side2 => exact HC0.out); rintro e w13 ⟨rfl, hb⟩; replace HB := yB HB hb; (try clear hb)))
  repeat (go_quiet (first | (go_at_call 20; (with_reducible refine (spec_IsPartition.calls k _ _ l0 false _ ?side1 ?side2 A2.out).mono ?_); (case side1 => exact xc HR0.out); (case side2 => exact HC0.out); rintro e w13 ⟨rfl, hb⟩; replace HB := yB HB hb; (try clear hb))); try go_wp2_with (first | (go_at_call 20; (with_reducible refine (spec_IsPartition.calls k _ _ l0 false _ ?side1 ?side2 A2.out).mono ?_); (case side1 => exact xc HR0.out); (case side2 => exact HC0.out); rintro e w13 ⟨rfl, hb⟩; replace HB := yB HB hb; (try clear hb))))
  go_ret
  exact ⟨xe, xb HB.out⟩

/-! ### spec_l3Factorial: function 35 -/
def spec_l3Factorial.l0 : Nat → Int → Int → Int → Option (Int)
 | 0, _, _, _ => none
 | k + 1, x0, x3, x4 => if x4 ≤ x0 then (spec_l3Factorial.l0 k x0 (wrap64 (x3 * x4)) (wrap64 (x4 + 1))) else (some x3)
def spec_l3Factorial.f (k : Nat) (a0 : Int) : Option (Int) := spec_l3Factorial.l0 k a0 1 2
theorem spec_l3Factorial.mono_l : ∀ k, (∀ y0 y1 y2, LeO (spec_l3Factorial.l0 k y0 y1 y2) (spec_l3Factorial.l0 (k + 1) y0 y1 y2))
 | 0 => fun _ _ _ r h => by simp [spec_l3Factorial.l0] at h
 | k + 1 => by
  have ih0 := spec_l3Factorial.mono_l k
  ·intro y0 y1 y2
   unfold spec_l3Factorial.l0
   repeat' with_reducible first | exact ih0 _ _ _ | exact xl | refine LeO.ite ?_ ?_ | refine LeO.bind ?_ fun _ => ?_
theorem spec_l3Factorial.mono : ∀ a0 k, LeO (spec_l3Factorial.f k a0) (spec_l3Factorial.f (k + 1) a0) := by
 intro a0 k
 have ih0 := spec_l3Factorial.mono_l k
 unfold spec_l3Factorial.f
 repeat' with_reducible first | exact ih0 _ _ _ | exact xl | refine LeO.ite ?_ ?_ | refine LeO.bind ?_ fun _ => ?_
theorem spec_l3Factorial.calls (k : Nat) (a0 : Int) (r : Int) (w : World) (h : spec_l3Factorial.f k a0 = some r) :
  Calls Tryz.prog 35 #[.int .i64 a0] w fun e w' => e = .returned (.int .i64 r) ∧ Drawn0 w w' := by
 have H : (spec_l3Factorial.l0 k a0 1 2) = some r := h
 clear h
 have H' := ax H
 clear H
 go_enter Tryz.func35, Tryz.ntmps35
 go_wp2
 go_loopg [3, 4] k (fun kq v3 v4 w' => ∃ (x3_1 : Int) (x4_1 : Int), v3 = .int .i64 x3_1 ∧ v4 = .int .i64 x4_1 ∧ Aside0 (spec_l3Factorial.l0 kq a0 x3_1 x4_1 = some r) ∧ Aside0 (kq ≤ k) ∧ Drawn0 w w')
 case atStart => exact ⟨(1), (2), xr, xr, H', ⟨Nat.le_refl _⟩, by repeat (first | exact Drawn0.refl _ | apply Drawn0.step)⟩
 case round =>
  clear H'
  obtain ⟨x3_1, x4_1, rfl, rfl, HA, HK1, ⟨m1, rfl⟩⟩ := hrel
  cases gk with
  | zero => exact absurd HA.out (by simp [spec_l3Factorial.l0])
  | succ k1 =>
   have H := HA.out
   clear HA
   simp only [spec_l3Factorial.l0] at H
   by_cases c2 : x4_1 ≤ a0
   ·rw [if_pos c2] at H
    have c2b0 := decide_eq_true c2
    clear c2
    have H' := ax H
    clear H
    go_wp2
    go_roundg k1
    case measure => have := HK1.out; omega
    case rel => exact ⟨(wrap64 (x3_1 * x4_1)), (wrap64 (x4_1 + 1)), xr, xr, H', ⟨by have := HK1.out; omega⟩, by repeat (first | exact Drawn0.refl _ | apply Drawn0.step)⟩
   ·rw [if_neg c2] at H
    have c2b0 := decide_eq_false c2
    clear c2
    obtain rfl := Option.some.inj H
    go_wp2
    go_ret
    exact ⟨by first | rfl | (simp; done) | (simp [*]; done), by repeat (first | exact Drawn0.refl _ | apply Drawn0.step)⟩

/-! ### spec_l2Size: function 36 -/
def spec_l2Size.l0 : Nat → List Int → Int → Int → Option (Int)
 | 0, _, _, _ => none
 | k + 1, x0, x3, x4 => if x4 < (x0.length : Int) then (if 0 ≤ x4 then (spec_l2Size.l0 k x0 (wrap64 (x3 + (rd x0 x4))) (wrap64 (x4 + 1))) else (none)) else (some x3)
def spec_l2Size.f (k : Nat) (l0 : List Int) : Option (Int) := spec_l2Size.l0 k l0 0 0
theorem spec_l2Size.mono_l : ∀ k, (∀ y0 y1 y2, LeO (spec_l2Size.l0 k y0 y1 y2) (spec_l2Size.l0 (k + 1) y0 y1 y2))
 | 0 => fun _ _ _ r h => by simp [spec_l2Size.l0] at h
 | k + 1 => by
  have ih0 := spec_l2Size.mono_l k
  ·intro y0 y1 y2
   unfold spec_l2Size.l0
   repeat' with_reducible first | exact ih0 _ _ _ | exact xl | refine LeO.ite ?_ ?_ | refine LeO.bind ?_ fun _ => ?_
theorem spec_l2Size.mono : ∀ a0 k, LeO (spec_l2Size.f k a0) (spec_l2Size.f (k + 1) a0) := by
 intro a0 k
 have ih0 := spec_l2Size.mono_l k
 unfold spec_l2Size.f
 repeat' with_reducible first | exact ih0 _ _ _ | exact xl | refine LeO.ite ?_ ?_ | refine LeO.bind ?_ fun _ => ?_
theorem spec_l2Size.calls (k : Nat) (A0 : Option Addr) (c0 : Nat) (l0 : List Int) (r : Int) (w : World) (hr0 : Kd.C (Kd.int .i64) w A0 l0.length l0) (hc0 : l0.length ≤ c0) (h : spec_l2Size.f k l0 = some r) :
  Calls Tryz.prog 36 #[.slice A0 l0.length c0] w fun e w' => e = .returned (.int .i64 r) ∧ Drawn0 w w' := by
 have HR0 := ax hr0
 have HC0 := ax hc0
 clear hr0 hc0
 have H : (spec_l2Size.l0 k l0 0 0) = some r := h
 clear h
 have H' := ax H
 clear H
 go_enter Tryz.func36, Tryz.ntmps36
 go_wp2
 go_loopg [3, 4] k (fun kq v3 v4 w' => ∃ (x3_1 : Int) (x4_1 : Int), v3 = .int .i64 x3_1 ∧ v4 = .int .i64 x4_1 ∧ Aside0 (spec_l2Size.l0 kq l0 x3_1 x4_1 = some r) ∧ Aside0 (kq ≤ k) ∧ Drawn0 w w')
 case atStart => exact ⟨(0), (0), xr, xr, H', ⟨Nat.le_refl _⟩, by repeat (first | exact Drawn0.refl _ | apply Drawn0.step)⟩
 case round =>
  clear H'
  obtain ⟨x3_1, x4_1, rfl, rfl, HA, HK1, ⟨m1, rfl⟩⟩ := hrel
  cases gk with
  | zero => exact absurd HA.out (by simp [spec_l2Size.l0])
  | succ k1 =>
   have H := HA.out
   clear HA
   simp only [spec_l2Size.l0] at H
   by_cases c2 : x4_1 < (l0.length : Int)
   ·rw [if_pos c2] at H
    have c2b0 := decide_eq_true c2
    clear c2
    obtain ⟨c3b0, H⟩ := xq H
    have H' := ax H
    clear H
    have p629 : 0 ≤ (x4_1 : Int) := xd
    have q629 : x4_1 < (l0.length : Int) := xd
    obtain ⟨ad629, e629, hx629_0⟩ := Kd.at_int HR0.out x4_1 p629 q629
    cases e629
    replace p629 := eq_true p629
    replace q629 := eq_true q629
    go_wp2
    go_roundg k1
    case measure => have := HK1.out; omega
    case rel => exact ⟨(wrap64 (x3_1 + (rd l0 x4_1))), (wrap64 (x4_1 + 1)), xr, xr, H', ⟨by have := HK1.out; omega⟩, by repeat (first | exact Drawn0.refl _ | apply Drawn0.step)⟩
   ·rw [if_neg c2] at H
    have c2b0 := decide_eq_false c2
    clear c2
    obtain rfl := Option.some.inj H
    go_wp2
    go_ret
    exact ⟨by first | rfl | (simp; done) | (simp [*]; done), by repeat (first | exact Drawn0.refl _ | apply Drawn0.step)⟩

/-! ### spec_ClassSize: function 12 -/
def spec_ClassSize.f (k : Nat) (l0 : List Int) : Option (Int) := (spec_IsPartition.f k l0).bind fun t630 => (if t630 = true then ((spec_l2Size.f k l0).bind fun t631 => ((spec_l3Factorial.f k t631).bind fun t632 => ((spec_CentralizerSize.f k l0).bind fun t633 => (if t633 = 0 then (none) else (some (wrap64 (Int.tdiv t632 t633))))))) else (some 0))
theorem spec_ClassSize.mono : ∀ a0 k, LeO (spec_ClassSize.f k a0) (spec_ClassSize.f (k + 1) a0) := by
 intro a0 k
 unfold spec_ClassSize.f
 repeat' with_reducible first | exact spec_CentralizerSize.mono _ _ | exact spec_IsPartition.mono _ _ | exact spec_l2Size.mono _ _ | exact spec_l3Factorial.mono _ _ | exact xl | refine LeO.ite ?_ ?_ | refine LeO.bind ?_ fun _ => ?_
theorem spec_ClassSize.calls (k : Nat) (A0 : Option Addr) (c0 : Nat) (l0 : List Int) (r : Int) (w : World) (hr0 : Kd.C (Kd.int .i64) w A0 l0.length l0) (hc0 : l0.length ≤ c0) (h : spec_ClassSize.f k l0 = some r) :
  Calls Tryz.prog 12 #[.slice A0 l0.length c0] w fun e w' => e = .returned (.int .i64 r) ∧ Below w.heap.size w w' := by
 have HR0 := ax hr0
 have HC0 := ax hc0
 clear hr0 hc0
 have HB := ax (Below.refl w.heap.size w)
 have H : ((spec_IsPartition.f k l0).bind fun t630 => (if t630 = true then ((spec_l2Size.f k l0).bind fun t631 => ((spec_l3Factorial.f k t631).bind fun t632 => ((spec_CentralizerSize.f k l0).bind fun t633 => (if t633 = 0 then (none) else (some (wrap64 (Int.tdiv t632 t633))))))) else (some 0))) = some r := h
 clear h
 obtain ⟨t630, A2, H⟩ := xI H
 by_cases c3 : t630 = true
 ·subst c3
  rw [if_pos rfl] at H
  obtain ⟨t631, A4, H⟩ := xI H
  obtain ⟨t632, A5, H⟩ := xI H
  obtain ⟨t633, A6, H⟩ := xI H
  by_cases c7 : t633 = 0
  ·rw [if_pos c7] at H
   exact absurd H (by simp)
  ·rw [if_neg c7] at H
   have c7b0 : (t633 == 0) = false := beq_eq_false_iff_ne.mpr c7
   have c7b1 : (t633 != 0) = true := bne_iff_ne.mpr c7
   obtain rfl := Option.some.inj H
   go_enter Tryz.func12, Tryz.ntmps12
   go_wp2_with (first | ((with_reducible refine gate_callee (f := 20) rfl ?_); refine goesL_ (some 4) rfl rfl Tryz.func20 (by kernel_rfl) rfl #[.slice A0 l0.length c0] rfl xm ?_; (with_reducible refine (spec_IsPartition.calls k _ _ l0 true _ ?side1 ?side2 A2.out).mono ?_); (case side1 => exact xc HR0.out); (case side2 => exact HC0.out); rintro e w8 ⟨rfl, hb⟩; refine ⟨_, rfl, ?_⟩; replace HB := yB HB hb; (try clear hb)) | ((with_reducible refine gate_callee (f := 36) rfl ?_); refine goesL_ (some 7) rfl rfl Tryz.func36 (by kernel_rfl) rfl #[.slice A0 l0.length c0] rfl xm ?_; (with_reducible refine (spec_l2Size.calls k _ _ l0 t631 _ ?side1 ?side2 A4.out).mono ?_); (case side1 => exact xz HR0.out HB.out); (case side2 => exact HC0.out); rintro e w' ⟨rfl, ⟨nd, rfl⟩⟩; refine ⟨_, rfl, ?_⟩) | ((with_reducible refine gate_callee (f := 35) rfl ?_); refine goesL_ (some 8) rfl rfl Tryz.func35 (by kernel_rfl) rfl #[.int .i64 t631] rfl xm ?_; (with_reducible refine (spec_l3Factorial.calls k t631 t632 _ A5.out).mono ?_); rintro e w' ⟨rfl, ⟨nd, rfl⟩⟩; refine ⟨_, rfl, ?_⟩) | ((with_reducible refine gate_callee (f := 14) rfl ?_); refine goesL_ (some 10) rfl rfl Tryz.func14 (by kernel_rfl) rfl #[.slice A0 l0.length c0] rfl xm ?_; (with_reducible refine (spec_CentralizerSize.calls k _ _ l0 t633 _ ?side1 ?side2 A6.out).mono ?_); (case side1 => exact xc (Kd.C_below HR0.out (xb HB.out))); (case side2 => exact HC0.out); rintro e w9 ⟨rfl, hb⟩; refine ⟨_, rfl, ?_⟩; replace HB := yB HB hb; (try clear hb)))
   go_ret
   exact ⟨xe, xb HB.out⟩
 ·replace c3 := Bool.eq_false_iff.mpr c3
  subst c3
  rw [if_neg (show ¬ (false = true) by decide)] at H
  obtain rfl := Option.some.inj H
  go_enter Tryz.func12, Tryz.ntmps12
  go_wp2_with (first | ((with_reducible refine gate_callee (f := 20) rfl ?_); refine goesL_ (some 4) rfl rfl Tryz.func20 (by kernel_rfl) rfl #[.slice A0 l0.length c0] rfl xm ?_; (with_reducible refine (spec_IsPartition.calls k _ _ l0 false _ ?side1 ?side2 A2.out).mono ?_); (case side1 => exact xc HR0.out); (case side2 => exact HC0.out); rintro e w10 ⟨rfl, hb⟩; refine ⟨_, rfl, ?_⟩; replace HB := yB HB hb; (try clear hb)))
  go_ret
  exact ⟨xe, xb HB.out⟩

/-! ### laws_sameInts: function 15 -/
def laws_sameInts.l0 : Nat → List Int → List Int → Int → Option (Bool)
 | 0, _, _, _ => none
 | k + 1, x0, x1, x5 => if x5 < (x0.length : Int) then (if 0 ≤ x5 then (if x5 < (x1.length : Int) then (if (rd x0 x5) = (rd x1 x5) then (laws_sameInts.l0 k x0 x1 (wrap64 (x5 + 1))) else (some false)) else (none)) else (none)) else (some true)
def laws_sameInts.f (k : Nat) (l0 : List Int) (l1 : List Int) : Option (Bool) := if (l0.length : Int) = (l1.length : Int) then (laws_sameInts.l0 k l0 l1 0) else (some false)
theorem laws_sameInts.mono_l : ∀ k, (∀ y0 y1 y2, LeO (laws_sameInts.l0 k y0 y1 y2) (laws_sameInts.l0 (k + 1) y0 y1 y2))
 | 0 => fun _ _ _ r h => by simp [laws_sameInts.l0] at h
 | k + 1 => by
  have ih0 := laws_sameInts.mono_l k
  ·intro y0 y1 y2
   unfold laws_sameInts.l0
   repeat' with_reducible first | exact ih0 _ _ _ | exact xl | refine LeO.ite ?_ ?_ | refine LeO.bind ?_ fun _ => ?_
theorem laws_sameInts.mono : ∀ a0 a1 k, LeO (laws_sameInts.f k a0 a1) (laws_sameInts.f (k + 1) a0 a1) := by
 intro a0 a1 k
 have ih0 := laws_sameInts.mono_l k
 unfold laws_sameInts.f
 repeat' with_reducible first | exact ih0 _ _ _ | exact xl | refine LeO.ite ?_ ?_ | refine LeO.bind ?_ fun _ => ?_
theorem laws_sameInts.calls (k : Nat) (A0 : Option Addr) (c0 : Nat) (l0 : List Int) (A1 : Option Addr) (c1 : Nat) (l1 : List Int) (r : Bool) (w : World) (hr0 : Kd.C (Kd.int .i64) w A0 l0.length l0) (hc0 : l0.length ≤ c0) (hr1 : Kd.C (Kd.int .i64) w A1 l1.length l1) (hc1 : l1.length ≤ c1) (h : laws_sameInts.f k l0 l1 = some r) :
  Calls Tryz.prog 15 #[.slice A0 l0.length c0, .slice A1 l1.length c1] w fun e w' => e = .returned (.bool r) ∧ Drawn0 w w' := by
 have HR0 := ax hr0
 have HC0 := ax hc0
 clear hr0 hc0
 have HR1 := ax hr1
 have HC1 := ax hc1
 clear hr1 hc1
 have H : (if (l0.length : Int) = (l1.length : Int) then (laws_sameInts.l0 k l0 l1 0) else (some false)) = some r := h
 clear h
 by_cases c3 : (l0.length : Int) = (l1.length : Int)
 ·rw [if_pos c3] at H
  have c3b0 : ((l0.length : Int) == (l1.length : Int)) = true := beq_iff_eq.mpr c3
  have c3b1 : ((l0.length : Int) != (l1.length : Int)) = false := bne_eq_false_iff_eq.mpr c3
  have c3b2 : (l0.length == l1.length) = true := by first | simpa using c3 | (simp at c3 ⊢; omega)
  clear c3
  have H' := ax H
  clear H
  go_enter Tryz.func15, Tryz.ntmps15
  go_wp2
  repeat (go_quiet (fail); try go_wp2)
  go_loopg [5] k (fun kq v5 w' => ∃ (x5_1 : Int), v5 = .int .i64 x5_1 ∧ Aside0 (laws_sameInts.l0 kq l0 l1 x5_1 = some r) ∧ Aside0 (kq ≤ k) ∧ Drawn0 w w')
  case atStart => exact ⟨(0), xr, H', ⟨Nat.le_refl _⟩, by repeat (first | exact Drawn0.refl _ | apply Drawn0.step)⟩
  case round =>
   clear H'
   (try clear c1); (try clear c3); (try clear c3b0); (try clear c3b1); (try clear c3b2)
   obtain ⟨x5_1, rfl, HA, HK1, ⟨m1, rfl⟩⟩ := hrel
   cases gk with
   | zero => exact absurd HA.out (by simp [laws_sameInts.l0])
   | succ k1 =>
    have H := HA.out
    clear HA
    simp only [laws_sameInts.l0] at H
    by_cases c4 : x5_1 < (l0.length : Int)
    ·rw [if_pos c4] at H
     have c4b0 := decide_eq_true c4
     clear c4
     obtain ⟨c5b0, H⟩ := xq H
     obtain ⟨c6b0, H⟩ := xq H
     by_cases c7 : (rd l0 x5_1) = (rd l1 x5_1)
     ·rw [if_pos c7] at H
      have c7b0 : ((rd l0 x5_1) == (rd l1 x5_1)) = true := beq_iff_eq.mpr c7
      have c7b1 : ((rd l0 x5_1) != (rd l1 x5_1)) = false := bne_eq_false_iff_eq.mpr c7
      clear c7
      have H' := ax H
      clear H
      have p634 : 0 ≤ (x5_1 : Int) := xd
      have q634 : x5_1 < (l0.length : Int) := xd
      obtain ⟨ad634, e634, hx634_0⟩ := Kd.at_int HR0.out x5_1 p634 q634
      cases e634
      replace p634 := eq_true p634
      replace q634 := eq_true q634
      have p635 : 0 ≤ (x5_1 : Int) := xd
      have q635 : x5_1 < (l1.length : Int) := xd
      obtain ⟨ad635, e635, hx635_0⟩ := Kd.at_int HR1.out x5_1 p635 q635
      cases e635
      replace p635 := eq_true p635
      replace q635 := eq_true q635
      go_wp2
      repeat (go_quiet (fail); try go_wp2)
      go_roundg k1
      case measure => have := HK1.out; omega
      case rel => exact ⟨(wrap64 (x5_1 + 1)), xr, H', ⟨by have := HK1.out; omega⟩, by repeat (first | exact Drawn0.refl _ | apply Drawn0.step)⟩
     ·rw [if_neg c7] at H
      have c7b0 : ((rd l0 x5_1) == (rd l1 x5_1)) = false := beq_eq_false_iff_ne.mpr c7
      have c7b1 : ((rd l0 x5_1) != (rd l1 x5_1)) = true := bne_iff_ne.mpr c7
      obtain rfl := Option.some.inj H
      have p634 : 0 ≤ (x5_1 : Int) := xd
      have q634 : x5_1 < (l0.length : Int) := xd
      obtain ⟨ad634, e634, hx634_0⟩ := Kd.at_int HR0.out x5_1 p634 q634
      cases e634
      replace p634 := eq_true p634
      replace q634 := eq_true q634
      have p635 : 0 ≤ (x5_1 : Int) := xd
      have q635 : x5_1 < (l1.length : Int) := xd
      obtain ⟨ad635, e635, hx635_0⟩ := Kd.at_int HR1.out x5_1 p635 q635
      cases e635
      replace p635 := eq_true p635
      replace q635 := eq_true q635
      go_wp2
      repeat (go_quiet (fail); try go_wp2)
      go_ret
      exact ⟨by first | rfl | (simp; done) | (simp [*]; done), by repeat (first | exact Drawn0.refl _ | apply Drawn0.step)⟩
    ·rw [if_neg c4] at H
     have c4b0 := decide_eq_false c4
     clear c4
     obtain rfl := Option.some.inj H
     go_wp2
     repeat (go_quiet (fail); try go_wp2)
     go_ret
     exact ⟨by first | rfl | (simp; done) | (simp [*]; done), by repeat (first | exact Drawn0.refl _ | apply Drawn0.step)⟩
 ·rw [if_neg c3] at H
  have c3b0 : ((l0.length : Int) == (l1.length : Int)) = false := beq_eq_false_iff_ne.mpr c3
  have c3b1 : ((l0.length : Int) != (l1.length : Int)) = true := bne_iff_ne.mpr c3
  have c3b2 : (l0.length == l1.length) = false := by first | simpa using c3 | (simp at c3 ⊢; omega)
  obtain rfl := Option.some.inj H
  go_enter Tryz.func15, Tryz.ntmps15
  go_wp2
  repeat (go_quiet (fail); try go_wp2)
  go_ret
  exact ⟨by first | rfl | (simp; done) | (simp [*]; done), by repeat (first | exact Drawn0.refl _ | apply Drawn0.step)⟩

/-! ### spec_l2Same: function 59 -/
def spec_l2Same.l0 : Nat → List Int → List Int → Int → Option (Bool)
 | 0, _, _, _ => none
 | k + 1, x0, x1, x5 => if x5 < (x0.length : Int) then (if 0 ≤ x5 then (if x5 < (x1.length : Int) then (if (rd x0 x5) = (rd x1 x5) then (spec_l2Same.l0 k x0 x1 (wrap64 (x5 + 1))) else (some false)) else (none)) else (none)) else (some true)
def spec_l2Same.f (k : Nat) (l0 : List Int) (l1 : List Int) : Option (Bool) := if (l0.length : Int) = (l1.length : Int) then (spec_l2Same.l0 k l0 l1 0) else (some false)
theorem spec_l2Same.mono_l : ∀ k, (∀ y0 y1 y2, LeO (spec_l2Same.l0 k y0 y1 y2) (spec_l2Same.l0 (k + 1) y0 y1 y2))
 | 0 => fun _ _ _ r h => by simp [spec_l2Same.l0] at h
 | k + 1 => by
  have ih0 := spec_l2Same.mono_l k
  ·intro y0 y1 y2
   unfold spec_l2Same.l0
   repeat' with_reducible first | exact ih0 _ _ _ | exact xl | refine LeO.ite ?_ ?_ | refine LeO.bind ?_ fun _ => ?_
theorem spec_l2Same.mono : ∀ a0 a1 k, LeO (spec_l2Same.f k a0 a1) (spec_l2Same.f (k + 1) a0 a1) := by
 intro a0 a1 k
 have ih0 := spec_l2Same.mono_l k
 unfold spec_l2Same.f
 repeat' with_reducible first | exact ih0 _ _ _ | exact xl | refine LeO.ite ?_ ?_ | refine LeO.bind ?_ fun _ => ?_
theorem spec_l2Same.calls (k : Nat) (A0 : Option Addr) (c0 : Nat) (l0 : List Int) (A1 : Option Addr) (c1 : Nat) (l1 : List Int) (r : Bool) (w : World) (hr0 : Kd.C (Kd.int .i64) w A0 l0.length l0) (hc0 : l0.length ≤ c0) (hr1 : Kd.C (Kd.int .i64) w A1 l1.length l1) (hc1 : l1.length ≤ c1) (h : spec_l2Same.f k l0 l1 = some r) :
  Calls Tryz.prog 59 #[.slice A0 l0.length c0, .slice A1 l1.length c1] w fun e w' => e = .returned (.bool r) ∧ Drawn0 w w' := by
 have HR0 := ax hr0
 have HC0 := ax hc0
 clear hr0 hc0
 have HR1 := ax hr1
 have HC1 := ax hc1
 clear hr1 hc1
 have H : (if (l0.length : Int) = (l1.length : Int) then (spec_l2Same.l0 k l0 l1 0) else (some false)) = some r := h
 clear h
 by_cases c3 : (l0.length : Int) = (l1.length : Int)
 ·rw [if_pos c3] at H
  have c3b0 : ((l0.length : Int) == (l1.length : Int)) = true := beq_iff_eq.mpr c3
  have c3b1 : ((l0.length : Int) != (l1.length : Int)) = false := bne_eq_false_iff_eq.mpr c3
  have c3b2 : (l0.length == l1.length) = true := by first | simpa using c3 | (simp at c3 ⊢; omega)
  clear c3
  have H' := ax H
  clear H
  go_enter Tryz.func59, Tryz.ntmps59
  go_wp2
  repeat (go_quiet (fail); try go_wp2)
  go_loopg [5] k (fun kq v5 w' => ∃ (x5_1 : Int), v5 = .int .i64 x5_1 ∧ Aside0 (spec_l2Same.l0 kq l0 l1 x5_1 = some r) ∧ Aside0 (kq ≤ k) ∧ Drawn0 w w')
  case atStart => exact ⟨(0), xr, H', ⟨Nat.le_refl _⟩, by repeat (first | exact Drawn0.refl _ | apply Drawn0.step)⟩
  case round =>
   clear H'
   (try clear c1); (try clear c3); (try clear c3b0); (try clear c3b1); (try clear c3b2)
   obtain ⟨x5_1, rfl, HA, HK1, ⟨m1, rfl⟩⟩ := hrel
   cases gk with
   | zero => exact absurd HA.out (by simp [spec_l2Same.l0])
   | succ k1 =>
    have H := HA.out
    clear HA
    simp only [spec_l2Same.l0] at H
    by_cases c4 : x5_1 < (l0.length : Int)
    ·rw [if_pos c4] at H
     have c4b0 := decide_eq_true c4
     clear c4
     obtain ⟨c5b0, H⟩ := xq H
     obtain ⟨c6b0, H⟩ := xq H
     by_cases c7 : (rd l0 x5_1) = (rd l1 x5_1)
     ·rw [if_pos c7] at H
      have c7b0 : ((rd l0 x5_1) == (rd l1 x5_1)) = true := beq_iff_eq.mpr c7
      have c7b1 : ((rd l0 x5_1) != (rd l1 x5_1)) = false := bne_eq_false_iff_eq.mpr c7
      clear c7
      have H' := ax H
      clear H
      have p636 : 0 ≤ (x5_1 : Int) := xd
      have q636 : x5_1 < (l0.length : Int) := xd
      obtain ⟨ad636, e636, hx636_0⟩ := Kd.at_int HR0.out x5_1 p636 q636
      cases e636
      replace p636 := eq_true p636
      replace q636 := eq_true q636
      have p637 : 0 ≤ (x5_1 : Int) := xd
      have q637 : x5_1 < (l1.length : Int) := xd
      obtain ⟨ad637, e637, hx637_0⟩ := Kd.at_int HR1.out x5_1 p637 q637
      cases e637
      replace p637 := eq_true p637
      replace q637 := eq_true q637
      go_wp2
      repeat (go_quiet (fail); try go_wp2)
      go_roundg k1
      case measure => have := HK1.out; omega
      case rel => exact ⟨(wrap64 (x5_1 + 1)), xr, H', ⟨by have := HK1.out; omega⟩, by repeat (first | exact Drawn0.refl _ | apply Drawn0.step)⟩
     ·rw [if_neg c7] at H
      have c7b0 : ((rd l0 x5_1) == (rd l1 x5_1)) = false := beq_eq_false_iff_ne.mpr c7
      have c7b1 : ((rd l0 x5_1) != (rd l1 x5_1)) = true := bne_iff_ne.mpr c7
      obtain rfl := Option.some.inj H
      have p636 : 0 ≤ (x5_1 : Int) := xd
      have q636 : x5_1 < (l0.length : Int) := xd
      obtain ⟨ad636, e636, hx636_0⟩ := Kd.at_int HR0.out x5_1 p636 q636
      cases e636
      replace p636 := eq_true p636
      replace q636 := eq_true q636
      have p637 : 0 ≤ (x5_1 : Int) := xd
      have q637 : x5_1 < (l1.length : Int) := xd
      obtain ⟨ad637, e637, hx637_0⟩ := Kd.at_int HR1.out x5_1 p637 q637
      cases e637
      replace p637 := eq_true p637
      replace q637 := eq_true q637
      go_wp2
      repeat (go_quiet (fail); try go_wp2)
      go_ret
      exact ⟨by first | rfl | (simp; done) | (simp [*]; done), by repeat (first | exact Drawn0.refl _ | apply Drawn0.step)⟩
    ·rw [if_neg c4] at H
     have c4b0 := decide_eq_false c4
     clear c4
     obtain rfl := Option.some.inj H
     go_wp2
     repeat (go_quiet (fail); try go_wp2)
     go_ret
     exact ⟨by first | rfl | (simp; done) | (simp [*]; done), by repeat (first | exact Drawn0.refl _ | apply Drawn0.step)⟩
 ·rw [if_neg c3] at H
  have c3b0 : ((l0.length : Int) == (l1.length : Int)) = false := beq_eq_false_iff_ne.mpr c3
  have c3b1 : ((l0.length : Int) != (l1.length : Int)) = true := bne_iff_ne.mpr c3
  have c3b2 : (l0.length == l1.length) = false := by first | simpa using c3 | (simp at c3 ⊢; omega)
  obtain rfl := Option.some.inj H
  go_enter Tryz.func59, Tryz.ntmps59
  go_wp2
  repeat (go_quiet (fail); try go_wp2)
  go_ret
  exact ⟨by first | rfl | (simp; done) | (simp [*]; done), by repeat (first | exact Drawn0.refl _ | apply Drawn0.step)⟩

end Go.Proofs.YtopmggldaicpaacGreat.PFnKronecker
