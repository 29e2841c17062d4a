-- Written by a program of this session (wip/print/xprint.py).
import Derived.Test.YtopmggldaicpaabPFnCharactersx0
import Derived.Test.YtopmggldaicpaabPFnCharactersx1
import Derived.Test.YtopmggldaicpaabPFnCharactersx8
import Derived.Test.YtopmggldaicpaabPFnCharactersx16
namespace Go.Proofs.Ytopmggldaicpaab.PFnCharacters
open Go.RowKit Go.Proofs.YtopmggldaicpaabW.PrintWords Go.Proofs.YtopmggldaicpaabW.PrintLast Go.Proofs.YtopmggldaicpaabW.PrintMore
attribute [local go_sem] max2_int min2_int max_two min_two max_three min_three max_four min_four   -- for this text's walks alone
set_option linter.unusedVariables false
set_option linter.unusedSimpArgs false

/-! ### spec_HookProduct: function 49 -/
mutual
def spec_HookProduct.l0 : Nat → List Int → Int → Int → Option (Int)
 | 0, _, _, _ => none
 | k + 1, x0, x3, x4 => if x4 < (x0.length : Int) then (spec_HookProduct.l1 k x0 x3 x4 0) else (some x3)
def spec_HookProduct.l1 : Nat → List Int → Int → Int → Int → Option (Int)
 | 0, _, _, _, _ => none
 | k + 1, x0, x3, x4, x5 => if 0 ≤ x4 then (if x4 < (x0.length : Int) then (if x5 < (rd x0 x4) then ((spec_HookOf.f k x0 x4 x5).bind fun t602 => (spec_HookProduct.l1 k x0 (wrap64 (x3 * t602)) x4 (wrap64 (x5 + 1)))) else (spec_HookProduct.l0 k x0 x3 (wrap64 (x4 + 1)))) else (none)) else (none)
end
def spec_HookProduct.f (k : Nat) (l0 : List Int) : Option (Int) := (spec_IsPartition.f k l0).bind fun t600 => (if t600 = true then (spec_HookProduct.l0 k l0 1 0) else (some 0))
theorem spec_HookProduct.mono_l : ∀ k, (∀ y0 y1 y2, LeO (spec_HookProduct.l0 k y0 y1 y2) (spec_HookProduct.l0 (k + 1) y0 y1 y2)) ∧ (∀ y0 y1 y2 y3, LeO (spec_HookProduct.l1 k y0 y1 y2 y3) (spec_HookProduct.l1 (k + 1) y0 y1 y2 y3))
 | 0 => ⟨fun _ _ _ r h => by simp [spec_HookProduct.l0] at h, fun _ _ _ _ r h => by simp [spec_HookProduct.l1] at h⟩
 | k + 1 => by
  obtain ⟨ih0, ih1⟩ := spec_HookProduct.mono_l k
  refine ⟨?_, ?_⟩
  ·intro y0 y1 y2
   unfold spec_HookProduct.l0
   repeat' with_reducible first | exact ih0 _ _ _ | exact ih1 _ _ _ _ | exact spec_HookOf.mono _ _ _ _ | exact spec_IsPartition.mono _ _ | exact xl | refine LeO.ite ?_ ?_ | refine LeO.bind ?_ fun _ => ?_
  ·intro y0 y1 y2 y3
   unfold spec_HookProduct.l1
   repeat' with_reducible first | exact ih0 _ _ _ | exact ih1 _ _ _ _ | exact spec_HookOf.mono _ _ _ _ | exact spec_IsPartition.mono _ _ | exact xl | refine LeO.ite ?_ ?_ | refine LeO.bind ?_ fun _ => ?_
theorem spec_HookProduct.mono : ∀ a0 k, LeO (spec_HookProduct.f k a0) (spec_HookProduct.f (k + 1) a0) := by
 intro a0 k
 obtain ⟨ih0, ih1⟩ := spec_HookProduct.mono_l k
 unfold spec_HookProduct.f
 repeat' with_reducible first | exact ih0 _ _ _ | exact ih1 _ _ _ _ | exact spec_HookOf.mono _ _ _ _ | exact spec_IsPartition.mono _ _ | exact xl | refine LeO.ite ?_ ?_ | refine LeO.bind ?_ fun _ => ?_
set_option maxHeartbeats 8000000 in
set_option maxRecDepth 100000 in
theorem spec_HookProduct.calls (k : Nat) (A0 : Option Addr) (c0 : Nat) (l0 : List Int) (r : Int) (w : World) (hr0 : Kd.C (Kd.int .i64) w A0 l0.length l0) (hc0 : l0.length ≤ c0) (h : spec_HookProduct.f k l0 = some r) :
  Calls Try.prog 49 #[.slice A0 l0.length c0] w fun e w' => e = .returned (.int .i64 r) ∧ Below w.heap.size w w' := by
 have HR0 := ax hr0
 have HC0 := ax hc0
 clear hr0 hc0
 have HB := ax (Below.refl w.heap.size w)
 have H : ((spec_IsPartition.f k l0).bind fun t600 => (if t600 = true then (spec_HookProduct.l0 k l0 1 0) else (some 0))) = some r := h
 clear h
 obtain ⟨t600, A2, H⟩ := xI H
 by_cases c3 : t600 = true
 ·subst c3
  rw [if_pos rfl] at H
  have H' := ax H
  clear H
  go_enter Try.func49, Try.ntmps49
  go_wp2_with (first | ((with_reducible refine gate_callee (f := 19) rfl ?_); refine goesL_ (some 7) rfl rfl Try.func19 (by kernel_rfl) rfl #[.slice A0 l0.length c0] rfl xm ?_; (with_reducible refine (spec_IsPartition.calls k _ _ l0 true _ ?side1 ?side2 A2.out).mono ?_); (case side1 => exact xc HR0.out); (case side2 => exact HC0.out); rintro e w4 ⟨rfl, hb⟩; refine ⟨_, rfl, ?_⟩; replace HB := ax (below_step (xb HB.out) hb); (try clear hb); (try clear hb2); (try clear hk); (try clear hi)))
  go_loopg [3, 4] k (fun kq v3 v4 w' => ∃ (x3_1 : Int) (x4_1 : Int), v3 = .int .i64 x3_1 ∧ v4 = .int .i64 x4_1 ∧ Aside0 (spec_HookProduct.l0 kq l0 x3_1 x4_1 = some r) ∧ Aside0 (kq ≤ k) ∧ Aside0 (Below w.heap.size w w'))
  case atStart => exact ⟨(1), (0), xr, xr, H', ⟨Nat.le_refl _⟩, ⟨xb HB.out⟩⟩
  case round =>
   clear H'
   (try clear c1); (try clear p2); (try clear c3); (try clear c4)
   obtain ⟨x3_1, x4_1, rfl, rfl, HA, HK1, HB⟩ := hrel
   cases gk with
   | zero => exact absurd HA.out (by simp [spec_HookProduct.l0])
   | succ k1 =>
    have H := HA.out
    clear HA
    simp only [spec_HookProduct.l0] at H
    by_cases c5 : x4_1 < (l0.length : Int)
    ·rw [if_pos c5] at H
     have c5b0 := decide_eq_true c5
     clear c5
     have H' := ax H
     clear H
     go_wp2
     go_loopg [3, 5] k1 (fun kq v3 v5 w' => ∃ (x3_2 : Int) (x5_2 : Int), v3 = .int .i64 x3_2 ∧ v5 = .int .i64 x5_2 ∧ Aside0 (spec_HookProduct.l1 kq l0 x3_2 x4_1 x5_2 = some r) ∧ Aside0 (kq ≤ k1) ∧ Aside0 (Below w.heap.size w w'))
     case atStart => exact ⟨(x3_1), (0), xr, xr, H', ⟨Nat.le_refl _⟩, ⟨xb HB.out⟩⟩
     case round =>
      clear H'
      (try clear c1); (try clear p2); (try clear c3); (try clear c4); (try clear c5); (try clear c5b0); (try clear p2)
      obtain ⟨x3_2, x5_2, rfl, rfl, HA, HK2, HB⟩ := hrel
      cases gk with
      | zero => exact absurd HA.out (by simp [spec_HookProduct.l1])
      | succ k2 =>
       have H := HA.out
       clear HA
       simp only [spec_HookProduct.l1] at H
       obtain ⟨c6, H⟩ := xp H
       have c6b0 := decide_eq_true c6
       clear c6
       obtain ⟨c7, H⟩ := xp H
       have c7b0 := decide_eq_true c7
       clear c7
       by_cases c8 : x5_2 < (rd l0 x4_1)
       ·rw [if_pos c8] at H
        have c8b0 := decide_eq_true c8
        clear c8
        obtain ⟨t602, A9, H⟩ := xI H
        have H' := ax H
        clear H
        have p601 : 0 ≤ (x4_1 : Int) := xd
        have q601 : x4_1 < (l0.length : Int) := xd
        obtain ⟨ad601, e601, hx601_0⟩ := Kd.at_int HR0.out x4_1 p601 q601
        cases e601
        (try replace hx601_0 := (HB.out.cell (World.block_lt_of_cell? w _ hx601_0)).trans hx601_0)
        replace p601 := eq_true p601
        replace q601 := eq_true q601
        go_wp2_with (first | ((with_reducible refine gate_callee (f := 60) rfl ?_); refine goesL_ (some 27) rfl rfl Try.func60 (by kernel_rfl) rfl #[.slice (some ad601) l0.length c0, .int .i64 x4_1, .int .i64 x5_2] rfl xm ?_; (with_reducible refine (spec_HookOf.calls k2 _ _ l0 x4_1 x5_2 t602 _ ?side1 ?side2 A9.out).mono ?_); (case side1 => exact xz HR0.out (Kd.C_below · HB.out)); (case side2 => exact HC0.out); rintro e w10 ⟨rfl, hb⟩; refine ⟨_, rfl, ?_⟩; replace HB := ax (below_step (xb HB.out) hb); (try clear hb); (try clear hb2); (try clear hk); (try clear hi)))
        go_roundg k2
        case measure => have := HK1.out; have := HK2.out; omega
        case rel => exact ⟨(wrap64 (x3_2 * t602)), (wrap64 (x5_2 + 1)), xr, xr, H', ⟨by have := HK1.out; have := HK2.out; omega⟩, ⟨xb HB.out⟩⟩
       ·rw [if_neg c8] at H
        have c8b0 := decide_eq_false c8
        clear c8
        have H' := ax H
        clear H
        have p601 : 0 ≤ (x4_1 : Int) := xd
        have q601 : x4_1 < (l0.length : Int) := xd
        obtain ⟨ad601, e601, hx601_0⟩ := Kd.at_int HR0.out x4_1 p601 q601
        cases e601
        (try replace hx601_0 := (HB.out.cell (World.block_lt_of_cell? w _ hx601_0)).trans hx601_0)
        replace p601 := eq_true p601
        replace q601 := eq_true q601
        go_wp2
        go_roundg k2
        case measure => have := HK1.out; have := HK2.out; omega
        case rel => exact ⟨(x3_2), (wrap64 (x4_1 + 1)), xr, xr, H', ⟨by have := HK1.out; have := HK2.out; omega⟩, ⟨xb HB.out⟩⟩
    ·rw [if_neg c5] at H
     have c5b0 := decide_eq_false c5
     clear c5
     obtain rfl := Option.some.inj H
     go_wp2
     go_ret
     exact ⟨xe, xb HB.out⟩
 ·replace c3 := Bool.eq_false_iff.mpr c3
  subst c3
  rw [if_neg (show ¬ (false = true) by decide)] at H
  obtain rfl := Option.some.inj H
  go_enter Try.func49, Try.ntmps49
  go_wp2_with (first | ((with_reducible refine gate_callee (f := 19) rfl ?_); refine goesL_ (some 7) rfl rfl Try.func19 (by kernel_rfl) rfl #[.slice A0 l0.length c0] rfl xm ?_; (with_reducible refine (spec_IsPartition.calls k _ _ l0 false _ ?side1 ?side2 A2.out).mono ?_); (case side1 => exact xc HR0.out); (case side2 => exact HC0.out); rintro e w11 ⟨rfl, hb⟩; refine ⟨_, rfl, ?_⟩; replace HB := ax (below_step (xb HB.out) hb); (try clear hb); (try clear hb2); (try clear hk); (try clear hi)))
  go_ret
  exact ⟨xe, xb HB.out⟩

/-! ### spec_StandardCount: function 22 -/
def spec_StandardCount.f (k : Nat) (l0 : List Int) : Option (Int) := (spec_IsPartition.f k l0).bind fun t603 => (if t603 = true then ((spec_l2Size.f k l0).bind fun t604 => ((spec_l3Factorial.f k t604).bind fun t605 => ((spec_HookProduct.f k l0).bind fun t606 => (if t606 = 0 then (none) else (some (wrap64 (Int.tdiv t605 t606))))))) else (some 0))
theorem spec_StandardCount.mono : ∀ a0 k, LeO (spec_StandardCount.f k a0) (spec_StandardCount.f (k + 1) a0) := by
 intro a0 k
 unfold spec_StandardCount.f
 repeat' with_reducible first | exact spec_HookProduct.mono _ _ | exact spec_IsPartition.mono _ _ | exact spec_l2Size.mono _ _ | exact spec_l3Factorial.mono _ _ | exact xl | refine LeO.ite ?_ ?_ | refine LeO.bind ?_ fun _ => ?_
set_option maxHeartbeats 8000000 in
set_option maxRecDepth 100000 in
theorem spec_StandardCount.calls (k : Nat) (A0 : Option Addr) (c0 : Nat) (l0 : List Int) (r : Int) (w : World) (hr0 : Kd.C (Kd.int .i64) w A0 l0.length l0) (hc0 : l0.length ≤ c0) (h : spec_StandardCount.f k l0 = some r) :
  Calls Try.prog 22 #[.slice A0 l0.length c0] w fun e w' => e = .returned (.int .i64 r) ∧ Below w.heap.size w w' := by
 have HR0 := ax hr0
 have HC0 := ax hc0
 clear hr0 hc0
 have HB := ax (Below.refl w.heap.size w)
 have H : ((spec_IsPartition.f k l0).bind fun t603 => (if t603 = true then ((spec_l2Size.f k l0).bind fun t604 => ((spec_l3Factorial.f k t604).bind fun t605 => ((spec_HookProduct.f k l0).bind fun t606 => (if t606 = 0 then (none) else (some (wrap64 (Int.tdiv t605 t606))))))) else (some 0))) = some r := h
 clear h
 obtain ⟨t603, A2, H⟩ := xI H
 by_cases c3 : t603 = true
 ·subst c3
  rw [if_pos rfl] at H
  obtain ⟨t604, A4, H⟩ := xI H
  obtain ⟨t605, A5, H⟩ := xI H
  obtain ⟨t606, A6, H⟩ := xI H
  by_cases c7 : t606 = 0
  ·rw [if_pos c7] at H
   exact absurd H (by simp)
  ·rw [if_neg c7] at H
   have c7b0 : (t606 == 0) = false := beq_eq_false_iff_ne.mpr c7
   have c7b1 : (t606 != 0) = true := bne_iff_ne.mpr c7
   obtain rfl := Option.some.inj H
   go_enter Try.func22, Try.ntmps22
   go_wp2_with (first | ((with_reducible refine gate_callee (f := 19) rfl ?_); refine goesL_ (some 4) rfl rfl Try.func19 (by kernel_rfl) rfl #[.slice A0 l0.length c0] rfl xm ?_; (with_reducible refine (spec_IsPartition.calls k _ _ l0 true _ ?side1 ?side2 A2.out).mono ?_); (case side1 => exact xc HR0.out); (case side2 => exact HC0.out); rintro e w8 ⟨rfl, hb⟩; refine ⟨_, rfl, ?_⟩; replace HB := ax (below_step (xb HB.out) hb); (try clear hb); (try clear hb2); (try clear hk); (try clear hi)) | ((with_reducible refine gate_callee (f := 28) rfl ?_); refine goesL_ (some 7) rfl rfl Try.func28 (by kernel_rfl) rfl #[.slice A0 l0.length c0] rfl xm ?_; (with_reducible refine (spec_l2Size.calls k _ _ l0 t604 _ ?side1 ?side2 A4.out).mono ?_); (case side1 => exact xz HR0.out (Kd.C_below · HB.out)); (case side2 => exact HC0.out); rintro e w' ⟨rfl, ⟨nd, rfl⟩⟩; refine ⟨_, rfl, ?_⟩) | ((with_reducible refine gate_callee (f := 48) rfl ?_); refine goesL_ (some 8) rfl rfl Try.func48 (by kernel_rfl) rfl #[.int .i64 t604] rfl xm ?_; (with_reducible refine (spec_l3Factorial.calls k t604 t605 _ A5.out).mono ?_); rintro e w' ⟨rfl, ⟨nd, rfl⟩⟩; refine ⟨_, rfl, ?_⟩) | ((with_reducible refine gate_callee (f := 49) rfl ?_); refine goesL_ (some 10) rfl rfl Try.func49 (by kernel_rfl) rfl #[.slice A0 l0.length c0] rfl xm ?_; (with_reducible refine (spec_HookProduct.calls k _ _ l0 t606 _ ?side1 ?side2 A6.out).mono ?_); (case side1 => exact xc (Kd.C_below HR0.out (xb HB.out))); (case side2 => exact HC0.out); rintro e w9 ⟨rfl, hb⟩; refine ⟨_, rfl, ?_⟩; replace HB := ax (below_step (xb HB.out) hb); (try clear hb); (try clear hb2); (try clear hk); (try clear hi)))
   go_ret
   exact ⟨xe, xb HB.out⟩
 ·replace c3 := Bool.eq_false_iff.mpr c3
  subst c3
  rw [if_neg (show ¬ (false = true) by decide)] at H
  obtain rfl := Option.some.inj H
  go_enter Try.func22, Try.ntmps22
  go_wp2_with (first | ((with_reducible refine gate_callee (f := 19) rfl ?_); refine goesL_ (some 4) rfl rfl Try.func19 (by kernel_rfl) rfl #[.slice A0 l0.length c0] rfl xm ?_; (with_reducible refine (spec_IsPartition.calls k _ _ l0 false _ ?side1 ?side2 A2.out).mono ?_); (case side1 => exact xc HR0.out); (case side2 => exact HC0.out); rintro e w10 ⟨rfl, hb⟩; refine ⟨_, rfl, ?_⟩; replace HB := ax (below_step (xb HB.out) hb); (try clear hb); (try clear hb2); (try clear hk); (try clear hi)))
  go_ret
  exact ⟨xe, xb HB.out⟩

/-! ### spec_CentralizerSize: function 51 -/
def spec_CentralizerSize.l0 : Nat → List Int → Int → Int → Int → Option (Int)
 | 0, _, _, _, _ => none
 | k + 1, x0, x3, x4, x5 => if x5 < (x0.length : Int) then (if x5 > 0 then (if 0 ≤ x5 then (if 0 ≤ (wrap64 (x5 - 1)) then (if (wrap64 (x5 - 1)) < (x0.length : Int) then (if (rd x0 x5) = (rd x0 (wrap64 (x5 - 1))) then (spec_CentralizerSize.l0 k x0 (wrap64 ((wrap64 (x3 * (rd x0 x5))) * (wrap64 (x4 + 1)))) (wrap64 (x4 + 1)) (wrap64 (x5 + 1))) else (spec_CentralizerSize.l0 k x0 (wrap64 ((wrap64 (x3 * (rd x0 x5))) * 1)) 1 (wrap64 (x5 + 1)))) else (none)) else (none)) else (none)) else (if 0 ≤ x5 then (spec_CentralizerSize.l0 k x0 (wrap64 ((wrap64 (x3 * (rd x0 x5))) * (wrap64 (x4 + 1)))) (wrap64 (x4 + 1)) (wrap64 (x5 + 1))) else (none))) else (some x3)
def spec_CentralizerSize.f (k : Nat) (l0 : List Int) : Option (Int) := (spec_IsPartition.f k l0).bind fun t607 => (if t607 = true then (spec_CentralizerSize.l0 k l0 1 0 0) else (some 0))
theorem spec_CentralizerSize.mono_l : ∀ k, (∀ y0 y1 y2 y3, LeO (spec_CentralizerSize.l0 k y0 y1 y2 y3) (spec_CentralizerSize.l0 (k + 1) y0 y1 y2 y3))
 | 0 => fun _ _ _ _ r h => by simp [spec_CentralizerSize.l0] at h
 | k + 1 => by
  have ih0 := spec_CentralizerSize.mono_l k
  ·intro y0 y1 y2 y3
   unfold spec_CentralizerSize.l0
   repeat' with_reducible first | exact ih0 _ _ _ _ | exact spec_IsPartition.mono _ _ | exact xl | refine LeO.ite ?_ ?_ | refine LeO.bind ?_ fun _ => ?_
theorem spec_CentralizerSize.mono : ∀ a0 k, LeO (spec_CentralizerSize.f k a0) (spec_CentralizerSize.f (k + 1) a0) := by
 intro a0 k
 have ih0 := spec_CentralizerSize.mono_l k
 unfold spec_CentralizerSize.f
 repeat' with_reducible first | exact ih0 _ _ _ _ | exact spec_IsPartition.mono _ _ | exact xl | refine LeO.ite ?_ ?_ | refine LeO.bind ?_ fun _ => ?_
set_option maxHeartbeats 8000000 in
set_option maxRecDepth 100000 in
theorem spec_CentralizerSize.calls (k : Nat) (A0 : Option Addr) (c0 : Nat) (l0 : List Int) (r : Int) (w : World) (hr0 : Kd.C (Kd.int .i64) w A0 l0.length l0) (hc0 : l0.length ≤ c0) (h : spec_CentralizerSize.f k l0 = some r) :
  Calls Try.prog 51 #[.slice A0 l0.length c0] w fun e w' => e = .returned (.int .i64 r) ∧ Below w.heap.size w w' := by
 have HR0 := ax hr0
 have HC0 := ax hc0
 clear hr0 hc0
 have HB := ax (Below.refl w.heap.size w)
 have H : ((spec_IsPartition.f k l0).bind fun t607 => (if t607 = true then (spec_CentralizerSize.l0 k l0 1 0 0) else (some 0))) = some r := h
 clear h
 obtain ⟨t607, A2, H⟩ := xI H
 by_cases c3 : t607 = true
 ·subst c3
  rw [if_pos rfl] at H
  have H' := ax H
  clear H
  go_enter Try.func51, Try.ntmps51
  go_wp2_with (first | (go_at_call 19; (with_reducible refine (spec_IsPartition.calls k _ _ l0 true _ ?side1 ?side2 A2.out).mono ?_); (case side1 => exact xc HR0.out); (case side2 => exact HC0.out); rintro e w4 ⟨rfl, hb⟩; replace HB := ax (below_step (xb HB.out) hb); (try clear hb); (try clear hb2); (try clear hk); (try clear hi)))
  repeat (go_quiet (first | (go_at_call 19; (with_reducible refine (spec_IsPartition.calls k _ _ l0 true _ ?side1 ?side2 A2.out).mono ?_); (case side1 => exact xc HR0.out); (case side2 => exact HC0.out); rintro e w4 ⟨rfl, hb⟩; replace HB := ax (below_step (xb HB.out) hb); (try clear hb); (try clear hb2); (try clear hk); (try clear hi))); try go_wp2_with (first | (go_at_call 19; (with_reducible refine (spec_IsPartition.calls k _ _ l0 true _ ?side1 ?side2 A2.out).mono ?_); (case side1 => exact xc HR0.out); (case side2 => exact HC0.out); rintro e w4 ⟨rfl, hb⟩; replace HB := ax (below_step (xb HB.out) hb); (try clear hb); (try clear hb2); (try clear hk); (try clear hi))))
  go_loopg [3, 4, 5] k (fun kq v3 v4 v5 w' => ∃ (x3_1 : Int) (x4_1 : Int) (x5_1 : Int), v3 = .int .i64 x3_1 ∧ v4 = .int .i64 x4_1 ∧ v5 = .int .i64 x5_1 ∧ Aside0 (spec_CentralizerSize.l0 kq l0 x3_1 x4_1 x5_1 = some r) ∧ Aside0 (kq ≤ k) ∧ Aside0 (Below w.heap.size w w'))
  case atStart => exact ⟨(1), (0), (0), xr, xr, xr, H', ⟨Nat.le_refl _⟩, ⟨xb HB.out⟩⟩
  case round =>
   clear H'
   (try clear p2); (try clear c3)
   obtain ⟨x3_1, x4_1, x5_1, rfl, rfl, rfl, HA, HK1, HB⟩ := hrel
   cases gk with
   | zero => exact absurd HA.out (by simp [spec_CentralizerSize.l0])
   | succ k1 =>
    have H := HA.out
    clear HA
    simp only [spec_CentralizerSize.l0] at H
    by_cases c5 : x5_1 < (l0.length : Int)
    ·rw [if_pos c5] at H
     have c5b0 := decide_eq_true c5
     clear c5
     by_cases c6 : x5_1 > 0
     ·rw [if_pos c6] at H
      have c6b0 : decide (0 < x5_1) = true := decide_eq_true c6
      clear c6
      obtain ⟨c7, H⟩ := xp H
      have c7b0 := decide_eq_true c7
      clear c7
      obtain ⟨ji8, hji8⟩ : ∃ j_ : Int, (wrap64 (x5_1 - 1)) = j_ := ⟨_, rfl⟩
      replace H : (if 0 ≤ (ji8) then (if (ji8) < (l0.length : Int) then (if (rd l0 x5_1) = (rd l0 (ji8)) then (spec_CentralizerSize.l0 k1 l0 (wrap64 ((wrap64 (x3_1 * (rd l0 x5_1))) * (wrap64 (x4_1 + 1)))) (wrap64 (x4_1 + 1)) (wrap64 (x5_1 + 1))) else (spec_CentralizerSize.l0 k1 l0 (wrap64 ((wrap64 (x3_1 * (rd l0 x5_1))) * 1)) 1 (wrap64 (x5_1 + 1)))) else (none)) else (none)) = some r := by first | (rw [hji8] at H; exact H) | (simp only [hji8] at H ⊢; exact H)
      have hji8w : (IntKind.i64.wrap (x5_1 - 1)) = ji8 := (i64_w _).trans hji8
      obtain ⟨c9, H⟩ := xp H
      have c9b0 := decide_eq_true c9
      clear c9
      obtain ⟨c10, H⟩ := xp H
      have c10b0 := decide_eq_true c10
      clear c10
      by_cases c11 : (rd l0 x5_1) = (rd l0 (ji8))
      ·rw [if_pos c11] at H
       have c11b0 : ((rd l0 x5_1) == (rd l0 (ji8))) = true := beq_iff_eq.mpr c11
       have c11b1 : ((rd l0 x5_1) != (rd l0 (ji8))) = false := bne_eq_false_iff_eq.mpr c11
       clear c11
       have H' := ax H
       clear H
       have p608 : 0 ≤ (x5_1 : Int) := xd
       have q608 : x5_1 < (l0.length : Int) := xd
       obtain ⟨ad608, e608, hx608_0⟩ := Kd.at_int HR0.out x5_1 p608 q608
       cases e608
       (try replace hx608_0 := (HB.out.cell (World.block_lt_of_cell? w _ hx608_0)).trans hx608_0)
       replace p608 := eq_true p608
       replace q608 := eq_true q608
       have p609 : 0 ≤ ((ji8) : Int) := xd
       have q609 : (ji8) < (l0.length : Int) := xd
       obtain ⟨ad609, e609, hx609_0⟩ := Kd.at_int HR0.out (ji8) p609 q609
       obtain rfl : ad608 = ad609 := (by injection e609)
       (try replace hx609_0 := (HB.out.cell (World.block_lt_of_cell? w _ hx609_0)).trans hx609_0)
       replace p609 := eq_true p609
       replace q609 := eq_true q609
       have p610 : 0 ≤ (x5_1 : Int) := xd
       have q610 : x5_1 < (l0.length : Int) := xd
       obtain ⟨ad610, e610, hx610_0⟩ := Kd.at_int HR0.out x5_1 p610 q610
       obtain rfl : ad608 = ad610 := (by injection e610)
       (try replace hx610_0 := (HB.out.cell (World.block_lt_of_cell? w _ hx610_0)).trans hx610_0)
       replace p610 := eq_true p610
       replace q610 := eq_true q610
       go_wp2
       repeat (go_quiet (fail); try go_wp2)
       go_roundg k1
       case measure => have := HK1.out; omega
       case rel => exact ⟨(wrap64 ((wrap64 (x3_1 * (rd l0 x5_1))) * (wrap64 (x4_1 + 1)))), (wrap64 (x4_1 + 1)), (wrap64 (x5_1 + 1)), xr, xr, xr, H', ⟨by have := HK1.out; omega⟩, ⟨xb HB.out⟩⟩
      ·rw [if_neg c11] at H
       have c11b0 : ((rd l0 x5_1) == (rd l0 (ji8))) = false := beq_eq_false_iff_ne.mpr c11
       have c11b1 : ((rd l0 x5_1) != (rd l0 (ji8))) = true := bne_iff_ne.mpr c11
       have H' := ax H
       clear H
       have p608 : 0 ≤ (x5_1 : Int) := xd
       have q608 : x5_1 < (l0.length : Int) := xd
       obtain ⟨ad608, e608, hx608_0⟩ := Kd.at_int HR0.out x5_1 p608 q608
       cases e608
       (try replace hx608_0 := (HB.out.cell (World.block_lt_of_cell? w _ hx608_0)).trans hx608_0)
       replace p608 := eq_true p608
       replace q608 := eq_true q608
       have p609 : 0 ≤ ((ji8) : Int) := xd
       have q609 : (ji8) < (l0.length : Int) := xd
       obtain ⟨ad609, e609, hx609_0⟩ := Kd.at_int HR0.out (ji8) p609 q609
       obtain rfl : ad608 = ad609 := (by injection e609)
       (try replace hx609_0 := (HB.out.cell (World.block_lt_of_cell? w _ hx609_0)).trans hx609_0)
       replace p609 := eq_true p609
       replace q609 := eq_true q609
       have p611 : 0 ≤ (x5_1 : Int) := xd
       have q611 : x5_1 < (l0.length : Int) := xd
       obtain ⟨ad611, e611, hx611_0⟩ := Kd.at_int HR0.out x5_1 p611 q611
       obtain rfl : ad608 = ad611 := (by injection e611)
       (try replace hx611_0 := (HB.out.cell (World.block_lt_of_cell? w _ hx611_0)).trans hx611_0)
       replace p611 := eq_true p611
       replace q611 := eq_true q611
       go_wp2
       repeat (go_quiet (fail); try go_wp2)
       go_roundg k1
       case measure => have := HK1.out; omega
       case rel => exact ⟨(wrap64 ((wrap64 (x3_1 * (rd l0 x5_1))) * 1)), (1), (wrap64 (x5_1 + 1)), xr, xr, xr, H', ⟨by have := HK1.out; omega⟩, ⟨xb HB.out⟩⟩
     ·rw [if_neg c6] at H
      have c6b0 : decide (0 < x5_1) = false := decide_eq_false c6
      clear c6
      obtain ⟨c12, H⟩ := xp H
      have c12b0 := decide_eq_true c12
      clear c12
      have H' := ax H
      clear H
      have p612 : 0 ≤ (x5_1 : Int) := xd
      have q612 : x5_1 < (l0.length : Int) := xd
      obtain ⟨ad612, e612, hx612_0⟩ := Kd.at_int HR0.out x5_1 p612 q612
      cases e612
      (try replace hx612_0 := (HB.out.cell (World.block_lt_of_cell? w _ hx612_0)).trans hx612_0)
      replace p612 := eq_true p612
      replace q612 := eq_true q612
      go_wp2
      repeat (go_quiet (fail); try go_wp2)
      go_roundg k1
      case measure => have := HK1.out; omega
      case rel => exact ⟨(wrap64 ((wrap64 (x3_1 * (rd l0 x5_1))) * (wrap64 (x4_1 + 1)))), (wrap64 (x4_1 + 1)), (wrap64 (x5_1 + 1)), xr, xr, xr, H', ⟨by have := HK1.out; omega⟩, ⟨xb HB.out⟩⟩
    ·rw [if_neg c5] at H
     have c5b0 := decide_eq_false c5
     clear c5
     obtain rfl := Option.some.inj H
     go_wp2
     repeat (go_quiet (fail); try go_wp2)
     go_ret
     exact ⟨xe, xb HB.out⟩
 ·replace c3 := Bool.eq_false_iff.mpr c3
  subst c3
  rw [if_neg (show ¬ (false = true) by decide)] at H
  obtain rfl := Option.some.inj H
  go_enter Try.func51, Try.ntmps51
  go_wp2_with (first | (go_at_call 19; (with_reducible refine (spec_IsPartition.calls k _ _ l0 false _ ?side1 ?side2 A2.out).mono ?_); (case side1 => exact xc HR0.out); (case side2 => exact HC0.out); rintro e w13 ⟨rfl, hb⟩; replace HB := ax (below_step (xb HB.out) hb); (try clear hb); (try clear hb2); (try clear hk); (try clear hi)))
  repeat (go_quiet (first | (go_at_call 19; (with_reducible refine (spec_IsPartition.calls k _ _ l0 false _ ?side1 ?side2 A2.out).mono ?_); (case side1 => exact xc HR0.out); (case side2 => exact HC0.out); rintro e w13 ⟨rfl, hb⟩; replace HB := ax (below_step (xb HB.out) hb); (try clear hb); (try clear hb2); (try clear hk); (try clear hi))); try go_wp2_with (first | (go_at_call 19; (with_reducible refine (spec_IsPartition.calls k _ _ l0 false _ ?side1 ?side2 A2.out).mono ?_); (case side1 => exact xc HR0.out); (case side2 => exact HC0.out); rintro e w13 ⟨rfl, hb⟩; replace HB := ax (below_step (xb HB.out) hb); (try clear hb); (try clear hb2); (try clear hk); (try clear hi))))
  go_ret
  exact ⟨xe, xb HB.out⟩

/-! ### spec_ClassSize: function 24 -/
def spec_ClassSize.f (k : Nat) (l0 : List Int) : Option (Int) := (spec_IsPartition.f k l0).bind fun t613 => (if t613 = true then ((spec_l2Size.f k l0).bind fun t614 => ((spec_l3Factorial.f k t614).bind fun t615 => ((spec_CentralizerSize.f k l0).bind fun t616 => (if t616 = 0 then (none) else (some (wrap64 (Int.tdiv t615 t616))))))) else (some 0))
theorem spec_ClassSize.mono : ∀ a0 k, LeO (spec_ClassSize.f k a0) (spec_ClassSize.f (k + 1) a0) := by
 intro a0 k
 unfold spec_ClassSize.f
 repeat' with_reducible first | exact spec_CentralizerSize.mono _ _ | exact spec_IsPartition.mono _ _ | exact spec_l2Size.mono _ _ | exact spec_l3Factorial.mono _ _ | exact xl | refine LeO.ite ?_ ?_ | refine LeO.bind ?_ fun _ => ?_
set_option maxHeartbeats 8000000 in
set_option maxRecDepth 100000 in
theorem spec_ClassSize.calls (k : Nat) (A0 : Option Addr) (c0 : Nat) (l0 : List Int) (r : Int) (w : World) (hr0 : Kd.C (Kd.int .i64) w A0 l0.length l0) (hc0 : l0.length ≤ c0) (h : spec_ClassSize.f k l0 = some r) :
  Calls Try.prog 24 #[.slice A0 l0.length c0] w fun e w' => e = .returned (.int .i64 r) ∧ Below w.heap.size w w' := by
 have HR0 := ax hr0
 have HC0 := ax hc0
 clear hr0 hc0
 have HB := ax (Below.refl w.heap.size w)
 have H : ((spec_IsPartition.f k l0).bind fun t613 => (if t613 = true then ((spec_l2Size.f k l0).bind fun t614 => ((spec_l3Factorial.f k t614).bind fun t615 => ((spec_CentralizerSize.f k l0).bind fun t616 => (if t616 = 0 then (none) else (some (wrap64 (Int.tdiv t615 t616))))))) else (some 0))) = some r := h
 clear h
 obtain ⟨t613, A2, H⟩ := xI H
 by_cases c3 : t613 = true
 ·subst c3
  rw [if_pos rfl] at H
  obtain ⟨t614, A4, H⟩ := xI H
  obtain ⟨t615, A5, H⟩ := xI H
  obtain ⟨t616, A6, H⟩ := xI H
  by_cases c7 : t616 = 0
  ·rw [if_pos c7] at H
   exact absurd H (by simp)
  ·rw [if_neg c7] at H
   have c7b0 : (t616 == 0) = false := beq_eq_false_iff_ne.mpr c7
   have c7b1 : (t616 != 0) = true := bne_iff_ne.mpr c7
   obtain rfl := Option.some.inj H
   go_enter Try.func24, Try.ntmps24
   go_wp2_with (first | ((with_reducible refine gate_callee (f := 19) rfl ?_); refine goesL_ (some 4) rfl rfl Try.func19 (by kernel_rfl) rfl #[.slice A0 l0.length c0] rfl xm ?_; (with_reducible refine (spec_IsPartition.calls k _ _ l0 true _ ?side1 ?side2 A2.out).mono ?_); (case side1 => exact xc HR0.out); (case side2 => exact HC0.out); rintro e w8 ⟨rfl, hb⟩; refine ⟨_, rfl, ?_⟩; replace HB := ax (below_step (xb HB.out) hb); (try clear hb); (try clear hb2); (try clear hk); (try clear hi)) | ((with_reducible refine gate_callee (f := 28) rfl ?_); refine goesL_ (some 7) rfl rfl Try.func28 (by kernel_rfl) rfl #[.slice A0 l0.length c0] rfl xm ?_; (with_reducible refine (spec_l2Size.calls k _ _ l0 t614 _ ?side1 ?side2 A4.out).mono ?_); (case side1 => exact xz HR0.out (Kd.C_below · HB.out)); (case side2 => exact HC0.out); rintro e w' ⟨rfl, ⟨nd, rfl⟩⟩; refine ⟨_, rfl, ?_⟩) | ((with_reducible refine gate_callee (f := 48) rfl ?_); refine goesL_ (some 8) rfl rfl Try.func48 (by kernel_rfl) rfl #[.int .i64 t614] rfl xm ?_; (with_reducible refine (spec_l3Factorial.calls k t614 t615 _ A5.out).mono ?_); rintro e w' ⟨rfl, ⟨nd, rfl⟩⟩; refine ⟨_, rfl, ?_⟩) | ((with_reducible refine gate_callee (f := 51) rfl ?_); refine goesL_ (some 10) rfl rfl Try.func51 (by kernel_rfl) rfl #[.slice A0 l0.length c0] rfl xm ?_; (with_reducible refine (spec_CentralizerSize.calls k _ _ l0 t616 _ ?side1 ?side2 A6.out).mono ?_); (case side1 => exact xc (Kd.C_below HR0.out (xb HB.out))); (case side2 => exact HC0.out); rintro e w9 ⟨rfl, hb⟩; refine ⟨_, rfl, ?_⟩; replace HB := ax (below_step (xb HB.out) hb); (try clear hb); (try clear hb2); (try clear hk); (try clear hi)))
   go_ret
   exact ⟨xe, xb HB.out⟩
 ·replace c3 := Bool.eq_false_iff.mpr c3
  subst c3
  rw [if_neg (show ¬ (false = true) by decide)] at H
  obtain rfl := Option.some.inj H
  go_enter Try.func24, Try.ntmps24
  go_wp2_with (first | ((with_reducible refine gate_callee (f := 19) rfl ?_); refine goesL_ (some 4) rfl rfl Try.func19 (by kernel_rfl) rfl #[.slice A0 l0.length c0] rfl xm ?_; (with_reducible refine (spec_IsPartition.calls k _ _ l0 false _ ?side1 ?side2 A2.out).mono ?_); (case side1 => exact xc HR0.out); (case side2 => exact HC0.out); rintro e w10 ⟨rfl, hb⟩; refine ⟨_, rfl, ?_⟩; replace HB := ax (below_step (xb HB.out) hb); (try clear hb); (try clear hb2); (try clear hk); (try clear hi)))
  go_ret
  exact ⟨xe, xb HB.out⟩

/-! ### laws_factorial: function 25 -/
def laws_factorial.l0 : Nat → Int → Int → Int → Option (Int)
 | 0, _, _, _ => none
 | k + 1, x0, x3, x4 => if x4 ≤ x0 then (if x4 ≤ 12 then (laws_factorial.l0 k x0 (wrap64 (x3 * x4)) (wrap64 (x4 + 1))) else (some x3)) else (some x3)
def laws_factorial.f (k : Nat) (a0 : Int) : Option (Int) := laws_factorial.l0 k a0 1 2
theorem laws_factorial.mono_l : ∀ k, (∀ y0 y1 y2, LeO (laws_factorial.l0 k y0 y1 y2) (laws_factorial.l0 (k + 1) y0 y1 y2))
 | 0 => fun _ _ _ r h => by simp [laws_factorial.l0] at h
 | k + 1 => by
  have ih0 := laws_factorial.mono_l k
  ·intro y0 y1 y2
   unfold laws_factorial.l0
   repeat' with_reducible first | exact ih0 _ _ _ | exact xl | refine LeO.ite ?_ ?_ | refine LeO.bind ?_ fun _ => ?_
theorem laws_factorial.mono : ∀ a0 k, LeO (laws_factorial.f k a0) (laws_factorial.f (k + 1) a0) := by
 intro a0 k
 have ih0 := laws_factorial.mono_l k
 unfold laws_factorial.f
 repeat' with_reducible first | exact ih0 _ _ _ | exact xl | refine LeO.ite ?_ ?_ | refine LeO.bind ?_ fun _ => ?_
set_option maxHeartbeats 8000000 in
set_option maxRecDepth 100000 in
theorem laws_factorial.calls (k : Nat) (a0 : Int) (r : Int) (w : World) (h : laws_factorial.f k a0 = some r) :
  Calls Try.prog 25 #[.int .i64 a0] w fun e w' => e = .returned (.int .i64 r) ∧ Drawn0 w w' := by
 have H : (laws_factorial.l0 k a0 1 2) = some r := h
 clear h
 have H' := ax H
 clear H
 go_enter Try.func25, Try.ntmps25
 go_wp2
 go_loopg [3, 4] k (fun kq v3 v4 w' => ∃ (x3_1 : Int) (x4_1 : Int), v3 = .int .i64 x3_1 ∧ v4 = .int .i64 x4_1 ∧ Aside0 (laws_factorial.l0 kq a0 x3_1 x4_1 = some r) ∧ Aside0 (kq ≤ k) ∧ Drawn0 w w')
 case atStart => exact ⟨(1), (2), xr, xr, H', ⟨Nat.le_refl _⟩, by repeat (first | exact Drawn0.refl _ | apply Drawn0.step)⟩
 case round =>
  clear H'
  obtain ⟨x3_1, x4_1, rfl, rfl, HA, HK1, ⟨m1, rfl⟩⟩ := hrel
  cases gk with
  | zero => exact absurd HA.out (by simp [laws_factorial.l0])
  | succ k1 =>
   have H := HA.out
   clear HA
   simp only [laws_factorial.l0] at H
   by_cases c2 : x4_1 ≤ a0
   ·rw [if_pos c2] at H
    have c2b0 := decide_eq_true c2
    clear c2
    by_cases c3 : x4_1 ≤ 12
    ·rw [if_pos c3] at H
     have c3b0 := decide_eq_true c3
     clear c3
     have H' := ax H
     clear H
     go_wp2
     go_roundg k1
     case measure => have := HK1.out; omega
     case rel => exact ⟨(wrap64 (x3_1 * x4_1)), (wrap64 (x4_1 + 1)), xr, xr, H', ⟨by have := HK1.out; omega⟩, by repeat (first | exact Drawn0.refl _ | apply Drawn0.step)⟩
    ·rw [if_neg c3] at H
     have c3b0 := decide_eq_false c3
     clear c3
     obtain rfl := Option.some.inj H
     go_wp2
     go_ret
     exact ⟨by first | rfl | (simp; done) | (simp [*]; done), by repeat (first | exact Drawn0.refl _ | apply Drawn0.step)⟩
   ·rw [if_neg c2] at H
    have c2b0 := decide_eq_false c2
    clear c2
    obtain rfl := Option.some.inj H
    go_wp2
    go_ret
    exact ⟨by first | rfl | (simp; done) | (simp [*]; done), by repeat (first | exact Drawn0.refl _ | apply Drawn0.step)⟩

end Go.Proofs.Ytopmggldaicpaab.PFnCharacters
