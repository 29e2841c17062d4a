import Derived.Test.YtnfcdaojglicfabPFnFillingsx3
namespace Go.Proofs.Ytnfcdaojglicfab.PFnFillings
open Go.RowKit Go.Proofs.YtnfcdaojglicfabW.PrintWords Go.Proofs.YtnfcdaojglicfabW.PrintLast Go.Proofs.YtnfcdaojglicfabW.PrintMore
set_option linter.unusedVariables false
set_option linter.unusedSimpArgs false
set_option maxHeartbeats 8000000
set_option maxRecDepth 100000
/-! ### slices_ContainsFunc_int_int__impl_IsFilling_1: function 80 -/
def slices_ContainsFunc_int_int__impl_IsFilling_1.f (k : Nat) (l0 : List Int)  : Option (Bool) := (slices_IndexFunc_int_int__impl_IsFilling_1.f k l0).bind fun t259 => (some (decide (t259 ≥ 0)))
theorem slices_ContainsFunc_int_int__impl_IsFilling_1.mono : ∀ a0 k, LeO (slices_ContainsFunc_int_int__impl_IsFilling_1.f k a0) (slices_ContainsFunc_int_int__impl_IsFilling_1.f (k + 1) a0) := by
 intro a0 k
 unfold slices_ContainsFunc_int_int__impl_IsFilling_1.f
 repeat' with_reducible first | exact slices_IndexFunc_int_int__impl_IsFilling_1.mono _ _ | exact xl | refine LeO.ite ?_ ?_ | refine LeO.bind ?_ fun _ => ?_
theorem slices_ContainsFunc_int_int__impl_IsFilling_1.calls (k : Nat) (A0 : Option Addr) (c0 : Nat) (l0 : List Int)  (r : Bool) (w : World) (hr0 : Kd.C (Kd.int .i64) w A0 l0.length l0) (hc0 : l0.length ≤ c0) (h : slices_ContainsFunc_int_int__impl_IsFilling_1.f k l0 = some r) :
  Calls Try.prog 37 #[.slice A0 l0.length c0, .func (.func 38) #[] #[]] w fun e w' => e = .returned (.bool r) ∧ Drawn0 w w' := by
 have HR0 := ax hr0
 have HC0 := ax hc0
 clear hr0 hc0
 have H : ((slices_IndexFunc_int_int__impl_IsFilling_1.f k l0).bind fun t259 => (some (decide (t259 ≥ 0)))) = some r := h
 clear h
 obtain ⟨t259, A3, H⟩ := xI H
 obtain rfl := Option.some.inj H
 go_enter Try.func37, Try.ntmps37
 go_wp2_with (first | ((with_reducible refine gate_callee (f := 51) rfl ?_); refine goesL_ (some 7) rfl rfl Try.func51 (by kernel_rfl) rfl #[.slice A0 l0.length c0, .func (.func 38) #[] #[]] rfl xm ?_; (with_reducible refine (slices_IndexFunc_int_int__impl_IsFilling_1.calls k _ _ l0  t259 _ ?side1 ?side2 A3.out).mono ?_); (case side1 => exact xc HR0.out); (case side2 => exact HC0.out); rintro e w' ⟨rfl, ⟨nd, rfl⟩⟩; refine ⟨_, rfl, ?_⟩))
 go_ret
 exact ⟨by first | rfl | (simp; done) | (simp [*]; done), by repeat (first | exact Drawn0.refl _ | apply Drawn0.step)⟩

/-! ### impl_IsFilling: function 16 -/
mutual
def impl_IsFilling.j0 : Nat → List Int → List (List Int) → Bool → Option (Bool)
 | 0, _, _, _ => none
 | k + 1, x0, x1, x16 => if x16 = true then (some false) else (impl_IsFilling.l0 k x0 x1 (x1.length : Int) 0)
def impl_IsFilling.l0 : Nat → List Int → List (List Int) → Int → Int → Option (Bool)
 | 0, _, _, _, _ => none
 | k + 1, x0, x17, x18, x19 => if x19 < x18 then (if 0 ≤ x19 then (if x19 < (x17.length : Int) then (if x19 < (x0.length : Int) then (if ((rd_L2 x17 x19).length : Int) = (rd x0 x19) then ((slices_ContainsFunc_int_int__impl_IsFilling_1.f k (rd_L2 x17 x19)).bind fun t263 => (if t263 = true then (some false) else (impl_IsFilling.l0 k x0 x17 x18 (wrap64 (x19 + 1))))) else (some false)) else (none)) else (none)) else (none)) else (some true)
end
def impl_IsFilling.f (k : Nat) (l0 : List Int) (l1 : List (List Int)) : Option (Bool) := (impl_IsPartition.f k l0).bind fun t260 => (if t260 = true then (impl_IsFilling.j0 k l0 l1 ((l1.length : Int) != (l0.length : Int))) else (impl_IsFilling.j0 k l0 l1 true))
theorem impl_IsFilling.mono_l : ∀ k, (∀ y0 y1 y2, LeO (impl_IsFilling.j0 k y0 y1 y2) (impl_IsFilling.j0 (k + 1) y0 y1 y2)) ∧ (∀ y0 y1 y2 y3, LeO (impl_IsFilling.l0 k y0 y1 y2 y3) (impl_IsFilling.l0 (k + 1) y0 y1 y2 y3))
 | 0 => ⟨fun _ _ _ r h => by simp [impl_IsFilling.j0] at h, fun _ _ _ _ r h => by simp [impl_IsFilling.l0] at h⟩
 | k + 1 => by
  obtain ⟨ih0, ih1⟩ := impl_IsFilling.mono_l k
  refine ⟨?_, ?_⟩
  ·intro y0 y1 y2
   unfold impl_IsFilling.j0
   repeat' with_reducible first | exact ih0 _ _ _ | exact ih1 _ _ _ _ | exact impl_IsPartition.mono _ _ | exact slices_ContainsFunc_int_int__impl_IsFilling_1.mono _ _ | exact xl | refine LeO.ite ?_ ?_ | refine LeO.bind ?_ fun _ => ?_
  ·intro y0 y1 y2 y3
   unfold impl_IsFilling.l0
   repeat' with_reducible first | exact ih0 _ _ _ | exact ih1 _ _ _ _ | exact impl_IsPartition.mono _ _ | exact slices_ContainsFunc_int_int__impl_IsFilling_1.mono _ _ | exact xl | refine LeO.ite ?_ ?_ | refine LeO.bind ?_ fun _ => ?_
theorem impl_IsFilling.mono : ∀ a0 a1 k, LeO (impl_IsFilling.f k a0 a1) (impl_IsFilling.f (k + 1) a0 a1) := by
 intro a0 a1 k
 obtain ⟨ih0, ih1⟩ := impl_IsFilling.mono_l k
 unfold impl_IsFilling.f
 repeat' with_reducible first | exact ih0 _ _ _ | exact ih1 _ _ _ _ | exact impl_IsPartition.mono _ _ | exact slices_ContainsFunc_int_int__impl_IsFilling_1.mono _ _ | exact xl | refine LeO.ite ?_ ?_ | refine LeO.bind ?_ fun _ => ?_
theorem impl_IsFilling.calls (k : Nat) (A0 : Option Addr) (c0 : Nat) (l0 : List Int) (A1 : Option Addr) (c1 : Nat) (l1 : List (List Int)) (r : Bool) (w : World) (hr0 : Kd.C (Kd.int .i64) w A0 l0.length l0) (hc0 : l0.length ≤ c0) (hr1 : Kd.C (Kd.slice 3 (Kd.int .i64)) w A1 l1.length l1) (hc1 : l1.length ≤ c1) (h : impl_IsFilling.f k l0 l1 = some r) :
  Calls Try.prog 16 #[.slice A0 l0.length c0, .slice A1 l1.length c1] w fun e w' => e = .returned (.bool r) ∧ Drawn0 w w' := by
 have HR0 := ax hr0
 have HC0 := ax hc0
 clear hr0 hc0
 have HR1 := ax hr1
 have HC1 := ax hc1
 clear hr1 hc1
 have H : ((impl_IsPartition.f k l0).bind fun t260 => (if t260 = true then (impl_IsFilling.j0 k l0 l1 ((l1.length : Int) != (l0.length : Int))) else (impl_IsFilling.j0 k l0 l1 true))) = some r := h
 clear h
 have HC3 := ax H
 clear H
 go_enter Try.func16, Try.ntmps16
 go_upto_region 1 with (fail)
 go_cut [16] (fun v16 wc => ∃ (kq : Nat) (x16_2 : Bool), v16 = .bool x16_2 ∧ Aside0 (impl_IsFilling.j0 kq l0 l1 x16_2 = some r) ∧ Aside0 (kq ≤ k) ∧ Drawn0 w wc)
 case first =>
  have H := HC3.out
  clear HC3
  obtain ⟨t260, A4, H⟩ := xI H
  by_cases c5 : t260 = true
  ·subst c5
   rw [if_pos rfl] at H
   have H' := ax H
   clear H
   go_wp2_with (first | ((with_reducible refine gate_callee (f := 36) rfl ?_); refine goesL_ (some 8) rfl rfl Try.func36 (by kernel_rfl) rfl #[.slice A0 l0.length c0] rfl xm ?_; (with_reducible refine (impl_IsPartition.calls k _ _ l0 true _ ?side1 ?side2 A4.out).mono ?_); (case side1 => exact xc HR0.out); (case side2 => exact HC0.out); rintro e w' ⟨rfl, ⟨nd, rfl⟩⟩; refine ⟨_, rfl, ?_⟩))
   go_meet
   case rel => exact ⟨_, (((l1.length : Int) != (l0.length : Int))), xr, H', ⟨by first | omega | exact Nat.le_refl _⟩, by repeat (first | exact Drawn0.refl _ | apply Drawn0.step)⟩
  ·replace c5 := Bool.eq_false_iff.mpr c5
   subst c5
   rw [if_neg (show ¬ (false = true) by decide)] at H
   have H' := ax H
   clear H
   go_wp2_with (first | ((with_reducible refine gate_callee (f := 36) rfl ?_); refine goesL_ (some 8) rfl rfl Try.func36 (by kernel_rfl) rfl #[.slice A0 l0.length c0] rfl xm ?_; (with_reducible refine (impl_IsPartition.calls k _ _ l0 false _ ?side1 ?side2 A4.out).mono ?_); (case side1 => exact xc HR0.out); (case side2 => exact HC0.out); rintro e w' ⟨rfl, ⟨nd, rfl⟩⟩; refine ⟨_, rfl, ?_⟩))
   go_meet
   case rel => exact ⟨_, (true), xr, H', ⟨by first | omega | exact Nat.le_refl _⟩, by repeat (first | exact Drawn0.refl _ | apply Drawn0.step)⟩
 case rest =>
  clear HC3
  (try clear c1); (try clear c5)
  obtain ⟨kq, x16_2, rfl, HA, HJ2, ⟨mc2, rfl⟩⟩ := hcut
  cases kq with
  | zero => exact absurd HA.out (by simp [impl_IsFilling.j0])
  | succ kj2 =>
   have H := HA.out
   clear HA
   simp only [impl_IsFilling.j0] at H
   by_cases c6 : x16_2 = true
   ·subst c6
    rw [if_pos rfl] at H
    obtain rfl := Option.some.inj H
    go_wp2
    go_ret
    exact ⟨by first | rfl | (simp; done) | (simp [*]; done), by repeat (first | exact Drawn0.refl _ | apply Drawn0.step)⟩
   ·replace c6 := Bool.eq_false_iff.mpr c6
    subst c6
    rw [if_neg (show ¬ (false = true) by decide)] at H
    have H' := ax H
    clear H
    go_wp2
    go_loopg [19] kj2 (fun kq v19 w' => ∃ (x19_2 : Int), v19 = .int .i64 x19_2 ∧ Aside0 (impl_IsFilling.l0 kq l0 l1 (l1.length : Int) x19_2 = some r) ∧ Aside0 (kq ≤ kj2) ∧ Drawn0 w w')
    case atStart => exact ⟨(0), xr, H', ⟨Nat.le_refl _⟩, by repeat (first | exact Drawn0.refl _ | apply Drawn0.step)⟩
    case round =>
     clear H'
     (try clear c1); (try clear c5); (try clear c6)
     obtain ⟨x19_2, rfl, HA, HK2, ⟨m2, rfl⟩⟩ := hrel
     cases gk with
     | zero => exact absurd HA.out (by simp [impl_IsFilling.l0])
     | succ k2 =>
      have H := HA.out
      clear HA
      simp only [impl_IsFilling.l0] at H
      by_cases c7 : x19_2 < (l1.length : Int)
      ·rw [if_pos c7] at H
       have c7b0 := decide_eq_true c7
       clear c7
       obtain ⟨c8b0, H⟩ := xq H
       obtain ⟨c9b0, H⟩ := xq H
       obtain ⟨c10b0, H⟩ := xq H
       by_cases c11 : ((rd_L2 l1 x19_2).length : Int) = (rd l0 x19_2)
       ·rw [if_pos c11] at H
        have c11b0 : (((rd_L2 l1 x19_2).length : Int) == (rd l0 x19_2)) = true := beq_iff_eq.mpr c11
        have c11b1 : (((rd_L2 l1 x19_2).length : Int) != (rd l0 x19_2)) = false := bne_eq_false_iff_eq.mpr c11
        clear c11
        obtain ⟨t263, A12, H⟩ := xI H
        by_cases c13 : t263 = true
        ·subst c13
         rw [if_pos rfl] at H
         obtain rfl := Option.some.inj H
         have p261 : 0 ≤ (x19_2 : Int) := xd
         have q261 : x19_2 < (l1.length : Int) := xd
         obtain ⟨ad261, A261_0, c261_0, e261, hx261_0, hl261_0, hi261_0⟩ := at_L2 HR1.out x19_2 p261 q261
         cases e261
         have HR261_0 := ax hi261_0
         have HC261_0 := ax hl261_0
         clear hi261_0 hl261_0
         replace p261 := eq_true p261
         replace q261 := eq_true q261
         have p262 : 0 ≤ (x19_2 : Int) := xd
         have q262 : x19_2 < (l0.length : Int) := xd
         obtain ⟨ad262, e262, hx262_0⟩ := Kd.at_int HR0.out x19_2 p262 q262
         cases e262
         replace p262 := eq_true p262
         replace q262 := eq_true q262
         go_wp2_with (first | (go_at_call 37; (with_reducible refine (slices_ContainsFunc_int_int__impl_IsFilling_1.calls k2 _ _ (rd_L2 l1 x19_2)  true _ ?side1 ?side2 A12.out).mono ?_); (case side1 => exact xc HR261_0.out); (case side2 => exact HC261_0.out); rintro e w' ⟨rfl, ⟨nd, rfl⟩⟩))
         go_ret
         exact ⟨by first | rfl | (simp; done) | (simp [*]; done), by repeat (first | exact Drawn0.refl _ | apply Drawn0.step)⟩
        ·replace c13 := Bool.eq_false_iff.mpr c13
         subst c13
         rw [if_neg (show ¬ (false = true) by decide)] at H
         have H' := ax H
         clear H
         have p261 : 0 ≤ (x19_2 : Int) := xd
         have q261 : x19_2 < (l1.length : Int) := xd
         obtain ⟨ad261, A261_0, c261_0, e261, hx261_0, hl261_0, hi261_0⟩ := at_L2 HR1.out x19_2 p261 q261
         cases e261
         have HR261_0 := ax hi261_0
         have HC261_0 := ax hl261_0
         clear hi261_0 hl261_0
         replace p261 := eq_true p261
         replace q261 := eq_true q261
         have p262 : 0 ≤ (x19_2 : Int) := xd
         have q262 : x19_2 < (l0.length : Int) := xd
         obtain ⟨ad262, e262, hx262_0⟩ := Kd.at_int HR0.out x19_2 p262 q262
         cases e262
         replace p262 := eq_true p262
         replace q262 := eq_true q262
         go_wp2_with (first | (go_at_call 37; (with_reducible refine (slices_ContainsFunc_int_int__impl_IsFilling_1.calls k2 _ _ (rd_L2 l1 x19_2)  false _ ?side1 ?side2 A12.out).mono ?_); (case side1 => exact xc HR261_0.out); (case side2 => exact HC261_0.out); rintro e w' ⟨rfl, ⟨nd, rfl⟩⟩))
         go_roundg k2
         case measure => have := HJ2.out; have := HK2.out; omega
         case rel => exact ⟨(wrap64 (x19_2 + 1)), xr, H', ⟨by have := HJ2.out; have := HK2.out; omega⟩, by repeat (first | exact Drawn0.refl _ | apply Drawn0.step)⟩
       ·rw [if_neg c11] at H
        have c11b0 : (((rd_L2 l1 x19_2).length : Int) == (rd l0 x19_2)) = false := beq_eq_false_iff_ne.mpr c11
        have c11b1 : (((rd_L2 l1 x19_2).length : Int) != (rd l0 x19_2)) = true := bne_iff_ne.mpr c11
        obtain rfl := Option.some.inj H
        have p261 : 0 ≤ (x19_2 : Int) := xd
        have q261 : x19_2 < (l1.length : Int) := xd
        obtain ⟨ad261, A261_0, c261_0, e261, hx261_0, hl261_0, hi261_0⟩ := at_L2 HR1.out x19_2 p261 q261
        cases e261
        have HR261_0 := ax hi261_0
        have HC261_0 := ax hl261_0
        clear hi261_0 hl261_0
        replace p261 := eq_true p261
        replace q261 := eq_true q261
        have p262 : 0 ≤ (x19_2 : Int) := xd
        have q262 : x19_2 < (l0.length : Int) := xd
        obtain ⟨ad262, e262, hx262_0⟩ := Kd.at_int HR0.out x19_2 p262 q262
        cases e262
        replace p262 := eq_true p262
        replace q262 := eq_true q262
        go_wp2
        go_ret
        exact ⟨by first | rfl | (simp; done) | (simp [*]; done), by repeat (first | exact Drawn0.refl _ | apply Drawn0.step)⟩
      ·rw [if_neg c7] at H
       have c7b0 := decide_eq_false c7
       clear c7
       obtain rfl := Option.some.inj H
       go_wp2
       go_ret
       exact ⟨by first | rfl | (simp; done) | (simp [*]; done), by repeat (first | exact Drawn0.refl _ | apply Drawn0.step)⟩

/-! ### impl_IsReverse: function 14 -/
mutual
def impl_IsReverse.l0 : Nat → List (List Int) → List (List Int) → Int → Int → Option (Bool)
 | 0, _, _, _, _ => none
 | k + 1, x1, x13, x14, x15 => if x15 < x14 then (if 0 ≤ x15 then (if x15 < (x13.length : Int) then (impl_IsReverse.l1 k x1 x15 (rd_L2 x13 x15) x13 x14 x15 (rd_L2 x13 x15) ((rd_L2 x13 x15).length : Int) 0) else (none)) else (none)) else (some true)
def impl_IsReverse.l1 : Nat → List (List Int) → Int → List Int → List (List Int) → Int → Int → List Int → Int → Int → Option (Bool)
 | 0, _, _, _, _, _, _, _, _, _ => none
 | k + 1, x1, x5, x6, x13, x14, x15, x20, x21, x22 => if x22 < x21 then (if 0 ≤ x22 then (if x22 < (x20.length : Int) then (if x22 > 0 then (if 0 ≤ (wrap64 (x22 - 1)) then (if (wrap64 (x22 - 1)) < (x6.length : Int) then (if (rd x20 x22) < (rd x6 (wrap64 (x22 - 1))) then (some false) else (if x5 > 0 then (if 0 ≤ (wrap64 (x5 - 1)) then (if (wrap64 (x5 - 1)) < (x1.length : Int) then (if x22 < ((rd_L2 x1 (wrap64 (x5 - 1))).length : Int) then (if (rd x20 x22) < (rd (rd_L2 x1 (wrap64 (x5 - 1))) x22) then (some false) else (impl_IsReverse.l1 k x1 x5 x6 x13 x14 x15 x20 x21 (wrap64 (x22 + 1)))) else (none)) else (none)) else (none)) else (impl_IsReverse.l1 k x1 x5 x6 x13 x14 x15 x20 x21 (wrap64 (x22 + 1))))) else (none)) else (none)) else (if x5 > 0 then (if 0 ≤ (wrap64 (x5 - 1)) then (if (wrap64 (x5 - 1)) < (x1.length : Int) then (if x22 < ((rd_L2 x1 (wrap64 (x5 - 1))).length : Int) then (if (rd x20 x22) < (rd (rd_L2 x1 (wrap64 (x5 - 1))) x22) then (some false) else (impl_IsReverse.l1 k x1 x5 x6 x13 x14 x15 x20 x21 (wrap64 (x22 + 1)))) else (none)) else (none)) else (none)) else (impl_IsReverse.l1 k x1 x5 x6 x13 x14 x15 x20 x21 (wrap64 (x22 + 1))))) else (none)) else (none)) else (impl_IsReverse.l0 k x1 x13 x14 (wrap64 (x15 + 1)))
end
def impl_IsReverse.f (k : Nat) (l0 : List Int) (l1 : List (List Int)) : Option (Bool) := (impl_IsFilling.f k l0 l1).bind fun t264 => (if t264 = true then (impl_IsReverse.l0 k l1 l1 (l1.length : Int) 0) else (some false))
theorem impl_IsReverse.mono_l : ∀ k, (∀ y0 y1 y2 y3, LeO (impl_IsReverse.l0 k y0 y1 y2 y3) (impl_IsReverse.l0 (k + 1) y0 y1 y2 y3)) ∧ (∀ y0 y1 y2 y3 y4 y5 y6 y7 y8, LeO (impl_IsReverse.l1 k y0 y1 y2 y3 y4 y5 y6 y7 y8) (impl_IsReverse.l1 (k + 1) y0 y1 y2 y3 y4 y5 y6 y7 y8))
 | 0 => ⟨fun _ _ _ _ r h => by simp [impl_IsReverse.l0] at h, fun _ _ _ _ _ _ _ _ _ r h => by simp [impl_IsReverse.l1] at h⟩
 | k + 1 => by
  obtain ⟨ih0, ih1⟩ := impl_IsReverse.mono_l k
  refine ⟨?_, ?_⟩
  ·intro y0 y1 y2 y3
   unfold impl_IsReverse.l0
   repeat' with_reducible first | exact ih0 _ _ _ _ | exact ih1 _ _ _ _ _ _ _ _ _ | exact impl_IsFilling.mono _ _ _ | exact xl | refine LeO.ite ?_ ?_ | refine LeO.bind ?_ fun _ => ?_
  ·intro y0 y1 y2 y3 y4 y5 y6 y7 y8
   unfold impl_IsReverse.l1
   repeat' with_reducible first | exact ih0 _ _ _ _ | exact ih1 _ _ _ _ _ _ _ _ _ | exact impl_IsFilling.mono _ _ _ | exact xl | refine LeO.ite ?_ ?_ | refine LeO.bind ?_ fun _ => ?_
theorem impl_IsReverse.mono : ∀ a0 a1 k, LeO (impl_IsReverse.f k a0 a1) (impl_IsReverse.f (k + 1) a0 a1) := by
 intro a0 a1 k
 obtain ⟨ih0, ih1⟩ := impl_IsReverse.mono_l k
 unfold impl_IsReverse.f
 repeat' with_reducible first | exact ih0 _ _ _ _ | exact ih1 _ _ _ _ _ _ _ _ _ | exact impl_IsFilling.mono _ _ _ | exact xl | refine LeO.ite ?_ ?_ | refine LeO.bind ?_ fun _ => ?_
theorem impl_IsReverse.calls (k : Nat) (A0 : Option Addr) (c0 : Nat) (l0 : List Int) (A1 : Option Addr) (c1 : Nat) (l1 : List (List Int)) (r : Bool) (w : World) (hr0 : Kd.C (Kd.int .i64) w A0 l0.length l0) (hc0 : l0.length ≤ c0) (hr1 : Kd.C (Kd.slice 3 (Kd.int .i64)) w A1 l1.length l1) (hc1 : l1.length ≤ c1) (h : impl_IsReverse.f k l0 l1 = some r) :
  Calls Try.prog 14 #[.slice A0 l0.length c0, .slice A1 l1.length c1] w fun e w' => e = .returned (.bool r) ∧ Drawn0 w w' := by
 have HR0 := ax hr0
 have HC0 := ax hc0
 clear hr0 hc0
 have HR1 := ax hr1
 have HC1 := ax hc1
 clear hr1 hc1
 have H : ((impl_IsFilling.f k l0 l1).bind fun t264 => (if t264 = true then (impl_IsReverse.l0 k l1 l1 (l1.length : Int) 0) else (some false))) = some r := h
 clear h
 obtain ⟨t264, A3, H⟩ := xI H
 by_cases c4 : t264 = true
 ·subst c4
  rw [if_pos rfl] at H
  have H' := ax H
  clear H
  go_enter Try.func14, Try.ntmps14
  go_wp2_with (first | ((with_reducible refine gate_callee (f := 16) rfl ?_); refine goesL_ (some 11) rfl rfl Try.func16 (by kernel_rfl) rfl #[.slice A0 l0.length c0, .slice A1 l1.length c1] rfl xm ?_; (with_reducible refine (impl_IsFilling.calls k _ _ l0 _ _ l1 true _ ?side1 ?side2 ?side3 ?side4 A3.out).mono ?_); (case side1 => exact xc HR0.out); (case side2 => exact HC0.out); (case side3 => exact xc HR1.out); (case side4 => exact HC1.out); rintro e w' ⟨rfl, ⟨nd, rfl⟩⟩; refine ⟨_, rfl, ?_⟩))
  go_loopg [15] k (fun kq v15 w' => ∃ (x15_1 : Int), v15 = .int .i64 x15_1 ∧ Aside0 (impl_IsReverse.l0 kq l1 l1 (l1.length : Int) x15_1 = some r) ∧ Aside0 (kq ≤ k) ∧ Drawn0 w w')
  case atStart => exact ⟨(0), xr, H', ⟨Nat.le_refl _⟩, by repeat (first | exact Drawn0.refl _ | apply Drawn0.step)⟩
  case round =>
   clear H'
   (try clear c1); (try clear c4)
   obtain ⟨x15_1, rfl, HA, HK1, ⟨m1, rfl⟩⟩ := hrel
   cases gk with
   | zero => exact absurd HA.out (by simp [impl_IsReverse.l0])
   | succ k1 =>
    have H := HA.out
    clear HA
    simp only [impl_IsReverse.l0] at H
    by_cases c5 : x15_1 < (l1.length : Int)
    ·rw [if_pos c5] at H
     have c5b0 := decide_eq_true c5
     clear c5
     obtain ⟨c6b0, H⟩ := xq H
     obtain ⟨c7b0, H⟩ := xq H
     have H' := ax H
     clear H
     have p265 : 0 ≤ (x15_1 : Int) := xd
     have q265 : x15_1 < (l1.length : Int) := xd
     obtain ⟨ad265, A265_0, c265_0, e265, hx265_0, hl265_0, hi265_0⟩ := at_L2 HR1.out x15_1 p265 q265
     cases e265
     have HR265_0 := ax hi265_0
     have HC265_0 := ax hl265_0
     clear hi265_0 hl265_0
     replace p265 := eq_true p265
     replace q265 := eq_true q265
     go_wp2
     go_loopg [22] k1 (fun kq v22 w' => ∃ (x22_2 : Int), v22 = .int .i64 x22_2 ∧ Aside0 (impl_IsReverse.l1 kq l1 x15_1 (rd_L2 l1 x15_1) l1 (l1.length : Int) x15_1 (rd_L2 l1 x15_1) ((rd_L2 l1 x15_1).length : Int) x22_2 = some r) ∧ Aside0 (kq ≤ k1) ∧ Drawn0 w w')
     case atStart => exact ⟨(0), xr, H', ⟨Nat.le_refl _⟩, by repeat (first | exact Drawn0.refl _ | apply Drawn0.step)⟩
     case round =>
      clear H'
      (try clear c1); (try clear c4); (try clear c5); (try clear c5b0); (try clear c6); (try clear c6b0); (try clear c7); (try clear c7b0); (try clear hx265_0); (try clear p265); (try clear q265)
      obtain ⟨x22_2, rfl, HA, HK2, ⟨m2, rfl⟩⟩ := hrel
      cases gk with
      | zero => exact absurd HA.out (by simp [impl_IsReverse.l1])
      | succ k2 =>
       have H := HA.out
       clear HA
       simp only [impl_IsReverse.l1] at H
       by_cases c8 : x22_2 < ((rd_L2 l1 x15_1).length : Int)
       ·rw [if_pos c8] at H
        have c8b0 := decide_eq_true c8
        clear c8
        obtain ⟨c9b0, H⟩ := xq H
        obtain ⟨c10b0, H⟩ := xq H
        by_cases c11 : x22_2 > 0
        ·rw [if_pos c11] at H
         have c11b0 : decide (0 < x22_2) = true := decide_eq_true c11
         clear c11
         obtain ⟨ji12, hji12⟩ : ∃ j_ : Int, (wrap64 (x22_2 - 1)) = j_ := ⟨_, rfl⟩
         replace H : (if 0 ≤ (ji12) then (if (ji12) < ((rd_L2 l1 x15_1).length : Int) then (if (rd (rd_L2 l1 x15_1) x22_2) < (rd (rd_L2 l1 x15_1) (ji12)) then (some false) else (if x15_1 > 0 then (if 0 ≤ (wrap64 (x15_1 - 1)) then (if (wrap64 (x15_1 - 1)) < (l1.length : Int) then (if x22_2 < ((rd_L2 l1 (wrap64 (x15_1 - 1))).length : Int) then (if (rd (rd_L2 l1 x15_1) x22_2) < (rd (rd_L2 l1 (wrap64 (x15_1 - 1))) x22_2) then (some false) else (impl_IsReverse.l1 k2 l1 x15_1 (rd_L2 l1 x15_1) l1 (l1.length : Int) x15_1 (rd_L2 l1 x15_1) ((rd_L2 l1 x15_1).length : Int) (wrap64 (x22_2 + 1)))) else (none)) else (none)) else (none)) else (impl_IsReverse.l1 k2 l1 x15_1 (rd_L2 l1 x15_1) l1 (l1.length : Int) x15_1 (rd_L2 l1 x15_1) ((rd_L2 l1 x15_1).length : Int) (wrap64 (x22_2 + 1))))) else (none)) else (none)) = some r := by first | (rw [hji12] at H; exact H) | (simp only [hji12] at H ⊢; exact H)
         have hji12w : (IntKind.i64.wrap (x22_2 - 1)) = ji12 := (i64_w _).trans hji12
         obtain ⟨c13b0, H⟩ := xq H
         obtain ⟨c14b0, H⟩ := xq H
         by_cases c15 : (rd (rd_L2 l1 x15_1) x22_2) < (rd (rd_L2 l1 x15_1) (ji12))
         ·rw [if_pos c15] at H
          have c15b0 := decide_eq_true c15
          clear c15
          obtain rfl := Option.some.inj H
          have p266 : 0 ≤ (x22_2 : Int) := xd
          have q266 : x22_2 < ((rd_L2 l1 x15_1).length : Int) := xd
          obtain ⟨ad266, e266, hx266_0⟩ := Kd.at_int HR265_0.out x22_2 p266 q266
          cases e266
          replace p266 := eq_true p266
          replace q266 := eq_true q266
          have p267 : 0 ≤ ((ji12) : Int) := xd
          have q267 : (ji12) < ((rd_L2 l1 x15_1).length : Int) := xd
          obtain ⟨ad267, e267, hx267_0⟩ := Kd.at_int HR265_0.out (ji12) p267 q267
          obtain rfl : ad266 = ad267 := (by injection e267)
          replace p267 := eq_true p267
          replace q267 := eq_true q267
          go_wp2
          go_ret
          exact ⟨by first | rfl | (simp; done) | (simp only [← hji12] <;> (first | rfl | simp)) | (simp [*]; done), by repeat (first | exact Drawn0.refl _ | apply Drawn0.step)⟩
         ·rw [if_neg c15] at H
          have c15b0 := decide_eq_false c15
          clear c15
          by_cases c16 : x15_1 > 0
          ·rw [if_pos c16] at H
           have c16b0 : decide (0 < x15_1) = true := decide_eq_true c16
           clear c16
           obtain ⟨ji17, hji17⟩ : ∃ j_ : Int, (wrap64 (x15_1 - 1)) = j_ := ⟨_, rfl⟩
           replace H : (if 0 ≤ (ji17) then (if (ji17) < (l1.length : Int) then (if x22_2 < ((rd_L2 l1 (ji17)).length : Int) then (if (rd (rd_L2 l1 x15_1) x22_2) < (rd (rd_L2 l1 (ji17)) x22_2) then (some false) else (impl_IsReverse.l1 k2 l1 x15_1 (rd_L2 l1 x15_1) l1 (l1.length : Int) x15_1 (rd_L2 l1 x15_1) ((rd_L2 l1 x15_1).length : Int) (wrap64 (x22_2 + 1)))) else (none)) else (none)) else (none)) = some r := by first | (rw [hji17] at H; exact H) | (simp only [hji17] at H ⊢; exact H)
           have hji17w : (IntKind.i64.wrap (x15_1 - 1)) = ji17 := (i64_w _).trans hji17
           obtain ⟨c18b0, H⟩ := xq H
           obtain ⟨c19b0, H⟩ := xq H
           obtain ⟨c20b0, H⟩ := xq H
           by_cases c21 : (rd (rd_L2 l1 x15_1) x22_2) < (rd (rd_L2 l1 (ji17)) x22_2)
           ·rw [if_pos c21] at H
            have c21b0 := decide_eq_true c21
            clear c21
            obtain rfl := Option.some.inj H
            have p266 : 0 ≤ (x22_2 : Int) := xd
            have q266 : x22_2 < ((rd_L2 l1 x15_1).length : Int) := xd
            obtain ⟨ad266, e266, hx266_0⟩ := Kd.at_int HR265_0.out x22_2 p266 q266
            cases e266
            replace p266 := eq_true p266
            replace q266 := eq_true q266
            have p267 : 0 ≤ ((ji12) : Int) := xd
            have q267 : (ji12) < ((rd_L2 l1 x15_1).length : Int) := xd
            obtain ⟨ad267, e267, hx267_0⟩ := Kd.at_int HR265_0.out (ji12) p267 q267
            obtain rfl : ad266 = ad267 := (by injection e267)
            replace p267 := eq_true p267
            replace q267 := eq_true q267
            have p268 : 0 ≤ ((ji17) : Int) := xd
            have q268 : (ji17) < (l1.length : Int) := xd
            obtain ⟨ad268, A268_0, c268_0, e268, hx268_0, hl268_0, hi268_0⟩ := at_L2 HR1.out (ji17) p268 q268
            obtain rfl : ad265 = ad268 := (by injection e268)
            have HR268_0 := ax hi268_0
            have HC268_0 := ax hl268_0
            clear hi268_0 hl268_0
            replace p268 := eq_true p268
            replace q268 := eq_true q268
            have p269 : 0 ≤ (x22_2 : Int) := xd
            have q269 : x22_2 < ((rd_L2 l1 (ji17)).length : Int) := xd
            obtain ⟨ad269, e269, hx269_0⟩ := Kd.at_int HR268_0.out x22_2 p269 q269
            cases e269
            replace p269 := eq_true p269
            replace q269 := eq_true q269
            go_wp2
            go_ret
            exact ⟨by first | rfl | (simp; done) | (simp only [← hji12, ← hji17] <;> (first | rfl | simp)) | (simp [*]; done), by repeat (first | exact Drawn0.refl _ | apply Drawn0.step)⟩
           ·rw [if_neg c21] at H
            have c21b0 := decide_eq_false c21
            clear c21
            have H' := ax H
            clear H
            have p266 : 0 ≤ (x22_2 : Int) := xd
            have q266 : x22_2 < ((rd_L2 l1 x15_1).length : Int) := xd
            obtain ⟨ad266, e266, hx266_0⟩ := Kd.at_int HR265_0.out x22_2 p266 q266
            cases e266
            replace p266 := eq_true p266
            replace q266 := eq_true q266
            have p267 : 0 ≤ ((ji12) : Int) := xd
            have q267 : (ji12) < ((rd_L2 l1 x15_1).length : Int) := xd
            obtain ⟨ad267, e267, hx267_0⟩ := Kd.at_int HR265_0.out (ji12) p267 q267
            obtain rfl : ad266 = ad267 := (by injection e267)
            replace p267 := eq_true p267
            replace q267 := eq_true q267
            have p268 : 0 ≤ ((ji17) : Int) := xd
            have q268 : (ji17) < (l1.length : Int) := xd
            obtain ⟨ad268, A268_0, c268_0, e268, hx268_0, hl268_0, hi268_0⟩ := at_L2 HR1.out (ji17) p268 q268
            obtain rfl : ad265 = ad268 := (by injection e268)
            have HR268_0 := ax hi268_0
            have HC268_0 := ax hl268_0
            clear hi268_0 hl268_0
            replace p268 := eq_true p268
            replace q268 := eq_true q268
            have p269 : 0 ≤ (x22_2 : Int) := xd
            have q269 : x22_2 < ((rd_L2 l1 (ji17)).length : Int) := xd
            obtain ⟨ad269, e269, hx269_0⟩ := Kd.at_int HR268_0.out x22_2 p269 q269
            cases e269
            replace p269 := eq_true p269
            replace q269 := eq_true q269
            go_wp2
            go_roundg k2
            case measure => have := HK1.out; have := HK2.out; omega
            case rel => exact ⟨(wrap64 (x22_2 + 1)), xr, H', ⟨by have := HK1.out; have := HK2.out; omega⟩, by repeat (first | exact Drawn0.refl _ | apply Drawn0.step)⟩
          ·rw [if_neg c16] at H
           have c16b0 : decide (0 < x15_1) = false := decide_eq_false c16
           clear c16
           have H' := ax H
           clear H
           have p266 : 0 ≤ (x22_2 : Int) := xd
           have q266 : x22_2 < ((rd_L2 l1 x15_1).length : Int) := xd
           obtain ⟨ad266, e266, hx266_0⟩ := Kd.at_int HR265_0.out x22_2 p266 q266
           cases e266
           replace p266 := eq_true p266
           replace q266 := eq_true q266
           have p267 : 0 ≤ ((ji12) : Int) := xd
           have q267 : (ji12) < ((rd_L2 l1 x15_1).length : Int) := xd
           obtain ⟨ad267, e267, hx267_0⟩ := Kd.at_int HR265_0.out (ji12) p267 q267
           obtain rfl : ad266 = ad267 := (by injection e267)
           replace p267 := eq_true p267
           replace q267 := eq_true q267
           go_wp2
           go_roundg k2
           case measure => have := HK1.out; have := HK2.out; omega
           case rel => exact ⟨(wrap64 (x22_2 + 1)), xr, H', ⟨by have := HK1.out; have := HK2.out; omega⟩, by repeat (first | exact Drawn0.refl _ | apply Drawn0.step)⟩
        ·rw [if_neg c11] at H
         have c11b0 : decide (0 < x22_2) = false := decide_eq_false c11
         clear c11
         by_cases c22 : x15_1 > 0
         ·rw [if_pos c22] at H
          have c22b0 : decide (0 < x15_1) = true := decide_eq_true c22
          clear c22
          obtain ⟨ji23, hji23⟩ : ∃ j_ : Int, (wrap64 (x15_1 - 1)) = j_ := ⟨_, rfl⟩
          replace H : (if 0 ≤ (ji23) then (if (ji23) < (l1.length : Int) then (if x22_2 < ((rd_L2 l1 (ji23)).length : Int) then (if (rd (rd_L2 l1 x15_1) x22_2) < (rd (rd_L2 l1 (ji23)) x22_2) then (some false) else (impl_IsReverse.l1 k2 l1 x15_1 (rd_L2 l1 x15_1) l1 (l1.length : Int) x15_1 (rd_L2 l1 x15_1) ((rd_L2 l1 x15_1).length : Int) (wrap64 (x22_2 + 1)))) else (none)) else (none)) else (none)) = some r := by first | (rw [hji23] at H; exact H) | (simp only [hji23] at H ⊢; exact H)
          have hji23w : (IntKind.i64.wrap (x15_1 - 1)) = ji23 := (i64_w _).trans hji23
          obtain ⟨c24b0, H⟩ := xq H
          obtain ⟨c25b0, H⟩ := xq H
          obtain ⟨c26b0, H⟩ := xq H
          by_cases c27 : (rd (rd_L2 l1 x15_1) x22_2) < (rd (rd_L2 l1 (ji23)) x22_2)
          ·rw [if_pos c27] at H
           have c27b0 := decide_eq_true c27
           clear c27
           obtain rfl := Option.some.inj H
           have p266 : 0 ≤ (x22_2 : Int) := xd
           have q266 : x22_2 < ((rd_L2 l1 x15_1).length : Int) := xd
           obtain ⟨ad266, e266, hx266_0⟩ := Kd.at_int HR265_0.out x22_2 p266 q266
           cases e266
           replace p266 := eq_true p266
           replace q266 := eq_true q266
           have p270 : 0 ≤ ((ji23) : Int) := xd
           have q270 : (ji23) < (l1.length : Int) := xd
           obtain ⟨ad270, A270_0, c270_0, e270, hx270_0, hl270_0, hi270_0⟩ := at_L2 HR1.out (ji23) p270 q270
           obtain rfl : ad265 = ad270 := (by injection e270)
           have HR270_0 := ax hi270_0
           have HC270_0 := ax hl270_0
           clear hi270_0 hl270_0
           replace p270 := eq_true p270
           replace q270 := eq_true q270
           have p271 : 0 ≤ (x22_2 : Int) := xd
           have q271 : x22_2 < ((rd_L2 l1 (ji23)).length : Int) := xd
           obtain ⟨ad271, e271, hx271_0⟩ := Kd.at_int HR270_0.out x22_2 p271 q271
           cases e271
           replace p271 := eq_true p271
           replace q271 := eq_true q271
           go_wp2
           go_ret
           exact ⟨by first | rfl | (simp; done) | (simp only [← hji23] <;> (first | rfl | simp)) | (simp [*]; done), by repeat (first | exact Drawn0.refl _ | apply Drawn0.step)⟩
          ·rw [if_neg c27] at H
           have c27b0 := decide_eq_false c27
           clear c27
           have H' := ax H
           clear H
           have p266 : 0 ≤ (x22_2 : Int) := xd
           have q266 : x22_2 < ((rd_L2 l1 x15_1).length : Int) := xd
           obtain ⟨ad266, e266, hx266_0⟩ := Kd.at_int HR265_0.out x22_2 p266 q266
           cases e266
           replace p266 := eq_true p266
           replace q266 := eq_true q266
           have p270 : 0 ≤ ((ji23) : Int) := xd
           have q270 : (ji23) < (l1.length : Int) := xd
           obtain ⟨ad270, A270_0, c270_0, e270, hx270_0, hl270_0, hi270_0⟩ := at_L2 HR1.out (ji23) p270 q270
           obtain rfl : ad265 = ad270 := (by injection e270)
           have HR270_0 := ax hi270_0
           have HC270_0 := ax hl270_0
           clear hi270_0 hl270_0
           replace p270 := eq_true p270
           replace q270 := eq_true q270
           have p271 : 0 ≤ (x22_2 : Int) := xd
           have q271 : x22_2 < ((rd_L2 l1 (ji23)).length : Int) := xd
           obtain ⟨ad271, e271, hx271_0⟩ := Kd.at_int HR270_0.out x22_2 p271 q271
           cases e271
           replace p271 := eq_true p271
           replace q271 := eq_true q271
           go_wp2
           go_roundg k2
           case measure => have := HK1.out; have := HK2.out; omega
           case rel => exact ⟨(wrap64 (x22_2 + 1)), xr, H', ⟨by have := HK1.out; have := HK2.out; omega⟩, by repeat (first | exact Drawn0.refl _ | apply Drawn0.step)⟩
         ·rw [if_neg c22] at H
          have c22b0 : decide (0 < x15_1) = false := decide_eq_false c22
          clear c22
          have H' := ax H
          clear H
          have p266 : 0 ≤ (x22_2 : Int) := xd
          have q266 : x22_2 < ((rd_L2 l1 x15_1).length : Int) := xd
          obtain ⟨ad266, e266, hx266_0⟩ := Kd.at_int HR265_0.out x22_2 p266 q266
          cases e266
          replace p266 := eq_true p266
          replace q266 := eq_true q266
          go_wp2
          go_roundg k2
          case measure => have := HK1.out; have := HK2.out; omega
          case rel => exact ⟨(wrap64 (x22_2 + 1)), xr, H', ⟨by have := HK1.out; have := HK2.out; omega⟩, by repeat (first | exact Drawn0.refl _ | apply Drawn0.step)⟩
       ·rw [if_neg c8] at H
        have c8b0 := decide_eq_false c8
        clear c8
        have H' := ax H
        clear H
        go_wp2
        go_roundg k2
        case measure => have := HK1.out; have := HK2.out; omega
        case rel => exact ⟨(wrap64 (x15_1 + 1)), xr, H', ⟨by have := HK1.out; have := HK2.out; omega⟩, by repeat (first | exact Drawn0.refl _ | apply Drawn0.step)⟩
    ·rw [if_neg c5] at H
     have c5b0 := decide_eq_false c5
     clear c5
     obtain rfl := Option.some.inj H
     go_wp2
     go_ret
     exact ⟨by first | rfl | (simp; done) | (simp [*]; done), by repeat (first | exact Drawn0.refl _ | apply Drawn0.step)⟩
 ·replace c4 := Bool.eq_false_iff.mpr c4
  subst c4
  rw [if_neg (show ¬ (false = true) by decide)] at H
  obtain rfl := Option.some.inj H
  go_enter Try.func14, Try.ntmps14
  go_wp2_with (first | ((with_reducible refine gate_callee (f := 16) rfl ?_); refine goesL_ (some 11) rfl rfl Try.func16 (by kernel_rfl) rfl #[.slice A0 l0.length c0, .slice A1 l1.length c1] rfl xm ?_; (with_reducible refine (impl_IsFilling.calls k _ _ l0 _ _ l1 false _ ?side1 ?side2 ?side3 ?side4 A3.out).mono ?_); (case side1 => exact xc HR0.out); (case side2 => exact HC0.out); (case side3 => exact xc HR1.out); (case side4 => exact HC1.out); rintro e w' ⟨rfl, ⟨nd, rfl⟩⟩; refine ⟨_, rfl, ?_⟩))
  go_ret
  exact ⟨by first | rfl | (simp; done) | (simp [*]; done), by repeat (first | exact Drawn0.refl _ | apply Drawn0.step)⟩

/-! ### impl_sum: function 22 -/
def impl_sum.l0 : Nat → Int → List Int → Int → Int → Option (Int)
 | 0, _, _, _, _ => none
 | k + 1, x3, x6, x7, x8 => if x8 < x7 then (if 0 ≤ x8 then (if x8 < (x6.length : Int) then (impl_sum.l0 k (wrap64 (x3 + (rd x6 x8))) x6 x7 (wrap64 (x8 + 1))) else (none)) else (none)) else (some x3)
def impl_sum.f (k : Nat) (l0 : List Int) : Option (Int) := impl_sum.l0 k 0 l0 (l0.length : Int) 0
theorem impl_sum.mono_l : ∀ k, (∀ y0 y1 y2 y3, LeO (impl_sum.l0 k y0 y1 y2 y3) (impl_sum.l0 (k + 1) y0 y1 y2 y3))
 | 0 => fun _ _ _ _ r h => by simp [impl_sum.l0] at h
 | k + 1 => by
  have ih0 := impl_sum.mono_l k
  ·intro y0 y1 y2 y3
   unfold impl_sum.l0
   repeat' with_reducible first | exact ih0 _ _ _ _ | exact xl | refine LeO.ite ?_ ?_ | refine LeO.bind ?_ fun _ => ?_
theorem impl_sum.mono : ∀ a0 k, LeO (impl_sum.f k a0) (impl_sum.f (k + 1) a0) := by
 intro a0 k
 have ih0 := impl_sum.mono_l k
 unfold impl_sum.f
 repeat' with_reducible first | exact ih0 _ _ _ _ | exact xl | refine LeO.ite ?_ ?_ | refine LeO.bind ?_ fun _ => ?_
theorem impl_sum.calls (k : Nat) (A0 : Option Addr) (c0 : Nat) (l0 : List Int) (r : Int) (w : World) (hr0 : Kd.C (Kd.int .i64) w A0 l0.length l0) (hc0 : l0.length ≤ c0) (h : impl_sum.f k l0 = some r) :
  Calls Try.prog 22 #[.slice A0 l0.length c0] w fun e w' => e = .returned (.int .i64 r) ∧ Drawn0 w w' := by
 have HR0 := ax hr0
 have HC0 := ax hc0
 clear hr0 hc0
 have H : (impl_sum.l0 k 0 l0 (l0.length : Int) 0) = some r := h
 clear h
 have H' := ax H
 clear H
 go_enter Try.func22, Try.ntmps22
 go_wp2
 go_loopg [3, 8] k (fun kq v3 v8 w' => ∃ (x3_1 : Int) (x8_1 : Int), v3 = .int .i64 x3_1 ∧ v8 = .int .i64 x8_1 ∧ Aside0 (impl_sum.l0 kq x3_1 l0 (l0.length : Int) x8_1 = some r) ∧ Aside0 (kq ≤ k) ∧ Drawn0 w w')
 case atStart => exact ⟨(0), (0), xr, xr, H', ⟨Nat.le_refl _⟩, by repeat (first | exact Drawn0.refl _ | apply Drawn0.step)⟩
 case round =>
  clear H'
  obtain ⟨x3_1, x8_1, rfl, rfl, HA, HK1, ⟨m1, rfl⟩⟩ := hrel
  cases gk with
  | zero => exact absurd HA.out (by simp [impl_sum.l0])
  | succ k1 =>
   have H := HA.out
   clear HA
   simp only [impl_sum.l0] at H
   by_cases c2 : x8_1 < (l0.length : Int)
   ·rw [if_pos c2] at H
    have c2b0 := decide_eq_true c2
    clear c2
    obtain ⟨c3b0, H⟩ := xq H
    obtain ⟨c4b0, H⟩ := xq H
    have H' := ax H
    clear H
    have p272 : 0 ≤ (x8_1 : Int) := xd
    have q272 : x8_1 < (l0.length : Int) := xd
    obtain ⟨ad272, e272, hx272_0⟩ := Kd.at_int HR0.out x8_1 p272 q272
    cases e272
    replace p272 := eq_true p272
    replace q272 := eq_true q272
    go_wp2
    go_roundg k1
    case measure => have := HK1.out; omega
    case rel => exact ⟨(wrap64 (x3_1 + (rd l0 x8_1))), (wrap64 (x8_1 + 1)), xr, xr, H', ⟨by have := HK1.out; omega⟩, by repeat (first | exact Drawn0.refl _ | apply Drawn0.step)⟩
   ·rw [if_neg c2] at H
    have c2b0 := decide_eq_false c2
    clear c2
    obtain rfl := Option.some.inj H
    go_wp2
    go_ret
    exact ⟨by first | rfl | (simp; done) | (simp [*]; done), by repeat (first | exact Drawn0.refl _ | apply Drawn0.step)⟩

-- NOT PRINTED: function 49 (slices_Grow_int_int)

end Go.Proofs.Ytnfcdaojglicfab.PFnFillings
