import Derived.Test.YtopmggldaicpaacGreatPFnKroneckerx31
namespace Go.Proofs.YtopmggldaicpaacGreat.PFnKronecker
open Go.RowKit Go.Proofs.YtopmggldaicpaacGreatW.PrintWords Go.Proofs.YtopmggldaicpaacGreatW.PrintLast Go.Proofs.YtopmggldaicpaacGreatW.PrintMore
set_option linter.unusedVariables false
set_option linter.unusedSimpArgs false
set_option maxHeartbeats 8000000
set_option maxRecDepth 100000
/-! ### spec_KroneckerOf: function 17 -/
mutual
def spec_KroneckerOf.j0 : Nat → List Int → List Int → List Int → Bool → Option (Int)
 | 0, _, _, _, _ => none
 | k + 1, x0, x1, x2, x36 => if x36 = true then (some 0) else ((spec_l2Size.f k x0).bind fun t850 => ((spec_PartitionsOf.f k t850).bind fun t851 => (spec_KroneckerOf.l0 k x0 x1 x2 0 t851 0)))
def spec_KroneckerOf.l0 : Nat → List Int → List Int → List Int → Int → List (List Int) → Int → Option (Int)
 | 0, _, _, _, _, _, _ => none
 | k + 1, x0, x1, x2, x7, x8, x9 => if x9 < (x8.length : Int) then (if 0 ≤ x9 then ((spec_ClassSize.f k (rd_L2 x8 x9)).bind fun t857 => ((spec_l22Character.f k x0 (rd_L2 x8 x9)).bind fun t859 => ((spec_l22Character.f k x1 (rd_L2 x8 x9)).bind fun t861 => ((spec_l22Character.f k x2 (rd_L2 x8 x9)).bind fun t863 => (spec_KroneckerOf.l0 k x0 x1 x2 (wrap64 (x7 + (wrap64 ((wrap64 ((wrap64 (t857 * t859)) * t861)) * t863)))) x8 (wrap64 (x9 + 1))))))) else (none)) else ((spec_l2Size.f k x0).bind fun t854 => ((spec_l3Factorial.f k t854).bind fun t855 => (if t855 = 0 then (none) else (some (wrap64 (Int.tdiv x7 t855))))))
end
def spec_KroneckerOf.f (k : Nat) (l0 : List Int) (l1 : List Int) (l2 : List Int) : Option (Int) := (spec_l21Fine.f k l0).bind fun t843 => (if t843 = true then ((spec_l21Fine.f k l1).bind fun t844 => (if t844 = true then ((spec_l21Fine.f k l2).bind fun t845 => (if t845 = true then ((spec_l2Size.f k l0).bind fun t846 => ((spec_l2Size.f k l1).bind fun t847 => (if t846 = t847 then ((spec_l2Size.f k l0).bind fun t848 => ((spec_l2Size.f k l2).bind fun t849 => (spec_KroneckerOf.j0 k l0 l1 l2 (t848 != t849)))) else (spec_KroneckerOf.j0 k l0 l1 l2 true)))) else (spec_KroneckerOf.j0 k l0 l1 l2 true))) else (spec_KroneckerOf.j0 k l0 l1 l2 true))) else (spec_KroneckerOf.j0 k l0 l1 l2 true))
theorem spec_KroneckerOf.mono_l : ∀ k, (∀ y0 y1 y2 y3, LeO (spec_KroneckerOf.j0 k y0 y1 y2 y3) (spec_KroneckerOf.j0 (k + 1) y0 y1 y2 y3)) ∧ (∀ y0 y1 y2 y3 y4 y5, LeO (spec_KroneckerOf.l0 k y0 y1 y2 y3 y4 y5) (spec_KroneckerOf.l0 (k + 1) y0 y1 y2 y3 y4 y5))
 | 0 => ⟨fun _ _ _ _ r h => by simp [spec_KroneckerOf.j0] at h, fun _ _ _ _ _ _ r h => by simp [spec_KroneckerOf.l0] at h⟩
 | k + 1 => by
  obtain ⟨ih0, ih1⟩ := spec_KroneckerOf.mono_l k
  refine ⟨?_, ?_⟩
  ·intro y0 y1 y2 y3
   unfold spec_KroneckerOf.j0
   repeat' with_reducible first | exact ih0 _ _ _ _ | exact ih1 _ _ _ _ _ _ | exact spec_ClassSize.mono _ _ | exact spec_PartitionsOf.mono _ _ | exact spec_l21Fine.mono _ _ | exact spec_l22Character.mono _ _ _ | exact spec_l2Size.mono _ _ | exact spec_l3Factorial.mono _ _ | exact xl | refine LeO.ite ?_ ?_ | refine LeO.bind ?_ fun _ => ?_
  ·intro y0 y1 y2 y3 y4 y5
   unfold spec_KroneckerOf.l0
   repeat' with_reducible first | exact ih0 _ _ _ _ | exact ih1 _ _ _ _ _ _ | exact spec_ClassSize.mono _ _ | exact spec_PartitionsOf.mono _ _ | exact spec_l21Fine.mono _ _ | exact spec_l22Character.mono _ _ _ | exact spec_l2Size.mono _ _ | exact spec_l3Factorial.mono _ _ | exact xl | refine LeO.ite ?_ ?_ | refine LeO.bind ?_ fun _ => ?_
theorem spec_KroneckerOf.mono : ∀ a0 a1 a2 k, LeO (spec_KroneckerOf.f k a0 a1 a2) (spec_KroneckerOf.f (k + 1) a0 a1 a2) := by
 intro a0 a1 a2 k
 obtain ⟨ih0, ih1⟩ := spec_KroneckerOf.mono_l k
 unfold spec_KroneckerOf.f
 repeat' with_reducible first | exact ih0 _ _ _ _ | exact ih1 _ _ _ _ _ _ | exact spec_ClassSize.mono _ _ | exact spec_PartitionsOf.mono _ _ | exact spec_l21Fine.mono _ _ | exact spec_l22Character.mono _ _ _ | exact spec_l2Size.mono _ _ | exact spec_l3Factorial.mono _ _ | exact xl | refine LeO.ite ?_ ?_ | refine LeO.bind ?_ fun _ => ?_
def spec_KroneckerOf.T8 : Bool × List (List Nat × List Nat) := (true, [([], []), ([], []), ([], []), ([1, 2], [1, 2]), ([3], [3]), ([4], [4]), ([], []), ([], []), ([], []), ([7, 8], [7, 8]), ([9], [9]), ([6, 10, 5], [6, 10]), ([5, 11], [5, 11]), ([], []), ([], []), ([], []), ([14, 15], [14, 15]), ([16], [16]), ([13, 17, 11], [13, 17]), ([12, 18], [12, 18]), ([], []), ([], []), ([], []), ([21, 22], [21, 22]), ([23], [23]), ([20, 24, 18], [20, 24]), ([19, 25], [19, 25]), ([0, 26], [0, 26]), ([27, 25, 0, 1, 2, 3, 4, 5, 6, 7, 8, 9, 10, 11, 12, 13, 14, 15, 16, 17, 18, 19, 20, 21, 22, 23, 24, 25, 26, 27], [0, 27])])
def spec_KroneckerOf.B8 : List Nat := [0, 0, 0, 6, 14, 30, 0, 0, 0, 384, 896, 2046, 4094, 0, 0, 0, 49152, 114688, 258046, 524286, 0, 0, 0, 6291456, 14680064, 33026046, 67108862, 134217727, 268435455]
theorem spec_KroneckerOf.tab8 : rtab .any (opsOf Tryz.f17 8) = spec_KroneckerOf.T8 := by kernel_rfl
theorem spec_KroneckerOf.bits8 : waitsOk spec_KroneckerOf.T8.2 spec_KroneckerOf.B8 = true := by kernel_rfl
theorem spec_KroneckerOf.calls (k : Nat) (A0 : Option Addr) (c0 : Nat) (l0 : List Int) (A1 : Option Addr) (c1 : Nat) (l1 : List Int) (A2 : Option Addr) (c2 : Nat) (l2 : List Int) (r : Int) (w : World) (hr0 : Kd.C (Kd.int .i64) w A0 l0.length l0) (hc0 : l0.length ≤ c0) (hr1 : Kd.C (Kd.int .i64) w A1 l1.length l1) (hc1 : l1.length ≤ c1) (hr2 : Kd.C (Kd.int .i64) w A2 l2.length l2) (hc2 : l2.length ≤ c2) (h : spec_KroneckerOf.f k l0 l1 l2 = some r) :
  Calls Tryz.prog 17 #[.slice A0 l0.length c0, .slice A1 l1.length c1, .slice A2 l2.length c2] w fun e w' => e = .returned (.int .i64 r) ∧ Below w.heap.size w w' := by
 have HR0 := ax hr0
 have HC0 := ax hc0
 clear hr0 hc0
 have HR1 := ax hr1
 have HC1 := ax hc1
 clear hr1 hc1
 have HR2 := ax hr2
 have HC2 := ax hc2
 clear hr2 hc2
 have HB := ax (Below.refl w.heap.size w)
 have H : ((spec_l21Fine.f k l0).bind fun t843 => (if t843 = true then ((spec_l21Fine.f k l1).bind fun t844 => (if t844 = true then ((spec_l21Fine.f k l2).bind fun t845 => (if t845 = true then ((spec_l2Size.f k l0).bind fun t846 => ((spec_l2Size.f k l1).bind fun t847 => (if t846 = t847 then ((spec_l2Size.f k l0).bind fun t848 => ((spec_l2Size.f k l2).bind fun t849 => (spec_KroneckerOf.j0 k l0 l1 l2 (t848 != t849)))) else (spec_KroneckerOf.j0 k l0 l1 l2 true)))) else (spec_KroneckerOf.j0 k l0 l1 l2 true))) else (spec_KroneckerOf.j0 k l0 l1 l2 true))) else (spec_KroneckerOf.j0 k l0 l1 l2 true))) = some r := h
 clear h
 have HC4 := ax H
 clear H
 go_enter Tryz.func17, Tryz.ntmps17
 go_upto_region 1 with (fail)
 go_cut [36] (fun v36 wc => ∃ (kq : Nat) (x36_3 : Bool), v36 = .bool x36_3 ∧ Aside0 (spec_KroneckerOf.j0 kq l0 l1 l2 x36_3 = some r) ∧ Aside0 (kq ≤ k) ∧ Aside0 (Below w.heap.size w wc))
 case first =>
  have H := HC4.out
  clear HC4
  obtain ⟨t843, A5, H⟩ := xI H
  by_cases c6 : t843 = true
  ·subst c6
   rw [if_pos rfl] at H
   obtain ⟨t844, A7, H⟩ := xI H
   by_cases c8 : t844 = true
   ·subst c8
    rw [if_pos rfl] at H
    obtain ⟨t845, A9, H⟩ := xI H
    by_cases c10 : t845 = true
    ·subst c10
     rw [if_pos rfl] at H
     obtain ⟨t846, A11, H⟩ := xI H
     obtain ⟨t847, A12, H⟩ := xI H
     by_cases c13 : t846 = t847
     ·rw [if_pos c13] at H
      have c13b0 : (t846 == t847) = true := beq_iff_eq.mpr c13
      have c13b1 : (t846 != t847) = false := bne_eq_false_iff_eq.mpr c13
      clear c13
      (first | rw [c13b0] | (simp only [i64_w, i32_w]; rw [c13b0]) | skip)
      replace H := Option.bind_eq_some_iff.mp H
      obtain ⟨t848, A140, H⟩ := H
      obtain rfl : t846 = t848 := Option.some.inj ((A11.out).symm.trans A140)
      replace H : ((spec_l2Size.f k l2).bind fun t849 => (spec_KroneckerOf.j0 k l0 l1 l2 (t846 != t849))) = some r := H
      have A14 := ax A140
      clear A140
      obtain ⟨t849, A15, H⟩ := xI H
      have H' := ax H
      clear H
      go_wp2_with (first | ((with_reducible refine gate_callee (f := 40) rfl ?_); refine goesL_ (some 11) rfl rfl Tryz.func40 (by kernel_rfl) rfl #[.slice A0 l0.length c0] rfl xm ?_; (with_reducible refine (spec_l21Fine.calls k _ _ l0 true _ ?side1 ?side2 A5.out).mono ?_); (case side1 => exact xz HR0.out HB.out); (case side2 => exact HC0.out); rintro e w16 ⟨rfl, hb⟩; refine ⟨_, rfl, ?_⟩; replace HB := yB HB hb; (try clear hb)) | (go_at_call 40; (with_reducible refine (spec_l21Fine.calls k _ _ l1 true _ ?side1 ?side2 A7.out).mono ?_); (case side1 => exact xz HR1.out HB.out); (case side2 => exact HC1.out); rintro e w17 ⟨rfl, hb⟩; replace HB := yB HB hb; (try clear hb)) | (go_at_call 40; (with_reducible refine (spec_l21Fine.calls k _ _ l2 true _ ?side1 ?side2 A9.out).mono ?_); (case side1 => exact xz HR2.out HB.out); (case side2 => exact HC2.out); rintro e w18 ⟨rfl, hb⟩; replace HB := yB HB hb; (try clear hb)) | (go_at_call 36; (with_reducible refine (spec_l2Size.calls k _ _ l0 t846 _ ?side1 ?side2 A11.out).mono ?_); (case side1 => exact xz HR0.out HB.out); (case side2 => exact HC0.out); rintro e w' ⟨rfl, ⟨nd, rfl⟩⟩) | (go_at_call 36; (with_reducible refine (spec_l2Size.calls k _ _ l1 t847 _ ?side1 ?side2 A12.out).mono ?_); (case side1 => exact xc (Kd.C_below HR1.out (xb HB.out))); (case side2 => exact HC1.out); rintro e w' ⟨rfl, ⟨nd, rfl⟩⟩) | (go_at_call 36; (with_reducible refine (spec_l2Size.calls k _ _ l0 t846 _ ?side1 ?side2 A14.out).mono ?_); (case side1 => exact xc (Kd.C_below HR0.out (xb HB.out))); (case side2 => exact HC0.out); rintro e w' ⟨rfl, ⟨nd, rfl⟩⟩) | (go_at_call 36; (with_reducible refine (spec_l2Size.calls k _ _ l2 t849 _ ?side1 ?side2 A15.out).mono ?_); (case side1 => exact xc (Kd.C_below HR2.out (xb HB.out))); (case side2 => exact HC2.out); rintro e w' ⟨rfl, ⟨nd, rfl⟩⟩))
      go_meet
      case rel => exact ⟨_, ((t846 != t849)), xr, H', ⟨by first | omega | exact Nat.le_refl _⟩, ⟨xb HB.out⟩⟩
     ·rw [if_neg c13] at H
      have c13b0 : (t846 == t847) = false := beq_eq_false_iff_ne.mpr c13
      have c13b1 : (t846 != t847) = true := bne_iff_ne.mpr c13
      (first | rw [c13b0] | (simp only [i64_w, i32_w]; rw [c13b0]) | skip)
      have H' := ax H
      clear H
      go_wp2_with (first | ((with_reducible refine gate_callee (f := 40) rfl ?_); refine goesL_ (some 11) rfl rfl Tryz.func40 (by kernel_rfl) rfl #[.slice A0 l0.length c0] rfl xm ?_; (with_reducible refine (spec_l21Fine.calls k _ _ l0 true _ ?side1 ?side2 A5.out).mono ?_); (case side1 => exact xz HR0.out HB.out); (case side2 => exact HC0.out); rintro e w19 ⟨rfl, hb⟩; refine ⟨_, rfl, ?_⟩; replace HB := yB HB hb; (try clear hb)) | (go_at_call 40; (with_reducible refine (spec_l21Fine.calls k _ _ l1 true _ ?side1 ?side2 A7.out).mono ?_); (case side1 => exact xz HR1.out HB.out); (case side2 => exact HC1.out); rintro e w20 ⟨rfl, hb⟩; replace HB := yB HB hb; (try clear hb)) | (go_at_call 40; (with_reducible refine (spec_l21Fine.calls k _ _ l2 true _ ?side1 ?side2 A9.out).mono ?_); (case side1 => exact xz HR2.out HB.out); (case side2 => exact HC2.out); rintro e w21 ⟨rfl, hb⟩; replace HB := yB HB hb; (try clear hb)) | (go_at_call 36; (with_reducible refine (spec_l2Size.calls k _ _ l0 t846 _ ?side1 ?side2 A11.out).mono ?_); (case side1 => exact xz HR0.out HB.out); (case side2 => exact HC0.out); rintro e w' ⟨rfl, ⟨nd, rfl⟩⟩) | (go_at_call 36; (with_reducible refine (spec_l2Size.calls k _ _ l1 t847 _ ?side1 ?side2 A12.out).mono ?_); (case side1 => exact xc (Kd.C_below HR1.out (xb HB.out))); (case side2 => exact HC1.out); rintro e w' ⟨rfl, ⟨nd, rfl⟩⟩))
      go_meet
      case rel => exact ⟨_, (true), xr, H', ⟨by first | omega | exact Nat.le_refl _⟩, ⟨xb HB.out⟩⟩
    ·replace c10 := Bool.eq_false_iff.mpr c10
     subst c10
     rw [if_neg (show ¬ (false = true) by decide)] at H
     have H' := ax H
     clear H
     go_wp2_with (first | ((with_reducible refine gate_callee (f := 40) rfl ?_); refine goesL_ (some 11) rfl rfl Tryz.func40 (by kernel_rfl) rfl #[.slice A0 l0.length c0] rfl xm ?_; (with_reducible refine (spec_l21Fine.calls k _ _ l0 true _ ?side1 ?side2 A5.out).mono ?_); (case side1 => exact xz HR0.out HB.out); (case side2 => exact HC0.out); rintro e w22 ⟨rfl, hb⟩; refine ⟨_, rfl, ?_⟩; replace HB := yB HB hb; (try clear hb)) | (go_at_call 40; (with_reducible refine (spec_l21Fine.calls k _ _ l1 true _ ?side1 ?side2 A7.out).mono ?_); (case side1 => exact xz HR1.out HB.out); (case side2 => exact HC1.out); rintro e w23 ⟨rfl, hb⟩; replace HB := yB HB hb; (try clear hb)) | (go_at_call 40; (with_reducible refine (spec_l21Fine.calls k _ _ l2 false _ ?side1 ?side2 A9.out).mono ?_); (case side1 => exact xz HR2.out HB.out); (case side2 => exact HC2.out); rintro e w24 ⟨rfl, hb⟩; replace HB := yB HB hb; (try clear hb)))
     go_meet
     case rel => exact ⟨_, (true), xr, H', ⟨by first | omega | exact Nat.le_refl _⟩, ⟨xb HB.out⟩⟩
   ·replace c8 := Bool.eq_false_iff.mpr c8
    subst c8
    rw [if_neg (show ¬ (false = true) by decide)] at H
    have H' := ax H
    clear H
    go_wp2_with (first | ((with_reducible refine gate_callee (f := 40) rfl ?_); refine goesL_ (some 11) rfl rfl Tryz.func40 (by kernel_rfl) rfl #[.slice A0 l0.length c0] rfl xm ?_; (with_reducible refine (spec_l21Fine.calls k _ _ l0 true _ ?side1 ?side2 A5.out).mono ?_); (case side1 => exact xz HR0.out HB.out); (case side2 => exact HC0.out); rintro e w25 ⟨rfl, hb⟩; refine ⟨_, rfl, ?_⟩; replace HB := yB HB hb; (try clear hb)) | (go_at_call 40; (with_reducible refine (spec_l21Fine.calls k _ _ l1 false _ ?side1 ?side2 A7.out).mono ?_); (case side1 => exact xz HR1.out HB.out); (case side2 => exact HC1.out); rintro e w26 ⟨rfl, hb⟩; replace HB := yB HB hb; (try clear hb)))
    go_meet
    case rel => exact ⟨_, (true), xr, H', ⟨by first | omega | exact Nat.le_refl _⟩, ⟨xb HB.out⟩⟩
  ·replace c6 := Bool.eq_false_iff.mpr c6
   subst c6
   rw [if_neg (show ¬ (false = true) by decide)] at H
   have H' := ax H
   clear H
   go_wp2_with (first | ((with_reducible refine gate_callee (f := 40) rfl ?_); refine goesL_ (some 11) rfl rfl Tryz.func40 (by kernel_rfl) rfl #[.slice A0 l0.length c0] rfl xm ?_; (with_reducible refine (spec_l21Fine.calls k _ _ l0 false _ ?side1 ?side2 A5.out).mono ?_); (case side1 => exact xz HR0.out HB.out); (case side2 => exact HC0.out); rintro e w27 ⟨rfl, hb⟩; refine ⟨_, rfl, ?_⟩; replace HB := yB HB hb; (try clear hb)))
   go_meet
   case rel => exact ⟨_, (true), xr, H', ⟨by first | omega | exact Nat.le_refl _⟩, ⟨xb HB.out⟩⟩
 case rest =>
  clear HC4
  (try clear c1); (try clear c2); (try clear c6); (try clear c8); (try clear c10); (try clear c13); (try clear c13b0); (try clear c13b1)
  obtain ⟨kq, x36_3, rfl, HA, HJ3, HB⟩ := hcut
  cases kq with
  | zero => exact absurd HA.out (by simp [spec_KroneckerOf.j0])
  | succ kj3 =>
   have H := HA.out
   clear HA
   simp only [spec_KroneckerOf.j0] at H
   by_cases c28 : x36_3 = true
   ·subst c28
    rw [if_pos rfl] at H
    obtain rfl := Option.some.inj H
    go_wp2
    go_ret
    exact ⟨xe, xb HB.out⟩
   ·replace c28 := Bool.eq_false_iff.mpr c28
    subst c28
    rw [if_neg (show ¬ (false = true) by decide)] at H
    obtain ⟨t850, A29, H⟩ := xI H
    obtain ⟨t851, A30, H⟩ := xI H
    have H' := ax H
    clear H
    go_wp2_with (first | ((with_reducible refine gate_callee (f := 36) rfl ?_); refine goesL_ (some 38) rfl rfl Tryz.func36 (by kernel_rfl) rfl #[.slice A0 l0.length c0] rfl xm ?_; (with_reducible refine (spec_l2Size.calls kj3 _ _ l0 t850 _ ?side1 ?side2 A29.out).mono ?_); (case side1 => exact xz HR0.out HB.out); (case side2 => exact HC0.out); rintro e w' ⟨rfl, ⟨nd, rfl⟩⟩; refine ⟨_, rfl, ?_⟩) | ((with_reducible refine gate_callee (f := 21) rfl ?_); refine goesL_ (some 39) rfl rfl Tryz.func21 (by kernel_rfl) rfl #[.int .i64 t850] rfl xm ?_; (with_reducible refine (spec_PartitionsOf.calls kj3 t850 t851 _ A30.out).mono ?_); rintro e w31 ⟨v852, rfl, ho0, hb⟩; refine ⟨_, rfl, ?_⟩; have HO853 := ax (Kd.S_lower ho0 (below_size (xb HB.out))); replace HB := yB HB hb; (try clear hb); (try clear ho0)))
    go_loopg [7, 9] kj3 (fun kq v7 v9 w' => ∃ (x7_2 : Int) (x9_2 : Int), v7 = .int .i64 x7_2 ∧ v9 = .int .i64 x9_2 ∧ Aside0 (spec_KroneckerOf.l0 kq l0 l1 l2 x7_2 t851 x9_2 = some r) ∧ Aside0 (kq ≤ kj3) ∧ Aside0 (Kd.S (Kd.slice 3 (Kd.int .i64)) 24 w' w.heap.size (fun _ => True) v852 t851) ∧ Aside0 (Below w.heap.size w w'))
    case atStart => exact ⟨(0), (0), xr, xr, H', ⟨Nat.le_refl _⟩, ⟨xS HO853.out⟩, ⟨xb HB.out⟩⟩
    case round =>
     clear H'
     (try clear c1); (try clear c2); (try clear c6); (try clear c8); (try clear c10); (try clear c13); (try clear c13b0); (try clear c13b1); (try clear c28)
     obtain ⟨x7_2, x9_2, rfl, rfl, HA, HK2, HO_8, HB⟩ := hrel
     cases gk with
     | zero => exact absurd HA.out (by simp [spec_KroneckerOf.l0])
     | succ k2 =>
      have H := HA.out
      clear HA
      simp only [spec_KroneckerOf.l0] at H
      by_cases c32 : x9_2 < (t851.length : Int)
      ·rw [if_pos c32] at H
       have c32b0 := decide_eq_true c32
       clear c32
       obtain ⟨c33b0, H⟩ := xq H
       obtain ⟨t857, A34, H⟩ := xI H
       obtain ⟨t859, A35, H⟩ := xI H
       obtain ⟨t861, A36, H⟩ := xI H
       obtain ⟨t863, A37, H⟩ := xI H
       have H' := ax H
       clear H
       obtain ⟨Ao38, co38, eo38⟩ := Kd.S_slice HO_8.out
       subst eo38
       try go_wp2
       replace HO_8 := ax (Kd.S_drew HO_8.out); replace HB := ax (below_drew1 HB.out)
       have p856 : 0 ≤ (x9_2 : Int) := xd
       have q856 : x9_2 < (t851.length : Int) := xd
       obtain ⟨ad856, A856_0, c856_0, e856, hx856_0, hl856_0, hi856_0⟩ := at_L2 (Kd.S_reads' HO_8.out).2.2 x9_2 p856 q856
       cases e856
       obtain ⟨ce856, hce856, hMe856, hcc856⟩ := Kd.S_get HO_8.out [] x9_2 p856 (by first | exact q856 | exact xd | (have e_ := (Kd.S_reads' HO_8.out).1; omega))
       obtain ⟨ve856_0, rfl, ge856_0⟩ := hMe856
       have hv856_0 := hcc856 0 _ rfl
       rw [Nat.add_zero, show ((Kd.slice 3 (Kd.int .i64))).sz = 1 from rfl, Nat.mul_one] at hv856_0
       replace hv856_0 := Option.some.inj (hv856_0.symm.trans hx856_0)
       rw [hv856_0] at ge856_0
       have HL856_0 := ax (show Kd.R (Kd.int .i64) 3 _ _ _ _ (rd_L2 t851 x9_2) from ge856_0)
       clear hv856_0 ge856_0 hcc856 hce856
       have HR856_0 := ax hi856_0
       have HC856_0 := ax hl856_0
       clear hi856_0 hl856_0
       replace p856 := eq_true p856
       replace q856 := eq_true q856
       have p858 : 0 ≤ (x9_2 : Int) := xd
       have q858 : x9_2 < (t851.length : Int) := xd
       obtain ⟨ad858, A858_0, c858_0, e858, hx858_0, hl858_0, hi858_0⟩ := at_L2 (Kd.S_reads' HO_8.out).2.2 x9_2 p858 q858
       obtain rfl : ad856 = ad858 := (by injection e858)
       obtain ⟨ce858, hce858, hMe858, hcc858⟩ := Kd.S_get HO_8.out [] x9_2 p858 (by first | exact q858 | exact xd | (have e_ := (Kd.S_reads' HO_8.out).1; omega))
       obtain ⟨ve858_0, rfl, ge858_0⟩ := hMe858
       have hv858_0 := hcc858 0 _ rfl
       rw [Nat.add_zero, show ((Kd.slice 3 (Kd.int .i64))).sz = 1 from rfl, Nat.mul_one] at hv858_0
       replace hv858_0 := Option.some.inj (hv858_0.symm.trans hx858_0)
       rw [hv858_0] at ge858_0
       have HL858_0 := ax (show Kd.R (Kd.int .i64) 3 _ _ _ _ (rd_L2 t851 x9_2) from ge858_0)
       clear hv858_0 ge858_0 hcc858 hce858
       have HR858_0 := ax hi858_0
       have HC858_0 := ax hl858_0
       clear hi858_0 hl858_0
       replace p858 := eq_true p858
       replace q858 := eq_true q858
       have ea_ := Option.some.inj (hx856_0.symm.trans hx858_0)
       injection ea_ with ea_ en_ ec_
       subst ea_
       subst ec_
       clear en_
       have p860 : 0 ≤ (x9_2 : Int) := xd
       have q860 : x9_2 < (t851.length : Int) := xd
       obtain ⟨ad860, A860_0, c860_0, e860, hx860_0, hl860_0, hi860_0⟩ := at_L2 (Kd.S_reads' HO_8.out).2.2 x9_2 p860 q860
       obtain rfl : ad856 = ad860 := (by injection e860)
       obtain ⟨ce860, hce860, hMe860, hcc860⟩ := Kd.S_get HO_8.out [] x9_2 p860 (by first | exact q860 | exact xd | (have e_ := (Kd.S_reads' HO_8.out).1; omega))
       obtain ⟨ve860_0, rfl, ge860_0⟩ := hMe860
       have hv860_0 := hcc860 0 _ rfl
       rw [Nat.add_zero, show ((Kd.slice 3 (Kd.int .i64))).sz = 1 from rfl, Nat.mul_one] at hv860_0
       replace hv860_0 := Option.some.inj (hv860_0.symm.trans hx860_0)
       rw [hv860_0] at ge860_0
       have HL860_0 := ax (show Kd.R (Kd.int .i64) 3 _ _ _ _ (rd_L2 t851 x9_2) from ge860_0)
       clear hv860_0 ge860_0 hcc860 hce860
       have HR860_0 := ax hi860_0
       have HC860_0 := ax hl860_0
       clear hi860_0 hl860_0
       replace p860 := eq_true p860
       replace q860 := eq_true q860
       have ea_ := Option.some.inj (hx856_0.symm.trans hx860_0)
       injection ea_ with ea_ en_ ec_
       subst ea_
       subst ec_
       clear en_
       have p862 : 0 ≤ (x9_2 : Int) := xd
       have q862 : x9_2 < (t851.length : Int) := xd
       obtain ⟨ad862, A862_0, c862_0, e862, hx862_0, hl862_0, hi862_0⟩ := at_L2 (Kd.S_reads' HO_8.out).2.2 x9_2 p862 q862
       obtain rfl : ad856 = ad862 := (by injection e862)
       obtain ⟨ce862, hce862, hMe862, hcc862⟩ := Kd.S_get HO_8.out [] x9_2 p862 (by first | exact q862 | exact xd | (have e_ := (Kd.S_reads' HO_8.out).1; omega))
       obtain ⟨ve862_0, rfl, ge862_0⟩ := hMe862
       have hv862_0 := hcc862 0 _ rfl
       rw [Nat.add_zero, show ((Kd.slice 3 (Kd.int .i64))).sz = 1 from rfl, Nat.mul_one] at hv862_0
       replace hv862_0 := Option.some.inj (hv862_0.symm.trans hx862_0)
       rw [hv862_0] at ge862_0
       have HL862_0 := ax (show Kd.R (Kd.int .i64) 3 _ _ _ _ (rd_L2 t851 x9_2) from ge862_0)
       clear hv862_0 ge862_0 hcc862 hce862
       have HR862_0 := ax hi862_0
       have HC862_0 := ax hl862_0
       clear hi862_0 hl862_0
       replace p862 := eq_true p862
       replace q862 := eq_true q862
       have ea_ := Option.some.inj (hx856_0.symm.trans hx862_0)
       injection ea_ with ea_ en_ ec_
       subst ea_
       subst ec_
       clear en_
       refine start_ (n := 29) (S := fun w' => w'.cell? (ad856.add (x9_2).toNat) = some (.slice A856_0 (rd_L2 t851 x9_2).length c856_0) ∧ w'.cell? (ad856.add (x9_2).toNat) = some (.slice A856_0 (rd_L2 t851 x9_2).length c856_0) ∧ w'.cell? (ad856.add (x9_2).toNat) = some (.slice A856_0 (rd_L2 t851 x9_2).length c856_0) ∧ w'.cell? (ad856.add (x9_2).toNat) = some (.slice A856_0 (rd_L2 t851 x9_2).length c856_0)) (ds := []) (xB 29 0) (by kernel_rfl) rfl (by kernel_rfl) ⟨hx856_0, hx858_0, hx860_0, hx862_0⟩ (fun hHeld => ?_); refine with_tabW spec_KroneckerOf.tab8 spec_KroneckerOf.bits8 (fun HT_ HW_ => ?_)
       generalize wr.drew = w39 at HO_8 HB HL856_0 HL858_0 HL860_0 HL862_0 HR856_0 HR858_0 HR860_0 HR862_0 hx856_0 hx858_0 hx860_0 hx862_0 hHeld ⊢
       refine pu (i := 0) (N := some 46) (xB 29 1) HT_.out ?_
       refine pu (i := 1) (N := some 47) (xB 29 3) HT_.out ?_
       refine pu (i := 2) (N := some 48) (xB 29 7) HT_.out ?_
       refine pu (i := 3) (N := some 49) (xB 29 15) HT_.out ?_
       refine pu (i := 6) (N := some 52) (xB 29 79) HT_.out ?_
       refine pu (i := 7) (N := some 53) (xB 29 207) HT_.out ?_
       refine pu (i := 8) (N := some 54) (xB 29 463) HT_.out ?_
       refine pu (i := 9) (N := some 55) (xB 29 975) HT_.out ?_
       refine pu (i := 13) (N := some 59) (xB 29 9167) HT_.out ?_
       refine pu (i := 14) (N := some 60) (xB 29 25551) HT_.out ?_
       refine pu (i := 15) (N := some 61) (xB 29 58319) HT_.out ?_
       refine pu (i := 16) (N := some 62) (xB 29 123855) HT_.out ?_
       refine pu (i := 20) (N := some 66) (xB 29 1172431) HT_.out ?_
       refine pu (i := 21) (N := some 67) (xB 29 3269583) HT_.out ?_
       refine pu (i := 22) (N := some 68) (xB 29 7463887) HT_.out ?_
       refine pu (i := 23) (N := some 69) (xB 29 15852495) HT_.out ?_
       refine tk (i := 4) (N := some 50) (xB 29 15852511) HT_.out HW_.out hHeld ?_
       refine tk (i := 10) (N := some 56) (xB 29 15853535) HT_.out HW_.out hHeld ?_
       refine tk (i := 17) (N := some 63) (xB 29 15984607) HT_.out HW_.out hHeld ?_
       refine tk (i := 24) (N := some 70) (xB 29 32761823) HT_.out HW_.out hHeld ?_
       refine one_ (i := 5) (N := some 51) (xB 29 32761855) rfl rfl (one_of HT_.out (by kernel_rfl)) (by decide) (fun K hK => ?_)
       refine goes_ Tryz.func12 (by kernel_rfl) rfl #[.slice A856_0 (rd_L2 t851 x9_2).length c856_0] (by rfl) rfl rfl xm ?_
       with_reducible refine (spec_ClassSize.calls k2 _ _ (rd_L2 t851 x9_2) t857 _ ?side1 ?side2 A34.out).mono ?_
       (case side1 => exact xw HR856_0.out)
       (case side2 => exact HC856_0.out)
       rintro e w40 ⟨rfl, hb⟩
       have HS0_ := (hb.cell (World.block_lt_of_cell? _ _ (hHeld.1))).trans (hHeld.1)
       have HS1_ := (hb.cell (World.block_lt_of_cell? _ _ (hHeld.2.1))).trans (hHeld.2.1)
       have HS2_ := (hb.cell (World.block_lt_of_cell? _ _ (hHeld.2.2.1))).trans (hHeld.2.2.1)
       have HS3_ := (hb.cell (World.block_lt_of_cell? _ _ (hHeld.2.2.2))).trans (hHeld.2.2.2)
       refine ⟨_, rfl, ?_⟩
       replace HO_8 := ax (Kd.S_below (xS HO_8.out) hb); replace HL856_0 := yR HL856_0 hb; replace HL858_0 := yR HL858_0 hb; replace HL860_0 := yR HL860_0 hb; replace HL862_0 := yR HL862_0 hb; replace HR856_0 := ax (Kd.C_below (xw HR856_0.out) hb); replace HR858_0 := ax (Kd.C_below (xw HR858_0.out) hb); replace HR860_0 := ax (Kd.C_below (xw HR860_0.out) hb); replace HR862_0 := ax (Kd.C_below (xw HR862_0.out) hb); replace HB := yB HB hb
       (try clear hb)
       refine hK.out _ _ ⟨HS0_, HS1_, HS2_, HS3_⟩ (fun hHeld => ?_)
       clear hK K
       refine nm ?_
       refine one_ (i := 11) (N := some 57) (xB 29 32763903) rfl rfl (one_of HT_.out (by kernel_rfl)) (by decide) (fun K hK => ?_)
       refine goes_ Tryz.func41 (by kernel_rfl) rfl #[.slice A0 l0.length c0, .slice A856_0 (rd_L2 t851 x9_2).length c856_0] (by rfl) rfl rfl xm ?_
       with_reducible refine (spec_l22Character.calls k2 _ _ l0 _ _ (rd_L2 t851 x9_2) t859 _ ?side1 ?side2 ?side3 ?side4 A35.out).mono ?_
       (case side1 => exact xz HR0.out HB.out)
       (case side2 => exact HC0.out)
       (case side3 => exact xw HR858_0.out)
       (case side4 => exact HC858_0.out)
       rintro e w41 ⟨rfl, hb⟩
       have HS0_ := (hb.cell (World.block_lt_of_cell? _ _ (hHeld.1))).trans (hHeld.1)
       have HS1_ := (hb.cell (World.block_lt_of_cell? _ _ (hHeld.2.1))).trans (hHeld.2.1)
       have HS2_ := (hb.cell (World.block_lt_of_cell? _ _ (hHeld.2.2.1))).trans (hHeld.2.2.1)
       have HS3_ := (hb.cell (World.block_lt_of_cell? _ _ (hHeld.2.2.2))).trans (hHeld.2.2.2)
       refine ⟨_, rfl, ?_⟩
       replace HO_8 := ax (Kd.S_below (xS HO_8.out) hb); replace HL856_0 := yR HL856_0 hb; replace HL858_0 := yR HL858_0 hb; replace HL860_0 := yR HL860_0 hb; replace HL862_0 := yR HL862_0 hb; replace HR856_0 := ax (Kd.C_below (xw HR856_0.out) hb); replace HR858_0 := ax (Kd.C_below (xw HR858_0.out) hb); replace HR860_0 := ax (Kd.C_below (xw HR860_0.out) hb); replace HR862_0 := ax (Kd.C_below (xw HR862_0.out) hb); replace HB := yB HB hb
       (try clear hb)
       refine hK.out _ _ ⟨HS0_, HS1_, HS2_, HS3_⟩ (fun hHeld => ?_)
       clear hK K
       refine nm ?_
       refine pu (i := 12) (N := some 58) (xB 29 32767999) HT_.out ?_
       refine one_ (i := 18) (N := some 64) (xB 29 33030143) rfl rfl (one_of HT_.out (by kernel_rfl)) (by decide) (fun K hK => ?_)
       refine goes_ Tryz.func41 (by kernel_rfl) rfl #[.slice A1 l1.length c1, .slice A856_0 (rd_L2 t851 x9_2).length c856_0] (by rfl) rfl rfl xm ?_
       with_reducible refine (spec_l22Character.calls k2 _ _ l1 _ _ (rd_L2 t851 x9_2) t861 _ ?side1 ?side2 ?side3 ?side4 A36.out).mono ?_
       (case side1 => exact xz HR1.out HB.out)
       (case side2 => exact HC1.out)
       (case side3 => exact xw HR860_0.out)
       (case side4 => exact HC860_0.out)
       rintro e w42 ⟨rfl, hb⟩
       have HS0_ := (hb.cell (World.block_lt_of_cell? _ _ (hHeld.1))).trans (hHeld.1)
       have HS1_ := (hb.cell (World.block_lt_of_cell? _ _ (hHeld.2.1))).trans (hHeld.2.1)
       have HS2_ := (hb.cell (World.block_lt_of_cell? _ _ (hHeld.2.2.1))).trans (hHeld.2.2.1)
       have HS3_ := (hb.cell (World.block_lt_of_cell? _ _ (hHeld.2.2.2))).trans (hHeld.2.2.2)
       refine ⟨_, rfl, ?_⟩
       replace HO_8 := ax (Kd.S_below (xS HO_8.out) hb); replace HL856_0 := yR HL856_0 hb; replace HL858_0 := yR HL858_0 hb; replace HL860_0 := yR HL860_0 hb; replace HL862_0 := yR HL862_0 hb; replace HR856_0 := ax (Kd.C_below (xw HR856_0.out) hb); replace HR858_0 := ax (Kd.C_below (xw HR858_0.out) hb); replace HR860_0 := ax (Kd.C_below (xw HR860_0.out) hb); replace HR862_0 := ax (Kd.C_below (xw HR862_0.out) hb); replace HB := yB HB hb
       (try clear hb)
       refine hK.out _ _ ⟨HS0_, HS1_, HS2_, HS3_⟩ (fun hHeld => ?_)
       clear hK K
       refine nm ?_
       refine pu (i := 19) (N := some 65) (xB 29 33554431) HT_.out ?_
       refine one_ (i := 25) (N := some 71) (xB 29 67108863) rfl rfl (one_of HT_.out (by kernel_rfl)) (by decide) (fun K hK => ?_)
       refine goes_ Tryz.func41 (by kernel_rfl) rfl #[.slice A2 l2.length c2, .slice A856_0 (rd_L2 t851 x9_2).length c856_0] (by rfl) rfl rfl xm ?_
       with_reducible refine (spec_l22Character.calls k2 _ _ l2 _ _ (rd_L2 t851 x9_2) t863 _ ?side1 ?side2 ?side3 ?side4 A37.out).mono ?_
       (case side1 => exact xz HR2.out HB.out)
       (case side2 => exact HC2.out)
       (case side3 => exact xw HR862_0.out)
       (case side4 => exact HC862_0.out)
       rintro e w43 ⟨rfl, hb⟩
       have HS0_ := (hb.cell (World.block_lt_of_cell? _ _ (hHeld.1))).trans (hHeld.1)
       have HS1_ := (hb.cell (World.block_lt_of_cell? _ _ (hHeld.2.1))).trans (hHeld.2.1)
       have HS2_ := (hb.cell (World.block_lt_of_cell? _ _ (hHeld.2.2.1))).trans (hHeld.2.2.1)
       have HS3_ := (hb.cell (World.block_lt_of_cell? _ _ (hHeld.2.2.2))).trans (hHeld.2.2.2)
       refine ⟨_, rfl, ?_⟩
       replace HO_8 := ax (Kd.S_below (xS HO_8.out) hb); replace HL856_0 := yR HL856_0 hb; replace HL858_0 := yR HL858_0 hb; replace HL860_0 := yR HL860_0 hb; replace HL862_0 := yR HL862_0 hb; replace HR856_0 := ax (Kd.C_below (xw HR856_0.out) hb); replace HR858_0 := ax (Kd.C_below (xw HR858_0.out) hb); replace HR860_0 := ax (Kd.C_below (xw HR860_0.out) hb); replace HR862_0 := ax (Kd.C_below (xw HR862_0.out) hb); replace HB := yB HB hb
       (try clear hb)
       refine hK.out _ _ ⟨HS0_, HS1_, HS2_, HS3_⟩ (fun hHeld => ?_)
       clear hK K
       refine nm ?_
       refine pu (i := 26) (N := some 72) (xB 29 134217727) HT_.out ?_
       refine pu (i := 27) (N := some 73) (xB 29 268435455) HT_.out ?_
       refine pu (i := 28) (N := some 7) (xB 29 536870911) HT_.out ?_
       refine done_ (done_of HT_.out (by kernel_rfl)) ?_
       try go_wp2
       go_roundg k2
       case measure => have := HJ3.out; have := HK2.out; omega
       case rel => exact ⟨(wrap64 (x7_2 + (wrap64 ((wrap64 ((wrap64 (t857 * t859)) * t861)) * t863)))), (wrap64 (x9_2 + 1)), xr, xr, H', ⟨by have := HJ3.out; have := HK2.out; omega⟩, ⟨xS HO_8.out⟩, ⟨xb HB.out⟩⟩
      ·rw [if_neg c32] at H
       have c32b0 := decide_eq_false c32
       clear c32
       obtain ⟨t854, A44, H⟩ := xI H
       obtain ⟨t855, A45, H⟩ := xI H
       by_cases c46 : t855 = 0
       ·rw [if_pos c46] at H
        exact absurd H (by simp)
       ·rw [if_neg c46] at H
        have c46b0 : (t855 == 0) = false := beq_eq_false_iff_ne.mpr c46
        have c46b1 : (t855 != 0) = true := bne_iff_ne.mpr c46
        obtain rfl := Option.some.inj H
        obtain ⟨Ao47, co47, eo47⟩ := Kd.S_slice HO_8.out
        subst eo47
        go_wp2_with (first | ((with_reducible refine gate_callee (f := 36) rfl ?_); refine goesL_ (some 76) rfl rfl Tryz.func36 (by kernel_rfl) rfl #[.slice A0 l0.length c0] rfl xm ?_; (with_reducible refine (spec_l2Size.calls k2 _ _ l0 t854 _ ?side1 ?side2 A44.out).mono ?_); (case side1 => exact xz HR0.out HB.out); (case side2 => exact HC0.out); rintro e w' ⟨rfl, ⟨nd, rfl⟩⟩; refine ⟨_, rfl, ?_⟩) | ((with_reducible refine gate_callee (f := 35) rfl ?_); refine goesL_ (some 77) rfl rfl Tryz.func35 (by kernel_rfl) rfl #[.int .i64 t854] rfl xm ?_; (with_reducible refine (spec_l3Factorial.calls k2 t854 t855 _ A45.out).mono ?_); rintro e w' ⟨rfl, ⟨nd, rfl⟩⟩; refine ⟨_, rfl, ?_⟩))
        go_ret
        exact ⟨xe, xb HB.out⟩

end Go.Proofs.YtopmggldaicpaacGreat.PFnKronecker
