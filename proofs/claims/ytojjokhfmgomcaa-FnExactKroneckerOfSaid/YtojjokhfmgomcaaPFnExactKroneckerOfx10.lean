-- Written by a program of this session (wip/print/xprint.py).
import Derived.Test.YtojjokhfmgomcaaPFnExactKroneckerOfx0
import Derived.Test.YtojjokhfmgomcaaPFnExactKroneckerOfx1
import Derived.Test.YtojjokhfmgomcaaPFnExactKroneckerOfx3
import Derived.Test.YtojjokhfmgomcaaPFnExactKroneckerOfx8
import Derived.Test.YtojjokhfmgomcaaPFnExactKroneckerOfx9
namespace Go.Proofs.Ytojjokhfmgomcaa.PFnExactKroneckerOf
open Go.RowKit Go.Proofs.YtojjokhfmgomcaaW.PrintWords Go.Proofs.YtojjokhfmgomcaaW.PrintLast Go.Proofs.YtojjokhfmgomcaaW.PrintMore
attribute [local go_sem] max2_int min2_int max_two min_two max_three min_three max_four min_four   -- for this text's walks alone
set_option linter.unusedVariables false
set_option linter.unusedSimpArgs false

/-! ### spec_KroneckerOf: function 26 -/
mutual
def spec_KroneckerOf.j0 : Nat → List Int → List Int → List Int → Bool → Option (Int)
  | 0, _, _, _, _ => none
  | k + 1, x0, x1, x2, x36 => if x36 = true then (some 0) else ((spec_l2Size.f k x0).bind fun t279 => ((spec_PartitionsOf.f k t279).bind fun t280 => (spec_KroneckerOf.l0 k x0 x1 x2 0 t280 0)))
def spec_KroneckerOf.l0 : Nat → List Int → List Int → List Int → Int → List (List Int) → Int → Option (Int)
  | 0, _, _, _, _, _, _ => none
  | k + 1, x0, x1, x2, x7, x8, x9 => if x9 < (x8.length : Int) then (if 0 ≤ x9 then ((spec_ClassSize.f k (rd_L1 x8 x9)).bind fun t286 => ((spec_l22Character.f k x0 (rd_L1 x8 x9)).bind fun t288 => ((spec_l22Character.f k x1 (rd_L1 x8 x9)).bind fun t290 => ((spec_l22Character.f k x2 (rd_L1 x8 x9)).bind fun t292 => (spec_KroneckerOf.l0 k x0 x1 x2 (wrap64 (x7 + (wrap64 ((wrap64 ((wrap64 (t286 * t288)) * t290)) * t292)))) x8 (wrap64 (x9 + 1))))))) else (none)) else ((spec_l2Size.f k x0).bind fun t283 => ((spec_l3Factorial.f k t283).bind fun t284 => (if t284 = 0 then (none) else (some (wrap64 (Int.tdiv x7 t284))))))
end
def spec_KroneckerOf.f (k : Nat) (l0 : List Int) (l1 : List Int) (l2 : List Int) : Option (Int) := (spec_l21Fine.f k l0).bind fun t272 => (if t272 = true then ((spec_l21Fine.f k l1).bind fun t273 => (if t273 = true then ((spec_l21Fine.f k l2).bind fun t274 => (if t274 = true then ((spec_l2Size.f k l0).bind fun t275 => ((spec_l2Size.f k l1).bind fun t276 => (if t275 = t276 then ((spec_l2Size.f k l0).bind fun t277 => ((spec_l2Size.f k l2).bind fun t278 => (spec_KroneckerOf.j0 k l0 l1 l2 (t277 != t278)))) else (spec_KroneckerOf.j0 k l0 l1 l2 true)))) else (spec_KroneckerOf.j0 k l0 l1 l2 true))) else (spec_KroneckerOf.j0 k l0 l1 l2 true))) else (spec_KroneckerOf.j0 k l0 l1 l2 true))
theorem spec_KroneckerOf.mono_l : ∀ k, (∀ y0 y1 y2 y3, LeO (spec_KroneckerOf.j0 k y0 y1 y2 y3) (spec_KroneckerOf.j0 (k + 1) y0 y1 y2 y3)) ∧ (∀ y0 y1 y2 y3 y4 y5, LeO (spec_KroneckerOf.l0 k y0 y1 y2 y3 y4 y5) (spec_KroneckerOf.l0 (k + 1) y0 y1 y2 y3 y4 y5))
  | 0 => ⟨fun _ _ _ _ r h => by simp [spec_KroneckerOf.j0] at h, fun _ _ _ _ _ _ r h => by simp [spec_KroneckerOf.l0] at h⟩
  | k + 1 => by
    obtain ⟨ih0, ih1⟩ := spec_KroneckerOf.mono_l k
    refine ⟨?_, ?_⟩
    · intro y0 y1 y2 y3
      unfold spec_KroneckerOf.j0
      repeat' first
      | (with_reducible exact ih0 _ _ _ _)
      | (with_reducible exact ih1 _ _ _ _ _ _)
      | (with_reducible exact spec_ClassSize.mono _ _)
      | (with_reducible exact spec_PartitionsOf.mono _ _)
      | (with_reducible exact spec_l21Fine.mono _ _)
      | (with_reducible exact spec_l22Character.mono _ _ _)
      | (with_reducible exact spec_l2Size.mono _ _)
      | (with_reducible exact spec_l3Factorial.mono _ _)
      | (with_reducible exact LeO.refl _)
      | (with_reducible exact LeO.none _)
      | (with_reducible refine LeO.ite ?_ ?_)
      | (with_reducible refine LeO.bind ?_ (fun _ => ?_))
      | exact ih0 _ _ _ _
      | exact ih1 _ _ _ _ _ _
      | exact spec_ClassSize.mono _ _
      | exact spec_PartitionsOf.mono _ _
      | exact spec_l21Fine.mono _ _
      | exact spec_l22Character.mono _ _ _
      | exact spec_l2Size.mono _ _
      | exact spec_l3Factorial.mono _ _
      | exact LeO.none _
      | refine LeO.ite ?_ ?_
      | refine LeO.bind ?_ (fun _ => ?_)
    · intro y0 y1 y2 y3 y4 y5
      unfold spec_KroneckerOf.l0
      repeat' first
      | (with_reducible exact ih0 _ _ _ _)
      | (with_reducible exact ih1 _ _ _ _ _ _)
      | (with_reducible exact spec_ClassSize.mono _ _)
      | (with_reducible exact spec_PartitionsOf.mono _ _)
      | (with_reducible exact spec_l21Fine.mono _ _)
      | (with_reducible exact spec_l22Character.mono _ _ _)
      | (with_reducible exact spec_l2Size.mono _ _)
      | (with_reducible exact spec_l3Factorial.mono _ _)
      | (with_reducible exact LeO.refl _)
      | (with_reducible exact LeO.none _)
      | (with_reducible refine LeO.ite ?_ ?_)
      | (with_reducible refine LeO.bind ?_ (fun _ => ?_))
      | exact ih0 _ _ _ _
      | exact ih1 _ _ _ _ _ _
      | exact spec_ClassSize.mono _ _
      | exact spec_PartitionsOf.mono _ _
      | exact spec_l21Fine.mono _ _
      | exact spec_l22Character.mono _ _ _
      | exact spec_l2Size.mono _ _
      | exact spec_l3Factorial.mono _ _
      | exact LeO.none _
      | refine LeO.ite ?_ ?_
      | refine LeO.bind ?_ (fun _ => ?_)
theorem spec_KroneckerOf.mono : ∀ a0 a1 a2 k, LeO (spec_KroneckerOf.f k a0 a1 a2) (spec_KroneckerOf.f (k + 1) a0 a1 a2) := by
  intro a0 a1 a2 k
  obtain ⟨ih0, ih1⟩ := spec_KroneckerOf.mono_l k
  unfold spec_KroneckerOf.f
  repeat' first
      | (with_reducible exact ih0 _ _ _ _)
      | (with_reducible exact ih1 _ _ _ _ _ _)
      | (with_reducible exact spec_ClassSize.mono _ _)
      | (with_reducible exact spec_PartitionsOf.mono _ _)
      | (with_reducible exact spec_l21Fine.mono _ _)
      | (with_reducible exact spec_l22Character.mono _ _ _)
      | (with_reducible exact spec_l2Size.mono _ _)
      | (with_reducible exact spec_l3Factorial.mono _ _)
      | (with_reducible exact LeO.refl _)
      | (with_reducible exact LeO.none _)
      | (with_reducible refine LeO.ite ?_ ?_)
      | (with_reducible refine LeO.bind ?_ (fun _ => ?_))
      | exact ih0 _ _ _ _
      | exact ih1 _ _ _ _ _ _
      | exact spec_ClassSize.mono _ _
      | exact spec_PartitionsOf.mono _ _
      | exact spec_l21Fine.mono _ _
      | exact spec_l22Character.mono _ _ _
      | exact spec_l2Size.mono _ _
      | exact spec_l3Factorial.mono _ _
      | exact LeO.none _
      | refine LeO.ite ?_ ?_
      | refine LeO.bind ?_ (fun _ => ?_)
def spec_KroneckerOf.T8 : Bool × List (List Nat × List Nat) := (true, [([], []), ([], []), ([], []), ([1, 2], [1, 2]), ([3], [3]), ([4], [4]), ([], []), ([], []), ([], []), ([7, 8], [7, 8]), ([9], [9]), ([6, 10, 5], [6, 10]), ([5, 11], [5, 11]), ([], []), ([], []), ([], []), ([14, 15], [14, 15]), ([16], [16]), ([13, 17, 11], [13, 17]), ([12, 18], [12, 18]), ([], []), ([], []), ([], []), ([21, 22], [21, 22]), ([23], [23]), ([20, 24, 18], [20, 24]), ([19, 25], [19, 25]), ([0, 26], [0, 26]), ([27, 25, 0, 1, 2, 3, 4, 5, 6, 7, 8, 9, 10, 11, 12, 13, 14, 15, 16, 17, 18, 19, 20, 21, 22, 23, 24, 25, 26, 27], [0, 27])])
def spec_KroneckerOf.B8 : List Nat := [0, 0, 0, 6, 14, 30, 0, 0, 0, 384, 896, 2046, 4094, 0, 0, 0, 49152, 114688, 258046, 524286, 0, 0, 0, 6291456, 14680064, 33026046, 67108862, 134217727, 268435455]
theorem spec_KroneckerOf.tab8 : rtab .any (opsOf Try.f26 8) = spec_KroneckerOf.T8 := by kernel_rfl
theorem spec_KroneckerOf.bits8 : waitsOk spec_KroneckerOf.T8.2 spec_KroneckerOf.B8 = true := by kernel_rfl
set_option maxHeartbeats 8000000 in
set_option maxRecDepth 100000 in
theorem spec_KroneckerOf.calls (k : Nat) (A0 : Option Addr) (c0 : Nat) (l0 : List Int) (A1 : Option Addr) (c1 : Nat) (l1 : List Int) (A2 : Option Addr) (c2 : Nat) (l2 : List Int) (r : Int) (w : World) (hr0 : Kd.C (Kd.int .i64) w A0 l0.length l0) (hc0 : l0.length ≤ c0) (hr1 : Kd.C (Kd.int .i64) w A1 l1.length l1) (hc1 : l1.length ≤ c1) (hr2 : Kd.C (Kd.int .i64) w A2 l2.length l2) (hc2 : l2.length ≤ c2) (h : spec_KroneckerOf.f k l0 l1 l2 = some r) :
    Calls Try.prog 26 #[.slice A0 l0.length c0, .slice A1 l1.length c1, .slice A2 l2.length c2] w fun e w' => e = .returned (.int .i64 r) ∧ Below w.heap.size w w' := by
  have HR0 := Aside0.mk hr0
  have HC0 := Aside0.mk hc0
  clear hr0 hc0
  have HR1 := Aside0.mk hr1
  have HC1 := Aside0.mk hc1
  clear hr1 hc1
  have HR2 := Aside0.mk hr2
  have HC2 := Aside0.mk hc2
  clear hr2 hc2
  have HB := Aside0.mk (Below.refl w.heap.size w)
  have H : ((spec_l21Fine.f k l0).bind fun t272 => (if t272 = true then ((spec_l21Fine.f k l1).bind fun t273 => (if t273 = true then ((spec_l21Fine.f k l2).bind fun t274 => (if t274 = true then ((spec_l2Size.f k l0).bind fun t275 => ((spec_l2Size.f k l1).bind fun t276 => (if t275 = t276 then ((spec_l2Size.f k l0).bind fun t277 => ((spec_l2Size.f k l2).bind fun t278 => (spec_KroneckerOf.j0 k l0 l1 l2 (t277 != t278)))) else (spec_KroneckerOf.j0 k l0 l1 l2 true)))) else (spec_KroneckerOf.j0 k l0 l1 l2 true))) else (spec_KroneckerOf.j0 k l0 l1 l2 true))) else (spec_KroneckerOf.j0 k l0 l1 l2 true))) = some r := h
  clear h
  have HC4 := Aside0.mk H
  clear H
  go_enter Try.func26, Try.ntmps26
  go_upto_region 1 with (fail)
  go_cut [36] (fun v36 wc => ∃ (kq : Nat) (x36_3 : Bool), v36 = .bool x36_3 ∧ Aside0 (spec_KroneckerOf.j0 kq l0 l1 l2 x36_3 = some r) ∧ Aside0 (kq ≤ k) ∧ Aside0 (Below w.heap.size w wc))
  case first =>
    have H := HC4.out
    clear HC4
    replace H := Option.bind_eq_some_iff.mp H
    obtain ⟨t272, A50, H⟩ := H
    replace H : (if t272 = true then ((spec_l21Fine.f k l1).bind fun t273 => (if t273 = true then ((spec_l21Fine.f k l2).bind fun t274 => (if t274 = true then ((spec_l2Size.f k l0).bind fun t275 => ((spec_l2Size.f k l1).bind fun t276 => (if t275 = t276 then ((spec_l2Size.f k l0).bind fun t277 => ((spec_l2Size.f k l2).bind fun t278 => (spec_KroneckerOf.j0 k l0 l1 l2 (t277 != t278)))) else (spec_KroneckerOf.j0 k l0 l1 l2 true)))) else (spec_KroneckerOf.j0 k l0 l1 l2 true))) else (spec_KroneckerOf.j0 k l0 l1 l2 true))) else (spec_KroneckerOf.j0 k l0 l1 l2 true)) = some r := H
    have A5 := Aside0.mk A50
    clear A50
    by_cases c6 : t272 = true
    · subst c6
      have H1 : ((spec_l21Fine.f k l1).bind fun t273 => (if t273 = true then ((spec_l21Fine.f k l2).bind fun t274 => (if t274 = true then ((spec_l2Size.f k l0).bind fun t275 => ((spec_l2Size.f k l1).bind fun t276 => (if t275 = t276 then ((spec_l2Size.f k l0).bind fun t277 => ((spec_l2Size.f k l2).bind fun t278 => (spec_KroneckerOf.j0 k l0 l1 l2 (t277 != t278)))) else (spec_KroneckerOf.j0 k l0 l1 l2 true)))) else (spec_KroneckerOf.j0 k l0 l1 l2 true))) else (spec_KroneckerOf.j0 k l0 l1 l2 true))) = some r := by rw [if_pos rfl] at H; exact H
      clear H
      have H := H1
      clear H1
      replace H := Option.bind_eq_some_iff.mp H
      obtain ⟨t273, A70, H⟩ := H
      replace H : (if t273 = true then ((spec_l21Fine.f k l2).bind fun t274 => (if t274 = true then ((spec_l2Size.f k l0).bind fun t275 => ((spec_l2Size.f k l1).bind fun t276 => (if t275 = t276 then ((spec_l2Size.f k l0).bind fun t277 => ((spec_l2Size.f k l2).bind fun t278 => (spec_KroneckerOf.j0 k l0 l1 l2 (t277 != t278)))) else (spec_KroneckerOf.j0 k l0 l1 l2 true)))) else (spec_KroneckerOf.j0 k l0 l1 l2 true))) else (spec_KroneckerOf.j0 k l0 l1 l2 true)) = some r := H
      have A7 := Aside0.mk A70
      clear A70
      by_cases c8 : t273 = true
      · subst c8
        have H1 : ((spec_l21Fine.f k l2).bind fun t274 => (if t274 = true then ((spec_l2Size.f k l0).bind fun t275 => ((spec_l2Size.f k l1).bind fun t276 => (if t275 = t276 then ((spec_l2Size.f k l0).bind fun t277 => ((spec_l2Size.f k l2).bind fun t278 => (spec_KroneckerOf.j0 k l0 l1 l2 (t277 != t278)))) else (spec_KroneckerOf.j0 k l0 l1 l2 true)))) else (spec_KroneckerOf.j0 k l0 l1 l2 true))) = some r := by rw [if_pos rfl] at H; exact H
        clear H
        have H := H1
        clear H1
        replace H := Option.bind_eq_some_iff.mp H
        obtain ⟨t274, A90, H⟩ := H
        replace H : (if t274 = true then ((spec_l2Size.f k l0).bind fun t275 => ((spec_l2Size.f k l1).bind fun t276 => (if t275 = t276 then ((spec_l2Size.f k l0).bind fun t277 => ((spec_l2Size.f k l2).bind fun t278 => (spec_KroneckerOf.j0 k l0 l1 l2 (t277 != t278)))) else (spec_KroneckerOf.j0 k l0 l1 l2 true)))) else (spec_KroneckerOf.j0 k l0 l1 l2 true)) = some r := H
        have A9 := Aside0.mk A90
        clear A90
        by_cases c10 : t274 = true
        · subst c10
          have H1 : ((spec_l2Size.f k l0).bind fun t275 => ((spec_l2Size.f k l1).bind fun t276 => (if t275 = t276 then ((spec_l2Size.f k l0).bind fun t277 => ((spec_l2Size.f k l2).bind fun t278 => (spec_KroneckerOf.j0 k l0 l1 l2 (t277 != t278)))) else (spec_KroneckerOf.j0 k l0 l1 l2 true)))) = some r := by rw [if_pos rfl] at H; exact H
          clear H
          have H := H1
          clear H1
          replace H := Option.bind_eq_some_iff.mp H
          obtain ⟨t275, A110, H⟩ := H
          replace H : ((spec_l2Size.f k l1).bind fun t276 => (if t275 = t276 then ((spec_l2Size.f k l0).bind fun t277 => ((spec_l2Size.f k l2).bind fun t278 => (spec_KroneckerOf.j0 k l0 l1 l2 (t277 != t278)))) else (spec_KroneckerOf.j0 k l0 l1 l2 true))) = some r := H
          have A11 := Aside0.mk A110
          clear A110
          replace H := Option.bind_eq_some_iff.mp H
          obtain ⟨t276, A120, H⟩ := H
          replace H : (if t275 = t276 then ((spec_l2Size.f k l0).bind fun t277 => ((spec_l2Size.f k l2).bind fun t278 => (spec_KroneckerOf.j0 k l0 l1 l2 (t277 != t278)))) else (spec_KroneckerOf.j0 k l0 l1 l2 true)) = some r := H
          have A12 := Aside0.mk A120
          clear A120
          by_cases c13 : t275 = t276
          · rw [if_pos c13] at H
            have c13b0 : (t275 == t276) = true := beq_iff_eq.mpr c13
            have c13b1 : (t275 != t276) = false := bne_eq_false_iff_eq.mpr c13
            clear c13
            (first | rw [c13b0] | (simp only [i64_w, i32_w]; rw [c13b0]) | skip)
            replace H := Option.bind_eq_some_iff.mp H
            obtain ⟨t277, A140, H⟩ := H
            obtain rfl : t275 = t277 := Option.some.inj ((A11.out).symm.trans A140)
            replace H : ((spec_l2Size.f k l2).bind fun t278 => (spec_KroneckerOf.j0 k l0 l1 l2 (t275 != t278))) = some r := H
            have A14 := Aside0.mk A140
            clear A140
            replace H := Option.bind_eq_some_iff.mp H
            obtain ⟨t278, A150, H⟩ := H
            replace H : (spec_KroneckerOf.j0 k l0 l1 l2 (t275 != t278)) = some r := H
            have A15 := Aside0.mk A150
            clear A150
            have H' := Aside0.mk H
            clear H
            go_wp2_with (first | ((with_reducible refine gate_callee (f := 37) rfl ?_); refine goesL_ (some 11) rfl rfl Try.func37 (by kernel_rfl) rfl #[.slice A0 l0.length c0] rfl xm ?_; (with_reducible refine (spec_l21Fine.calls k _ _ l0 true _ ?side1 ?side2 A5.out).mono ?_); (case side1 => first | exact xc (Kd.C_below HR0.out HB.out) | exact xc HR0.out); (case side2 => exact HC0.out); rintro e w16 ⟨rfl, hb⟩; refine ⟨_, rfl, ?_⟩; have n0_ := Aside0.mk (below_step (xb HB.out) hb); clear HB; have HB := n0_; clear n0_; (try clear hb); (try clear hb2); (try clear hk); (try clear hi)) | (go_at_call 37; (with_reducible refine (spec_l21Fine.calls k _ _ l1 true _ ?side1 ?side2 A7.out).mono ?_); (case side1 => first | exact xc (Kd.C_below HR1.out HB.out) | exact xc HR1.out); (case side2 => exact HC1.out); rintro e w17 ⟨rfl, hb⟩; have n0_ := Aside0.mk (below_step (xb HB.out) hb); clear HB; have HB := n0_; clear n0_; (try clear hb); (try clear hb2); (try clear hk); (try clear hi)) | (go_at_call 37; (with_reducible refine (spec_l21Fine.calls k _ _ l2 true _ ?side1 ?side2 A9.out).mono ?_); (case side1 => first | exact xc (Kd.C_below HR2.out HB.out) | exact xc HR2.out); (case side2 => exact HC2.out); rintro e w18 ⟨rfl, hb⟩; have n0_ := Aside0.mk (below_step (xb HB.out) hb); clear HB; have HB := n0_; clear n0_; (try clear hb); (try clear hb2); (try clear hk); (try clear hi)) | (go_at_call 39; (with_reducible refine (spec_l2Size.calls k _ _ l0 t275 _ ?side1 ?side2 A11.out).mono ?_); (case side1 => first | exact xc (Kd.C_below HR0.out HB.out) | exact xc HR0.out); (case side2 => exact HC0.out); rintro e w' ⟨rfl, ⟨nd, rfl⟩⟩) | (go_at_call 39; (with_reducible refine (spec_l2Size.calls k _ _ l1 t276 _ ?side1 ?side2 A12.out).mono ?_); (case side1 => exact xc (Kd.C_below HR1.out (xb HB.out))); (case side2 => exact HC1.out); rintro e w' ⟨rfl, ⟨nd, rfl⟩⟩) | (go_at_call 39; (with_reducible refine (spec_l2Size.calls k _ _ l0 t275 _ ?side1 ?side2 A14.out).mono ?_); (case side1 => exact xc (Kd.C_below HR0.out (xb HB.out))); (case side2 => exact HC0.out); rintro e w' ⟨rfl, ⟨nd, rfl⟩⟩) | (go_at_call 39; (with_reducible refine (spec_l2Size.calls k _ _ l2 t278 _ ?side1 ?side2 A15.out).mono ?_); (case side1 => exact xc (Kd.C_below HR2.out (xb HB.out))); (case side2 => exact HC2.out); rintro e w' ⟨rfl, ⟨nd, rfl⟩⟩))
            go_meet
            case rel => exact ⟨_, ((t275 != t278)), (by first | rfl | (simp; done) | (simp [*]; done)), H', ⟨by first | omega | exact Nat.le_refl _⟩, ⟨by repeat (first | (with_reducible first | exact HB.out | apply below_alloc | apply pw_below_drewN | apply below_drew1) | exact HB.out)⟩⟩
          · rw [if_neg c13] at H
            have c13b0 : (t275 == t276) = false := beq_eq_false_iff_ne.mpr c13
            have c13b1 : (t275 != t276) = true := bne_iff_ne.mpr c13
            (first | rw [c13b0] | (simp only [i64_w, i32_w]; rw [c13b0]) | skip)
            have H' := Aside0.mk H
            clear H
            go_wp2_with (first | ((with_reducible refine gate_callee (f := 37) rfl ?_); refine goesL_ (some 11) rfl rfl Try.func37 (by kernel_rfl) rfl #[.slice A0 l0.length c0] rfl xm ?_; (with_reducible refine (spec_l21Fine.calls k _ _ l0 true _ ?side1 ?side2 A5.out).mono ?_); (case side1 => first | exact xc (Kd.C_below HR0.out HB.out) | exact xc HR0.out); (case side2 => exact HC0.out); rintro e w19 ⟨rfl, hb⟩; refine ⟨_, rfl, ?_⟩; have n0_ := Aside0.mk (below_step (xb HB.out) hb); clear HB; have HB := n0_; clear n0_; (try clear hb); (try clear hb2); (try clear hk); (try clear hi)) | (go_at_call 37; (with_reducible refine (spec_l21Fine.calls k _ _ l1 true _ ?side1 ?side2 A7.out).mono ?_); (case side1 => first | exact xc (Kd.C_below HR1.out HB.out) | exact xc HR1.out); (case side2 => exact HC1.out); rintro e w20 ⟨rfl, hb⟩; have n0_ := Aside0.mk (below_step (xb HB.out) hb); clear HB; have HB := n0_; clear n0_; (try clear hb); (try clear hb2); (try clear hk); (try clear hi)) | (go_at_call 37; (with_reducible refine (spec_l21Fine.calls k _ _ l2 true _ ?side1 ?side2 A9.out).mono ?_); (case side1 => first | exact xc (Kd.C_below HR2.out HB.out) | exact xc HR2.out); (case side2 => exact HC2.out); rintro e w21 ⟨rfl, hb⟩; have n0_ := Aside0.mk (below_step (xb HB.out) hb); clear HB; have HB := n0_; clear n0_; (try clear hb); (try clear hb2); (try clear hk); (try clear hi)) | (go_at_call 39; (with_reducible refine (spec_l2Size.calls k _ _ l0 t275 _ ?side1 ?side2 A11.out).mono ?_); (case side1 => first | exact xc (Kd.C_below HR0.out HB.out) | exact xc HR0.out); (case side2 => exact HC0.out); rintro e w' ⟨rfl, ⟨nd, rfl⟩⟩) | (go_at_call 39; (with_reducible refine (spec_l2Size.calls k _ _ l1 t276 _ ?side1 ?side2 A12.out).mono ?_); (case side1 => exact xc (Kd.C_below HR1.out (xb HB.out))); (case side2 => exact HC1.out); rintro e w' ⟨rfl, ⟨nd, rfl⟩⟩))
            go_meet
            case rel => exact ⟨_, (true), (by first | rfl | (simp; done) | (simp [*]; done)), H', ⟨by first | omega | exact Nat.le_refl _⟩, ⟨by repeat (first | (with_reducible first | exact HB.out | apply below_alloc | apply pw_below_drewN | apply below_drew1) | exact HB.out)⟩⟩
        · replace c10 := Bool.eq_false_iff.mpr c10
          subst c10
          have H1 : (spec_KroneckerOf.j0 k l0 l1 l2 true) = some r := by rw [if_neg (show ¬ (false = true) by decide)] at H; exact H
          clear H
          have H := H1
          clear H1
          have H' := Aside0.mk H
          clear H
          go_wp2_with (first | ((with_reducible refine gate_callee (f := 37) rfl ?_); refine goesL_ (some 11) rfl rfl Try.func37 (by kernel_rfl) rfl #[.slice A0 l0.length c0] rfl xm ?_; (with_reducible refine (spec_l21Fine.calls k _ _ l0 true _ ?side1 ?side2 A5.out).mono ?_); (case side1 => first | exact xc (Kd.C_below HR0.out HB.out) | exact xc HR0.out); (case side2 => exact HC0.out); rintro e w22 ⟨rfl, hb⟩; refine ⟨_, rfl, ?_⟩; have n0_ := Aside0.mk (below_step (xb HB.out) hb); clear HB; have HB := n0_; clear n0_; (try clear hb); (try clear hb2); (try clear hk); (try clear hi)) | (go_at_call 37; (with_reducible refine (spec_l21Fine.calls k _ _ l1 true _ ?side1 ?side2 A7.out).mono ?_); (case side1 => first | exact xc (Kd.C_below HR1.out HB.out) | exact xc HR1.out); (case side2 => exact HC1.out); rintro e w23 ⟨rfl, hb⟩; have n0_ := Aside0.mk (below_step (xb HB.out) hb); clear HB; have HB := n0_; clear n0_; (try clear hb); (try clear hb2); (try clear hk); (try clear hi)) | (go_at_call 37; (with_reducible refine (spec_l21Fine.calls k _ _ l2 false _ ?side1 ?side2 A9.out).mono ?_); (case side1 => first | exact xc (Kd.C_below HR2.out HB.out) | exact xc HR2.out); (case side2 => exact HC2.out); rintro e w24 ⟨rfl, hb⟩; have n0_ := Aside0.mk (below_step (xb HB.out) hb); clear HB; have HB := n0_; clear n0_; (try clear hb); (try clear hb2); (try clear hk); (try clear hi)))
          go_meet
          case rel => exact ⟨_, (true), (by first | rfl | (simp; done) | (simp [*]; done)), H', ⟨by first | omega | exact Nat.le_refl _⟩, ⟨by repeat (first | (with_reducible first | exact HB.out | apply below_alloc | apply pw_below_drewN | apply below_drew1) | exact HB.out)⟩⟩
      · replace c8 := Bool.eq_false_iff.mpr c8
        subst c8
        have H1 : (spec_KroneckerOf.j0 k l0 l1 l2 true) = some r := by rw [if_neg (show ¬ (false = true) by decide)] at H; exact H
        clear H
        have H := H1
        clear H1
        have H' := Aside0.mk H
        clear H
        go_wp2_with (first | ((with_reducible refine gate_callee (f := 37) rfl ?_); refine goesL_ (some 11) rfl rfl Try.func37 (by kernel_rfl) rfl #[.slice A0 l0.length c0] rfl xm ?_; (with_reducible refine (spec_l21Fine.calls k _ _ l0 true _ ?side1 ?side2 A5.out).mono ?_); (case side1 => first | exact xc (Kd.C_below HR0.out HB.out) | exact xc HR0.out); (case side2 => exact HC0.out); rintro e w25 ⟨rfl, hb⟩; refine ⟨_, rfl, ?_⟩; have n0_ := Aside0.mk (below_step (xb HB.out) hb); clear HB; have HB := n0_; clear n0_; (try clear hb); (try clear hb2); (try clear hk); (try clear hi)) | (go_at_call 37; (with_reducible refine (spec_l21Fine.calls k _ _ l1 false _ ?side1 ?side2 A7.out).mono ?_); (case side1 => first | exact xc (Kd.C_below HR1.out HB.out) | exact xc HR1.out); (case side2 => exact HC1.out); rintro e w26 ⟨rfl, hb⟩; have n0_ := Aside0.mk (below_step (xb HB.out) hb); clear HB; have HB := n0_; clear n0_; (try clear hb); (try clear hb2); (try clear hk); (try clear hi)))
        go_meet
        case rel => exact ⟨_, (true), (by first | rfl | (simp; done) | (simp [*]; done)), H', ⟨by first | omega | exact Nat.le_refl _⟩, ⟨by repeat (first | (with_reducible first | exact HB.out | apply below_alloc | apply pw_below_drewN | apply below_drew1) | exact HB.out)⟩⟩
    · replace c6 := Bool.eq_false_iff.mpr c6
      subst c6
      have H1 : (spec_KroneckerOf.j0 k l0 l1 l2 true) = some r := by rw [if_neg (show ¬ (false = true) by decide)] at H; exact H
      clear H
      have H := H1
      clear H1
      have H' := Aside0.mk H
      clear H
      go_wp2_with (first | ((with_reducible refine gate_callee (f := 37) rfl ?_); refine goesL_ (some 11) rfl rfl Try.func37 (by kernel_rfl) rfl #[.slice A0 l0.length c0] rfl xm ?_; (with_reducible refine (spec_l21Fine.calls k _ _ l0 false _ ?side1 ?side2 A5.out).mono ?_); (case side1 => first | exact xc (Kd.C_below HR0.out HB.out) | exact xc HR0.out); (case side2 => exact HC0.out); rintro e w27 ⟨rfl, hb⟩; refine ⟨_, rfl, ?_⟩; have n0_ := Aside0.mk (below_step (xb HB.out) hb); clear HB; have HB := n0_; clear n0_; (try clear hb); (try clear hb2); (try clear hk); (try clear hi)))
      go_meet
      case rel => exact ⟨_, (true), (by first | rfl | (simp; done) | (simp [*]; done)), H', ⟨by first | omega | exact Nat.le_refl _⟩, ⟨by repeat (first | (with_reducible first | exact HB.out | apply below_alloc | apply pw_below_drewN | apply below_drew1) | exact HB.out)⟩⟩
  case rest =>
    clear HC4
    try clear c1
    try clear c2
    try clear p2
    try clear c3
    try clear c6
    try clear c8
    try clear c10
    try clear c13
    try clear c13b0
    try clear c13b1
    try clear c26
    obtain ⟨kq, x36_3, rfl, HA, HJ3, HB⟩ := hcut
    cases kq with
    | zero => exact absurd HA.out (by simp [spec_KroneckerOf.j0])
    | succ kj3 =>
      have H := HA.out
      clear HA
      simp only [spec_KroneckerOf.j0] at H
      by_cases c28 : x36_3 = true
      · subst c28
        have H1 : (some 0) = some r := by rw [if_pos rfl] at H; exact H
        clear H
        have H := H1
        clear H1
        obtain rfl := Option.some.inj H
        go_wp2
        go_ret
        exact ⟨by first | rfl | (simp [errW_none, errW_some] <;> rfl) | (simp [*, errW_none, errW_some] <;> rfl), by repeat (first | (with_reducible first | exact HB.out | apply below_alloc | apply pw_below_drewN | apply below_drew1) | exact HB.out)⟩
      · replace c28 := Bool.eq_false_iff.mpr c28
        subst c28
        have H1 : ((spec_l2Size.f kj3 l0).bind fun t279 => ((spec_PartitionsOf.f kj3 t279).bind fun t280 => (spec_KroneckerOf.l0 kj3 l0 l1 l2 0 t280 0))) = some r := by rw [if_neg (show ¬ (false = true) by decide)] at H; exact H
        clear H
        have H := H1
        clear H1
        replace H := Option.bind_eq_some_iff.mp H
        obtain ⟨t279, A290, H⟩ := H
        replace H : ((spec_PartitionsOf.f kj3 t279).bind fun t280 => (spec_KroneckerOf.l0 kj3 l0 l1 l2 0 t280 0)) = some r := H
        have A29 := Aside0.mk A290
        clear A290
        replace H := Option.bind_eq_some_iff.mp H
        obtain ⟨t280, A300, H⟩ := H
        replace H : (spec_KroneckerOf.l0 kj3 l0 l1 l2 0 t280 0) = some r := H
        have A30 := Aside0.mk A300
        clear A300
        have H' := Aside0.mk H
        clear H
        go_wp2_with (first | ((with_reducible refine gate_callee (f := 39) rfl ?_); refine goesL_ (some 38) rfl rfl Try.func39 (by kernel_rfl) rfl #[.slice A0 l0.length c0] rfl xm ?_; (with_reducible refine (spec_l2Size.calls kj3 _ _ l0 t279 _ ?side1 ?side2 A29.out).mono ?_); (case side1 => first | exact xc (Kd.C_below HR0.out HB.out) | exact xc HR0.out); (case side2 => exact HC0.out); rintro e w' ⟨rfl, ⟨nd, rfl⟩⟩; refine ⟨_, rfl, ?_⟩) | ((with_reducible refine gate_callee (f := 38) rfl ?_); refine goesL_ (some 39) rfl rfl Try.func38 (by kernel_rfl) rfl #[.int .i64 t279] rfl xm ?_; (with_reducible refine (spec_PartitionsOf.calls kj3 t279 t280 _ A30.out).mono ?_); rintro e w31 ⟨v281, rfl, ho0, hb⟩; refine ⟨_, rfl, ?_⟩; have n0_ := Aside0.mk (Kd.S_lower ho0 (below_size (xb HB.out))); have n1_ := Aside0.mk (below_step (xb HB.out) hb); clear HB; have HO282 := n0_; have HB := n1_; clear n0_ n1_; (try clear hb); (try clear hb2); (try clear hk); (try clear hi); (try clear ho0)))
        go_loopg [7, 9] kj3 (fun kq v7 v9 w' => ∃ (x7_2 : Int) (x9_2 : Int), v7 = .int .i64 x7_2 ∧ v9 = .int .i64 x9_2 ∧ Aside0 (spec_KroneckerOf.l0 kq l0 l1 l2 x7_2 t280 x9_2 = some r) ∧ Aside0 (kq ≤ kj3) ∧ Aside0 (Kd.S (Kd.slice 3 (Kd.int .i64)) 22 w' w.heap.size (fun _ => True) v281 t280) ∧ Aside0 (Below w.heap.size w w'))
        case atStart => exact ⟨(0), (0), (by first | rfl | (simp; done) | (simp [*]; done)), (by first | rfl | (simp; done) | (simp [*]; done)), H', ⟨Nat.le_refl _⟩, ⟨by (with_reducible repeat (first | apply Kd.S_alloc | apply Kd.S_drewN | apply Kd.S_drew)); first | exact HO282.out | exact Kd.S_mono HO282.out xi⟩, ⟨by repeat (first | (with_reducible first | exact HB.out | apply below_alloc | apply pw_below_drewN | apply below_drew1) | exact HB.out)⟩⟩
        case round =>
          clear H'
          try clear c1
          try clear c2
          try clear p2
          try clear c3
          try clear c6
          try clear c8
          try clear c10
          try clear c13
          try clear c13b0
          try clear c13b1
          try clear c26
          try clear c28
          try clear p2
          obtain ⟨x7_2, x9_2, rfl, rfl, HA, HK2, HO_8, HB⟩ := hrel
          cases gk with
          | zero => exact absurd HA.out (by simp [spec_KroneckerOf.l0])
          | succ k2 =>
            have H := HA.out
            clear HA
            simp only [spec_KroneckerOf.l0] at H
            by_cases c32 : x9_2 < (t280.length : Int)
            · rw [if_pos c32] at H
              have c32b0 : decide (x9_2 < (t280.length : Int)) = true := decide_eq_true c32
              clear c32
              by_cases c33 : 0 ≤ x9_2
              · rw [if_pos c33] at H
                have c33b0 : decide (0 ≤ x9_2) = true := decide_eq_true c33
                clear c33
                replace H := Option.bind_eq_some_iff.mp H
                obtain ⟨t286, A340, H⟩ := H
                replace H : ((spec_l22Character.f k2 l0 (rd_L1 t280 x9_2)).bind fun t288 => ((spec_l22Character.f k2 l1 (rd_L1 t280 x9_2)).bind fun t290 => ((spec_l22Character.f k2 l2 (rd_L1 t280 x9_2)).bind fun t292 => (spec_KroneckerOf.l0 k2 l0 l1 l2 (wrap64 (x7_2 + (wrap64 ((wrap64 ((wrap64 (t286 * t288)) * t290)) * t292)))) t280 (wrap64 (x9_2 + 1)))))) = some r := H
                have A34 := Aside0.mk A340
                clear A340
                replace H := Option.bind_eq_some_iff.mp H
                obtain ⟨t288, A350, H⟩ := H
                replace H : ((spec_l22Character.f k2 l1 (rd_L1 t280 x9_2)).bind fun t290 => ((spec_l22Character.f k2 l2 (rd_L1 t280 x9_2)).bind fun t292 => (spec_KroneckerOf.l0 k2 l0 l1 l2 (wrap64 (x7_2 + (wrap64 ((wrap64 ((wrap64 (t286 * t288)) * t290)) * t292)))) t280 (wrap64 (x9_2 + 1))))) = some r := H
                have A35 := Aside0.mk A350
                clear A350
                replace H := Option.bind_eq_some_iff.mp H
                obtain ⟨t290, A360, H⟩ := H
                replace H : ((spec_l22Character.f k2 l2 (rd_L1 t280 x9_2)).bind fun t292 => (spec_KroneckerOf.l0 k2 l0 l1 l2 (wrap64 (x7_2 + (wrap64 ((wrap64 ((wrap64 (t286 * t288)) * t290)) * t292)))) t280 (wrap64 (x9_2 + 1)))) = some r := H
                have A36 := Aside0.mk A360
                clear A360
                replace H := Option.bind_eq_some_iff.mp H
                obtain ⟨t292, A370, H⟩ := H
                replace H : (spec_KroneckerOf.l0 k2 l0 l1 l2 (wrap64 (x7_2 + (wrap64 ((wrap64 ((wrap64 (t286 * t288)) * t290)) * t292)))) t280 (wrap64 (x9_2 + 1))) = some r := H
                have A37 := Aside0.mk A370
                clear A370
                have H' := Aside0.mk H
                clear H
                obtain ⟨Ao38, co38, eo38⟩ := Kd.S_slice HO_8.out
                subst eo38
                try go_wp2
                have n0_ := Aside0.mk (Kd.S_drew HO_8.out)
                have n1_ := Aside0.mk (below_drew1 HB.out)
                clear HO_8
                clear HB
                have HO_8 := n0_
                have HB := n1_
                clear n0_ n1_
                have p285 : 0 ≤ (x9_2 : Int) := of_decide_eq_true (by first | (with_reducible assumption) | assumption)
                have q285 : x9_2 < (t280.length : Int) := of_decide_eq_true (by first | (with_reducible assumption) | assumption)
                obtain ⟨ad285, A285_0, c285_0, e285, hx285_0, hl285_0, hi285_0⟩ := at_L1 (Kd.S_reads' HO_8.out).2.2 x9_2 p285 q285
                cases e285
                obtain ⟨ce285, hce285, hMe285, hcc285⟩ := Kd.S_get HO_8.out [] x9_2 p285 (by first | exact q285 | exact of_decide_eq_true (by first | (with_reducible assumption) | assumption) | (have e_ := (Kd.S_reads' HO_8.out).1; omega))
                obtain ⟨ve285_0, rfl, ge285_0⟩ := hMe285
                have hv285_0 := hcc285 0 _ rfl
                rw [Nat.add_zero, show ((Kd.slice 3 (Kd.int .i64))).sz = 1 from rfl, Nat.mul_one] at hv285_0
                replace hv285_0 := Option.some.inj (hv285_0.symm.trans hx285_0)
                rw [hv285_0] at ge285_0
                have HL285_0 := Aside0.mk (show Kd.R (Kd.int .i64) 3 _ _ _ _ (rd_L1 t280 x9_2) from ge285_0)
                clear hv285_0 ge285_0
                clear hcc285 hce285
                have HR285_0 := Aside0.mk hi285_0
                have HC285_0 := Aside0.mk hl285_0
                clear hi285_0 hl285_0
                replace p285 := eq_true p285
                replace q285 := eq_true q285
                have p287 : 0 ≤ (x9_2 : Int) := of_decide_eq_true (by first | (with_reducible assumption) | assumption)
                have q287 : x9_2 < (t280.length : Int) := of_decide_eq_true (by first | (with_reducible assumption) | assumption)
                obtain ⟨ad287, A287_0, c287_0, e287, hx287_0, hl287_0, hi287_0⟩ := at_L1 (Kd.S_reads' HO_8.out).2.2 x9_2 p287 q287
                obtain rfl : ad285 = ad287 := (by injection e287)
                obtain ⟨ce287, hce287, hMe287, hcc287⟩ := Kd.S_get HO_8.out [] x9_2 p287 (by first | exact q287 | exact of_decide_eq_true (by first | (with_reducible assumption) | assumption) | (have e_ := (Kd.S_reads' HO_8.out).1; omega))
                obtain ⟨ve287_0, rfl, ge287_0⟩ := hMe287
                have hv287_0 := hcc287 0 _ rfl
                rw [Nat.add_zero, show ((Kd.slice 3 (Kd.int .i64))).sz = 1 from rfl, Nat.mul_one] at hv287_0
                replace hv287_0 := Option.some.inj (hv287_0.symm.trans hx287_0)
                rw [hv287_0] at ge287_0
                have HL287_0 := Aside0.mk (show Kd.R (Kd.int .i64) 3 _ _ _ _ (rd_L1 t280 x9_2) from ge287_0)
                clear hv287_0 ge287_0
                clear hcc287 hce287
                have HR287_0 := Aside0.mk hi287_0
                have HC287_0 := Aside0.mk hl287_0
                clear hi287_0 hl287_0
                replace p287 := eq_true p287
                replace q287 := eq_true q287
                have ea_ := Option.some.inj (hx285_0.symm.trans hx287_0)
                injection ea_ with ea_ en_ ec_
                subst ea_
                subst ec_
                clear en_
                have p289 : 0 ≤ (x9_2 : Int) := of_decide_eq_true (by first | (with_reducible assumption) | assumption)
                have q289 : x9_2 < (t280.length : Int) := of_decide_eq_true (by first | (with_reducible assumption) | assumption)
                obtain ⟨ad289, A289_0, c289_0, e289, hx289_0, hl289_0, hi289_0⟩ := at_L1 (Kd.S_reads' HO_8.out).2.2 x9_2 p289 q289
                obtain rfl : ad285 = ad289 := (by injection e289)
                obtain ⟨ce289, hce289, hMe289, hcc289⟩ := Kd.S_get HO_8.out [] x9_2 p289 (by first | exact q289 | exact of_decide_eq_true (by first | (with_reducible assumption) | assumption) | (have e_ := (Kd.S_reads' HO_8.out).1; omega))
                obtain ⟨ve289_0, rfl, ge289_0⟩ := hMe289
                have hv289_0 := hcc289 0 _ rfl
                rw [Nat.add_zero, show ((Kd.slice 3 (Kd.int .i64))).sz = 1 from rfl, Nat.mul_one] at hv289_0
                replace hv289_0 := Option.some.inj (hv289_0.symm.trans hx289_0)
                rw [hv289_0] at ge289_0
                have HL289_0 := Aside0.mk (show Kd.R (Kd.int .i64) 3 _ _ _ _ (rd_L1 t280 x9_2) from ge289_0)
                clear hv289_0 ge289_0
                clear hcc289 hce289
                have HR289_0 := Aside0.mk hi289_0
                have HC289_0 := Aside0.mk hl289_0
                clear hi289_0 hl289_0
                replace p289 := eq_true p289
                replace q289 := eq_true q289
                have ea_ := Option.some.inj (hx285_0.symm.trans hx289_0)
                injection ea_ with ea_ en_ ec_
                subst ea_
                subst ec_
                clear en_
                have p291 : 0 ≤ (x9_2 : Int) := of_decide_eq_true (by first | (with_reducible assumption) | assumption)
                have q291 : x9_2 < (t280.length : Int) := of_decide_eq_true (by first | (with_reducible assumption) | assumption)
                obtain ⟨ad291, A291_0, c291_0, e291, hx291_0, hl291_0, hi291_0⟩ := at_L1 (Kd.S_reads' HO_8.out).2.2 x9_2 p291 q291
                obtain rfl : ad285 = ad291 := (by injection e291)
                obtain ⟨ce291, hce291, hMe291, hcc291⟩ := Kd.S_get HO_8.out [] x9_2 p291 (by first | exact q291 | exact of_decide_eq_true (by first | (with_reducible assumption) | assumption) | (have e_ := (Kd.S_reads' HO_8.out).1; omega))
                obtain ⟨ve291_0, rfl, ge291_0⟩ := hMe291
                have hv291_0 := hcc291 0 _ rfl
                rw [Nat.add_zero, show ((Kd.slice 3 (Kd.int .i64))).sz = 1 from rfl, Nat.mul_one] at hv291_0
                replace hv291_0 := Option.some.inj (hv291_0.symm.trans hx291_0)
                rw [hv291_0] at ge291_0
                have HL291_0 := Aside0.mk (show Kd.R (Kd.int .i64) 3 _ _ _ _ (rd_L1 t280 x9_2) from ge291_0)
                clear hv291_0 ge291_0
                clear hcc291 hce291
                have HR291_0 := Aside0.mk hi291_0
                have HC291_0 := Aside0.mk hl291_0
                clear hi291_0 hl291_0
                replace p291 := eq_true p291
                replace q291 := eq_true q291
                have ea_ := Option.some.inj (hx285_0.symm.trans hx291_0)
                injection ea_ with ea_ en_ ec_
                subst ea_
                subst ec_
                clear en_
                refine start_ (n := 29) (S := fun w' => w'.cell? (ad285.add (x9_2).toNat) = some (.slice A285_0 (rd_L1 t280 x9_2).length c285_0) ∧ w'.cell? (ad285.add (x9_2).toNat) = some (.slice A285_0 (rd_L1 t280 x9_2).length c285_0) ∧ w'.cell? (ad285.add (x9_2).toNat) = some (.slice A285_0 (rd_L1 t280 x9_2).length c285_0) ∧ w'.cell? (ad285.add (x9_2).toNat) = some (.slice A285_0 (rd_L1 t280 x9_2).length c285_0)) (ds := []) #[false, false, false, false, false, false, false, false, false, false, false, false, false, false, false, false, false, false, false, false, false, false, false, false, false, false, false, false, false] (by kernel_rfl) rfl rfl ⟨hx285_0, hx287_0, hx289_0, hx291_0⟩ (fun hHeld => ?_); refine with_tabW spec_KroneckerOf.tab8 spec_KroneckerOf.bits8 (fun HT_ HW_ => ?_)
                generalize wr.drew = w39 at HO_8 HB HL285_0 HL287_0 HL289_0 HL291_0 HR285_0 HR287_0 HR289_0 HR291_0 hx285_0 hx287_0 hx289_0 hx291_0 hHeld ⊢
                refine pure_ (i := 0) (N := some 46) (v := ?_) (a' := ?_) #[true, false, false, false, false, false, false, false, false, false, false, false, false, false, false, false, false, false, false, false, false, false, false, false, false, false, false, false, false] rfl rfl (any_of HT_.out (by kernel_rfl)) (fun _ _ _ h => h) (Or.inl ⟨by rfl, ?_⟩) ?_ ?_
                rotate_left
                · intro w'
                  go_simp
                  with_reducible rfl
                rotate_left
                · simp only [Act.put, List.setIfInBounds_toArray, List.set_cons_zero, List.set_cons_succ, i64_w, i32_w]
                  rfl
                refine pure_ (i := 1) (N := some 47) (v := ?_) (a' := ?_) #[true, true, false, false, false, false, false, false, false, false, false, false, false, false, false, false, false, false, false, false, false, false, false, false, false, false, false, false, false] rfl rfl (any_of HT_.out (by kernel_rfl)) (fun _ _ _ h => h) (Or.inl ⟨by rfl, ?_⟩) ?_ ?_
                rotate_left
                · intro w'
                  go_simp
                  with_reducible rfl
                rotate_left
                · simp only [Act.put, List.setIfInBounds_toArray, List.set_cons_zero, List.set_cons_succ, i64_w, i32_w]
                  rfl
                refine pure_ (i := 2) (N := some 48) (v := ?_) (a' := ?_) #[true, true, true, false, false, false, false, false, false, false, false, false, false, false, false, false, false, false, false, false, false, false, false, false, false, false, false, false, false] rfl rfl (any_of HT_.out (by kernel_rfl)) (fun _ _ _ h => h) (Or.inl ⟨by rfl, ?_⟩) ?_ ?_
                rotate_left
                · intro w'
                  go_simp
                  with_reducible rfl
                rotate_left
                · simp only [Act.put, List.setIfInBounds_toArray, List.set_cons_zero, List.set_cons_succ, i64_w, i32_w]
                  rfl
                refine pure_ (i := 3) (N := some 49) (v := ?_) (a' := ?_) #[true, true, true, true, false, false, false, false, false, false, false, false, false, false, false, false, false, false, false, false, false, false, false, false, false, false, false, false, false] rfl rfl (any_of HT_.out (by kernel_rfl)) (fun _ _ _ h => h) (Or.inl ⟨by rfl, ?_⟩) ?_ ?_
                rotate_left
                · intro w'
                  go_simp
                  with_reducible rfl
                rotate_left
                · simp only [Act.put, List.setIfInBounds_toArray, List.set_cons_zero, List.set_cons_succ, i64_w, i32_w]
                  rfl
                refine pure_ (i := 6) (N := some 52) (v := ?_) (a' := ?_) #[true, true, true, true, false, false, true, false, false, false, false, false, false, false, false, false, false, false, false, false, false, false, false, false, false, false, false, false, false] rfl rfl (any_of HT_.out (by kernel_rfl)) (fun _ _ _ h => h) (Or.inl ⟨by rfl, ?_⟩) ?_ ?_
                rotate_left
                · intro w'
                  go_simp
                  with_reducible rfl
                rotate_left
                · simp only [Act.put, List.setIfInBounds_toArray, List.set_cons_zero, List.set_cons_succ, i64_w, i32_w]
                  rfl
                refine pure_ (i := 7) (N := some 53) (v := ?_) (a' := ?_) #[true, true, true, true, false, false, true, true, false, false, false, false, false, false, false, false, false, false, false, false, false, false, false, false, false, false, false, false, false] rfl rfl (any_of HT_.out (by kernel_rfl)) (fun _ _ _ h => h) (Or.inl ⟨by rfl, ?_⟩) ?_ ?_
                rotate_left
                · intro w'
                  go_simp
                  with_reducible rfl
                rotate_left
                · simp only [Act.put, List.setIfInBounds_toArray, List.set_cons_zero, List.set_cons_succ, i64_w, i32_w]
                  rfl
                refine pure_ (i := 8) (N := some 54) (v := ?_) (a' := ?_) #[true, true, true, true, false, false, true, true, true, false, false, false, false, false, false, false, false, false, false, false, false, false, false, false, false, false, false, false, false] rfl rfl (any_of HT_.out (by kernel_rfl)) (fun _ _ _ h => h) (Or.inl ⟨by rfl, ?_⟩) ?_ ?_
                rotate_left
                · intro w'
                  go_simp
                  with_reducible rfl
                rotate_left
                · simp only [Act.put, List.setIfInBounds_toArray, List.set_cons_zero, List.set_cons_succ, i64_w, i32_w]
                  rfl
                refine pure_ (i := 9) (N := some 55) (v := ?_) (a' := ?_) #[true, true, true, true, false, false, true, true, true, true, false, false, false, false, false, false, false, false, false, false, false, false, false, false, false, false, false, false, false] rfl rfl (any_of HT_.out (by kernel_rfl)) (fun _ _ _ h => h) (Or.inl ⟨by rfl, ?_⟩) ?_ ?_
                rotate_left
                · intro w'
                  go_simp
                  with_reducible rfl
                rotate_left
                · simp only [Act.put, List.setIfInBounds_toArray, List.set_cons_zero, List.set_cons_succ, i64_w, i32_w]
                  rfl
                refine pure_ (i := 13) (N := some 59) (v := ?_) (a' := ?_) #[true, true, true, true, false, false, true, true, true, true, false, false, false, true, false, false, false, false, false, false, false, false, false, false, false, false, false, false, false] rfl rfl (any_of HT_.out (by kernel_rfl)) (fun _ _ _ h => h) (Or.inl ⟨by rfl, ?_⟩) ?_ ?_
                rotate_left
                · intro w'
                  go_simp
                  with_reducible rfl
                rotate_left
                · simp only [Act.put, List.setIfInBounds_toArray, List.set_cons_zero, List.set_cons_succ, i64_w, i32_w]
                  rfl
                refine pure_ (i := 14) (N := some 60) (v := ?_) (a' := ?_) #[true, true, true, true, false, false, true, true, true, true, false, false, false, true, true, false, false, false, false, false, false, false, false, false, false, false, false, false, false] rfl rfl (any_of HT_.out (by kernel_rfl)) (fun _ _ _ h => h) (Or.inl ⟨by rfl, ?_⟩) ?_ ?_
                rotate_left
                · intro w'
                  go_simp
                  with_reducible rfl
                rotate_left
                · simp only [Act.put, List.setIfInBounds_toArray, List.set_cons_zero, List.set_cons_succ, i64_w, i32_w]
                  rfl
                refine pure_ (i := 15) (N := some 61) (v := ?_) (a' := ?_) #[true, true, true, true, false, false, true, true, true, true, false, false, false, true, true, true, false, false, false, false, false, false, false, false, false, false, false, false, false] rfl rfl (any_of HT_.out (by kernel_rfl)) (fun _ _ _ h => h) (Or.inl ⟨by rfl, ?_⟩) ?_ ?_
                rotate_left
                · intro w'
                  go_simp
                  with_reducible rfl
                rotate_left
                · simp only [Act.put, List.setIfInBounds_toArray, List.set_cons_zero, List.set_cons_succ, i64_w, i32_w]
                  rfl
                refine pure_ (i := 16) (N := some 62) (v := ?_) (a' := ?_) #[true, true, true, true, false, false, true, true, true, true, false, false, false, true, true, true, true, false, false, false, false, false, false, false, false, false, false, false, false] rfl rfl (any_of HT_.out (by kernel_rfl)) (fun _ _ _ h => h) (Or.inl ⟨by rfl, ?_⟩) ?_ ?_
                rotate_left
                · intro w'
                  go_simp
                  with_reducible rfl
                rotate_left
                · simp only [Act.put, List.setIfInBounds_toArray, List.set_cons_zero, List.set_cons_succ, i64_w, i32_w]
                  rfl
                refine pure_ (i := 20) (N := some 66) (v := ?_) (a' := ?_) #[true, true, true, true, false, false, true, true, true, true, false, false, false, true, true, true, true, false, false, false, true, false, false, false, false, false, false, false, false] rfl rfl (any_of HT_.out (by kernel_rfl)) (fun _ _ _ h => h) (Or.inl ⟨by rfl, ?_⟩) ?_ ?_
                rotate_left
                · intro w'
                  go_simp
                  with_reducible rfl
                rotate_left
                · simp only [Act.put, List.setIfInBounds_toArray, List.set_cons_zero, List.set_cons_succ, i64_w, i32_w]
                  rfl
                refine pure_ (i := 21) (N := some 67) (v := ?_) (a' := ?_) #[true, true, true, true, false, false, true, true, true, true, false, false, false, true, true, true, true, false, false, false, true, true, false, false, false, false, false, false, false] rfl rfl (any_of HT_.out (by kernel_rfl)) (fun _ _ _ h => h) (Or.inl ⟨by rfl, ?_⟩) ?_ ?_
                rotate_left
                · intro w'
                  go_simp
                  with_reducible rfl
                rotate_left
                · simp only [Act.put, List.setIfInBounds_toArray, List.set_cons_zero, List.set_cons_succ, i64_w, i32_w]
                  rfl
                refine pure_ (i := 22) (N := some 68) (v := ?_) (a' := ?_) #[true, true, true, true, false, false, true, true, true, true, false, false, false, true, true, true, true, false, false, false, true, true, true, false, false, false, false, false, false] rfl rfl (any_of HT_.out (by kernel_rfl)) (fun _ _ _ h => h) (Or.inl ⟨by rfl, ?_⟩) ?_ ?_
                rotate_left
                · intro w'
                  go_simp
                  with_reducible rfl
                rotate_left
                · simp only [Act.put, List.setIfInBounds_toArray, List.set_cons_zero, List.set_cons_succ, i64_w, i32_w]
                  rfl
                refine pure_ (i := 23) (N := some 69) (v := ?_) (a' := ?_) #[true, true, true, true, false, false, true, true, true, true, false, false, false, true, true, true, true, false, false, false, true, true, true, true, false, false, false, false, false] rfl rfl (any_of HT_.out (by kernel_rfl)) (fun _ _ _ h => h) (Or.inl ⟨by rfl, ?_⟩) ?_ ?_
                rotate_left
                · intro w'
                  go_simp
                  with_reducible rfl
                rotate_left
                · simp only [Act.put, List.setIfInBounds_toArray, List.set_cons_zero, List.set_cons_succ, i64_w, i32_w]
                  rfl
                refine take_ (i := 4) (N := some 50) (v := ?_) (a' := ?_) #[true, true, true, true, true, false, true, true, true, true, false, false, false, true, true, true, true, false, false, false, true, true, true, true, false, false, false, false, false] rfl rfl (take_ofW HT_.out HW_.out (by kernel_rfl)) (fun _ _ _ h => h) (Or.inl ⟨by rfl, ?_⟩) hHeld ?_ ?_
                rotate_left
                · rintro w' ⟨s0, s1, s2, s3⟩
                  go_simp
                  with_reducible rfl
                rotate_left
                · simp only [Act.put, List.setIfInBounds_toArray, List.set_cons_zero, List.set_cons_succ, i64_w, i32_w]
                  rfl
                refine take_ (i := 10) (N := some 56) (v := ?_) (a' := ?_) #[true, true, true, true, true, false, true, true, true, true, true, false, false, true, true, true, true, false, false, false, true, true, true, true, false, false, false, false, false] rfl rfl (take_ofW HT_.out HW_.out (by kernel_rfl)) (fun _ _ _ h => h) (Or.inl ⟨by rfl, ?_⟩) hHeld ?_ ?_
                rotate_left
                · rintro w' ⟨s0, s1, s2, s3⟩
                  go_simp
                  with_reducible rfl
                rotate_left
                · simp only [Act.put, List.setIfInBounds_toArray, List.set_cons_zero, List.set_cons_succ, i64_w, i32_w]
                  rfl
                refine take_ (i := 17) (N := some 63) (v := ?_) (a' := ?_) #[true, true, true, true, true, false, true, true, true, true, true, false, false, true, true, true, true, true, false, false, true, true, true, true, false, false, false, false, false] rfl rfl (take_ofW HT_.out HW_.out (by kernel_rfl)) (fun _ _ _ h => h) (Or.inl ⟨by rfl, ?_⟩) hHeld ?_ ?_
                rotate_left
                · rintro w' ⟨s0, s1, s2, s3⟩
                  go_simp
                  with_reducible rfl
                rotate_left
                · simp only [Act.put, List.setIfInBounds_toArray, List.set_cons_zero, List.set_cons_succ, i64_w, i32_w]
                  rfl
                refine take_ (i := 24) (N := some 70) (v := ?_) (a' := ?_) #[true, true, true, true, true, false, true, true, true, true, true, false, false, true, true, true, true, true, false, false, true, true, true, true, true, false, false, false, false] rfl rfl (take_ofW HT_.out HW_.out (by kernel_rfl)) (fun _ _ _ h => h) (Or.inl ⟨by rfl, ?_⟩) hHeld ?_ ?_
                rotate_left
                · rintro w' ⟨s0, s1, s2, s3⟩
                  go_simp
                  with_reducible rfl
                rotate_left
                · simp only [Act.put, List.setIfInBounds_toArray, List.set_cons_zero, List.set_cons_succ, i64_w, i32_w]
                  rfl
                refine one_ (i := 5) (N := some 51) #[true, true, true, true, true, true, true, true, true, true, true, false, false, true, true, true, true, true, false, false, true, true, true, true, true, false, false, false, false] rfl rfl (one_of HT_.out (by kernel_rfl)) (by decide) (fun K hK => ?_)
                refine goes_ Try.func42 (by kernel_rfl) rfl #[.slice A285_0 (rd_L1 t280 x9_2).length c285_0] (by rfl) rfl rfl xm ?_
                with_reducible refine (spec_ClassSize.calls k2 _ _ (rd_L1 t280 x9_2) t286 _ ?side1 ?side2 A34.out).mono ?_
                (case side1 => repeat (first | exact (by repeat (first | (with_reducible exact HR285_0.out) | (with_reducible refine Kd.C_alloc ?_ _) | (with_reducible refine Kd.C_drewN ?_ _) | (with_reducible refine Kd.C_drew ?_) | exact HR285_0.out)) | (with_reducible refine Kd.C_alloc ?_ _) | (with_reducible refine Kd.C_drewN ?_ _) | (with_reducible refine Kd.C_drew ?_)))
                (case side2 => exact HC285_0.out)
                rintro e w40 ⟨rfl, hb⟩
                have HS0_ := (hb.cell (World.block_lt_of_cell? _ _ (hHeld.1))).trans (hHeld.1)
                have HS1_ := (hb.cell (World.block_lt_of_cell? _ _ (hHeld.2.1))).trans (hHeld.2.1)
                have HS2_ := (hb.cell (World.block_lt_of_cell? _ _ (hHeld.2.2.1))).trans (hHeld.2.2.1)
                have HS3_ := (hb.cell (World.block_lt_of_cell? _ _ (hHeld.2.2.2))).trans (hHeld.2.2.2)
                refine ⟨_, rfl, ?_⟩
                have n0_ := Aside0.mk (Kd.S_below (xS HO_8.out) hb)
                have n1_ := Aside0.mk (Kd.R_below (xR HL285_0.out) hb)
                have n2_ := Aside0.mk (Kd.R_below (xR HL287_0.out) hb)
                have n3_ := Aside0.mk (Kd.R_below (xR HL289_0.out) hb)
                have n4_ := Aside0.mk (Kd.R_below (xR HL291_0.out) hb)
                have n5_ := Aside0.mk (Kd.C_below (by repeat (first | (with_reducible exact HR285_0.out) | (with_reducible refine Kd.C_alloc ?_ _) | (with_reducible refine Kd.C_drewN ?_ _) | (with_reducible refine Kd.C_drew ?_) | exact HR285_0.out)) hb)
                have n6_ := Aside0.mk (Kd.C_below (by repeat (first | (with_reducible exact HR287_0.out) | (with_reducible refine Kd.C_alloc ?_ _) | (with_reducible refine Kd.C_drewN ?_ _) | (with_reducible refine Kd.C_drew ?_) | exact HR287_0.out)) hb)
                have n7_ := Aside0.mk (Kd.C_below (by repeat (first | (with_reducible exact HR289_0.out) | (with_reducible refine Kd.C_alloc ?_ _) | (with_reducible refine Kd.C_drewN ?_ _) | (with_reducible refine Kd.C_drew ?_) | exact HR289_0.out)) hb)
                have n8_ := Aside0.mk (Kd.C_below (by repeat (first | (with_reducible exact HR291_0.out) | (with_reducible refine Kd.C_alloc ?_ _) | (with_reducible refine Kd.C_drewN ?_ _) | (with_reducible refine Kd.C_drew ?_) | exact HR291_0.out)) hb)
                have n9_ := Aside0.mk (below_step (xb HB.out) hb)
                clear HO_8
                clear HL285_0
                clear HL287_0
                clear HL289_0
                clear HL291_0
                clear HR285_0
                clear HR287_0
                clear HR289_0
                clear HR291_0
                clear HB
                have HO_8 := n0_
                have HL285_0 := n1_
                have HL287_0 := n2_
                have HL289_0 := n3_
                have HL291_0 := n4_
                have HR285_0 := n5_
                have HR287_0 := n6_
                have HR289_0 := n7_
                have HR291_0 := n8_
                have HB := n9_
                clear n0_ n1_ n2_ n3_ n4_ n5_ n6_ n7_ n8_ n9_
                (try clear hb)
                (try clear hb2)
                (try clear hk)
                (try clear hi)
                refine hK.out _ _ ⟨HS0_, HS1_, HS2_, HS3_⟩ (fun hHeld => ?_)
                clear hK K
                refine norm_ (a' := ?_) ?_ ?_
                rotate_left
                · show Act.put _ (some 51) _ = _
                  simp only [Act.put, List.setIfInBounds_toArray, List.set_cons_zero, List.set_cons_succ, i64_w, i32_w]
                  rfl
                refine one_ (i := 11) (N := some 57) #[true, true, true, true, true, true, true, true, true, true, true, true, false, true, true, true, true, true, false, false, true, true, true, true, true, false, false, false, false] rfl rfl (one_of HT_.out (by kernel_rfl)) (by decide) (fun K hK => ?_)
                refine goes_ Try.func33 (by kernel_rfl) rfl #[.slice A0 l0.length c0, .slice A285_0 (rd_L1 t280 x9_2).length c285_0] (by rfl) rfl rfl xm ?_
                with_reducible refine (spec_l22Character.calls k2 _ _ l0 _ _ (rd_L1 t280 x9_2) t288 _ ?side1 ?side2 ?side3 ?side4 A35.out).mono ?_
                (case side1 => first | exact xc (Kd.C_below HR0.out HB.out) | exact xc HR0.out)
                (case side2 => exact HC0.out)
                (case side3 => repeat (first | exact (by repeat (first | (with_reducible exact HR287_0.out) | (with_reducible refine Kd.C_alloc ?_ _) | (with_reducible refine Kd.C_drewN ?_ _) | (with_reducible refine Kd.C_drew ?_) | exact HR287_0.out)) | (with_reducible refine Kd.C_alloc ?_ _) | (with_reducible refine Kd.C_drewN ?_ _) | (with_reducible refine Kd.C_drew ?_)))
                (case side4 => exact HC287_0.out)
                rintro e w41 ⟨rfl, hb⟩
                have HS0_ := (hb.cell (World.block_lt_of_cell? _ _ (hHeld.1))).trans (hHeld.1)
                have HS1_ := (hb.cell (World.block_lt_of_cell? _ _ (hHeld.2.1))).trans (hHeld.2.1)
                have HS2_ := (hb.cell (World.block_lt_of_cell? _ _ (hHeld.2.2.1))).trans (hHeld.2.2.1)
                have HS3_ := (hb.cell (World.block_lt_of_cell? _ _ (hHeld.2.2.2))).trans (hHeld.2.2.2)
                refine ⟨_, rfl, ?_⟩
                have n0_ := Aside0.mk (Kd.S_below (xS HO_8.out) hb)
                have n1_ := Aside0.mk (Kd.R_below (xR HL285_0.out) hb)
                have n2_ := Aside0.mk (Kd.R_below (xR HL287_0.out) hb)
                have n3_ := Aside0.mk (Kd.R_below (xR HL289_0.out) hb)
                have n4_ := Aside0.mk (Kd.R_below (xR HL291_0.out) hb)
                have n5_ := Aside0.mk (Kd.C_below (by repeat (first | (with_reducible exact HR285_0.out) | (with_reducible refine Kd.C_alloc ?_ _) | (with_reducible refine Kd.C_drewN ?_ _) | (with_reducible refine Kd.C_drew ?_) | exact HR285_0.out)) hb)
                have n6_ := Aside0.mk (Kd.C_below (by repeat (first | (with_reducible exact HR287_0.out) | (with_reducible refine Kd.C_alloc ?_ _) | (with_reducible refine Kd.C_drewN ?_ _) | (with_reducible refine Kd.C_drew ?_) | exact HR287_0.out)) hb)
                have n7_ := Aside0.mk (Kd.C_below (by repeat (first | (with_reducible exact HR289_0.out) | (with_reducible refine Kd.C_alloc ?_ _) | (with_reducible refine Kd.C_drewN ?_ _) | (with_reducible refine Kd.C_drew ?_) | exact HR289_0.out)) hb)
                have n8_ := Aside0.mk (Kd.C_below (by repeat (first | (with_reducible exact HR291_0.out) | (with_reducible refine Kd.C_alloc ?_ _) | (with_reducible refine Kd.C_drewN ?_ _) | (with_reducible refine Kd.C_drew ?_) | exact HR291_0.out)) hb)
                have n9_ := Aside0.mk (below_step (xb HB.out) hb)
                clear HO_8
                clear HL285_0
                clear HL287_0
                clear HL289_0
                clear HL291_0
                clear HR285_0
                clear HR287_0
                clear HR289_0
                clear HR291_0
                clear HB
                have HO_8 := n0_
                have HL285_0 := n1_
                have HL287_0 := n2_
                have HL289_0 := n3_
                have HL291_0 := n4_
                have HR285_0 := n5_
                have HR287_0 := n6_
                have HR289_0 := n7_
                have HR291_0 := n8_
                have HB := n9_
                clear n0_ n1_ n2_ n3_ n4_ n5_ n6_ n7_ n8_ n9_
                (try clear hb)
                (try clear hb2)
                (try clear hk)
                (try clear hi)
                refine hK.out _ _ ⟨HS0_, HS1_, HS2_, HS3_⟩ (fun hHeld => ?_)
                clear hK K
                refine norm_ (a' := ?_) ?_ ?_
                rotate_left
                · show Act.put _ (some 57) _ = _
                  simp only [Act.put, List.setIfInBounds_toArray, List.set_cons_zero, List.set_cons_succ, i64_w, i32_w]
                  rfl
                refine pure_ (i := 12) (N := some 58) (v := ?_) (a' := ?_) #[true, true, true, true, true, true, true, true, true, true, true, true, true, true, true, true, true, true, false, false, true, true, true, true, true, false, false, false, false] rfl rfl (any_of HT_.out (by kernel_rfl)) (fun _ _ _ h => h) (Or.inl ⟨by rfl, ?_⟩) ?_ ?_
                rotate_left
                · intro w'
                  go_simp
                  with_reducible rfl
                rotate_left
                · simp only [Act.put, List.setIfInBounds_toArray, List.set_cons_zero, List.set_cons_succ, i64_w, i32_w]
                  rfl
                refine one_ (i := 18) (N := some 64) #[true, true, true, true, true, true, true, true, true, true, true, true, true, true, true, true, true, true, true, false, true, true, true, true, true, false, false, false, false] rfl rfl (one_of HT_.out (by kernel_rfl)) (by decide) (fun K hK => ?_)
                refine goes_ Try.func33 (by kernel_rfl) rfl #[.slice A1 l1.length c1, .slice A285_0 (rd_L1 t280 x9_2).length c285_0] (by rfl) rfl rfl xm ?_
                with_reducible refine (spec_l22Character.calls k2 _ _ l1 _ _ (rd_L1 t280 x9_2) t290 _ ?side1 ?side2 ?side3 ?side4 A36.out).mono ?_
                (case side1 => first | exact xc (Kd.C_below HR1.out HB.out) | exact xc HR1.out)
                (case side2 => exact HC1.out)
                (case side3 => repeat (first | exact (by repeat (first | (with_reducible exact HR289_0.out) | (with_reducible refine Kd.C_alloc ?_ _) | (with_reducible refine Kd.C_drewN ?_ _) | (with_reducible refine Kd.C_drew ?_) | exact HR289_0.out)) | (with_reducible refine Kd.C_alloc ?_ _) | (with_reducible refine Kd.C_drewN ?_ _) | (with_reducible refine Kd.C_drew ?_)))
                (case side4 => exact HC289_0.out)
                rintro e w42 ⟨rfl, hb⟩
                have HS0_ := (hb.cell (World.block_lt_of_cell? _ _ (hHeld.1))).trans (hHeld.1)
                have HS1_ := (hb.cell (World.block_lt_of_cell? _ _ (hHeld.2.1))).trans (hHeld.2.1)
                have HS2_ := (hb.cell (World.block_lt_of_cell? _ _ (hHeld.2.2.1))).trans (hHeld.2.2.1)
                have HS3_ := (hb.cell (World.block_lt_of_cell? _ _ (hHeld.2.2.2))).trans (hHeld.2.2.2)
                refine ⟨_, rfl, ?_⟩
                have n0_ := Aside0.mk (Kd.S_below (xS HO_8.out) hb)
                have n1_ := Aside0.mk (Kd.R_below (xR HL285_0.out) hb)
                have n2_ := Aside0.mk (Kd.R_below (xR HL287_0.out) hb)
                have n3_ := Aside0.mk (Kd.R_below (xR HL289_0.out) hb)
                have n4_ := Aside0.mk (Kd.R_below (xR HL291_0.out) hb)
                have n5_ := Aside0.mk (Kd.C_below (by repeat (first | (with_reducible exact HR285_0.out) | (with_reducible refine Kd.C_alloc ?_ _) | (with_reducible refine Kd.C_drewN ?_ _) | (with_reducible refine Kd.C_drew ?_) | exact HR285_0.out)) hb)
                have n6_ := Aside0.mk (Kd.C_below (by repeat (first | (with_reducible exact HR287_0.out) | (with_reducible refine Kd.C_alloc ?_ _) | (with_reducible refine Kd.C_drewN ?_ _) | (with_reducible refine Kd.C_drew ?_) | exact HR287_0.out)) hb)
                have n7_ := Aside0.mk (Kd.C_below (by repeat (first | (with_reducible exact HR289_0.out) | (with_reducible refine Kd.C_alloc ?_ _) | (with_reducible refine Kd.C_drewN ?_ _) | (with_reducible refine Kd.C_drew ?_) | exact HR289_0.out)) hb)
                have n8_ := Aside0.mk (Kd.C_below (by repeat (first | (with_reducible exact HR291_0.out) | (with_reducible refine Kd.C_alloc ?_ _) | (with_reducible refine Kd.C_drewN ?_ _) | (with_reducible refine Kd.C_drew ?_) | exact HR291_0.out)) hb)
                have n9_ := Aside0.mk (below_step (xb HB.out) hb)
                clear HO_8
                clear HL285_0
                clear HL287_0
                clear HL289_0
                clear HL291_0
                clear HR285_0
                clear HR287_0
                clear HR289_0
                clear HR291_0
                clear HB
                have HO_8 := n0_
                have HL285_0 := n1_
                have HL287_0 := n2_
                have HL289_0 := n3_
                have HL291_0 := n4_
                have HR285_0 := n5_
                have HR287_0 := n6_
                have HR289_0 := n7_
                have HR291_0 := n8_
                have HB := n9_
                clear n0_ n1_ n2_ n3_ n4_ n5_ n6_ n7_ n8_ n9_
                (try clear hb)
                (try clear hb2)
                (try clear hk)
                (try clear hi)
                refine hK.out _ _ ⟨HS0_, HS1_, HS2_, HS3_⟩ (fun hHeld => ?_)
                clear hK K
                refine norm_ (a' := ?_) ?_ ?_
                rotate_left
                · show Act.put _ (some 64) _ = _
                  simp only [Act.put, List.setIfInBounds_toArray, List.set_cons_zero, List.set_cons_succ, i64_w, i32_w]
                  rfl
                refine pure_ (i := 19) (N := some 65) (v := ?_) (a' := ?_) #[true, true, true, true, true, true, true, true, true, true, true, true, true, true, true, true, true, true, true, true, true, true, true, true, true, false, false, false, false] rfl rfl (any_of HT_.out (by kernel_rfl)) (fun _ _ _ h => h) (Or.inl ⟨by rfl, ?_⟩) ?_ ?_
                rotate_left
                · intro w'
                  go_simp
                  with_reducible rfl
                rotate_left
                · simp only [Act.put, List.setIfInBounds_toArray, List.set_cons_zero, List.set_cons_succ, i64_w, i32_w]
                  rfl
                refine one_ (i := 25) (N := some 71) #[true, true, true, true, true, true, true, true, true, true, true, true, true, true, true, true, true, true, true, true, true, true, true, true, true, true, false, false, false] rfl rfl (one_of HT_.out (by kernel_rfl)) (by decide) (fun K hK => ?_)
                refine goes_ Try.func33 (by kernel_rfl) rfl #[.slice A2 l2.length c2, .slice A285_0 (rd_L1 t280 x9_2).length c285_0] (by rfl) rfl rfl xm ?_
                with_reducible refine (spec_l22Character.calls k2 _ _ l2 _ _ (rd_L1 t280 x9_2) t292 _ ?side1 ?side2 ?side3 ?side4 A37.out).mono ?_
                (case side1 => first | exact xc (Kd.C_below HR2.out HB.out) | exact xc HR2.out)
                (case side2 => exact HC2.out)
                (case side3 => repeat (first | exact (by repeat (first | (with_reducible exact HR291_0.out) | (with_reducible refine Kd.C_alloc ?_ _) | (with_reducible refine Kd.C_drewN ?_ _) | (with_reducible refine Kd.C_drew ?_) | exact HR291_0.out)) | (with_reducible refine Kd.C_alloc ?_ _) | (with_reducible refine Kd.C_drewN ?_ _) | (with_reducible refine Kd.C_drew ?_)))
                (case side4 => exact HC291_0.out)
                rintro e w43 ⟨rfl, hb⟩
                have HS0_ := (hb.cell (World.block_lt_of_cell? _ _ (hHeld.1))).trans (hHeld.1)
                have HS1_ := (hb.cell (World.block_lt_of_cell? _ _ (hHeld.2.1))).trans (hHeld.2.1)
                have HS2_ := (hb.cell (World.block_lt_of_cell? _ _ (hHeld.2.2.1))).trans (hHeld.2.2.1)
                have HS3_ := (hb.cell (World.block_lt_of_cell? _ _ (hHeld.2.2.2))).trans (hHeld.2.2.2)
                refine ⟨_, rfl, ?_⟩
                have n0_ := Aside0.mk (Kd.S_below (xS HO_8.out) hb)
                have n1_ := Aside0.mk (Kd.R_below (xR HL285_0.out) hb)
                have n2_ := Aside0.mk (Kd.R_below (xR HL287_0.out) hb)
                have n3_ := Aside0.mk (Kd.R_below (xR HL289_0.out) hb)
                have n4_ := Aside0.mk (Kd.R_below (xR HL291_0.out) hb)
                have n5_ := Aside0.mk (Kd.C_below (by repeat (first | (with_reducible exact HR285_0.out) | (with_reducible refine Kd.C_alloc ?_ _) | (with_reducible refine Kd.C_drewN ?_ _) | (with_reducible refine Kd.C_drew ?_) | exact HR285_0.out)) hb)
                have n6_ := Aside0.mk (Kd.C_below (by repeat (first | (with_reducible exact HR287_0.out) | (with_reducible refine Kd.C_alloc ?_ _) | (with_reducible refine Kd.C_drewN ?_ _) | (with_reducible refine Kd.C_drew ?_) | exact HR287_0.out)) hb)
                have n7_ := Aside0.mk (Kd.C_below (by repeat (first | (with_reducible exact HR289_0.out) | (with_reducible refine Kd.C_alloc ?_ _) | (with_reducible refine Kd.C_drewN ?_ _) | (with_reducible refine Kd.C_drew ?_) | exact HR289_0.out)) hb)
                have n8_ := Aside0.mk (Kd.C_below (by repeat (first | (with_reducible exact HR291_0.out) | (with_reducible refine Kd.C_alloc ?_ _) | (with_reducible refine Kd.C_drewN ?_ _) | (with_reducible refine Kd.C_drew ?_) | exact HR291_0.out)) hb)
                have n9_ := Aside0.mk (below_step (xb HB.out) hb)
                clear HO_8
                clear HL285_0
                clear HL287_0
                clear HL289_0
                clear HL291_0
                clear HR285_0
                clear HR287_0
                clear HR289_0
                clear HR291_0
                clear HB
                have HO_8 := n0_
                have HL285_0 := n1_
                have HL287_0 := n2_
                have HL289_0 := n3_
                have HL291_0 := n4_
                have HR285_0 := n5_
                have HR287_0 := n6_
                have HR289_0 := n7_
                have HR291_0 := n8_
                have HB := n9_
                clear n0_ n1_ n2_ n3_ n4_ n5_ n6_ n7_ n8_ n9_
                (try clear hb)
                (try clear hb2)
                (try clear hk)
                (try clear hi)
                refine hK.out _ _ ⟨HS0_, HS1_, HS2_, HS3_⟩ (fun hHeld => ?_)
                clear hK K
                refine norm_ (a' := ?_) ?_ ?_
                rotate_left
                · show Act.put _ (some 71) _ = _
                  simp only [Act.put, List.setIfInBounds_toArray, List.set_cons_zero, List.set_cons_succ, i64_w, i32_w]
                  rfl
                refine pure_ (i := 26) (N := some 72) (v := ?_) (a' := ?_) #[true, true, true, true, true, true, true, true, true, true, true, true, true, true, true, true, true, true, true, true, true, true, true, true, true, true, true, false, false] rfl rfl (any_of HT_.out (by kernel_rfl)) (fun _ _ _ h => h) (Or.inl ⟨by rfl, ?_⟩) ?_ ?_
                rotate_left
                · intro w'
                  go_simp
                  with_reducible rfl
                rotate_left
                · simp only [Act.put, List.setIfInBounds_toArray, List.set_cons_zero, List.set_cons_succ, i64_w, i32_w]
                  rfl
                refine pure_ (i := 27) (N := some 73) (v := ?_) (a' := ?_) #[true, true, true, true, true, true, true, true, true, true, true, true, true, true, true, true, true, true, true, true, true, true, true, true, true, true, true, true, false] rfl rfl (any_of HT_.out (by kernel_rfl)) (fun _ _ _ h => h) (Or.inl ⟨by rfl, ?_⟩) ?_ ?_
                rotate_left
                · intro w'
                  go_simp
                  with_reducible rfl
                rotate_left
                · simp only [Act.put, List.setIfInBounds_toArray, List.set_cons_zero, List.set_cons_succ, i64_w, i32_w]
                  rfl
                refine pure_ (i := 28) (N := some 7) (v := ?_) (a' := ?_) #[true, true, true, true, true, true, true, true, true, true, true, true, true, true, true, true, true, true, true, true, true, true, true, true, true, true, true, true, true] rfl rfl (any_of HT_.out (by kernel_rfl)) (fun _ _ _ h => h) (Or.inl ⟨by rfl, ?_⟩) ?_ ?_
                rotate_left
                · intro w'
                  go_simp
                  with_reducible rfl
                rotate_left
                · simp only [Act.put, List.setIfInBounds_toArray, List.set_cons_zero, List.set_cons_succ, i64_w, i32_w]
                  rfl
                refine done_ (done_of HT_.out (by kernel_rfl)) ?_
                try go_wp2
                go_roundg k2
                case measure => have := HJ3.out; have := HK2.out; omega
                case rel => exact ⟨(wrap64 (x7_2 + (wrap64 ((wrap64 ((wrap64 (t286 * t288)) * t290)) * t292)))), (wrap64 (x9_2 + 1)), (by first | rfl | (simp; done) | (simp [*]; done)), (by first | rfl | (simp; done) | (simp [*]; done)), H', ⟨by have := HJ3.out; have := HK2.out; omega⟩, ⟨by (with_reducible repeat (first | apply Kd.S_alloc | apply Kd.S_drewN | apply Kd.S_drew)); first | exact HO_8.out | exact Kd.S_mono HO_8.out xi⟩, ⟨by repeat (first | (with_reducible first | exact HB.out | apply below_alloc | apply pw_below_drewN | apply below_drew1) | exact HB.out)⟩⟩
              · rw [if_neg c33] at H
                exact absurd H (by simp)
            · rw [if_neg c32] at H
              have c32b0 : decide (x9_2 < (t280.length : Int)) = false := decide_eq_false c32
              clear c32
              replace H := Option.bind_eq_some_iff.mp H
              obtain ⟨t283, A440, H⟩ := H
              replace H : ((spec_l3Factorial.f k2 t283).bind fun t284 => (if t284 = 0 then (none) else (some (wrap64 (Int.tdiv x7_2 t284))))) = some r := H
              have A44 := Aside0.mk A440
              clear A440
              replace H := Option.bind_eq_some_iff.mp H
              obtain ⟨t284, A450, H⟩ := H
              replace H : (if t284 = 0 then (none) else (some (wrap64 (Int.tdiv x7_2 t284)))) = some r := H
              have A45 := Aside0.mk A450
              clear A450
              by_cases c46 : t284 = 0
              · rw [if_pos c46] at H
                exact absurd H (by simp)
              · rw [if_neg c46] at H
                have c46b0 : (t284 == 0) = false := beq_eq_false_iff_ne.mpr c46
                have c46b1 : (t284 != 0) = true := bne_iff_ne.mpr c46
                obtain rfl := Option.some.inj H
                obtain ⟨Ao47, co47, eo47⟩ := Kd.S_slice HO_8.out
                subst eo47
                go_wp2_with (first | ((with_reducible refine gate_callee (f := 39) rfl ?_); refine goesL_ (some 76) rfl rfl Try.func39 (by kernel_rfl) rfl #[.slice A0 l0.length c0] rfl xm ?_; (with_reducible refine (spec_l2Size.calls k2 _ _ l0 t283 _ ?side1 ?side2 A44.out).mono ?_); (case side1 => first | exact xc (Kd.C_below HR0.out HB.out) | exact xc HR0.out); (case side2 => exact HC0.out); rintro e w' ⟨rfl, ⟨nd, rfl⟩⟩; refine ⟨_, rfl, ?_⟩) | ((with_reducible refine gate_callee (f := 43) rfl ?_); refine goesL_ (some 77) rfl rfl Try.func43 (by kernel_rfl) rfl #[.int .i64 t283] rfl xm ?_; (with_reducible refine (spec_l3Factorial.calls k2 t283 t284 _ A45.out).mono ?_); rintro e w' ⟨rfl, ⟨nd, rfl⟩⟩; refine ⟨_, rfl, ?_⟩))
                go_ret
                exact ⟨by first | rfl | (simp [errW_none, errW_some] <;> rfl) | (simp [*, errW_none, errW_some] <;> rfl), by repeat (first | (with_reducible first | exact HB.out | apply below_alloc | apply pw_below_drewN | apply below_drew1) | exact HB.out)⟩

end Go.Proofs.Ytojjokhfmgomcaa.PFnExactKroneckerOf
