-- Written by a program of this session (wip/print/xprint.py).
import Derived.Test.YtojjokhfmgomcaaPFnExactKroneckerOfx0
import Derived.Test.YtojjokhfmgomcaaPFnExactKroneckerOfx11
import Derived.Test.YtojjokhfmgomcaaPFnExactKroneckerOfx14
namespace Go.Proofs.Ytojjokhfmgomcaa.PFnExactKroneckerOf
open Go.RowKit Go.Proofs.YtojjokhfmgomcaaW.PrintWords Go.Proofs.YtojjokhfmgomcaaW.PrintLast Go.Proofs.YtojjokhfmgomcaaW.PrintMore
attribute [local go_sem] max2_int min2_int max_two min_two max_three min_three max_four min_four   -- for this text's walks alone
set_option linter.unusedVariables false
set_option linter.unusedSimpArgs false

/-! ### impl_CharacterOf: function 21 -/
mutual
def impl_CharacterOf.j0 : Nat → List Int → List Int → Bool → Option (Int)
  | 0, _, _, _ => none
  | k + 1, x0, x1, x18 => if x18 = true then (some 0) else (if (x1.length : Int) = 0 then (some 1) else (if 0 < (x1.length : Int) then ((impl_RibbonsInside.f k x0 (rd x1 0)).bind fun t380 => (impl_CharacterOf.l0 k x1 0 t380 (t380.length : Int) 0)) else (none)))
def impl_CharacterOf.l0 : Nat → List Int → Int → List (S40) → Int → Int → Option (Int)
  | 0, _, _, _, _, _ => none
  | k + 1, x1, x5, x26, x27, x28 => if x28 < x27 then (if 0 ≤ x28 then (if x28 < (x26.length : Int) then (if 1 ≤ (x1.length : Int) then ((impl_CharacterOf.f k ((rd_T40 x26 x28).f1) (x1.drop 1)).bind fun t386 => ((impl_RibbonHeight.f k ((rd_T40 x26 x28).f0) ((rd_T40 x26 x28).f1)).bind fun t387 => (if (Int.tmod t387 2) = 1 then (impl_CharacterOf.l0 k x1 (wrap64 (x5 + (wrap64 (-t386)))) x26 x27 (wrap64 (x28 + 1))) else (impl_CharacterOf.l0 k x1 (wrap64 (x5 + t386)) x26 x27 (wrap64 (x28 + 1)))))) else (none)) else (none)) else (none)) else (some x5)
def impl_CharacterOf.f : Nat → List Int → List Int → Option (Int)
  | 0, _, _ => none
  | k + 1, l0, l1 => (impl_SizeOf.f k l0).bind fun t376 => ((impl_SizeOf.f k l1).bind fun t377 => (if t376 = t377 then ((impl_SizeOf.f k l0).bind fun t378 => (impl_CharacterOf.j0 k l0 l1 (decide (t378 < 0)))) else (impl_CharacterOf.j0 k l0 l1 true)))
end
theorem impl_CharacterOf.mono_l : ∀ k, (∀ y0 y1, LeO (impl_CharacterOf.f k y0 y1) (impl_CharacterOf.f (k + 1) y0 y1)) ∧ (∀ y0 y1 y2, LeO (impl_CharacterOf.j0 k y0 y1 y2) (impl_CharacterOf.j0 (k + 1) y0 y1 y2)) ∧ (∀ y0 y1 y2 y3 y4, LeO (impl_CharacterOf.l0 k y0 y1 y2 y3 y4) (impl_CharacterOf.l0 (k + 1) y0 y1 y2 y3 y4))
  | 0 => ⟨fun _ _ r h => by simp [impl_CharacterOf.f] at h, fun _ _ _ r h => by simp [impl_CharacterOf.j0] at h, fun _ _ _ _ _ r h => by simp [impl_CharacterOf.l0] at h⟩
  | k + 1 => by
    obtain ⟨ih0, ih1, ih2⟩ := impl_CharacterOf.mono_l k
    refine ⟨?_, ?_, ?_⟩
    · intro y0 y1
      unfold impl_CharacterOf.f
      repeat' first
      | (with_reducible exact ih0 _ _)
      | (with_reducible exact ih1 _ _ _)
      | (with_reducible exact ih2 _ _ _ _ _)
      | (with_reducible exact impl_RibbonHeight.mono _ _ _)
      | (with_reducible exact impl_RibbonsInside.mono _ _ _)
      | (with_reducible exact impl_SizeOf.mono _ _)
      | (with_reducible exact LeO.refl _)
      | (with_reducible exact LeO.none _)
      | (with_reducible refine LeO.ite ?_ ?_)
      | (with_reducible refine LeO.bind ?_ (fun _ => ?_))
      | exact ih0 _ _
      | exact ih1 _ _ _
      | exact ih2 _ _ _ _ _
      | exact impl_RibbonHeight.mono _ _ _
      | exact impl_RibbonsInside.mono _ _ _
      | exact impl_SizeOf.mono _ _
      | exact LeO.none _
      | refine LeO.ite ?_ ?_
      | refine LeO.bind ?_ (fun _ => ?_)
    · intro y0 y1 y2
      unfold impl_CharacterOf.j0
      repeat' first
      | (with_reducible exact ih0 _ _)
      | (with_reducible exact ih1 _ _ _)
      | (with_reducible exact ih2 _ _ _ _ _)
      | (with_reducible exact impl_RibbonHeight.mono _ _ _)
      | (with_reducible exact impl_RibbonsInside.mono _ _ _)
      | (with_reducible exact impl_SizeOf.mono _ _)
      | (with_reducible exact LeO.refl _)
      | (with_reducible exact LeO.none _)
      | (with_reducible refine LeO.ite ?_ ?_)
      | (with_reducible refine LeO.bind ?_ (fun _ => ?_))
      | exact ih0 _ _
      | exact ih1 _ _ _
      | exact ih2 _ _ _ _ _
      | exact impl_RibbonHeight.mono _ _ _
      | exact impl_RibbonsInside.mono _ _ _
      | exact impl_SizeOf.mono _ _
      | exact LeO.none _
      | refine LeO.ite ?_ ?_
      | refine LeO.bind ?_ (fun _ => ?_)
    · intro y0 y1 y2 y3 y4
      unfold impl_CharacterOf.l0
      repeat' first
      | (with_reducible exact ih0 _ _)
      | (with_reducible exact ih1 _ _ _)
      | (with_reducible exact ih2 _ _ _ _ _)
      | (with_reducible exact impl_RibbonHeight.mono _ _ _)
      | (with_reducible exact impl_RibbonsInside.mono _ _ _)
      | (with_reducible exact impl_SizeOf.mono _ _)
      | (with_reducible exact LeO.refl _)
      | (with_reducible exact LeO.none _)
      | (with_reducible refine LeO.ite ?_ ?_)
      | (with_reducible refine LeO.bind ?_ (fun _ => ?_))
      | exact ih0 _ _
      | exact ih1 _ _ _
      | exact ih2 _ _ _ _ _
      | exact impl_RibbonHeight.mono _ _ _
      | exact impl_RibbonsInside.mono _ _ _
      | exact impl_SizeOf.mono _ _
      | exact LeO.none _
      | refine LeO.ite ?_ ?_
      | refine LeO.bind ?_ (fun _ => ?_)
theorem impl_CharacterOf.mono : ∀ a0 a1 k, LeO (impl_CharacterOf.f k a0 a1) (impl_CharacterOf.f (k + 1) a0 a1) := by
  intro a0 a1 k
  obtain ⟨ih0, ih1, ih2⟩ := impl_CharacterOf.mono_l k
  exact ih0 a0 a1
set_option maxHeartbeats 8000000 in
set_option maxRecDepth 100000 in
theorem impl_CharacterOf.calls (k : Nat) : ∀ (A0 : Option Addr) (c0 : Nat) (l0 : List Int) (A1 : Option Addr) (c1 : Nat) (l1 : List Int) (r : Int) (w : World) (hr0 : Kd.C (Kd.int .i64) w A0 l0.length l0) (hc0 : l0.length ≤ c0) (hr1 : Kd.C (Kd.int .i64) w A1 l1.length l1) (hc1 : l1.length ≤ c1) (h : impl_CharacterOf.f k l0 l1 = some r),
    Calls Try.prog 21 #[.slice A0 l0.length c0, .slice A1 l1.length c1] w fun e w' => e = .returned (.int .i64 r) ∧ Below w.heap.size w w' := by
  induction k using Nat.strongRecOn with
  | _ k ih =>
  intro A0 c0 l0 A1 c1 l1 r w hr0 hc0 hr1 hc1 h
  cases k with
  | zero => exact absurd h (by simp [impl_CharacterOf.f])
  | succ k =>
  simp only [impl_CharacterOf.f] at h
  have hu40 := Try.underlying40
  have HR0 := Aside0.mk hr0
  have HC0 := Aside0.mk hc0
  clear hr0 hc0
  have HR1 := Aside0.mk hr1
  have HC1 := Aside0.mk hc1
  clear hr1 hc1
  have HB := Aside0.mk (Below.refl w.heap.size w)
  have H : ((impl_SizeOf.f k l0).bind fun t376 => ((impl_SizeOf.f k l1).bind fun t377 => (if t376 = t377 then ((impl_SizeOf.f k l0).bind fun t378 => (impl_CharacterOf.j0 k l0 l1 (decide (t378 < 0)))) else (impl_CharacterOf.j0 k l0 l1 true)))) = some r := h
  clear h
  have HC3 := Aside0.mk H
  clear H
  go_enter Try.func21, Try.ntmps21
  go_upto_region 1 with (fail)
  go_cut [18] (fun v18 wc => ∃ (kq : Nat) (x18_2 : Bool), v18 = .bool x18_2 ∧ Aside0 (impl_CharacterOf.j0 kq l0 l1 x18_2 = some r) ∧ Aside0 (kq ≤ k) ∧ Aside0 (Below w.heap.size w wc))
  case first =>
    have H := HC3.out
    clear HC3
    replace H := Option.bind_eq_some_iff.mp H
    obtain ⟨t376, A40, H⟩ := H
    replace H : ((impl_SizeOf.f k l1).bind fun t377 => (if t376 = t377 then ((impl_SizeOf.f k l0).bind fun t378 => (impl_CharacterOf.j0 k l0 l1 (decide (t378 < 0)))) else (impl_CharacterOf.j0 k l0 l1 true))) = some r := H
    have A4 := Aside0.mk A40
    clear A40
    replace H := Option.bind_eq_some_iff.mp H
    obtain ⟨t377, A50, H⟩ := H
    replace H : (if t376 = t377 then ((impl_SizeOf.f k l0).bind fun t378 => (impl_CharacterOf.j0 k l0 l1 (decide (t378 < 0)))) else (impl_CharacterOf.j0 k l0 l1 true)) = some r := H
    have A5 := Aside0.mk A50
    clear A50
    by_cases c6 : t376 = t377
    · rw [if_pos c6] at H
      have c6b0 : (t376 == t377) = true := beq_iff_eq.mpr c6
      have c6b1 : (t376 != t377) = false := bne_eq_false_iff_eq.mpr c6
      clear c6
      (first | rw [c6b0] | (simp only [i64_w, i32_w]; rw [c6b0]) | skip)
      replace H := Option.bind_eq_some_iff.mp H
      obtain ⟨t378, A70, H⟩ := H
      replace H : (impl_CharacterOf.j0 k l0 l1 (decide (t378 < 0))) = some r := H
      have A7 := Aside0.mk A70
      clear A70
      have H' := Aside0.mk H
      clear H
      go_wp2_with (first | ((with_reducible refine gate_callee (f := 34) rfl ?_); refine goesL_ (some 10) rfl rfl Try.func34 (by kernel_rfl) rfl #[.slice A0 l0.length c0] rfl xm ?_; (with_reducible refine (impl_SizeOf.calls k _ _ l0 t376 _ ?side1 ?side2 A4.out).mono ?_); (case side1 => first | exact xc (Kd.C_below HR0.out HB.out) | exact xc HR0.out); (case side2 => exact HC0.out); rintro e w' ⟨rfl, ⟨nd, rfl⟩⟩; refine ⟨_, rfl, ?_⟩) | ((with_reducible refine gate_callee (f := 34) rfl ?_); refine goesL_ (some 12) rfl rfl Try.func34 (by kernel_rfl) rfl #[.slice A1 l1.length c1] rfl xm ?_; (with_reducible refine (impl_SizeOf.calls k _ _ l1 t377 _ ?side1 ?side2 A5.out).mono ?_); (case side1 => exact xc (Kd.C_below HR1.out (xb HB.out))); (case side2 => exact HC1.out); rintro e w' ⟨rfl, ⟨nd, rfl⟩⟩; refine ⟨_, rfl, ?_⟩) | (go_at_call 34; (with_reducible refine (impl_SizeOf.calls k _ _ l0 t378 _ ?side1 ?side2 A7.out).mono ?_); (case side1 => exact xc (Kd.C_below HR0.out (xb HB.out))); (case side2 => exact HC0.out); rintro e w' ⟨rfl, ⟨nd, rfl⟩⟩))
      go_meet
      case rel => exact ⟨_, (decide (t378 < 0)), (by first | rfl | (simp; done) | (simp [*]; done)), H', ⟨by first | omega | exact Nat.le_refl _⟩, ⟨by repeat (first | (with_reducible first | exact HB.out | apply below_alloc | apply pw_below_drewN | apply below_drew1) | exact HB.out)⟩⟩
    · rw [if_neg c6] at H
      have c6b0 : (t376 == t377) = false := beq_eq_false_iff_ne.mpr c6
      have c6b1 : (t376 != t377) = true := bne_iff_ne.mpr c6
      (first | rw [c6b0] | (simp only [i64_w, i32_w]; rw [c6b0]) | skip)
      have H' := Aside0.mk H
      clear H
      go_wp2_with (first | ((with_reducible refine gate_callee (f := 34) rfl ?_); refine goesL_ (some 10) rfl rfl Try.func34 (by kernel_rfl) rfl #[.slice A0 l0.length c0] rfl xm ?_; (with_reducible refine (impl_SizeOf.calls k _ _ l0 t376 _ ?side1 ?side2 A4.out).mono ?_); (case side1 => first | exact xc (Kd.C_below HR0.out HB.out) | exact xc HR0.out); (case side2 => exact HC0.out); rintro e w' ⟨rfl, ⟨nd, rfl⟩⟩; refine ⟨_, rfl, ?_⟩) | ((with_reducible refine gate_callee (f := 34) rfl ?_); refine goesL_ (some 12) rfl rfl Try.func34 (by kernel_rfl) rfl #[.slice A1 l1.length c1] rfl xm ?_; (with_reducible refine (impl_SizeOf.calls k _ _ l1 t377 _ ?side1 ?side2 A5.out).mono ?_); (case side1 => exact xc (Kd.C_below HR1.out (xb HB.out))); (case side2 => exact HC1.out); rintro e w' ⟨rfl, ⟨nd, rfl⟩⟩; refine ⟨_, rfl, ?_⟩))
      go_meet
      case rel => exact ⟨_, (true), (by first | rfl | (simp; done) | (simp [*]; done)), H', ⟨by first | omega | exact Nat.le_refl _⟩, ⟨by repeat (first | (with_reducible first | exact HB.out | apply below_alloc | apply pw_below_drewN | apply below_drew1) | exact HB.out)⟩⟩
  case rest =>
    clear HC3
    try clear c1
    try clear c2
    try clear p2
    try clear c3
    try clear c6
    try clear c6b0
    try clear c6b1
    obtain ⟨kq, x18_2, rfl, HA, HJ2, HB⟩ := hcut
    cases kq with
    | zero => exact absurd HA.out (by simp [impl_CharacterOf.j0])
    | succ kj2 =>
      have H := HA.out
      clear HA
      simp only [impl_CharacterOf.j0] at H
      by_cases c8 : x18_2 = true
      · subst c8
        have H1 : (some 0) = some r := by rw [if_pos rfl] at H; exact H
        clear H
        have H := H1
        clear H1
        obtain rfl := Option.some.inj H
        go_wp2
        go_ret
        exact ⟨by first | rfl | (simp [errW_none, errW_some] <;> rfl) | (simp [*, errW_none, errW_some] <;> rfl), by repeat (first | (with_reducible first | exact HB.out | apply below_alloc | apply pw_below_drewN | apply below_drew1) | exact HB.out)⟩
      · replace c8 := Bool.eq_false_iff.mpr c8
        subst c8
        have H1 : (if (l1.length : Int) = 0 then (some 1) else (if 0 < (l1.length : Int) then ((impl_RibbonsInside.f kj2 l0 (rd l1 0)).bind fun t380 => (impl_CharacterOf.l0 kj2 l1 0 t380 (t380.length : Int) 0)) else (none))) = some r := by rw [if_neg (show ¬ (false = true) by decide)] at H; exact H
        clear H
        have H := H1
        clear H1
        by_cases c9 : (l1.length : Int) = 0
        · rw [if_pos c9] at H
          have c9b0 : ((l1.length : Int) == 0) = true := beq_iff_eq.mpr c9
          have c9b1 : ((l1.length : Int) != 0) = false := bne_eq_false_iff_eq.mpr c9
          clear c9
          obtain rfl := Option.some.inj H
          go_wp2
          go_ret
          exact ⟨by first | rfl | (simp [errW_none, errW_some] <;> rfl) | (simp [*, errW_none, errW_some] <;> rfl), by repeat (first | (with_reducible first | exact HB.out | apply below_alloc | apply pw_below_drewN | apply below_drew1) | exact HB.out)⟩
        · rw [if_neg c9] at H
          have c9b0 : ((l1.length : Int) == 0) = false := beq_eq_false_iff_ne.mpr c9
          have c9b1 : ((l1.length : Int) != 0) = true := bne_iff_ne.mpr c9
          have c9b2 : ¬ (l1 = []) := fun h_ => c9 (by rw [h_]; rfl)
          by_cases c10 : 0 < (l1.length : Int)
          · rw [if_pos c10] at H
            have c10b0 : decide (0 < (l1.length : Int)) = true := decide_eq_true c10
            have c10b1 : decide (0 < l1.length) = true := decide_eq_true (by omega)
            clear c10
            replace H := Option.bind_eq_some_iff.mp H
            obtain ⟨t380, A110, H⟩ := H
            replace H : (impl_CharacterOf.l0 kj2 l1 0 t380 (t380.length : Int) 0) = some r := H
            have A11 := Aside0.mk A110
            clear A110
            have H' := Aside0.mk H
            clear H
            have p379 : 0 ≤ (0 : Int) := (by omega)
            have q379 : 0 < (l1.length : Int) := of_decide_eq_true (by first | (with_reducible assumption) | assumption)
            obtain ⟨ad379, e379, hx379_0⟩ := Kd.at_int HR1.out 0 p379 q379
            cases e379
            have qi379 : (0 < l1.length) = True := eq_true (by omega)
            (try rw [show ((0 : Int)).toNat = 0 from rfl] at hx379_0)
            (try rw [Addr.add_zero'] at hx379_0)
            (try replace hx379_0 := (HB.out.cell (World.block_lt_of_cell? w _ hx379_0)).trans hx379_0)
            replace p379 := eq_true p379
            replace q379 := eq_true q379
            go_wp2_with (first | ((with_reducible refine gate_callee (f := 35) rfl ?_); refine goesL_ (some 26) rfl rfl Try.func35 (by kernel_rfl) rfl #[.slice A0 l0.length c0, .int .i64 (rd l1 0)] rfl xm ?_; (with_reducible refine (impl_RibbonsInside.calls kj2 _ _ l0 (rd l1 0) t380 _ ?side1 ?side2 A11.out).mono ?_); (case side1 => first | exact xc (Kd.C_below HR0.out HB.out) | exact xc HR0.out); (case side2 => exact HC0.out); rintro e w12 ⟨v381, rfl, ho0, hb⟩; refine ⟨_, rfl, ?_⟩; have n0_ := Aside0.mk (Kd.N_lower (Kd.N_mono (ok' := fun k_ => True) ho0 (fun k_ hk_ => trivial)) (below_size (xb HB.out))); have n1_ := Aside0.mk (below_step (xb HB.out) hb); clear HB; have HO382 := n0_; have HB := n1_; clear n0_ n1_; (try clear hb); (try clear hb2); (try clear hk); (try clear hi); (try clear ho0); obtain ⟨Ao13, co13, eo13⟩ := Kd.N_slice HO382.out; subst eo13))
            go_loopg [5, 28] kj2 (fun kq v5 v28 w' => ∃ (x5_2 : Int) (x28_2 : Int), v5 = .int .i64 x5_2 ∧ v28 = .int .i64 x28_2 ∧ Aside0 (impl_CharacterOf.l0 kq l1 x5_2 t380 (t380.length : Int) x28_2 = some r) ∧ Aside0 (kq ≤ kj2) ∧ Aside0 (Kd.N k40 40 w' w.heap.size (fun _ => True) (.slice Ao13 t380.length co13) t380) ∧ Aside0 (Below w.heap.size w w'))
            case atStart => exact ⟨(0), (0), (by first | rfl | (simp; done) | (simp [*]; done)), (by first | rfl | (simp; done) | (simp [*]; done)), H', ⟨Nat.le_refl _⟩, ⟨by (with_reducible repeat (first | apply Kd.N_alloc | apply Kd.N_drewN | apply Kd.N_drew)); first | exact HO382.out | exact Kd.N_mono HO382.out xi⟩, ⟨by repeat (first | (with_reducible first | exact HB.out | apply below_alloc | apply pw_below_drewN | apply below_drew1) | exact HB.out)⟩⟩
            case round =>
              clear H'
              try clear c1
              try clear c2
              try clear p2
              try clear c3
              try clear p3
              try clear q3
              try clear hx3
              try clear qi3
              try clear c6
              try clear c6b0
              try clear c6b1
              try clear c8
              try clear c9
              try clear c9b0
              try clear c9b1
              try clear c9b2
              try clear c10
              try clear c10b0
              try clear c10b1
              try clear hx379_0
              try clear p2
              try clear p379
              try clear q379
              obtain ⟨x5_2, x28_2, rfl, rfl, HA, HK2, HO_26, HB⟩ := hrel
              cases gk with
              | zero => exact absurd HA.out (by simp [impl_CharacterOf.l0])
              | succ k2 =>
                have H := HA.out
                clear HA
                simp only [impl_CharacterOf.l0] at H
                by_cases c14 : x28_2 < (t380.length : Int)
                · rw [if_pos c14] at H
                  have c14b0 : decide (x28_2 < (t380.length : Int)) = true := decide_eq_true c14
                  clear c14
                  by_cases c15 : 0 ≤ x28_2
                  · rw [if_pos c15] at H
                    have c15b0 : decide (0 ≤ x28_2) = true := decide_eq_true c15
                    clear c15
                    by_cases c16 : x28_2 < (t380.length : Int)
                    · rw [if_pos c16] at H
                      have c16b0 : decide (x28_2 < (t380.length : Int)) = true := decide_eq_true c16
                      clear c16
                      by_cases c17 : 1 ≤ (l1.length : Int)
                      · rw [if_pos c17] at H
                        have c17b0 := eq_true c17
                        have c17b1 : decide (1 ≤ (l1.length : Int)) = true := decide_eq_true c17
                        clear c17
                        replace H := Option.bind_eq_some_iff.mp H
                        obtain ⟨t386, A180, H⟩ := H
                        replace H : ((impl_RibbonHeight.f k2 ((rd_T40 t380 x28_2).f0) ((rd_T40 t380 x28_2).f1)).bind fun t387 => (if (Int.tmod t387 2) = 1 then (impl_CharacterOf.l0 k2 l1 (wrap64 (x5_2 + (wrap64 (-t386)))) t380 (t380.length : Int) (wrap64 (x28_2 + 1))) else (impl_CharacterOf.l0 k2 l1 (wrap64 (x5_2 + t386)) t380 (t380.length : Int) (wrap64 (x28_2 + 1))))) = some r := H
                        have A18 := Aside0.mk A180
                        clear A180
                        replace H := Option.bind_eq_some_iff.mp H
                        obtain ⟨t387, A190, H⟩ := H
                        replace H : (if (Int.tmod t387 2) = 1 then (impl_CharacterOf.l0 k2 l1 (wrap64 (x5_2 + (wrap64 (-t386)))) t380 (t380.length : Int) (wrap64 (x28_2 + 1))) else (impl_CharacterOf.l0 k2 l1 (wrap64 (x5_2 + t386)) t380 (t380.length : Int) (wrap64 (x28_2 + 1)))) = some r := H
                        have A19 := Aside0.mk A190
                        clear A190
                        by_cases c20 : (Int.tmod t387 2) = 1
                        · rw [if_pos c20] at H
                          have c20b0 : ((Int.tmod t387 2) == 1) = true := beq_iff_eq.mpr c20
                          have c20b1 : ((Int.tmod t387 2) != 1) = false := bne_eq_false_iff_eq.mpr c20
                          clear c20
                          have H' := Aside0.mk H
                          clear H
                          have p383 : 0 ≤ (x28_2 : Int) := of_decide_eq_true (by first | (with_reducible assumption) | assumption)
                          have q383 : x28_2 < (t380.length : Int) := of_decide_eq_true (by first | (with_reducible assumption) | assumption)
                          obtain ⟨ad383, A383_0, c383_0, A383_1, c383_1, e383, hx383_0, hx383_1, hl383_0, hi383_0, hl383_1, hi383_1⟩ := at_T40 (Kd.N_reads' HO_26.out).2.2 x28_2 p383 q383
                          cases e383
                          obtain ⟨ce383, hce383, hMe383, hcc383⟩ := Kd.N_get HO_26.out z40 x28_2 p383 (by first | exact q383 | exact of_decide_eq_true (by first | (with_reducible assumption) | assumption) | (have e_ := (Kd.N_reads' HO_26.out).1; omega))
                          obtain ⟨ua383_0, uc383_0, ua383_1, uc383_1, rfl, ul383_0, ge383_0, ul383_1, ge383_1⟩ := k40_openF hMe383
                          have hv383_0 := hcc383 0 _ rfl
                          rw [Nat.add_zero] at hv383_0
                          replace hv383_0 := Option.some.inj (hv383_0.symm.trans hx383_0)
                          injection hv383_0 with hva_ hvn_ hvc_
                          rw [hva_] at ge383_0
                          rw [hvc_] at ul383_0
                          have HL383_0 := Aside0.mk (show Kd.V (Kd.int .i64) 3 _ w.heap.size _ _ ((rd_T40 t380 x28_2).f0) from Kd.V_mk ul383_0 ge383_0)
                          clear hva_ hvn_ hvc_ ge383_0 ul383_0
                          have hv383_1 := hcc383 1 _ rfl
                          rw [add_field _ _ 1 (by omega)] at hv383_1
                          replace hv383_1 := Option.some.inj (hv383_1.symm.trans hx383_1)
                          injection hv383_1 with hva_ hvn_ hvc_
                          rw [hva_] at ge383_1
                          rw [hvc_] at ul383_1
                          have HL383_1 := Aside0.mk (show Kd.V (Kd.int .i64) 3 _ w.heap.size _ _ ((rd_T40 t380 x28_2).f1) from Kd.V_mk ul383_1 ge383_1)
                          clear hva_ hvn_ hvc_ ge383_1 ul383_1
                          clear hcc383 hce383
                          have HR383_0 := Aside0.mk hi383_0
                          have HC383_0 := Aside0.mk hl383_0
                          clear hi383_0 hl383_0
                          have HR383_1 := Aside0.mk hi383_1
                          have HC383_1 := Aside0.mk hl383_1
                          clear hi383_1 hl383_1
                          replace p383 := eq_true p383
                          replace q383 := eq_true q383
                          try go_wp2_with (first | ((with_reducible refine gate_dst (N := 7) rfl ?_); refine box_event ?hg (N := 7) ?hd (cs := #[.slice none 0 0, .slice none 0 0]) (t := 40) ?hr ?_; (case hd => rfl); (case hg => rfl); (case hr => first | (go_simp; done) | (go_simp; rfl)); intro gb384 hg w21 hbox hb; have n0_ := Aside0.mk (Kd.N_below (Kd.N_elderB (xN HO_26.out) gb384 (Nat.le_of_eq hg.symm)) hb); have n1_ := Aside0.mk (Kd.V_below (Kd.V_elderB (xV HL383_0.out) gb384 (Nat.le_of_eq hg.symm)) hb); have n2_ := Aside0.mk (Kd.V_below (Kd.V_elderB (xV HL383_1.out) gb384 (Nat.le_of_eq hg.symm)) hb); have n3_ := Aside0.mk (Kd.C_below (by repeat (first | (with_reducible exact HR383_0.out) | (with_reducible refine Kd.C_alloc ?_ _) | (with_reducible refine Kd.C_drewN ?_ _) | (with_reducible refine Kd.C_drew ?_) | exact HR383_0.out)) hb); have n4_ := Aside0.mk (Kd.C_below (by repeat (first | (with_reducible exact HR383_1.out) | (with_reducible refine Kd.C_alloc ?_ _) | (with_reducible refine Kd.C_drewN ?_ _) | (with_reducible refine Kd.C_drew ?_) | exact HR383_1.out)) hb); have n5_ := Aside0.mk (below_step (xb HB.out) hb); have n6_ := Aside0.mk (hbox); have n7_ := Aside0.mk ((by rw [hg]; exact (below_size (xb HB.out)) : w.heap.size ≤ gb384)); have n8_ := Aside0.mk ((by rw [hg]; exact (below_size (xb HB.out)) : w.heap.size ≤ gb384)); clear HO_26; clear HL383_0; clear HL383_1; clear HR383_0; clear HR383_1; clear HB; have HO_26 := n0_; have HL383_0 := n1_; have HL383_1 := n2_; have HR383_0 := n3_; have HR383_1 := n4_; have HB := n5_; have BK384 := n6_; have GW384 := n7_; have GE384 := n8_; clear n0_ n1_ n2_ n3_ n4_ n5_ n6_ n7_ n8_; clear hb hbox hg; have hcz22_0 : w21.cell? ⟨gb384, 0, none⟩ = some (.slice none 0 0) := (blk_cell BK384.out 0).trans rfl; have hcz22_1 : w21.cell? ⟨gb384, 1, none⟩ = some (.slice none 0 0) := (blk_cell BK384.out 1).trans rfl; have hfz22_0 := blk_frozen BK384.out 0; have hfz22_1 := blk_frozen BK384.out 1))
                          have n0_ : Aside0 (Kd.N k40 40 ((w21.setCell ⟨gb384, 0, none⟩ (.slice A383_0 ((rd_T40 t380 x28_2).f0).length c383_0)).setCell ⟨gb384, 1, none⟩ (.slice A383_1 ((rd_T40 t380 x28_2).f1).length c383_1)) w.heap.size (fun k_ => k_ ≠ gb384) (.slice (some ad383) t380.length co13) t380) := ⟨by (with_reducible repeat (first | apply Kd.N_alloc | apply Kd.N_drewN | apply Kd.N_drew)); exact Kd.N_mono (Kd.N_far (p := ⟨gb384, 1, none⟩) (Kd.N_far (p := ⟨gb384, 0, none⟩) (Kd.N_mono HO_26.out (fun k_ hk => (⟨hk, hk.2⟩ : _ ∧ k_ ≠ gb384))) (fun _ hk => hk.2) (.slice A383_0 ((rd_T40 t380 x28_2).f0).length c383_0)) (fun _ hk => hk.2) (.slice A383_1 ((rd_T40 t380 x28_2).f1).length c383_1)) (fun _ hk => hk.1.2)⟩
                          have n1_ : Aside0 (Kd.V (Kd.int .i64) 3 ((w21.setCell ⟨gb384, 0, none⟩ (.slice A383_0 ((rd_T40 t380 x28_2).f0).length c383_0)).setCell ⟨gb384, 1, none⟩ (.slice A383_1 ((rd_T40 t380 x28_2).f1).length c383_1)) w.heap.size (fun k_ => some k_ ≠ (.slice (some ad383) t380.length co13 : Value).ownBlock ∧ k_ ≠ gb384) (.slice A383_0 ((rd_T40 t380 x28_2).f0).length c383_0) ((rd_T40 t380 x28_2).f0)) := ⟨by (with_reducible repeat (first | apply Kd.V_alloc | apply Kd.V_drewN | apply Kd.V_drew)); exact Kd.V_mono (Kd.V_far (p := ⟨gb384, 1, none⟩) (Kd.V_far (p := ⟨gb384, 0, none⟩) (Kd.V_mono HL383_0.out (fun k_ hk => (⟨hk, hk.2⟩ : _ ∧ k_ ≠ gb384))) (fun _ hk => hk.2) (.slice A383_0 ((rd_T40 t380 x28_2).f0).length c383_0)) (fun _ hk => hk.2) (.slice A383_1 ((rd_T40 t380 x28_2).f1).length c383_1)) (fun _ hk => ⟨hk.1.1.2, hk.1.2⟩)⟩
                          have n2_ : Aside0 (Kd.V (Kd.int .i64) 3 ((w21.setCell ⟨gb384, 0, none⟩ (.slice A383_0 ((rd_T40 t380 x28_2).f0).length c383_0)).setCell ⟨gb384, 1, none⟩ (.slice A383_1 ((rd_T40 t380 x28_2).f1).length c383_1)) w.heap.size (fun k_ => some k_ ≠ (.slice (some ad383) t380.length co13 : Value).ownBlock ∧ k_ ≠ gb384) (.slice A383_1 ((rd_T40 t380 x28_2).f1).length c383_1) ((rd_T40 t380 x28_2).f1)) := ⟨by (with_reducible repeat (first | apply Kd.V_alloc | apply Kd.V_drewN | apply Kd.V_drew)); exact Kd.V_mono (Kd.V_far (p := ⟨gb384, 1, none⟩) (Kd.V_far (p := ⟨gb384, 0, none⟩) (Kd.V_mono HL383_1.out (fun k_ hk => (⟨hk, hk.2⟩ : _ ∧ k_ ≠ gb384))) (fun _ hk => hk.2) (.slice A383_0 ((rd_T40 t380 x28_2).f0).length c383_0)) (fun _ hk => hk.2) (.slice A383_1 ((rd_T40 t380 x28_2).f1).length c383_1)) (fun _ hk => ⟨hk.1.1.2, hk.1.2⟩)⟩
                          have n3_ : Aside0 (((w21.setCell ⟨gb384, 0, none⟩ (.slice A383_0 ((rd_T40 t380 x28_2).f0).length c383_0)).setCell ⟨gb384, 1, none⟩ (.slice A383_1 ((rd_T40 t380 x28_2).f1).length c383_1)).heap[gb384]? = some (.cells #[.slice A383_0 ((rd_T40 t380 x28_2).f0).length c383_0, .slice A383_1 ((rd_T40 t380 x28_2).f1).length c383_1] 40 (0, 0))) := ⟨by (with_reducible repeat (first | refine blk_drewN ?_ _ | refine blk_drew ?_ | refine blk_alloc ?_ _)); refine blk_put (cs := #[.slice A383_0 ((rd_T40 t380 x28_2).f0).length c383_0, .slice none 0 0]) ?_ 1 _ rfl; (with_reducible repeat (first | refine blk_drewN ?_ _ | refine blk_drew ?_ | refine blk_alloc ?_ _)); refine blk_put (cs := #[.slice none 0 0, .slice none 0 0]) ?_ 0 _ rfl; (with_reducible repeat (first | refine blk_drewN ?_ _ | refine blk_drew ?_ | refine blk_alloc ?_ _)); exact BK384.out⟩
                          have n4_ : Aside0 (Below w.heap.size w ((w21.setCell ⟨gb384, 0, none⟩ (.slice A383_0 ((rd_T40 t380 x28_2).f0).length c383_0)).setCell ⟨gb384, 1, none⟩ (.slice A383_1 ((rd_T40 t380 x28_2).f1).length c383_1))) := ⟨by repeat (first | (with_reducible first | exact HB.out | apply below_alloc | apply pw_below_drewN | apply below_drew1 | refine below_set ?_ GE384.out) | exact HB.out)⟩
                          (try clear HO_26)
                          (try clear HL383_0)
                          (try clear HL383_1)
                          (try clear BK384)
                          (try clear HB)
                          generalize ((w21.setCell ⟨gb384, 0, none⟩ (.slice A383_0 ((rd_T40 t380 x28_2).f0).length c383_0)).setCell ⟨gb384, 1, none⟩ (.slice A383_1 ((rd_T40 t380 x28_2).f1).length c383_1)) = w23 at n0_ n1_ n2_ n3_ n4_ ⊢
                          have HO_26 := n0_
                          have HL383_0 := n1_
                          have HL383_1 := n2_
                          have BK384 := n3_
                          have HB := n4_
                          clear n0_ n1_ n2_ n3_ n4_
                          have n0_ := Aside0.mk (Kd.N_drew HO_26.out)
                          have n1_ := Aside0.mk (Kd.V_drew HL383_0.out)
                          have n2_ := Aside0.mk (Kd.V_drew HL383_1.out)
                          have n3_ := Aside0.mk (blk_drew BK384.out)
                          have n4_ := Aside0.mk (below_drew1 HB.out)
                          clear HO_26
                          clear HL383_0
                          clear HL383_1
                          clear BK384
                          clear HB
                          have HO_26 := n0_
                          have HL383_0 := n1_
                          have HL383_1 := n2_
                          have BK384 := n3_
                          have HB := n4_
                          clear n0_ n1_ n2_ n3_ n4_
                          obtain ⟨i025, hi025, _, hsz25, _⟩ := info_parts info3
                          obtain ⟨A25, hcut25, hA25, hC25⟩ := print_drop_of (P := Try.prog) (Value.int .i64) 0 22 3 .i64 Try.underlying22 hi025 hsz25 (some ad379) c1 l1 1 (by omega) (of_decide_eq_true (by first | (with_reducible assumption) | assumption)) HC1.out
                          have HR385 := Aside0.mk (Kd.C_of_reads (h1 := fun _ => rfl) (hA25 _ (Kd.reads_of_C HR1.out)))
                          have HC385 := Aside0.mk hC25
                          clear hA25 hC25 hi025 hsz25
                          refine start_ (n := 6) (S := fun w' => w'.cell? ⟨gb384, 0, none⟩ = some (.slice A383_0 ((rd_T40 t380 x28_2).f0).length c383_0) ∧ w'.cell? ⟨gb384, 1, none⟩ = some (.slice A383_1 ((rd_T40 t380 x28_2).f1).length c383_1)) (ds := []) #[false, false, false, false, false, false] (by kernel_rfl) rfl rfl ⟨(blk_cell BK384.out 0).trans rfl, (blk_cell BK384.out 1).trans rfl⟩ (fun hHeld => ?_)
                          generalize w23.drew = w24 at HO_26 HL383_0 HL383_1 BK384 HB HR385 hHeld ⊢
                          refine pure_ (i := 0) (N := some 32) (v := ?_) (a' := ?_) #[true, false, false, false, false, false] rfl rfl (by kernel_rfl) (fun _ _ _ h => h) (Or.inl ⟨by rfl, ?_⟩) ?_ ?_
                          rotate_left
                          · intro w'
                            go_simp
                            with_reducible rfl
                          rotate_left
                          · simp only [Act.put, List.setIfInBounds_toArray, List.set_cons_zero, List.set_cons_succ, i64_w, i32_w]
                            rfl
                          refine pure_ (i := 2) (N := some 34) (v := ?_) (a' := ?_) #[true, false, true, false, false, false] rfl rfl (by kernel_rfl) (fun _ _ _ h => h) (Or.inl ⟨by rfl, ?_⟩) ?_ ?_
                          rotate_left
                          · intro w'
                            go_simp
                            with_reducible rfl
                          rotate_left
                          · simp only [Act.put, List.setIfInBounds_toArray, List.set_cons_zero, List.set_cons_succ, i64_w, i32_w]
                            rfl
                          refine pure_ (i := 3) (N := some 35) (v := ?_) (a' := ?_) #[true, false, true, true, false, false] rfl rfl (by kernel_rfl) (fun _ _ _ h => h) (Or.inl ⟨by rfl, ?_⟩) ?_ ?_
                          rotate_left
                          · intro w'
                            go_simp
                            with_reducible rfl
                          rotate_left
                          · simp only [Act.put, List.setIfInBounds_toArray, List.set_cons_zero, List.set_cons_succ, i64_w, i32_w]
                            rfl
                          refine take_ (i := 1) (N := some 33) (v := ?_) (a' := ?_) #[true, true, true, true, false, false] rfl rfl (by kernel_rfl) (fun _ _ _ h => h) (Or.inl ⟨by rfl, ?_⟩) hHeld ?_ ?_
                          rotate_left
                          · rintro w' ⟨s0, s1⟩
                            go_simp
                            with_reducible rfl
                          rotate_left
                          · simp only [Act.put, List.setIfInBounds_toArray, List.set_cons_zero, List.set_cons_succ, i64_w, i32_w]
                            rfl
                          refine one_ (i := 4) (N := some 36) #[true, true, true, true, true, false] rfl rfl (by kernel_rfl) (by decide) (fun K hK => ?_)
                          refine goes_ Try.func21 (by kernel_rfl) rfl #[.slice A383_1 ((rd_T40 t380 x28_2).f1).length c383_1, .slice A25 (l1.drop 1).length (c1 - 1)] (by rfl) rfl rfl (by (try simp only [List.map_toArray, List.map_cons, List.map_nil]); first | done | (rw [show (l1.drop 1).length = (l1.length - 1) from List.length_drop] <;> rfl) | rfl | (simp only [List.length_drop, List.length_take]; rfl)) ?_
                          with_reducible refine (ih k2 (by have := HJ2.out; have := HK2.out; omega) _ _ ((rd_T40 t380 x28_2).f1) _ _ (l1.drop 1) t386 _ ?side1 ?side2 ?side3 ?side4 A18.out).mono ?_
                          (case side1 => repeat (first | exact ((Kd.V_reads' (xV HL383_1.out)).2.2) | (with_reducible refine Kd.C_alloc ?_ _) | (with_reducible refine Kd.C_drewN ?_ _) | (with_reducible refine Kd.C_drew ?_)))
                          (case side2 => exact HC383_1.out)
                          (case side3 => first | exact xc (Kd.C_below HR385.out HB.out) | exact xc HR385.out)
                          (case side4 => exact HC385.out)
                          rintro e w26 ⟨rfl, hb⟩
                          refine ⟨_, rfl, ?_⟩
                          have n0_ := Aside0.mk (Kd.N_below (xN HO_26.out) hb)
                          have n1_ := Aside0.mk (Kd.V_below (xV HL383_0.out) hb)
                          have n2_ := Aside0.mk (Kd.V_below (xV HL383_1.out) hb)
                          have n3_ := Aside0.mk (blk_below (g := gb384) (o := .cells #[.slice A383_0 ((rd_T40 t380 x28_2).f0).length c383_0, .slice A383_1 ((rd_T40 t380 x28_2).f1).length c383_1] 40 (0, 0)) (by (with_reducible repeat (first | refine blk_drewN ?_ _ | refine blk_drew ?_ | refine blk_alloc ?_ _)); exact BK384.out) hb)
                          have n4_ := Aside0.mk (below_step (by repeat (first | (with_reducible first | exact HB.out | apply below_alloc | apply pw_below_drewN | apply below_drew1 | refine below_set ?_ GE384.out) | exact HB.out)) hb)
                          clear HO_26
                          clear HL383_0
                          clear HL383_1
                          clear BK384
                          clear HB
                          have HO_26 := n0_
                          have HL383_0 := n1_
                          have HL383_1 := n2_
                          have BK384 := n3_
                          have HB := n4_
                          clear n0_ n1_ n2_ n3_ n4_
                          (try clear hb)
                          (try clear hb2)
                          (try clear hk)
                          (try clear hi)
                          refine hK.out _ _ ⟨(blk_cell BK384.out 0).trans rfl, (blk_cell BK384.out 1).trans rfl⟩ (fun hHeld => ?_)
                          clear hK K
                          refine norm_ (a' := ?_) ?_ ?_
                          rotate_left
                          · show Act.put _ (some 36) _ = _
                            simp only [Act.put, List.setIfInBounds_toArray, List.set_cons_zero, List.set_cons_succ, i64_w, i32_w]
                            rfl
                          refine pure_ (i := 5) (N := some 8) (v := ?_) (a' := ?_) #[true, true, true, true, true, true] rfl rfl (by kernel_rfl) (fun _ _ _ h => h) (Or.inl ⟨by rfl, ?_⟩) ?_ ?_
                          rotate_left
                          · intro w'
                            go_simp
                            with_reducible rfl
                          rotate_left
                          · simp only [Act.put, List.setIfInBounds_toArray, List.set_cons_zero, List.set_cons_succ, i64_w, i32_w]
                            rfl
                          refine done_ (by kernel_rfl) ?_
                          have hcz27_0 : w26.cell? ⟨gb384, 0, none⟩ = some (.slice A383_0 ((rd_T40 t380 x28_2).f0).length c383_0) := (blk_cell BK384.out 0).trans rfl
                          have hcz27_1 : w26.cell? ⟨gb384, 1, none⟩ = some (.slice A383_1 ((rd_T40 t380 x28_2).f1).length c383_1) := (blk_cell BK384.out 1).trans rfl
                          have hfz27_0 := blk_frozen BK384.out 0
                          have hfz27_1 := blk_frozen BK384.out 1
                          try go_wp2_with (first | ((with_reducible refine gate_callee (f := 36) rfl ?_); refine goesL_ (some 38) rfl rfl Try.func36 (by kernel_rfl) rfl #[.agg #[.slice A383_0 ((rd_T40 t380 x28_2).f0).length c383_0, .slice A383_1 ((rd_T40 t380 x28_2).f1).length c383_1]] rfl xm ?_; (with_reducible refine (impl_RibbonHeight.calls k2 _ _ ((rd_T40 t380 x28_2).f0) _ _ ((rd_T40 t380 x28_2).f1) t387 _ ?side1 ?side2 ?side3 ?side4 A19.out).mono ?_); (case side1 => repeat (first | exact ((Kd.V_reads' (xV HL383_0.out)).2.2) | (with_reducible refine Kd.C_alloc ?_ _) | (with_reducible refine Kd.C_drewN ?_ _) | (with_reducible refine Kd.C_drew ?_))); (case side2 => exact HC383_0.out); (case side3 => repeat (first | exact ((Kd.V_reads' (xV HL383_1.out)).2.2) | (with_reducible refine Kd.C_alloc ?_ _) | (with_reducible refine Kd.C_drewN ?_ _) | (with_reducible refine Kd.C_drew ?_))); (case side4 => exact HC383_1.out); rintro e w28 ⟨rfl, hb⟩; refine ⟨_, rfl, ?_⟩; have n0_ := Aside0.mk (Kd.N_below (xN HO_26.out) hb); have n1_ := Aside0.mk (Kd.V_below (xV HL383_0.out) hb); have n2_ := Aside0.mk (Kd.V_below (xV HL383_1.out) hb); have n3_ := Aside0.mk (blk_below (g := gb384) (o := .cells #[.slice A383_0 ((rd_T40 t380 x28_2).f0).length c383_0, .slice A383_1 ((rd_T40 t380 x28_2).f1).length c383_1] 40 (0, 0)) (by (with_reducible repeat (first | refine blk_drewN ?_ _ | refine blk_drew ?_ | refine blk_alloc ?_ _)); exact BK384.out) hb); have n4_ := Aside0.mk (below_step (by repeat (first | (with_reducible first | exact HB.out | apply below_alloc | apply pw_below_drewN | apply below_drew1 | refine below_set ?_ GE384.out) | exact HB.out)) hb); clear HO_26; clear HL383_0; clear HL383_1; clear BK384; clear HB; have HO_26 := n0_; have HL383_0 := n1_; have HL383_1 := n2_; have BK384 := n3_; have HB := n4_; clear n0_ n1_ n2_ n3_ n4_; (try clear hb); (try clear hb2); (try clear hk); (try clear hi)))
                          go_roundg k2
                          case measure => have := HJ2.out; have := HK2.out; omega
                          case rel => exact ⟨(wrap64 (x5_2 + (wrap64 (-t386)))), (wrap64 (x28_2 + 1)), (by first | rfl | (simp; done) | (simp [*]; done)), (by first | rfl | (simp; done) | (simp [*]; done)), H', ⟨by have := HJ2.out; have := HK2.out; omega⟩, ⟨by (with_reducible repeat (first | apply Kd.N_alloc | apply Kd.N_drewN | apply Kd.N_drew)); exact Kd.N_mono HO_26.out (fun _ hk => trivial)⟩, ⟨by repeat (first | (with_reducible first | exact HB.out | apply below_alloc | apply pw_below_drewN | apply below_drew1 | refine below_set ?_ GE384.out) | exact HB.out)⟩⟩
                        · rw [if_neg c20] at H
                          have c20b0 : ((Int.tmod t387 2) == 1) = false := beq_eq_false_iff_ne.mpr c20
                          have c20b1 : ((Int.tmod t387 2) != 1) = true := bne_iff_ne.mpr c20
                          have H' := Aside0.mk H
                          clear H
                          have p383 : 0 ≤ (x28_2 : Int) := of_decide_eq_true (by first | (with_reducible assumption) | assumption)
                          have q383 : x28_2 < (t380.length : Int) := of_decide_eq_true (by first | (with_reducible assumption) | assumption)
                          obtain ⟨ad383, A383_0, c383_0, A383_1, c383_1, e383, hx383_0, hx383_1, hl383_0, hi383_0, hl383_1, hi383_1⟩ := at_T40 (Kd.N_reads' HO_26.out).2.2 x28_2 p383 q383
                          cases e383
                          obtain ⟨ce383, hce383, hMe383, hcc383⟩ := Kd.N_get HO_26.out z40 x28_2 p383 (by first | exact q383 | exact of_decide_eq_true (by first | (with_reducible assumption) | assumption) | (have e_ := (Kd.N_reads' HO_26.out).1; omega))
                          obtain ⟨ua383_0, uc383_0, ua383_1, uc383_1, rfl, ul383_0, ge383_0, ul383_1, ge383_1⟩ := k40_openF hMe383
                          have hv383_0 := hcc383 0 _ rfl
                          rw [Nat.add_zero] at hv383_0
                          replace hv383_0 := Option.some.inj (hv383_0.symm.trans hx383_0)
                          injection hv383_0 with hva_ hvn_ hvc_
                          rw [hva_] at ge383_0
                          rw [hvc_] at ul383_0
                          have HL383_0 := Aside0.mk (show Kd.V (Kd.int .i64) 3 _ w.heap.size _ _ ((rd_T40 t380 x28_2).f0) from Kd.V_mk ul383_0 ge383_0)
                          clear hva_ hvn_ hvc_ ge383_0 ul383_0
                          have hv383_1 := hcc383 1 _ rfl
                          rw [add_field _ _ 1 (by omega)] at hv383_1
                          replace hv383_1 := Option.some.inj (hv383_1.symm.trans hx383_1)
                          injection hv383_1 with hva_ hvn_ hvc_
                          rw [hva_] at ge383_1
                          rw [hvc_] at ul383_1
                          have HL383_1 := Aside0.mk (show Kd.V (Kd.int .i64) 3 _ w.heap.size _ _ ((rd_T40 t380 x28_2).f1) from Kd.V_mk ul383_1 ge383_1)
                          clear hva_ hvn_ hvc_ ge383_1 ul383_1
                          clear hcc383 hce383
                          have HR383_0 := Aside0.mk hi383_0
                          have HC383_0 := Aside0.mk hl383_0
                          clear hi383_0 hl383_0
                          have HR383_1 := Aside0.mk hi383_1
                          have HC383_1 := Aside0.mk hl383_1
                          clear hi383_1 hl383_1
                          replace p383 := eq_true p383
                          replace q383 := eq_true q383
                          try go_wp2_with (first | ((with_reducible refine gate_dst (N := 7) rfl ?_); refine box_event ?hg (N := 7) ?hd (cs := #[.slice none 0 0, .slice none 0 0]) (t := 40) ?hr ?_; (case hd => rfl); (case hg => rfl); (case hr => first | (go_simp; done) | (go_simp; rfl)); intro gb384 hg w29 hbox hb; have n0_ := Aside0.mk (Kd.N_below (Kd.N_elderB (xN HO_26.out) gb384 (Nat.le_of_eq hg.symm)) hb); have n1_ := Aside0.mk (Kd.V_below (Kd.V_elderB (xV HL383_0.out) gb384 (Nat.le_of_eq hg.symm)) hb); have n2_ := Aside0.mk (Kd.V_below (Kd.V_elderB (xV HL383_1.out) gb384 (Nat.le_of_eq hg.symm)) hb); have n3_ := Aside0.mk (Kd.C_below (by repeat (first | (with_reducible exact HR383_0.out) | (with_reducible refine Kd.C_alloc ?_ _) | (with_reducible refine Kd.C_drewN ?_ _) | (with_reducible refine Kd.C_drew ?_) | exact HR383_0.out)) hb); have n4_ := Aside0.mk (Kd.C_below (by repeat (first | (with_reducible exact HR383_1.out) | (with_reducible refine Kd.C_alloc ?_ _) | (with_reducible refine Kd.C_drewN ?_ _) | (with_reducible refine Kd.C_drew ?_) | exact HR383_1.out)) hb); have n5_ := Aside0.mk (below_step (xb HB.out) hb); have n6_ := Aside0.mk (hbox); have n7_ := Aside0.mk ((by rw [hg]; exact (below_size (xb HB.out)) : w.heap.size ≤ gb384)); have n8_ := Aside0.mk ((by rw [hg]; exact (below_size (xb HB.out)) : w.heap.size ≤ gb384)); clear HO_26; clear HL383_0; clear HL383_1; clear HR383_0; clear HR383_1; clear HB; have HO_26 := n0_; have HL383_0 := n1_; have HL383_1 := n2_; have HR383_0 := n3_; have HR383_1 := n4_; have HB := n5_; have BK384 := n6_; have GW384 := n7_; have GE384 := n8_; clear n0_ n1_ n2_ n3_ n4_ n5_ n6_ n7_ n8_; clear hb hbox hg; have hcz30_0 : w29.cell? ⟨gb384, 0, none⟩ = some (.slice none 0 0) := (blk_cell BK384.out 0).trans rfl; have hcz30_1 : w29.cell? ⟨gb384, 1, none⟩ = some (.slice none 0 0) := (blk_cell BK384.out 1).trans rfl; have hfz30_0 := blk_frozen BK384.out 0; have hfz30_1 := blk_frozen BK384.out 1))
                          have n0_ : Aside0 (Kd.N k40 40 ((w29.setCell ⟨gb384, 0, none⟩ (.slice A383_0 ((rd_T40 t380 x28_2).f0).length c383_0)).setCell ⟨gb384, 1, none⟩ (.slice A383_1 ((rd_T40 t380 x28_2).f1).length c383_1)) w.heap.size (fun k_ => k_ ≠ gb384) (.slice (some ad383) t380.length co13) t380) := ⟨by (with_reducible repeat (first | apply Kd.N_alloc | apply Kd.N_drewN | apply Kd.N_drew)); exact Kd.N_mono (Kd.N_far (p := ⟨gb384, 1, none⟩) (Kd.N_far (p := ⟨gb384, 0, none⟩) (Kd.N_mono HO_26.out (fun k_ hk => (⟨hk, hk.2⟩ : _ ∧ k_ ≠ gb384))) (fun _ hk => hk.2) (.slice A383_0 ((rd_T40 t380 x28_2).f0).length c383_0)) (fun _ hk => hk.2) (.slice A383_1 ((rd_T40 t380 x28_2).f1).length c383_1)) (fun _ hk => hk.1.2)⟩
                          have n1_ : Aside0 (Kd.V (Kd.int .i64) 3 ((w29.setCell ⟨gb384, 0, none⟩ (.slice A383_0 ((rd_T40 t380 x28_2).f0).length c383_0)).setCell ⟨gb384, 1, none⟩ (.slice A383_1 ((rd_T40 t380 x28_2).f1).length c383_1)) w.heap.size (fun k_ => some k_ ≠ (.slice (some ad383) t380.length co13 : Value).ownBlock ∧ k_ ≠ gb384) (.slice A383_0 ((rd_T40 t380 x28_2).f0).length c383_0) ((rd_T40 t380 x28_2).f0)) := ⟨by (with_reducible repeat (first | apply Kd.V_alloc | apply Kd.V_drewN | apply Kd.V_drew)); exact Kd.V_mono (Kd.V_far (p := ⟨gb384, 1, none⟩) (Kd.V_far (p := ⟨gb384, 0, none⟩) (Kd.V_mono HL383_0.out (fun k_ hk => (⟨hk, hk.2⟩ : _ ∧ k_ ≠ gb384))) (fun _ hk => hk.2) (.slice A383_0 ((rd_T40 t380 x28_2).f0).length c383_0)) (fun _ hk => hk.2) (.slice A383_1 ((rd_T40 t380 x28_2).f1).length c383_1)) (fun _ hk => ⟨hk.1.1.2, hk.1.2⟩)⟩
                          have n2_ : Aside0 (Kd.V (Kd.int .i64) 3 ((w29.setCell ⟨gb384, 0, none⟩ (.slice A383_0 ((rd_T40 t380 x28_2).f0).length c383_0)).setCell ⟨gb384, 1, none⟩ (.slice A383_1 ((rd_T40 t380 x28_2).f1).length c383_1)) w.heap.size (fun k_ => some k_ ≠ (.slice (some ad383) t380.length co13 : Value).ownBlock ∧ k_ ≠ gb384) (.slice A383_1 ((rd_T40 t380 x28_2).f1).length c383_1) ((rd_T40 t380 x28_2).f1)) := ⟨by (with_reducible repeat (first | apply Kd.V_alloc | apply Kd.V_drewN | apply Kd.V_drew)); exact Kd.V_mono (Kd.V_far (p := ⟨gb384, 1, none⟩) (Kd.V_far (p := ⟨gb384, 0, none⟩) (Kd.V_mono HL383_1.out (fun k_ hk => (⟨hk, hk.2⟩ : _ ∧ k_ ≠ gb384))) (fun _ hk => hk.2) (.slice A383_0 ((rd_T40 t380 x28_2).f0).length c383_0)) (fun _ hk => hk.2) (.slice A383_1 ((rd_T40 t380 x28_2).f1).length c383_1)) (fun _ hk => ⟨hk.1.1.2, hk.1.2⟩)⟩
                          have n3_ : Aside0 (((w29.setCell ⟨gb384, 0, none⟩ (.slice A383_0 ((rd_T40 t380 x28_2).f0).length c383_0)).setCell ⟨gb384, 1, none⟩ (.slice A383_1 ((rd_T40 t380 x28_2).f1).length c383_1)).heap[gb384]? = some (.cells #[.slice A383_0 ((rd_T40 t380 x28_2).f0).length c383_0, .slice A383_1 ((rd_T40 t380 x28_2).f1).length c383_1] 40 (0, 0))) := ⟨by (with_reducible repeat (first | refine blk_drewN ?_ _ | refine blk_drew ?_ | refine blk_alloc ?_ _)); refine blk_put (cs := #[.slice A383_0 ((rd_T40 t380 x28_2).f0).length c383_0, .slice none 0 0]) ?_ 1 _ rfl; (with_reducible repeat (first | refine blk_drewN ?_ _ | refine blk_drew ?_ | refine blk_alloc ?_ _)); refine blk_put (cs := #[.slice none 0 0, .slice none 0 0]) ?_ 0 _ rfl; (with_reducible repeat (first | refine blk_drewN ?_ _ | refine blk_drew ?_ | refine blk_alloc ?_ _)); exact BK384.out⟩
                          have n4_ : Aside0 (Below w.heap.size w ((w29.setCell ⟨gb384, 0, none⟩ (.slice A383_0 ((rd_T40 t380 x28_2).f0).length c383_0)).setCell ⟨gb384, 1, none⟩ (.slice A383_1 ((rd_T40 t380 x28_2).f1).length c383_1))) := ⟨by repeat (first | (with_reducible first | exact HB.out | apply below_alloc | apply pw_below_drewN | apply below_drew1 | refine below_set ?_ GE384.out) | exact HB.out)⟩
                          (try clear HO_26)
                          (try clear HL383_0)
                          (try clear HL383_1)
                          (try clear BK384)
                          (try clear HB)
                          generalize ((w29.setCell ⟨gb384, 0, none⟩ (.slice A383_0 ((rd_T40 t380 x28_2).f0).length c383_0)).setCell ⟨gb384, 1, none⟩ (.slice A383_1 ((rd_T40 t380 x28_2).f1).length c383_1)) = w31 at n0_ n1_ n2_ n3_ n4_ ⊢
                          have HO_26 := n0_
                          have HL383_0 := n1_
                          have HL383_1 := n2_
                          have BK384 := n3_
                          have HB := n4_
                          clear n0_ n1_ n2_ n3_ n4_
                          have n0_ := Aside0.mk (Kd.N_drew HO_26.out)
                          have n1_ := Aside0.mk (Kd.V_drew HL383_0.out)
                          have n2_ := Aside0.mk (Kd.V_drew HL383_1.out)
                          have n3_ := Aside0.mk (blk_drew BK384.out)
                          have n4_ := Aside0.mk (below_drew1 HB.out)
                          clear HO_26
                          clear HL383_0
                          clear HL383_1
                          clear BK384
                          clear HB
                          have HO_26 := n0_
                          have HL383_0 := n1_
                          have HL383_1 := n2_
                          have BK384 := n3_
                          have HB := n4_
                          clear n0_ n1_ n2_ n3_ n4_
                          obtain ⟨i033, hi033, _, hsz33, _⟩ := info_parts info3
                          obtain ⟨A33, hcut33, hA33, hC33⟩ := print_drop_of (P := Try.prog) (Value.int .i64) 0 22 3 .i64 Try.underlying22 hi033 hsz33 (some ad379) c1 l1 1 (by omega) (of_decide_eq_true (by first | (with_reducible assumption) | assumption)) HC1.out
                          have HR385 := Aside0.mk (Kd.C_of_reads (h1 := fun _ => rfl) (hA33 _ (Kd.reads_of_C HR1.out)))
                          have HC385 := Aside0.mk hC33
                          clear hA33 hC33 hi033 hsz33
                          refine start_ (n := 6) (S := fun w' => w'.cell? ⟨gb384, 0, none⟩ = some (.slice A383_0 ((rd_T40 t380 x28_2).f0).length c383_0) ∧ w'.cell? ⟨gb384, 1, none⟩ = some (.slice A383_1 ((rd_T40 t380 x28_2).f1).length c383_1)) (ds := []) #[false, false, false, false, false, false] (by kernel_rfl) rfl rfl ⟨(blk_cell BK384.out 0).trans rfl, (blk_cell BK384.out 1).trans rfl⟩ (fun hHeld => ?_)
                          generalize w31.drew = w32 at HO_26 HL383_0 HL383_1 BK384 HB HR385 hHeld ⊢
                          refine pure_ (i := 0) (N := some 32) (v := ?_) (a' := ?_) #[true, false, false, false, false, false] rfl rfl (by kernel_rfl) (fun _ _ _ h => h) (Or.inl ⟨by rfl, ?_⟩) ?_ ?_
                          rotate_left
                          · intro w'
                            go_simp
                            with_reducible rfl
                          rotate_left
                          · simp only [Act.put, List.setIfInBounds_toArray, List.set_cons_zero, List.set_cons_succ, i64_w, i32_w]
                            rfl
                          refine pure_ (i := 2) (N := some 34) (v := ?_) (a' := ?_) #[true, false, true, false, false, false] rfl rfl (by kernel_rfl) (fun _ _ _ h => h) (Or.inl ⟨by rfl, ?_⟩) ?_ ?_
                          rotate_left
                          · intro w'
                            go_simp
                            with_reducible rfl
                          rotate_left
                          · simp only [Act.put, List.setIfInBounds_toArray, List.set_cons_zero, List.set_cons_succ, i64_w, i32_w]
                            rfl
                          refine pure_ (i := 3) (N := some 35) (v := ?_) (a' := ?_) #[true, false, true, true, false, false] rfl rfl (by kernel_rfl) (fun _ _ _ h => h) (Or.inl ⟨by rfl, ?_⟩) ?_ ?_
                          rotate_left
                          · intro w'
                            go_simp
                            with_reducible rfl
                          rotate_left
                          · simp only [Act.put, List.setIfInBounds_toArray, List.set_cons_zero, List.set_cons_succ, i64_w, i32_w]
                            rfl
                          refine take_ (i := 1) (N := some 33) (v := ?_) (a' := ?_) #[true, true, true, true, false, false] rfl rfl (by kernel_rfl) (fun _ _ _ h => h) (Or.inl ⟨by rfl, ?_⟩) hHeld ?_ ?_
                          rotate_left
                          · rintro w' ⟨s0, s1⟩
                            go_simp
                            with_reducible rfl
                          rotate_left
                          · simp only [Act.put, List.setIfInBounds_toArray, List.set_cons_zero, List.set_cons_succ, i64_w, i32_w]
                            rfl
                          refine one_ (i := 4) (N := some 36) #[true, true, true, true, true, false] rfl rfl (by kernel_rfl) (by decide) (fun K hK => ?_)
                          refine goes_ Try.func21 (by kernel_rfl) rfl #[.slice A383_1 ((rd_T40 t380 x28_2).f1).length c383_1, .slice A33 (l1.drop 1).length (c1 - 1)] (by rfl) rfl rfl (by (try simp only [List.map_toArray, List.map_cons, List.map_nil]); first | done | (rw [show (l1.drop 1).length = (l1.length - 1) from List.length_drop] <;> rfl) | rfl | (simp only [List.length_drop, List.length_take]; rfl)) ?_
                          with_reducible refine (ih k2 (by have := HJ2.out; have := HK2.out; omega) _ _ ((rd_T40 t380 x28_2).f1) _ _ (l1.drop 1) t386 _ ?side1 ?side2 ?side3 ?side4 A18.out).mono ?_
                          (case side1 => repeat (first | exact ((Kd.V_reads' (xV HL383_1.out)).2.2) | (with_reducible refine Kd.C_alloc ?_ _) | (with_reducible refine Kd.C_drewN ?_ _) | (with_reducible refine Kd.C_drew ?_)))
                          (case side2 => exact HC383_1.out)
                          (case side3 => first | exact xc (Kd.C_below HR385.out HB.out) | exact xc HR385.out)
                          (case side4 => exact HC385.out)
                          rintro e w34 ⟨rfl, hb⟩
                          refine ⟨_, rfl, ?_⟩
                          have n0_ := Aside0.mk (Kd.N_below (xN HO_26.out) hb)
                          have n1_ := Aside0.mk (Kd.V_below (xV HL383_0.out) hb)
                          have n2_ := Aside0.mk (Kd.V_below (xV HL383_1.out) hb)
                          have n3_ := Aside0.mk (blk_below (g := gb384) (o := .cells #[.slice A383_0 ((rd_T40 t380 x28_2).f0).length c383_0, .slice A383_1 ((rd_T40 t380 x28_2).f1).length c383_1] 40 (0, 0)) (by (with_reducible repeat (first | refine blk_drewN ?_ _ | refine blk_drew ?_ | refine blk_alloc ?_ _)); exact BK384.out) hb)
                          have n4_ := Aside0.mk (below_step (by repeat (first | (with_reducible first | exact HB.out | apply below_alloc | apply pw_below_drewN | apply below_drew1 | refine below_set ?_ GE384.out) | exact HB.out)) hb)
                          clear HO_26
                          clear HL383_0
                          clear HL383_1
                          clear BK384
                          clear HB
                          have HO_26 := n0_
                          have HL383_0 := n1_
                          have HL383_1 := n2_
                          have BK384 := n3_
                          have HB := n4_
                          clear n0_ n1_ n2_ n3_ n4_
                          (try clear hb)
                          (try clear hb2)
                          (try clear hk)
                          (try clear hi)
                          refine hK.out _ _ ⟨(blk_cell BK384.out 0).trans rfl, (blk_cell BK384.out 1).trans rfl⟩ (fun hHeld => ?_)
                          clear hK K
                          refine norm_ (a' := ?_) ?_ ?_
                          rotate_left
                          · show Act.put _ (some 36) _ = _
                            simp only [Act.put, List.setIfInBounds_toArray, List.set_cons_zero, List.set_cons_succ, i64_w, i32_w]
                            rfl
                          refine pure_ (i := 5) (N := some 8) (v := ?_) (a' := ?_) #[true, true, true, true, true, true] rfl rfl (by kernel_rfl) (fun _ _ _ h => h) (Or.inl ⟨by rfl, ?_⟩) ?_ ?_
                          rotate_left
                          · intro w'
                            go_simp
                            with_reducible rfl
                          rotate_left
                          · simp only [Act.put, List.setIfInBounds_toArray, List.set_cons_zero, List.set_cons_succ, i64_w, i32_w]
                            rfl
                          refine done_ (by kernel_rfl) ?_
                          have hcz35_0 : w34.cell? ⟨gb384, 0, none⟩ = some (.slice A383_0 ((rd_T40 t380 x28_2).f0).length c383_0) := (blk_cell BK384.out 0).trans rfl
                          have hcz35_1 : w34.cell? ⟨gb384, 1, none⟩ = some (.slice A383_1 ((rd_T40 t380 x28_2).f1).length c383_1) := (blk_cell BK384.out 1).trans rfl
                          have hfz35_0 := blk_frozen BK384.out 0
                          have hfz35_1 := blk_frozen BK384.out 1
                          try go_wp2_with (first | ((with_reducible refine gate_callee (f := 36) rfl ?_); refine goesL_ (some 38) rfl rfl Try.func36 (by kernel_rfl) rfl #[.agg #[.slice A383_0 ((rd_T40 t380 x28_2).f0).length c383_0, .slice A383_1 ((rd_T40 t380 x28_2).f1).length c383_1]] rfl xm ?_; (with_reducible refine (impl_RibbonHeight.calls k2 _ _ ((rd_T40 t380 x28_2).f0) _ _ ((rd_T40 t380 x28_2).f1) t387 _ ?side1 ?side2 ?side3 ?side4 A19.out).mono ?_); (case side1 => repeat (first | exact ((Kd.V_reads' (xV HL383_0.out)).2.2) | (with_reducible refine Kd.C_alloc ?_ _) | (with_reducible refine Kd.C_drewN ?_ _) | (with_reducible refine Kd.C_drew ?_))); (case side2 => exact HC383_0.out); (case side3 => repeat (first | exact ((Kd.V_reads' (xV HL383_1.out)).2.2) | (with_reducible refine Kd.C_alloc ?_ _) | (with_reducible refine Kd.C_drewN ?_ _) | (with_reducible refine Kd.C_drew ?_))); (case side4 => exact HC383_1.out); rintro e w36 ⟨rfl, hb⟩; refine ⟨_, rfl, ?_⟩; have n0_ := Aside0.mk (Kd.N_below (xN HO_26.out) hb); have n1_ := Aside0.mk (Kd.V_below (xV HL383_0.out) hb); have n2_ := Aside0.mk (Kd.V_below (xV HL383_1.out) hb); have n3_ := Aside0.mk (blk_below (g := gb384) (o := .cells #[.slice A383_0 ((rd_T40 t380 x28_2).f0).length c383_0, .slice A383_1 ((rd_T40 t380 x28_2).f1).length c383_1] 40 (0, 0)) (by (with_reducible repeat (first | refine blk_drewN ?_ _ | refine blk_drew ?_ | refine blk_alloc ?_ _)); exact BK384.out) hb); have n4_ := Aside0.mk (below_step (by repeat (first | (with_reducible first | exact HB.out | apply below_alloc | apply pw_below_drewN | apply below_drew1 | refine below_set ?_ GE384.out) | exact HB.out)) hb); clear HO_26; clear HL383_0; clear HL383_1; clear BK384; clear HB; have HO_26 := n0_; have HL383_0 := n1_; have HL383_1 := n2_; have BK384 := n3_; have HB := n4_; clear n0_ n1_ n2_ n3_ n4_; (try clear hb); (try clear hb2); (try clear hk); (try clear hi)))
                          go_roundg k2
                          case measure => have := HJ2.out; have := HK2.out; omega
                          case rel => exact ⟨(wrap64 (x5_2 + t386)), (wrap64 (x28_2 + 1)), (by first | rfl | (simp; done) | (simp [*]; done)), (by first | rfl | (simp; done) | (simp [*]; done)), H', ⟨by have := HJ2.out; have := HK2.out; omega⟩, ⟨by (with_reducible repeat (first | apply Kd.N_alloc | apply Kd.N_drewN | apply Kd.N_drew)); exact Kd.N_mono HO_26.out (fun _ hk => trivial)⟩, ⟨by repeat (first | (with_reducible first | exact HB.out | apply below_alloc | apply pw_below_drewN | apply below_drew1 | refine below_set ?_ GE384.out) | exact HB.out)⟩⟩
                      · rw [if_neg c17] at H
                        exact absurd H (by simp)
                    · rw [if_neg c16] at H
                      exact absurd H (by simp)
                  · rw [if_neg c15] at H
                    exact absurd H (by simp)
                · rw [if_neg c14] at H
                  have c14b0 : decide (x28_2 < (t380.length : Int)) = false := decide_eq_false c14
                  clear c14
                  obtain rfl := Option.some.inj H
                  go_wp2
                  go_ret
                  exact ⟨by first | rfl | (simp [errW_none, errW_some] <;> rfl) | (simp [*, errW_none, errW_some] <;> rfl), by repeat (first | (with_reducible first | exact HB.out | apply below_alloc | apply pw_below_drewN | apply below_drew1) | exact HB.out)⟩
          · rw [if_neg c10] at H
            exact absurd H (by simp)

/-! ### impl_factorial: function 60 -/
def impl_factorial.l0 : Nat → Int → Int → Int → Option (Int)
  | 0, _, _, _ => none
  | k + 1, x0, x3, x4 => if x4 ≤ x0 then (impl_factorial.l0 k x0 (wrap64 (x3 * x4)) (wrap64 (x4 + 1))) else (some x3)
def impl_factorial.f (k : Nat) (a0 : Int) : Option (Int) := impl_factorial.l0 k a0 1 2
theorem impl_factorial.mono_l : ∀ k, (∀ y0 y1 y2, LeO (impl_factorial.l0 k y0 y1 y2) (impl_factorial.l0 (k + 1) y0 y1 y2))
  | 0 => fun _ _ _ r h => by simp [impl_factorial.l0] at h
  | k + 1 => by
    have ih0 := impl_factorial.mono_l k
    · intro y0 y1 y2
      unfold impl_factorial.l0
      repeat' first
      | (with_reducible exact ih0 _ _ _)
      | (with_reducible exact LeO.refl _)
      | (with_reducible exact LeO.none _)
      | (with_reducible refine LeO.ite ?_ ?_)
      | (with_reducible refine LeO.bind ?_ (fun _ => ?_))
      | exact ih0 _ _ _
      | exact LeO.none _
      | refine LeO.ite ?_ ?_
      | refine LeO.bind ?_ (fun _ => ?_)
theorem impl_factorial.mono : ∀ a0 k, LeO (impl_factorial.f k a0) (impl_factorial.f (k + 1) a0) := by
  intro a0 k
  have ih0 := impl_factorial.mono_l k
  unfold impl_factorial.f
  repeat' first
      | (with_reducible exact ih0 _ _ _)
      | (with_reducible exact LeO.refl _)
      | (with_reducible exact LeO.none _)
      | (with_reducible refine LeO.ite ?_ ?_)
      | (with_reducible refine LeO.bind ?_ (fun _ => ?_))
      | exact ih0 _ _ _
      | exact LeO.none _
      | refine LeO.ite ?_ ?_
      | refine LeO.bind ?_ (fun _ => ?_)
set_option maxHeartbeats 8000000 in
set_option maxRecDepth 100000 in
theorem impl_factorial.calls (k : Nat) (a0 : Int) (r : Int) (w : World) (h : impl_factorial.f k a0 = some r) :
    Calls Try.prog 60 #[.int .i64 a0] w fun e w' => e = .returned (.int .i64 r) ∧ Drawn0 w w' := by
  have H : (impl_factorial.l0 k a0 1 2) = some r := h
  clear h
  have H' := Aside0.mk H
  clear H
  go_enter Try.func60, Try.ntmps60
  go_wp2
  go_loopg [3, 4] k (fun kq v3 v4 w' => ∃ (x3_1 : Int) (x4_1 : Int), v3 = .int .i64 x3_1 ∧ v4 = .int .i64 x4_1 ∧ Aside0 (impl_factorial.l0 kq a0 x3_1 x4_1 = some r) ∧ Aside0 (kq ≤ k) ∧ Drawn0 w w')
  case atStart => exact ⟨(1), (2), (by first | rfl | (simp; done) | (simp [*]; done)), (by first | rfl | (simp; done) | (simp [*]; done)), H', ⟨Nat.le_refl _⟩, by repeat (first | exact Drawn0.refl _ | apply Drawn0.step)⟩
  case round =>
    clear H'
    obtain ⟨x3_1, x4_1, rfl, rfl, HA, HK1, ⟨m1, rfl⟩⟩ := hrel
    cases gk with
    | zero => exact absurd HA.out (by simp [impl_factorial.l0])
    | succ k1 =>
      have H := HA.out
      clear HA
      simp only [impl_factorial.l0] at H
      by_cases c2 : x4_1 ≤ a0
      · rw [if_pos c2] at H
        have c2b0 : decide (x4_1 ≤ a0) = true := decide_eq_true c2
        clear c2
        have H' := Aside0.mk H
        clear H
        go_wp2
        go_roundg k1
        case measure => have := HK1.out; omega
        case rel => exact ⟨(wrap64 (x3_1 * x4_1)), (wrap64 (x4_1 + 1)), (by first | rfl | (simp; done) | (simp [*]; done)), (by first | rfl | (simp; done) | (simp [*]; done)), H', ⟨by have := HK1.out; omega⟩, by repeat (first | exact Drawn0.refl _ | apply Drawn0.step)⟩
      · rw [if_neg c2] at H
        have c2b0 : decide (x4_1 ≤ a0) = false := decide_eq_false c2
        clear c2
        obtain rfl := Option.some.inj H
        go_wp2
        go_ret
        exact ⟨by first | rfl | (simp; done) | (simp [*]; done), by repeat (first | exact Drawn0.refl _ | apply Drawn0.step)⟩

end Go.Proofs.Ytojjokhfmgomcaa.PFnExactKroneckerOf
