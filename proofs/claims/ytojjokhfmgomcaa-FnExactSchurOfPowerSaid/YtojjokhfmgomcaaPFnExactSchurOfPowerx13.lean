-- Written by a program of this session (wip/print/xprint.py).
import Derived.Test.YtojjokhfmgomcaaPFnExactSchurOfPowerx0
import Derived.Test.YtojjokhfmgomcaaPFnExactSchurOfPowerx8
import Derived.Test.YtojjokhfmgomcaaPFnExactSchurOfPowerx9
import Derived.Test.YtojjokhfmgomcaaPFnExactSchurOfPowerx12
namespace Go.Proofs.Ytojjokhfmgomcaa.PFnExactSchurOfPower
open Go.RowKit Go.Proofs.YtojjokhfmgomcaaW.PrintWords Go.Proofs.YtojjokhfmgomcaaW.PrintLast Go.Proofs.YtojjokhfmgomcaaW.PrintMore
attribute [local go_sem] max2_int min2_int max_two min_two max_three min_three max_four min_four   -- for this text's walks alone
set_option linter.unusedVariables false
set_option linter.unusedSimpArgs false

/-! ### impl_CharacterOf: function 21 -/
mutual
def impl_CharacterOf.j0 : Nat → List Int → List Int → Bool → Option (Int)
  | 0, _, _, _ => none
  | k + 1, x0, x1, x18 => if x18 = true then (some 0) else (if (x1.length : Int) = 0 then (some 1) else (if 0 < (x1.length : Int) then ((impl_RibbonsInside.f k x0 (rd x1 0)).bind fun t364 => (impl_CharacterOf.l0 k x1 0 t364 (t364.length : Int) 0)) else (none)))
def impl_CharacterOf.l0 : Nat → List Int → Int → List (S40) → Int → Int → Option (Int)
  | 0, _, _, _, _, _ => none
  | k + 1, x1, x5, x26, x27, x28 => if x28 < x27 then (if 0 ≤ x28 then (if x28 < (x26.length : Int) then (if 1 ≤ (x1.length : Int) then ((impl_CharacterOf.f k ((rd_T40 x26 x28).f1) (x1.drop 1)).bind fun t370 => ((impl_RibbonHeight.f k ((rd_T40 x26 x28).f0) ((rd_T40 x26 x28).f1)).bind fun t371 => (if (Int.tmod t371 2) = 1 then (impl_CharacterOf.l0 k x1 (wrap64 (x5 + (wrap64 (-t370)))) x26 x27 (wrap64 (x28 + 1))) else (impl_CharacterOf.l0 k x1 (wrap64 (x5 + t370)) x26 x27 (wrap64 (x28 + 1)))))) else (none)) else (none)) else (none)) else (some x5)
def impl_CharacterOf.f : Nat → List Int → List Int → Option (Int)
  | 0, _, _ => none
  | k + 1, l0, l1 => (impl_SizeOf.f k l0).bind fun t360 => ((impl_SizeOf.f k l1).bind fun t361 => (if t360 = t361 then ((impl_SizeOf.f k l0).bind fun t362 => (impl_CharacterOf.j0 k l0 l1 (decide (t362 < 0)))) else (impl_CharacterOf.j0 k l0 l1 true)))
end
theorem impl_CharacterOf.mono_l : ∀ k, (∀ y0 y1, LeO (impl_CharacterOf.f k y0 y1) (impl_CharacterOf.f (k + 1) y0 y1)) ∧ (∀ y0 y1 y2, LeO (impl_CharacterOf.j0 k y0 y1 y2) (impl_CharacterOf.j0 (k + 1) y0 y1 y2)) ∧ (∀ y0 y1 y2 y3 y4, LeO (impl_CharacterOf.l0 k y0 y1 y2 y3 y4) (impl_CharacterOf.l0 (k + 1) y0 y1 y2 y3 y4))
  | 0 => ⟨fun _ _ r h => by simp [impl_CharacterOf.f] at h, fun _ _ _ r h => by simp [impl_CharacterOf.j0] at h, fun _ _ _ _ _ r h => by simp [impl_CharacterOf.l0] at h⟩
  | k + 1 => by
    obtain ⟨ih0, ih1, ih2⟩ := impl_CharacterOf.mono_l k
    refine ⟨?_, ?_, ?_⟩
    · intro y0 y1
      unfold impl_CharacterOf.f
      repeat' first
      | (with_reducible exact ih0 _ _)
      | (with_reducible exact ih1 _ _ _)
      | (with_reducible exact ih2 _ _ _ _ _)
      | (with_reducible exact impl_RibbonHeight.mono _ _ _)
      | (with_reducible exact impl_RibbonsInside.mono _ _ _)
      | (with_reducible exact impl_SizeOf.mono _ _)
      | (with_reducible exact LeO.refl _)
      | (with_reducible exact LeO.none _)
      | (with_reducible refine LeO.ite ?_ ?_)
      | (with_reducible refine LeO.bind ?_ (fun _ => ?_))
      | exact ih0 _ _
      | exact ih1 _ _ _
      | exact ih2 _ _ _ _ _
      | exact impl_RibbonHeight.mono _ _ _
      | exact impl_RibbonsInside.mono _ _ _
      | exact impl_SizeOf.mono _ _
      | exact LeO.none _
      | refine LeO.ite ?_ ?_
      | refine LeO.bind ?_ (fun _ => ?_)
    · intro y0 y1 y2
      unfold impl_CharacterOf.j0
      repeat' first
      | (with_reducible exact ih0 _ _)
      | (with_reducible exact ih1 _ _ _)
      | (with_reducible exact ih2 _ _ _ _ _)
      | (with_reducible exact impl_RibbonHeight.mono _ _ _)
      | (with_reducible exact impl_RibbonsInside.mono _ _ _)
      | (with_reducible exact impl_SizeOf.mono _ _)
      | (with_reducible exact LeO.refl _)
      | (with_reducible exact LeO.none _)
      | (with_reducible refine LeO.ite ?_ ?_)
      | (with_reducible refine LeO.bind ?_ (fun _ => ?_))
      | exact ih0 _ _
      | exact ih1 _ _ _
      | exact ih2 _ _ _ _ _
      | exact impl_RibbonHeight.mono _ _ _
      | exact impl_RibbonsInside.mono _ _ _
      | exact impl_SizeOf.mono _ _
      | exact LeO.none _
      | refine LeO.ite ?_ ?_
      | refine LeO.bind ?_ (fun _ => ?_)
    · intro y0 y1 y2 y3 y4
      unfold impl_CharacterOf.l0
      repeat' first
      | (with_reducible exact ih0 _ _)
      | (with_reducible exact ih1 _ _ _)
      | (with_reducible exact ih2 _ _ _ _ _)
      | (with_reducible exact impl_RibbonHeight.mono _ _ _)
      | (with_reducible exact impl_RibbonsInside.mono _ _ _)
      | (with_reducible exact impl_SizeOf.mono _ _)
      | (with_reducible exact LeO.refl _)
      | (with_reducible exact LeO.none _)
      | (with_reducible refine LeO.ite ?_ ?_)
      | (with_reducible refine LeO.bind ?_ (fun _ => ?_))
      | exact ih0 _ _
      | exact ih1 _ _ _
      | exact ih2 _ _ _ _ _
      | exact impl_RibbonHeight.mono _ _ _
      | exact impl_RibbonsInside.mono _ _ _
      | exact impl_SizeOf.mono _ _
      | exact LeO.none _
      | refine LeO.ite ?_ ?_
      | refine LeO.bind ?_ (fun _ => ?_)
theorem impl_CharacterOf.mono : ∀ a0 a1 k, LeO (impl_CharacterOf.f k a0 a1) (impl_CharacterOf.f (k + 1) a0 a1) := by
  intro a0 a1 k
  obtain ⟨ih0, ih1, ih2⟩ := impl_CharacterOf.mono_l k
  exact ih0 a0 a1
set_option maxHeartbeats 8000000 in
set_option maxRecDepth 100000 in
theorem impl_CharacterOf.calls (k : Nat) : ∀ (A0 : Option Addr) (c0 : Nat) (l0 : List Int) (A1 : Option Addr) (c1 : Nat) (l1 : List Int) (r : Int) (w : World) (hr0 : Kd.C (Kd.int .i64) w A0 l0.length l0) (hc0 : l0.length ≤ c0) (hr1 : Kd.C (Kd.int .i64) w A1 l1.length l1) (hc1 : l1.length ≤ c1) (h : impl_CharacterOf.f k l0 l1 = some r),
    Calls Try.prog 21 #[.slice A0 l0.length c0, .slice A1 l1.length c1] w fun e w' => e = .returned (.int .i64 r) ∧ Below w.heap.size w w' := by
  induction k using Nat.strongRecOn with
  | _ k ih =>
  intro A0 c0 l0 A1 c1 l1 r w hr0 hc0 hr1 hc1 h
  cases k with
  | zero => exact absurd h (by simp [impl_CharacterOf.f])
  | succ k =>
  simp only [impl_CharacterOf.f] at h
  have hu40 := Try.underlying40
  have HR0 := Aside0.mk hr0
  have HC0 := Aside0.mk hc0
  clear hr0 hc0
  have HR1 := Aside0.mk hr1
  have HC1 := Aside0.mk hc1
  clear hr1 hc1
  have HB := Aside0.mk (Below.refl w.heap.size w)
  have H : ((impl_SizeOf.f k l0).bind fun t360 => ((impl_SizeOf.f k l1).bind fun t361 => (if t360 = t361 then ((impl_SizeOf.f k l0).bind fun t362 => (impl_CharacterOf.j0 k l0 l1 (decide (t362 < 0)))) else (impl_CharacterOf.j0 k l0 l1 true)))) = some r := h
  clear h
  have HC3 := Aside0.mk H
  clear H
  go_enter Try.func21, Try.ntmps21
  go_upto_region 1 with (fail)
  go_cut [18] (fun v18 wc => ∃ (kq : Nat) (x18_2 : Bool), v18 = .bool x18_2 ∧ Aside0 (impl_CharacterOf.j0 kq l0 l1 x18_2 = some r) ∧ Aside0 (kq ≤ k) ∧ Aside0 (Below w.heap.size w wc))
  case first =>
    have H := HC3.out
    clear HC3
    replace H := Option.bind_eq_some_iff.mp H
    obtain ⟨t360, A40, H⟩ := H
    replace H : ((impl_SizeOf.f k l1).bind fun t361 => (if t360 = t361 then ((impl_SizeOf.f k l0).bind fun t362 => (impl_CharacterOf.j0 k l0 l1 (decide (t362 < 0)))) else (impl_CharacterOf.j0 k l0 l1 true))) = some r := H
    have A4 := Aside0.mk A40
    clear A40
    replace H := Option.bind_eq_some_iff.mp H
    obtain ⟨t361, A50, H⟩ := H
    replace H : (if t360 = t361 then ((impl_SizeOf.f k l0).bind fun t362 => (impl_CharacterOf.j0 k l0 l1 (decide (t362 < 0)))) else (impl_CharacterOf.j0 k l0 l1 true)) = some r := H
    have A5 := Aside0.mk A50
    clear A50
    by_cases c6 : t360 = t361
    · rw [if_pos c6] at H
      have c6b0 : (t360 == t361) = true := beq_iff_eq.mpr c6
      have c6b1 : (t360 != t361) = false := bne_eq_false_iff_eq.mpr c6
      clear c6
      (first | rw [c6b0] | (simp only [i64_w, i32_w]; rw [c6b0]) | skip)
      replace H := Option.bind_eq_some_iff.mp H
      obtain ⟨t362, A70, H⟩ := H
      replace H : (impl_CharacterOf.j0 k l0 l1 (decide (t362 < 0))) = some r := H
      have A7 := Aside0.mk A70
      clear A70
      have H' := Aside0.mk H
      clear H
      go_wp2_with (first | ((with_reducible refine gate_callee (f := 34) rfl ?_); refine goesL_ (some 10) rfl rfl Try.func34 (by kernel_rfl) rfl #[.slice A0 l0.length c0] rfl xm ?_; (with_reducible refine (impl_SizeOf.calls k _ _ l0 t360 _ ?side1 ?side2 A4.out).mono ?_); (case side1 => exact xc (Kd.C_below HR0.out HB.out)); (case side2 => exact HC0.out); rintro e w' ⟨rfl, ⟨nd, rfl⟩⟩; refine ⟨_, rfl, ?_⟩) | ((with_reducible refine gate_callee (f := 34) rfl ?_); refine goesL_ (some 12) rfl rfl Try.func34 (by kernel_rfl) rfl #[.slice A1 l1.length c1] rfl xm ?_; (with_reducible refine (impl_SizeOf.calls k _ _ l1 t361 _ ?side1 ?side2 A5.out).mono ?_); (case side1 => exact xc (Kd.C_below HR1.out (xb HB.out))); (case side2 => exact HC1.out); rintro e w' ⟨rfl, ⟨nd, rfl⟩⟩; refine ⟨_, rfl, ?_⟩) | (go_at_call 34; (with_reducible refine (impl_SizeOf.calls k _ _ l0 t362 _ ?side1 ?side2 A7.out).mono ?_); (case side1 => exact xc (Kd.C_below HR0.out (xb HB.out))); (case side2 => exact HC0.out); rintro e w' ⟨rfl, ⟨nd, rfl⟩⟩))
      go_meet
      case rel => exact ⟨_, (decide (t362 < 0)), (by first | rfl | (simp; done) | (simp [*]; done)), H', ⟨by first | omega | exact Nat.le_refl _⟩, ⟨by repeat (first | (with_reducible first | exact HB.out | apply below_alloc | apply pw_below_drewN | apply below_drew1) | exact HB.out)⟩⟩
    · rw [if_neg c6] at H
      have c6b0 : (t360 == t361) = false := beq_eq_false_iff_ne.mpr c6
      have c6b1 : (t360 != t361) = true := bne_iff_ne.mpr c6
      (first | rw [c6b0] | (simp only [i64_w, i32_w]; rw [c6b0]) | skip)
      have H' := Aside0.mk H
      clear H
      go_wp2_with (first | ((with_reducible refine gate_callee (f := 34) rfl ?_); refine goesL_ (some 10) rfl rfl Try.func34 (by kernel_rfl) rfl #[.slice A0 l0.length c0] rfl xm ?_; (with_reducible refine (impl_SizeOf.calls k _ _ l0 t360 _ ?side1 ?side2 A4.out).mono ?_); (case side1 => exact xc (Kd.C_below HR0.out HB.out)); (case side2 => exact HC0.out); rintro e w' ⟨rfl, ⟨nd, rfl⟩⟩; refine ⟨_, rfl, ?_⟩) | ((with_reducible refine gate_callee (f := 34) rfl ?_); refine goesL_ (some 12) rfl rfl Try.func34 (by kernel_rfl) rfl #[.slice A1 l1.length c1] rfl xm ?_; (with_reducible refine (impl_SizeOf.calls k _ _ l1 t361 _ ?side1 ?side2 A5.out).mono ?_); (case side1 => exact xc (Kd.C_below HR1.out (xb HB.out))); (case side2 => exact HC1.out); rintro e w' ⟨rfl, ⟨nd, rfl⟩⟩; refine ⟨_, rfl, ?_⟩))
      go_meet
      case rel => exact ⟨_, (true), (by first | rfl | (simp; done) | (simp [*]; done)), H', ⟨by first | omega | exact Nat.le_refl _⟩, ⟨by repeat (first | (with_reducible first | exact HB.out | apply below_alloc | apply pw_below_drewN | apply below_drew1) | exact HB.out)⟩⟩
  case rest =>
    clear HC3
    try clear c1
    try clear c2
    try clear p2
    try clear c3
    try clear c6
    try clear c6b0
    try clear c6b1
    obtain ⟨kq, x18_2, rfl, HA, HJ2, HB⟩ := hcut
    cases kq with
    | zero => exact absurd HA.out (by simp [impl_CharacterOf.j0])
    | succ kj2 =>
      have H := HA.out
      clear HA
      simp only [impl_CharacterOf.j0] at H
      by_cases c8 : x18_2 = true
      · subst c8
        have H1 : (some 0) = some r := by rw [if_pos rfl] at H; exact H
        clear H
        have H := H1
        clear H1
        obtain rfl := Option.some.inj H
        go_wp2
        go_ret
        exact ⟨by first | rfl | (simp [errW_none, errW_some] <;> rfl) | (simp [*, errW_none, errW_some] <;> rfl), by repeat (first | (with_reducible first | exact HB.out | apply below_alloc | apply pw_below_drewN | apply below_drew1) | exact HB.out)⟩
      · replace c8 := Bool.eq_false_iff.mpr c8
        subst c8
        have H1 : (if (l1.length : Int) = 0 then (some 1) else (if 0 < (l1.length : Int) then ((impl_RibbonsInside.f kj2 l0 (rd l1 0)).bind fun t364 => (impl_CharacterOf.l0 kj2 l1 0 t364 (t364.length : Int) 0)) else (none))) = some r := by rw [if_neg (show ¬ (false = true) by decide)] at H; exact H
        clear H
        have H := H1
        clear H1
        by_cases c9 : (l1.length : Int) = 0
        · rw [if_pos c9] at H
          have c9b0 : ((l1.length : Int) == 0) = true := beq_iff_eq.mpr c9
          have c9b1 : ((l1.length : Int) != 0) = false := bne_eq_false_iff_eq.mpr c9
          clear c9
          obtain rfl := Option.some.inj H
          go_wp2
          go_ret
          exact ⟨by first | rfl | (simp [errW_none, errW_some] <;> rfl) | (simp [*, errW_none, errW_some] <;> rfl), by repeat (first | (with_reducible first | exact HB.out | apply below_alloc | apply pw_below_drewN | apply below_drew1) | exact HB.out)⟩
        · rw [if_neg c9] at H
          have c9b0 : ((l1.length : Int) == 0) = false := beq_eq_false_iff_ne.mpr c9
          have c9b1 : ((l1.length : Int) != 0) = true := bne_iff_ne.mpr c9
          have c9b2 : ¬ (l1 = []) := fun h_ => c9 (by rw [h_]; rfl)
          by_cases c10 : 0 < (l1.length : Int)
          · rw [if_pos c10] at H
            have c10b0 : decide (0 < (l1.length : Int)) = true := decide_eq_true c10
            have c10b1 : decide (0 < l1.length) = true := decide_eq_true (by omega)
            clear c10
            replace H := Option.bind_eq_some_iff.mp H
            obtain ⟨t364, A110, H⟩ := H
            replace H : (impl_CharacterOf.l0 kj2 l1 0 t364 (t364.length : Int) 0) = some r := H
            have A11 := Aside0.mk A110
            clear A110
            have H' := Aside0.mk H
            clear H
            have p363 : 0 ≤ (0 : Int) := (by omega)
            have q363 : 0 < (l1.length : Int) := of_decide_eq_true (by first | (with_reducible assumption) | assumption)
            obtain ⟨ad363, e363, hx363_0⟩ := Kd.at_int HR1.out 0 p363 q363
            cases e363
            have qi363 : (0 < l1.length) = True := eq_true (by omega)
            (try rw [show ((0 : Int)).toNat = 0 from rfl] at hx363_0)
            (try rw [Addr.add_zero'] at hx363_0)
            (try replace hx363_0 := (HB.out.cell (World.block_lt_of_cell? w _ hx363_0)).trans hx363_0)
            replace p363 := eq_true p363
            replace q363 := eq_true q363
            go_wp2_with (first | ((with_reducible refine gate_callee (f := 35) rfl ?_); refine goesL_ (some 26) rfl rfl Try.func35 (by kernel_rfl) rfl #[.slice A0 l0.length c0, .int .i64 (rd l1 0)] rfl xm ?_; (with_reducible refine (impl_RibbonsInside.calls kj2 _ _ l0 (rd l1 0) t364 _ ?side1 ?side2 A11.out).mono ?_); (case side1 => exact xc (Kd.C_below HR0.out HB.out)); (case side2 => exact HC0.out); rintro e w12 ⟨v365, rfl, ho0, hb⟩; refine ⟨_, rfl, ?_⟩; have n0_ := Aside0.mk (Kd.N_lower (Kd.N_mono (ok' := fun k_ => True) ho0 (fun k_ hk_ => trivial)) (below_size (xb HB.out))); have n1_ := Aside0.mk (below_step (xb HB.out) hb); clear HB; have HO366 := n0_; have HB := n1_; clear n0_ n1_; (try clear hb); (try clear hb2); (try clear hk); (try clear hi); (try clear ho0); obtain ⟨Ao13, co13, eo13⟩ := Kd.N_slice HO366.out; subst eo13))
            go_loopg [5, 28] kj2 (fun kq v5 v28 w' => ∃ (x5_2 : Int) (x28_2 : Int), v5 = .int .i64 x5_2 ∧ v28 = .int .i64 x28_2 ∧ Aside0 (impl_CharacterOf.l0 kq l1 x5_2 t364 (t364.length : Int) x28_2 = some r) ∧ Aside0 (kq ≤ kj2) ∧ Aside0 (Kd.N k40 40 w' w.heap.size (fun _ => True) (.slice Ao13 t364.length co13) t364) ∧ Aside0 (Below w.heap.size w w'))
            case atStart => exact ⟨(0), (0), (by first | rfl | (simp; done) | (simp [*]; done)), (by first | rfl | (simp; done) | (simp [*]; done)), H', ⟨Nat.le_refl _⟩, ⟨by (with_reducible repeat (first | apply Kd.N_alloc | apply Kd.N_drewN | apply Kd.N_drew)); first | exact HO366.out | exact Kd.N_mono HO366.out xi⟩, ⟨by repeat (first | (with_reducible first | exact HB.out | apply below_alloc | apply pw_below_drewN | apply below_drew1) | exact HB.out)⟩⟩
            case round =>
              clear H'
              try clear c1
              try clear c2
              try clear p2
              try clear c3
              try clear p3
              try clear q3
              try clear hx3
              try clear qi3
              try clear c6
              try clear c6b0
              try clear c6b1
              try clear c8
              try clear c9
              try clear c9b0
              try clear c9b1
              try clear c9b2
              try clear c10
              try clear c10b0
              try clear c10b1
              try clear hx363_0
              try clear p2
              try clear p363
              try clear q363
              obtain ⟨x5_2, x28_2, rfl, rfl, HA, HK2, HO_26, HB⟩ := hrel
              cases gk with
              | zero => exact absurd HA.out (by simp [impl_CharacterOf.l0])
              | succ k2 =>
                have H := HA.out
                clear HA
                simp only [impl_CharacterOf.l0] at H
                by_cases c14 : x28_2 < (t364.length : Int)
                · rw [if_pos c14] at H
                  have c14b0 : decide (x28_2 < (t364.length : Int)) = true := decide_eq_true c14
                  clear c14
                  by_cases c15 : 0 ≤ x28_2
                  · rw [if_pos c15] at H
                    have c15b0 : decide (0 ≤ x28_2) = true := decide_eq_true c15
                    clear c15
                    by_cases c16 : x28_2 < (t364.length : Int)
                    · rw [if_pos c16] at H
                      have c16b0 : decide (x28_2 < (t364.length : Int)) = true := decide_eq_true c16
                      clear c16
                      by_cases c17 : 1 ≤ (l1.length : Int)
                      · rw [if_pos c17] at H
                        have c17b0 := eq_true c17
                        have c17b1 : decide (1 ≤ (l1.length : Int)) = true := decide_eq_true c17
                        clear c17
                        replace H := Option.bind_eq_some_iff.mp H
                        obtain ⟨t370, A180, H⟩ := H
                        replace H : ((impl_RibbonHeight.f k2 ((rd_T40 t364 x28_2).f0) ((rd_T40 t364 x28_2).f1)).bind fun t371 => (if (Int.tmod t371 2) = 1 then (impl_CharacterOf.l0 k2 l1 (wrap64 (x5_2 + (wrap64 (-t370)))) t364 (t364.length : Int) (wrap64 (x28_2 + 1))) else (impl_CharacterOf.l0 k2 l1 (wrap64 (x5_2 + t370)) t364 (t364.length : Int) (wrap64 (x28_2 + 1))))) = some r := H
                        have A18 := Aside0.mk A180
                        clear A180
                        replace H := Option.bind_eq_some_iff.mp H
                        obtain ⟨t371, A190, H⟩ := H
                        replace H : (if (Int.tmod t371 2) = 1 then (impl_CharacterOf.l0 k2 l1 (wrap64 (x5_2 + (wrap64 (-t370)))) t364 (t364.length : Int) (wrap64 (x28_2 + 1))) else (impl_CharacterOf.l0 k2 l1 (wrap64 (x5_2 + t370)) t364 (t364.length : Int) (wrap64 (x28_2 + 1)))) = some r := H
                        have A19 := Aside0.mk A190
                        clear A190
                        by_cases c20 : (Int.tmod t371 2) = 1
                        · rw [if_pos c20] at H
                          have c20b0 : ((Int.tmod t371 2) == 1) = true := beq_iff_eq.mpr c20
                          have c20b1 : ((Int.tmod t371 2) != 1) = false := bne_eq_false_iff_eq.mpr c20
                          clear c20
                          have H' := Aside0.mk H
                          clear H
                          have p367 : 0 ≤ (x28_2 : Int) := of_decide_eq_true (by first | (with_reducible assumption) | assumption)
                          have q367 : x28_2 < (t364.length : Int) := of_decide_eq_true (by first | (with_reducible assumption) | assumption)
                          obtain ⟨ad367, A367_0, c367_0, A367_1, c367_1, e367, hx367_0, hx367_1, hl367_0, hi367_0, hl367_1, hi367_1⟩ := at_T40 (Kd.N_reads' HO_26.out).2.2 x28_2 p367 q367
                          cases e367
                          obtain ⟨ce367, hce367, hMe367, hcc367⟩ := Kd.N_get HO_26.out z40 x28_2 p367 (by first | exact q367 | exact of_decide_eq_true (by first | (with_reducible assumption) | assumption) | (have e_ := (Kd.N_reads' HO_26.out).1; omega))
                          obtain ⟨ua367_0, uc367_0, ua367_1, uc367_1, rfl, ul367_0, ge367_0, ul367_1, ge367_1⟩ := k40_openF hMe367
                          have hv367_0 := hcc367 0 _ rfl
                          rw [Nat.add_zero] at hv367_0
                          replace hv367_0 := Option.some.inj (hv367_0.symm.trans hx367_0)
                          injection hv367_0 with hva_ hvn_ hvc_
                          rw [hva_] at ge367_0
                          rw [hvc_] at ul367_0
                          have HL367_0 := Aside0.mk (show Kd.V (Kd.int .i64) 3 _ w.heap.size _ _ ((rd_T40 t364 x28_2).f0) from Kd.V_mk ul367_0 ge367_0)
                          clear hva_ hvn_ hvc_ ge367_0 ul367_0
                          have hv367_1 := hcc367 1 _ rfl
                          rw [add_field _ _ 1 (by omega)] at hv367_1
                          replace hv367_1 := Option.some.inj (hv367_1.symm.trans hx367_1)
                          injection hv367_1 with hva_ hvn_ hvc_
                          rw [hva_] at ge367_1
                          rw [hvc_] at ul367_1
                          have HL367_1 := Aside0.mk (show Kd.V (Kd.int .i64) 3 _ w.heap.size _ _ ((rd_T40 t364 x28_2).f1) from Kd.V_mk ul367_1 ge367_1)
                          clear hva_ hvn_ hvc_ ge367_1 ul367_1
                          clear hcc367 hce367
                          have HR367_0 := Aside0.mk hi367_0
                          have HC367_0 := Aside0.mk hl367_0
                          clear hi367_0 hl367_0
                          have HR367_1 := Aside0.mk hi367_1
                          have HC367_1 := Aside0.mk hl367_1
                          clear hi367_1 hl367_1
                          replace p367 := eq_true p367
                          replace q367 := eq_true q367
                          try go_wp2_with (first | ((with_reducible refine gate_dst (N := 7) rfl ?_); refine box_event ?hg (N := 7) ?hd (cs := #[.slice none 0 0, .slice none 0 0]) (t := 40) ?hr ?_; (case hd => rfl); (case hg => rfl); (case hr => first | (go_simp; done) | (go_simp; rfl)); intro gb368 hg w21 hbox hb; have n0_ := Aside0.mk (Kd.N_below (Kd.N_elderB (xN HO_26.out) gb368 (Nat.le_of_eq hg.symm)) hb); have n1_ := Aside0.mk (Kd.V_below (Kd.V_elderB (xV HL367_0.out) gb368 (Nat.le_of_eq hg.symm)) hb); have n2_ := Aside0.mk (Kd.V_below (Kd.V_elderB (xV HL367_1.out) gb368 (Nat.le_of_eq hg.symm)) hb); have n3_ := Aside0.mk (Kd.C_below (by repeat (first | (with_reducible exact HR367_0.out) | (with_reducible refine Kd.C_alloc ?_ _) | (with_reducible refine Kd.C_drewN ?_ _) | (with_reducible refine Kd.C_drew ?_) | exact HR367_0.out)) hb); have n4_ := Aside0.mk (Kd.C_below (by repeat (first | (with_reducible exact HR367_1.out) | (with_reducible refine Kd.C_alloc ?_ _) | (with_reducible refine Kd.C_drewN ?_ _) | (with_reducible refine Kd.C_drew ?_) | exact HR367_1.out)) hb); have n5_ := Aside0.mk (below_step (xb HB.out) hb); have n6_ := Aside0.mk (hbox); have n7_ := Aside0.mk ((by rw [hg]; exact (below_size (xb HB.out)) : w.heap.size ≤ gb368)); have n8_ := Aside0.mk ((by rw [hg]; exact (below_size (xb HB.out)) : w.heap.size ≤ gb368)); clear HO_26; clear HL367_0; clear HL367_1; clear HR367_0; clear HR367_1; clear HB; have HO_26 := n0_; have HL367_0 := n1_; have HL367_1 := n2_; have HR367_0 := n3_; have HR367_1 := n4_; have HB := n5_; have BK368 := n6_; have GW368 := n7_; have GE368 := n8_; clear n0_ n1_ n2_ n3_ n4_ n5_ n6_ n7_ n8_; clear hb hbox hg; have hcz22_0 : w21.cell? ⟨gb368, 0, none⟩ = some (.slice none 0 0) := (blk_cell BK368.out 0).trans rfl; have hcz22_1 : w21.cell? ⟨gb368, 1, none⟩ = some (.slice none 0 0) := (blk_cell BK368.out 1).trans rfl; have hfz22_0 := blk_frozen BK368.out 0; have hfz22_1 := blk_frozen BK368.out 1))
                          have n0_ : Aside0 (Kd.N k40 40 ((w21.setCell ⟨gb368, 0, none⟩ (.slice A367_0 ((rd_T40 t364 x28_2).f0).length c367_0)).setCell ⟨gb368, 1, none⟩ (.slice A367_1 ((rd_T40 t364 x28_2).f1).length c367_1)) w.heap.size (fun k_ => k_ ≠ gb368) (.slice (some ad367) t364.length co13) t364) := ⟨by (with_reducible repeat (first | apply Kd.N_alloc | apply Kd.N_drewN | apply Kd.N_drew)); exact Kd.N_mono (Kd.N_far (p := ⟨gb368, 1, none⟩) (Kd.N_far (p := ⟨gb368, 0, none⟩) (Kd.N_mono HO_26.out (fun k_ hk => (⟨hk, hk.2⟩ : _ ∧ k_ ≠ gb368))) (fun _ hk => hk.2) (.slice A367_0 ((rd_T40 t364 x28_2).f0).length c367_0)) (fun _ hk => hk.2) (.slice A367_1 ((rd_T40 t364 x28_2).f1).length c367_1)) (fun _ hk => hk.1.2)⟩
                          have n1_ : Aside0 (Kd.V (Kd.int .i64) 3 ((w21.setCell ⟨gb368, 0, none⟩ (.slice A367_0 ((rd_T40 t364 x28_2).f0).length c367_0)).setCell ⟨gb368, 1, none⟩ (.slice A367_1 ((rd_T40 t364 x28_2).f1).length c367_1)) w.heap.size (fun k_ => some k_ ≠ (.slice (some ad367) t364.length co13 : Value).ownBlock ∧ k_ ≠ gb368) (.slice A367_0 ((rd_T40 t364 x28_2).f0).length c367_0) ((rd_T40 t364 x28_2).f0)) := ⟨by (with_reducible repeat (first | apply Kd.V_alloc | apply Kd.V_drewN | apply Kd.V_drew)); exact Kd.V_mono (Kd.V_far (p := ⟨gb368, 1, none⟩) (Kd.V_far (p := ⟨gb368, 0, none⟩) (Kd.V_mono HL367_0.out (fun k_ hk => (⟨hk, hk.2⟩ : _ ∧ k_ ≠ gb368))) (fun _ hk => hk.2) (.slice A367_0 ((rd_T40 t364 x28_2).f0).length c367_0)) (fun _ hk => hk.2) (.slice A367_1 ((rd_T40 t364 x28_2).f1).length c367_1)) (fun _ hk => ⟨hk.1.1.2, hk.1.2⟩)⟩
                          have n2_ : Aside0 (Kd.V (Kd.int .i64) 3 ((w21.setCell ⟨gb368, 0, none⟩ (.slice A367_0 ((rd_T40 t364 x28_2).f0).length c367_0)).setCell ⟨gb368, 1, none⟩ (.slice A367_1 ((rd_T40 t364 x28_2).f1).length c367_1)) w.heap.size (fun k_ => some k_ ≠ (.slice (some ad367) t364.length co13 : Value).ownBlock ∧ k_ ≠ gb368) (.slice A367_1 ((rd_T40 t364 x28_2).f1).length c367_1) ((rd_T40 t364 x28_2).f1)) := ⟨by (with_reducible repeat (first | apply Kd.V_alloc | apply Kd.V_drewN | apply Kd.V_drew)); exact Kd.V_mono (Kd.V_far (p := ⟨gb368, 1, none⟩) (Kd.V_far (p := ⟨gb368, 0, none⟩) (Kd.V_mono HL367_1.out (fun k_ hk => (⟨hk, hk.2⟩ : _ ∧ k_ ≠ gb368))) (fun _ hk => hk.2) (.slice A367_0 ((rd_T40 t364 x28_2).f0).length c367_0)) (fun _ hk => hk.2) (.slice A367_1 ((rd_T40 t364 x28_2).f1).length c367_1)) (fun _ hk => ⟨hk.1.1.2, hk.1.2⟩)⟩
                          have n3_ : Aside0 (((w21.setCell ⟨gb368, 0, none⟩ (.slice A367_0 ((rd_T40 t364 x28_2).f0).length c367_0)).setCell ⟨gb368, 1, none⟩ (.slice A367_1 ((rd_T40 t364 x28_2).f1).length c367_1)).heap[gb368]? = some (.cells #[.slice A367_0 ((rd_T40 t364 x28_2).f0).length c367_0, .slice A367_1 ((rd_T40 t364 x28_2).f1).length c367_1] 40 (0, 0))) := ⟨by (with_reducible repeat (first | refine blk_drewN ?_ _ | refine blk_drew ?_ | refine blk_alloc ?_ _)); refine blk_put (cs := #[.slice A367_0 ((rd_T40 t364 x28_2).f0).length c367_0, .slice none 0 0]) ?_ 1 _ rfl; (with_reducible repeat (first | refine blk_drewN ?_ _ | refine blk_drew ?_ | refine blk_alloc ?_ _)); refine blk_put (cs := #[.slice none 0 0, .slice none 0 0]) ?_ 0 _ rfl; (with_reducible repeat (first | refine blk_drewN ?_ _ | refine blk_drew ?_ | refine blk_alloc ?_ _)); exact BK368.out⟩
                          have n4_ : Aside0 (Below w.heap.size w ((w21.setCell ⟨gb368, 0, none⟩ (.slice A367_0 ((rd_T40 t364 x28_2).f0).length c367_0)).setCell ⟨gb368, 1, none⟩ (.slice A367_1 ((rd_T40 t364 x28_2).f1).length c367_1))) := ⟨by repeat (first | (with_reducible first | exact HB.out | apply below_alloc | apply pw_below_drewN | apply below_drew1 | refine below_set ?_ GE368.out) | exact HB.out)⟩
                          (try clear HO_26)
                          (try clear HL367_0)
                          (try clear HL367_1)
                          (try clear BK368)
                          (try clear HB)
                          generalize ((w21.setCell ⟨gb368, 0, none⟩ (.slice A367_0 ((rd_T40 t364 x28_2).f0).length c367_0)).setCell ⟨gb368, 1, none⟩ (.slice A367_1 ((rd_T40 t364 x28_2).f1).length c367_1)) = w23 at n0_ n1_ n2_ n3_ n4_ ⊢
                          have HO_26 := n0_
                          have HL367_0 := n1_
                          have HL367_1 := n2_
                          have BK368 := n3_
                          have HB := n4_
                          clear n0_ n1_ n2_ n3_ n4_
                          have n0_ := Aside0.mk (Kd.N_drew HO_26.out)
                          have n1_ := Aside0.mk (Kd.V_drew HL367_0.out)
                          have n2_ := Aside0.mk (Kd.V_drew HL367_1.out)
                          have n3_ := Aside0.mk (blk_drew BK368.out)
                          have n4_ := Aside0.mk (below_drew1 HB.out)
                          clear HO_26
                          clear HL367_0
                          clear HL367_1
                          clear BK368
                          clear HB
                          have HO_26 := n0_
                          have HL367_0 := n1_
                          have HL367_1 := n2_
                          have BK368 := n3_
                          have HB := n4_
                          clear n0_ n1_ n2_ n3_ n4_
                          obtain ⟨i025, hi025, _, hsz25, _⟩ := info_parts info3
                          obtain ⟨A25, hcut25, hA25, hC25⟩ := print_drop_of (P := Try.prog) (Value.int .i64) 0 22 3 .i64 Try.underlying22 hi025 hsz25 (some ad363) c1 l1 1 (by omega) (of_decide_eq_true (by first | (with_reducible assumption) | assumption)) HC1.out
                          have HR369 := Aside0.mk (Kd.C_of_reads (h1 := fun _ => rfl) (hA25 _ (Kd.reads_of_C HR1.out)))
                          have HC369 := Aside0.mk hC25
                          clear hA25 hC25 hi025 hsz25
                          refine start_ (n := 6) (S := fun w' => w'.cell? ⟨gb368, 0, none⟩ = some (.slice A367_0 ((rd_T40 t364 x28_2).f0).length c367_0) ∧ w'.cell? ⟨gb368, 1, none⟩ = some (.slice A367_1 ((rd_T40 t364 x28_2).f1).length c367_1)) (ds := []) #[false, false, false, false, false, false] (by kernel_rfl) rfl rfl ⟨(blk_cell BK368.out 0).trans rfl, (blk_cell BK368.out 1).trans rfl⟩ (fun hHeld => ?_)
                          generalize w23.drew = w24 at HO_26 HL367_0 HL367_1 BK368 HB HR369 hHeld ⊢
                          refine pure_ (i := 0) (N := some 32) (v := ?_) (a' := ?_) #[true, false, false, false, false, false] rfl rfl (by kernel_rfl) (fun _ _ _ h => h) (Or.inl ⟨by rfl, ?_⟩) ?_ ?_
                          rotate_left
                          · intro w'
                            go_simp
                            with_reducible rfl
                          rotate_left
                          · simp only [Act.put, List.setIfInBounds_toArray, List.set_cons_zero, List.set_cons_succ, i64_w, i32_w]
                            rfl
                          refine pure_ (i := 2) (N := some 34) (v := ?_) (a' := ?_) #[true, false, true, false, false, false] rfl rfl (by kernel_rfl) (fun _ _ _ h => h) (Or.inl ⟨by rfl, ?_⟩) ?_ ?_
                          rotate_left
                          · intro w'
                            go_simp
                            with_reducible rfl
                          rotate_left
                          · simp only [Act.put, List.setIfInBounds_toArray, List.set_cons_zero, List.set_cons_succ, i64_w, i32_w]
                            rfl
                          refine pure_ (i := 3) (N := some 35) (v := ?_) (a' := ?_) #[true, false, true, true, false, false] rfl rfl (by kernel_rfl) (fun _ _ _ h => h) (Or.inl ⟨by rfl, ?_⟩) ?_ ?_
                          rotate_left
                          · intro w'
                            go_simp
                            with_reducible rfl
                          rotate_left
                          · simp only [Act.put, List.setIfInBounds_toArray, List.set_cons_zero, List.set_cons_succ, i64_w, i32_w]
                            rfl
                          refine take_ (i := 1) (N := some 33) (v := ?_) (a' := ?_) #[true, true, true, true, false, false] rfl rfl (by kernel_rfl) (fun _ _ _ h => h) (Or.inl ⟨by rfl, ?_⟩) hHeld ?_ ?_
                          rotate_left
                          · rintro w' ⟨s0, s1⟩
                            go_simp
                            with_reducible rfl
                          rotate_left
                          · simp only [Act.put, List.setIfInBounds_toArray, List.set_cons_zero, List.set_cons_succ, i64_w, i32_w]
                            rfl
                          refine one_ (i := 4) (N := some 36) #[true, true, true, true, true, false] rfl rfl (by kernel_rfl) (by decide) (fun K hK => ?_)
                          refine goes_ Try.func21 (by kernel_rfl) rfl #[.slice A367_1 ((rd_T40 t364 x28_2).f1).length c367_1, .slice A25 (l1.drop 1).length (c1 - 1)] (by rfl) rfl rfl (by (try simp only [List.map_toArray, List.map_cons, List.map_nil]); first | done | (rw [show (l1.drop 1).length = (l1.length - 1) from List.length_drop] <;> rfl) | rfl | (simp only [List.length_drop, List.length_take]; rfl)) ?_
                          with_reducible refine (ih k2 (by have := HJ2.out; have := HK2.out; omega) _ _ ((rd_T40 t364 x28_2).f1) _ _ (l1.drop 1) t370 _ ?side1 ?side2 ?side3 ?side4 A18.out).mono ?_
                          (case side1 => repeat (first | exact ((Kd.V_reads' (xV HL367_1.out)).2.2) | (with_reducible refine Kd.C_alloc ?_ _) | (with_reducible refine Kd.C_drewN ?_ _) | (with_reducible refine Kd.C_drew ?_)))
                          (case side2 => exact HC367_1.out)
                          (case side3 => exact xc (Kd.C_below HR369.out HB.out))
                          (case side4 => exact HC369.out)
                          rintro e w26 ⟨rfl, hb⟩
                          refine ⟨_, rfl, ?_⟩
                          have n0_ := Aside0.mk (Kd.N_below (xN HO_26.out) hb)
                          have n1_ := Aside0.mk (Kd.V_below (xV HL367_0.out) hb)
                          have n2_ := Aside0.mk (Kd.V_below (xV HL367_1.out) hb)
                          have n3_ := Aside0.mk (blk_below (g := gb368) (o := .cells #[.slice A367_0 ((rd_T40 t364 x28_2).f0).length c367_0, .slice A367_1 ((rd_T40 t364 x28_2).f1).length c367_1] 40 (0, 0)) (by (with_reducible repeat (first | refine blk_drewN ?_ _ | refine blk_drew ?_ | refine blk_alloc ?_ _)); exact BK368.out) hb)
                          have n4_ := Aside0.mk (below_step (by repeat (first | (with_reducible first | exact HB.out | apply below_alloc | apply pw_below_drewN | apply below_drew1 | refine below_set ?_ GE368.out) | exact HB.out)) hb)
                          clear HO_26
                          clear HL367_0
                          clear HL367_1
                          clear BK368
                          clear HB
                          have HO_26 := n0_
                          have HL367_0 := n1_
                          have HL367_1 := n2_
                          have BK368 := n3_
                          have HB := n4_
                          clear n0_ n1_ n2_ n3_ n4_
                          (try clear hb)
                          (try clear hb2)
                          (try clear hk)
                          (try clear hi)
                          refine hK.out _ _ ⟨(blk_cell BK368.out 0).trans rfl, (blk_cell BK368.out 1).trans rfl⟩ (fun hHeld => ?_)
                          clear hK K
                          refine norm_ (a' := ?_) ?_ ?_
                          rotate_left
                          · show Act.put _ (some 36) _ = _
                            simp only [Act.put, List.setIfInBounds_toArray, List.set_cons_zero, List.set_cons_succ, i64_w, i32_w]
                            rfl
                          refine pure_ (i := 5) (N := some 8) (v := ?_) (a' := ?_) #[true, true, true, true, true, true] rfl rfl (by kernel_rfl) (fun _ _ _ h => h) (Or.inl ⟨by rfl, ?_⟩) ?_ ?_
                          rotate_left
                          · intro w'
                            go_simp
                            with_reducible rfl
                          rotate_left
                          · simp only [Act.put, List.setIfInBounds_toArray, List.set_cons_zero, List.set_cons_succ, i64_w, i32_w]
                            rfl
                          refine done_ (by kernel_rfl) ?_
                          have hcz27_0 : w26.cell? ⟨gb368, 0, none⟩ = some (.slice A367_0 ((rd_T40 t364 x28_2).f0).length c367_0) := (blk_cell BK368.out 0).trans rfl
                          have hcz27_1 : w26.cell? ⟨gb368, 1, none⟩ = some (.slice A367_1 ((rd_T40 t364 x28_2).f1).length c367_1) := (blk_cell BK368.out 1).trans rfl
                          have hfz27_0 := blk_frozen BK368.out 0
                          have hfz27_1 := blk_frozen BK368.out 1
                          try go_wp2_with (first | ((with_reducible refine gate_callee (f := 36) rfl ?_); refine goesL_ (some 38) rfl rfl Try.func36 (by kernel_rfl) rfl #[.agg #[.slice A367_0 ((rd_T40 t364 x28_2).f0).length c367_0, .slice A367_1 ((rd_T40 t364 x28_2).f1).length c367_1]] rfl xm ?_; (with_reducible refine (impl_RibbonHeight.calls k2 _ _ ((rd_T40 t364 x28_2).f0) _ _ ((rd_T40 t364 x28_2).f1) t371 _ ?side1 ?side2 ?side3 ?side4 A19.out).mono ?_); (case side1 => repeat (first | exact ((Kd.V_reads' (xV HL367_0.out)).2.2) | (with_reducible refine Kd.C_alloc ?_ _) | (with_reducible refine Kd.C_drewN ?_ _) | (with_reducible refine Kd.C_drew ?_))); (case side2 => exact HC367_0.out); (case side3 => repeat (first | exact ((Kd.V_reads' (xV HL367_1.out)).2.2) | (with_reducible refine Kd.C_alloc ?_ _) | (with_reducible refine Kd.C_drewN ?_ _) | (with_reducible refine Kd.C_drew ?_))); (case side4 => exact HC367_1.out); rintro e w28 ⟨rfl, hb⟩; refine ⟨_, rfl, ?_⟩; have n0_ := Aside0.mk (Kd.N_below (xN HO_26.out) hb); have n1_ := Aside0.mk (Kd.V_below (xV HL367_0.out) hb); have n2_ := Aside0.mk (Kd.V_below (xV HL367_1.out) hb); have n3_ := Aside0.mk (blk_below (g := gb368) (o := .cells #[.slice A367_0 ((rd_T40 t364 x28_2).f0).length c367_0, .slice A367_1 ((rd_T40 t364 x28_2).f1).length c367_1] 40 (0, 0)) (by (with_reducible repeat (first | refine blk_drewN ?_ _ | refine blk_drew ?_ | refine blk_alloc ?_ _)); exact BK368.out) hb); have n4_ := Aside0.mk (below_step (by repeat (first | (with_reducible first | exact HB.out | apply below_alloc | apply pw_below_drewN | apply below_drew1 | refine below_set ?_ GE368.out) | exact HB.out)) hb); clear HO_26; clear HL367_0; clear HL367_1; clear BK368; clear HB; have HO_26 := n0_; have HL367_0 := n1_; have HL367_1 := n2_; have BK368 := n3_; have HB := n4_; clear n0_ n1_ n2_ n3_ n4_; (try clear hb); (try clear hb2); (try clear hk); (try clear hi)))
                          go_roundg k2
                          case measure => have := HJ2.out; have := HK2.out; omega
                          case rel => exact ⟨(wrap64 (x5_2 + (wrap64 (-t370)))), (wrap64 (x28_2 + 1)), (by first | rfl | (simp; done) | (simp [*]; done)), (by first | rfl | (simp; done) | (simp [*]; done)), H', ⟨by have := HJ2.out; have := HK2.out; omega⟩, ⟨by (with_reducible repeat (first | apply Kd.N_alloc | apply Kd.N_drewN | apply Kd.N_drew)); exact Kd.N_mono HO_26.out (fun _ hk => trivial)⟩, ⟨by repeat (first | (with_reducible first | exact HB.out | apply below_alloc | apply pw_below_drewN | apply below_drew1 | refine below_set ?_ GE368.out) | exact HB.out)⟩⟩
                        · rw [if_neg c20] at H
                          have c20b0 : ((Int.tmod t371 2) == 1) = false := beq_eq_false_iff_ne.mpr c20
                          have c20b1 : ((Int.tmod t371 2) != 1) = true := bne_iff_ne.mpr c20
                          have H' := Aside0.mk H
                          clear H
                          have p367 : 0 ≤ (x28_2 : Int) := of_decide_eq_true (by first | (with_reducible assumption) | assumption)
                          have q367 : x28_2 < (t364.length : Int) := of_decide_eq_true (by first | (with_reducible assumption) | assumption)
                          obtain ⟨ad367, A367_0, c367_0, A367_1, c367_1, e367, hx367_0, hx367_1, hl367_0, hi367_0, hl367_1, hi367_1⟩ := at_T40 (Kd.N_reads' HO_26.out).2.2 x28_2 p367 q367
                          cases e367
                          obtain ⟨ce367, hce367, hMe367, hcc367⟩ := Kd.N_get HO_26.out z40 x28_2 p367 (by first | exact q367 | exact of_decide_eq_true (by first | (with_reducible assumption) | assumption) | (have e_ := (Kd.N_reads' HO_26.out).1; omega))
                          obtain ⟨ua367_0, uc367_0, ua367_1, uc367_1, rfl, ul367_0, ge367_0, ul367_1, ge367_1⟩ := k40_openF hMe367
                          have hv367_0 := hcc367 0 _ rfl
                          rw [Nat.add_zero] at hv367_0
                          replace hv367_0 := Option.some.inj (hv367_0.symm.trans hx367_0)
                          injection hv367_0 with hva_ hvn_ hvc_
                          rw [hva_] at ge367_0
                          rw [hvc_] at ul367_0
                          have HL367_0 := Aside0.mk (show Kd.V (Kd.int .i64) 3 _ w.heap.size _ _ ((rd_T40 t364 x28_2).f0) from Kd.V_mk ul367_0 ge367_0)
                          clear hva_ hvn_ hvc_ ge367_0 ul367_0
                          have hv367_1 := hcc367 1 _ rfl
                          rw [add_field _ _ 1 (by omega)] at hv367_1
                          replace hv367_1 := Option.some.inj (hv367_1.symm.trans hx367_1)
                          injection hv367_1 with hva_ hvn_ hvc_
                          rw [hva_] at ge367_1
                          rw [hvc_] at ul367_1
                          have HL367_1 := Aside0.mk (show Kd.V (Kd.int .i64) 3 _ w.heap.size _ _ ((rd_T40 t364 x28_2).f1) from Kd.V_mk ul367_1 ge367_1)
                          clear hva_ hvn_ hvc_ ge367_1 ul367_1
                          clear hcc367 hce367
                          have HR367_0 := Aside0.mk hi367_0
                          have HC367_0 := Aside0.mk hl367_0
                          clear hi367_0 hl367_0
                          have HR367_1 := Aside0.mk hi367_1
                          have HC367_1 := Aside0.mk hl367_1
                          clear hi367_1 hl367_1
                          replace p367 := eq_true p367
                          replace q367 := eq_true q367
                          try go_wp2_with (first | ((with_reducible refine gate_dst (N := 7) rfl ?_); refine box_event ?hg (N := 7) ?hd (cs := #[.slice none 0 0, .slice none 0 0]) (t := 40) ?hr ?_; (case hd => rfl); (case hg => rfl); (case hr => first | (go_simp; done) | (go_simp; rfl)); intro gb368 hg w29 hbox hb; have n0_ := Aside0.mk (Kd.N_below (Kd.N_elderB (xN HO_26.out) gb368 (Nat.le_of_eq hg.symm)) hb); have n1_ := Aside0.mk (Kd.V_below (Kd.V_elderB (xV HL367_0.out) gb368 (Nat.le_of_eq hg.symm)) hb); have n2_ := Aside0.mk (Kd.V_below (Kd.V_elderB (xV HL367_1.out) gb368 (Nat.le_of_eq hg.symm)) hb); have n3_ := Aside0.mk (Kd.C_below (by repeat (first | (with_reducible exact HR367_0.out) | (with_reducible refine Kd.C_alloc ?_ _) | (with_reducible refine Kd.C_drewN ?_ _) | (with_reducible refine Kd.C_drew ?_) | exact HR367_0.out)) hb); have n4_ := Aside0.mk (Kd.C_below (by repeat (first | (with_reducible exact HR367_1.out) | (with_reducible refine Kd.C_alloc ?_ _) | (with_reducible refine Kd.C_drewN ?_ _) | (with_reducible refine Kd.C_drew ?_) | exact HR367_1.out)) hb); have n5_ := Aside0.mk (below_step (xb HB.out) hb); have n6_ := Aside0.mk (hbox); have n7_ := Aside0.mk ((by rw [hg]; exact (below_size (xb HB.out)) : w.heap.size ≤ gb368)); have n8_ := Aside0.mk ((by rw [hg]; exact (below_size (xb HB.out)) : w.heap.size ≤ gb368)); clear HO_26; clear HL367_0; clear HL367_1; clear HR367_0; clear HR367_1; clear HB; have HO_26 := n0_; have HL367_0 := n1_; have HL367_1 := n2_; have HR367_0 := n3_; have HR367_1 := n4_; have HB := n5_; have BK368 := n6_; have GW368 := n7_; have GE368 := n8_; clear n0_ n1_ n2_ n3_ n4_ n5_ n6_ n7_ n8_; clear hb hbox hg; have hcz30_0 : w29.cell? ⟨gb368, 0, none⟩ = some (.slice none 0 0) := (blk_cell BK368.out 0).trans rfl; have hcz30_1 : w29.cell? ⟨gb368, 1, none⟩ = some (.slice none 0 0) := (blk_cell BK368.out 1).trans rfl; have hfz30_0 := blk_frozen BK368.out 0; have hfz30_1 := blk_frozen BK368.out 1))
                          have n0_ : Aside0 (Kd.N k40 40 ((w29.setCell ⟨gb368, 0, none⟩ (.slice A367_0 ((rd_T40 t364 x28_2).f0).length c367_0)).setCell ⟨gb368, 1, none⟩ (.slice A367_1 ((rd_T40 t364 x28_2).f1).length c367_1)) w.heap.size (fun k_ => k_ ≠ gb368) (.slice (some ad367) t364.length co13) t364) := ⟨by (with_reducible repeat (first | apply Kd.N_alloc | apply Kd.N_drewN | apply Kd.N_drew)); exact Kd.N_mono (Kd.N_far (p := ⟨gb368, 1, none⟩) (Kd.N_far (p := ⟨gb368, 0, none⟩) (Kd.N_mono HO_26.out (fun k_ hk => (⟨hk, hk.2⟩ : _ ∧ k_ ≠ gb368))) (fun _ hk => hk.2) (.slice A367_0 ((rd_T40 t364 x28_2).f0).length c367_0)) (fun _ hk => hk.2) (.slice A367_1 ((rd_T40 t364 x28_2).f1).length c367_1)) (fun _ hk => hk.1.2)⟩
                          have n1_ : Aside0 (Kd.V (Kd.int .i64) 3 ((w29.setCell ⟨gb368, 0, none⟩ (.slice A367_0 ((rd_T40 t364 x28_2).f0).length c367_0)).setCell ⟨gb368, 1, none⟩ (.slice A367_1 ((rd_T40 t364 x28_2).f1).length c367_1)) w.heap.size (fun k_ => some k_ ≠ (.slice (some ad367) t364.length co13 : Value).ownBlock ∧ k_ ≠ gb368) (.slice A367_0 ((rd_T40 t364 x28_2).f0).length c367_0) ((rd_T40 t364 x28_2).f0)) := ⟨by (with_reducible repeat (first | apply Kd.V_alloc | apply Kd.V_drewN | apply Kd.V_drew)); exact Kd.V_mono (Kd.V_far (p := ⟨gb368, 1, none⟩) (Kd.V_far (p := ⟨gb368, 0, none⟩) (Kd.V_mono HL367_0.out (fun k_ hk => (⟨hk, hk.2⟩ : _ ∧ k_ ≠ gb368))) (fun _ hk => hk.2) (.slice A367_0 ((rd_T40 t364 x28_2).f0).length c367_0)) (fun _ hk => hk.2) (.slice A367_1 ((rd_T40 t364 x28_2).f1).length c367_1)) (fun _ hk => ⟨hk.1.1.2, hk.1.2⟩)⟩
                          have n2_ : Aside0 (Kd.V (Kd.int .i64) 3 ((w29.setCell ⟨gb368, 0, none⟩ (.slice A367_0 ((rd_T40 t364 x28_2).f0).length c367_0)).setCell ⟨gb368, 1, none⟩ (.slice A367_1 ((rd_T40 t364 x28_2).f1).length c367_1)) w.heap.size (fun k_ => some k_ ≠ (.slice (some ad367) t364.length co13 : Value).ownBlock ∧ k_ ≠ gb368) (.slice A367_1 ((rd_T40 t364 x28_2).f1).length c367_1) ((rd_T40 t364 x28_2).f1)) := ⟨by (with_reducible repeat (first | apply Kd.V_alloc | apply Kd.V_drewN | apply Kd.V_drew)); exact Kd.V_mono (Kd.V_far (p := ⟨gb368, 1, none⟩) (Kd.V_far (p := ⟨gb368, 0, none⟩) (Kd.V_mono HL367_1.out (fun k_ hk => (⟨hk, hk.2⟩ : _ ∧ k_ ≠ gb368))) (fun _ hk => hk.2) (.slice A367_0 ((rd_T40 t364 x28_2).f0).length c367_0)) (fun _ hk => hk.2) (.slice A367_1 ((rd_T40 t364 x28_2).f1).length c367_1)) (fun _ hk => ⟨hk.1.1.2, hk.1.2⟩)⟩
                          have n3_ : Aside0 (((w29.setCell ⟨gb368, 0, none⟩ (.slice A367_0 ((rd_T40 t364 x28_2).f0).length c367_0)).setCell ⟨gb368, 1, none⟩ (.slice A367_1 ((rd_T40 t364 x28_2).f1).length c367_1)).heap[gb368]? = some (.cells #[.slice A367_0 ((rd_T40 t364 x28_2).f0).length c367_0, .slice A367_1 ((rd_T40 t364 x28_2).f1).length c367_1] 40 (0, 0))) := ⟨by (with_reducible repeat (first | refine blk_drewN ?_ _ | refine blk_drew ?_ | refine blk_alloc ?_ _)); refine blk_put (cs := #[.slice A367_0 ((rd_T40 t364 x28_2).f0).length c367_0, .slice none 0 0]) ?_ 1 _ rfl; (with_reducible repeat (first | refine blk_drewN ?_ _ | refine blk_drew ?_ | refine blk_alloc ?_ _)); refine blk_put (cs := #[.slice none 0 0, .slice none 0 0]) ?_ 0 _ rfl; (with_reducible repeat (first | refine blk_drewN ?_ _ | refine blk_drew ?_ | refine blk_alloc ?_ _)); exact BK368.out⟩
                          have n4_ : Aside0 (Below w.heap.size w ((w29.setCell ⟨gb368, 0, none⟩ (.slice A367_0 ((rd_T40 t364 x28_2).f0).length c367_0)).setCell ⟨gb368, 1, none⟩ (.slice A367_1 ((rd_T40 t364 x28_2).f1).length c367_1))) := ⟨by repeat (first | (with_reducible first | exact HB.out | apply below_alloc | apply pw_below_drewN | apply below_drew1 | refine below_set ?_ GE368.out) | exact HB.out)⟩
                          (try clear HO_26)
                          (try clear HL367_0)
                          (try clear HL367_1)
                          (try clear BK368)
                          (try clear HB)
                          generalize ((w29.setCell ⟨gb368, 0, none⟩ (.slice A367_0 ((rd_T40 t364 x28_2).f0).length c367_0)).setCell ⟨gb368, 1, none⟩ (.slice A367_1 ((rd_T40 t364 x28_2).f1).length c367_1)) = w31 at n0_ n1_ n2_ n3_ n4_ ⊢
                          have HO_26 := n0_
                          have HL367_0 := n1_
                          have HL367_1 := n2_
                          have BK368 := n3_
                          have HB := n4_
                          clear n0_ n1_ n2_ n3_ n4_
                          have n0_ := Aside0.mk (Kd.N_drew HO_26.out)
                          have n1_ := Aside0.mk (Kd.V_drew HL367_0.out)
                          have n2_ := Aside0.mk (Kd.V_drew HL367_1.out)
                          have n3_ := Aside0.mk (blk_drew BK368.out)
                          have n4_ := Aside0.mk (below_drew1 HB.out)
                          clear HO_26
                          clear HL367_0
                          clear HL367_1
                          clear BK368
                          clear HB
                          have HO_26 := n0_
                          have HL367_0 := n1_
                          have HL367_1 := n2_
                          have BK368 := n3_
                          have HB := n4_
                          clear n0_ n1_ n2_ n3_ n4_
                          obtain ⟨i033, hi033, _, hsz33, _⟩ := info_parts info3
                          obtain ⟨A33, hcut33, hA33, hC33⟩ := print_drop_of (P := Try.prog) (Value.int .i64) 0 22 3 .i64 Try.underlying22 hi033 hsz33 (some ad363) c1 l1 1 (by omega) (of_decide_eq_true (by first | (with_reducible assumption) | assumption)) HC1.out
                          have HR369 := Aside0.mk (Kd.C_of_reads (h1 := fun _ => rfl) (hA33 _ (Kd.reads_of_C HR1.out)))
                          have HC369 := Aside0.mk hC33
                          clear hA33 hC33 hi033 hsz33
                          refine start_ (n := 6) (S := fun w' => w'.cell? ⟨gb368, 0, none⟩ = some (.slice A367_0 ((rd_T40 t364 x28_2).f0).length c367_0) ∧ w'.cell? ⟨gb368, 1, none⟩ = some (.slice A367_1 ((rd_T40 t364 x28_2).f1).length c367_1)) (ds := []) #[false, false, false, false, false, false] (by kernel_rfl) rfl rfl ⟨(blk_cell BK368.out 0).trans rfl, (blk_cell BK368.out 1).trans rfl⟩ (fun hHeld => ?_)
                          generalize w31.drew = w32 at HO_26 HL367_0 HL367_1 BK368 HB HR369 hHeld ⊢
                          refine pure_ (i := 0) (N := some 32) (v := ?_) (a' := ?_) #[true, false, false, false, false, false] rfl rfl (by kernel_rfl) (fun _ _ _ h => h) (Or.inl ⟨by rfl, ?_⟩) ?_ ?_
                          rotate_left
                          · intro w'
                            go_simp
                            with_reducible rfl
                          rotate_left
                          · simp only [Act.put, List.setIfInBounds_toArray, List.set_cons_zero, List.set_cons_succ, i64_w, i32_w]
                            rfl
                          refine pure_ (i := 2) (N := some 34) (v := ?_) (a' := ?_) #[true, false, true, false, false, false] rfl rfl (by kernel_rfl) (fun _ _ _ h => h) (Or.inl ⟨by rfl, ?_⟩) ?_ ?_
                          rotate_left
                          · intro w'
                            go_simp
                            with_reducible rfl
                          rotate_left
                          · simp only [Act.put, List.setIfInBounds_toArray, List.set_cons_zero, List.set_cons_succ, i64_w, i32_w]
                            rfl
                          refine pure_ (i := 3) (N := some 35) (v := ?_) (a' := ?_) #[true, false, true, true, false, false] rfl rfl (by kernel_rfl) (fun _ _ _ h => h) (Or.inl ⟨by rfl, ?_⟩) ?_ ?_
                          rotate_left
                          · intro w'
                            go_simp
                            with_reducible rfl
                          rotate_left
                          · simp only [Act.put, List.setIfInBounds_toArray, List.set_cons_zero, List.set_cons_succ, i64_w, i32_w]
                            rfl
                          refine take_ (i := 1) (N := some 33) (v := ?_) (a' := ?_) #[true, true, true, true, false, false] rfl rfl (by kernel_rfl) (fun _ _ _ h => h) (Or.inl ⟨by rfl, ?_⟩) hHeld ?_ ?_
                          rotate_left
                          · rintro w' ⟨s0, s1⟩
                            go_simp
                            with_reducible rfl
                          rotate_left
                          · simp only [Act.put, List.setIfInBounds_toArray, List.set_cons_zero, List.set_cons_succ, i64_w, i32_w]
                            rfl
                          refine one_ (i := 4) (N := some 36) #[true, true, true, true, true, false] rfl rfl (by kernel_rfl) (by decide) (fun K hK => ?_)
                          refine goes_ Try.func21 (by kernel_rfl) rfl #[.slice A367_1 ((rd_T40 t364 x28_2).f1).length c367_1, .slice A33 (l1.drop 1).length (c1 - 1)] (by rfl) rfl rfl (by (try simp only [List.map_toArray, List.map_cons, List.map_nil]); first | done | (rw [show (l1.drop 1).length = (l1.length - 1) from List.length_drop] <;> rfl) | rfl | (simp only [List.length_drop, List.length_take]; rfl)) ?_
                          with_reducible refine (ih k2 (by have := HJ2.out; have := HK2.out; omega) _ _ ((rd_T40 t364 x28_2).f1) _ _ (l1.drop 1) t370 _ ?side1 ?side2 ?side3 ?side4 A18.out).mono ?_
                          (case side1 => repeat (first | exact ((Kd.V_reads' (xV HL367_1.out)).2.2) | (with_reducible refine Kd.C_alloc ?_ _) | (with_reducible refine Kd.C_drewN ?_ _) | (with_reducible refine Kd.C_drew ?_)))
                          (case side2 => exact HC367_1.out)
                          (case side3 => exact xc (Kd.C_below HR369.out HB.out))
                          (case side4 => exact HC369.out)
                          rintro e w34 ⟨rfl, hb⟩
                          refine ⟨_, rfl, ?_⟩
                          have n0_ := Aside0.mk (Kd.N_below (xN HO_26.out) hb)
                          have n1_ := Aside0.mk (Kd.V_below (xV HL367_0.out) hb)
                          have n2_ := Aside0.mk (Kd.V_below (xV HL367_1.out) hb)
                          have n3_ := Aside0.mk (blk_below (g := gb368) (o := .cells #[.slice A367_0 ((rd_T40 t364 x28_2).f0).length c367_0, .slice A367_1 ((rd_T40 t364 x28_2).f1).length c367_1] 40 (0, 0)) (by (with_reducible repeat (first | refine blk_drewN ?_ _ | refine blk_drew ?_ | refine blk_alloc ?_ _)); exact BK368.out) hb)
                          have n4_ := Aside0.mk (below_step (by repeat (first | (with_reducible first | exact HB.out | apply below_alloc | apply pw_below_drewN | apply below_drew1 | refine below_set ?_ GE368.out) | exact HB.out)) hb)
                          clear HO_26
                          clear HL367_0
                          clear HL367_1
                          clear BK368
                          clear HB
                          have HO_26 := n0_
                          have HL367_0 := n1_
                          have HL367_1 := n2_
                          have BK368 := n3_
                          have HB := n4_
                          clear n0_ n1_ n2_ n3_ n4_
                          (try clear hb)
                          (try clear hb2)
                          (try clear hk)
                          (try clear hi)
                          refine hK.out _ _ ⟨(blk_cell BK368.out 0).trans rfl, (blk_cell BK368.out 1).trans rfl⟩ (fun hHeld => ?_)
                          clear hK K
                          refine norm_ (a' := ?_) ?_ ?_
                          rotate_left
                          · show Act.put _ (some 36) _ = _
                            simp only [Act.put, List.setIfInBounds_toArray, List.set_cons_zero, List.set_cons_succ, i64_w, i32_w]
                            rfl
                          refine pure_ (i := 5) (N := some 8) (v := ?_) (a' := ?_) #[true, true, true, true, true, true] rfl rfl (by kernel_rfl) (fun _ _ _ h => h) (Or.inl ⟨by rfl, ?_⟩) ?_ ?_
                          rotate_left
                          · intro w'
                            go_simp
                            with_reducible rfl
                          rotate_left
                          · simp only [Act.put, List.setIfInBounds_toArray, List.set_cons_zero, List.set_cons_succ, i64_w, i32_w]
                            rfl
                          refine done_ (by kernel_rfl) ?_
                          have hcz35_0 : w34.cell? ⟨gb368, 0, none⟩ = some (.slice A367_0 ((rd_T40 t364 x28_2).f0).length c367_0) := (blk_cell BK368.out 0).trans rfl
                          have hcz35_1 : w34.cell? ⟨gb368, 1, none⟩ = some (.slice A367_1 ((rd_T40 t364 x28_2).f1).length c367_1) := (blk_cell BK368.out 1).trans rfl
                          have hfz35_0 := blk_frozen BK368.out 0
                          have hfz35_1 := blk_frozen BK368.out 1
                          try go_wp2_with (first | ((with_reducible refine gate_callee (f := 36) rfl ?_); refine goesL_ (some 38) rfl rfl Try.func36 (by kernel_rfl) rfl #[.agg #[.slice A367_0 ((rd_T40 t364 x28_2).f0).length c367_0, .slice A367_1 ((rd_T40 t364 x28_2).f1).length c367_1]] rfl xm ?_; (with_reducible refine (impl_RibbonHeight.calls k2 _ _ ((rd_T40 t364 x28_2).f0) _ _ ((rd_T40 t364 x28_2).f1) t371 _ ?side1 ?side2 ?side3 ?side4 A19.out).mono ?_); (case side1 => repeat (first | exact ((Kd.V_reads' (xV HL367_0.out)).2.2) | (with_reducible refine Kd.C_alloc ?_ _) | (with_reducible refine Kd.C_drewN ?_ _) | (with_reducible refine Kd.C_drew ?_))); (case side2 => exact HC367_0.out); (case side3 => repeat (first | exact ((Kd.V_reads' (xV HL367_1.out)).2.2) | (with_reducible refine Kd.C_alloc ?_ _) | (with_reducible refine Kd.C_drewN ?_ _) | (with_reducible refine Kd.C_drew ?_))); (case side4 => exact HC367_1.out); rintro e w36 ⟨rfl, hb⟩; refine ⟨_, rfl, ?_⟩; have n0_ := Aside0.mk (Kd.N_below (xN HO_26.out) hb); have n1_ := Aside0.mk (Kd.V_below (xV HL367_0.out) hb); have n2_ := Aside0.mk (Kd.V_below (xV HL367_1.out) hb); have n3_ := Aside0.mk (blk_below (g := gb368) (o := .cells #[.slice A367_0 ((rd_T40 t364 x28_2).f0).length c367_0, .slice A367_1 ((rd_T40 t364 x28_2).f1).length c367_1] 40 (0, 0)) (by (with_reducible repeat (first | refine blk_drewN ?_ _ | refine blk_drew ?_ | refine blk_alloc ?_ _)); exact BK368.out) hb); have n4_ := Aside0.mk (below_step (by repeat (first | (with_reducible first | exact HB.out | apply below_alloc | apply pw_below_drewN | apply below_drew1 | refine below_set ?_ GE368.out) | exact HB.out)) hb); clear HO_26; clear HL367_0; clear HL367_1; clear BK368; clear HB; have HO_26 := n0_; have HL367_0 := n1_; have HL367_1 := n2_; have BK368 := n3_; have HB := n4_; clear n0_ n1_ n2_ n3_ n4_; (try clear hb); (try clear hb2); (try clear hk); (try clear hi)))
                          go_roundg k2
                          case measure => have := HJ2.out; have := HK2.out; omega
                          case rel => exact ⟨(wrap64 (x5_2 + t370)), (wrap64 (x28_2 + 1)), (by first | rfl | (simp; done) | (simp [*]; done)), (by first | rfl | (simp; done) | (simp [*]; done)), H', ⟨by have := HJ2.out; have := HK2.out; omega⟩, ⟨by (with_reducible repeat (first | apply Kd.N_alloc | apply Kd.N_drewN | apply Kd.N_drew)); exact Kd.N_mono HO_26.out (fun _ hk => trivial)⟩, ⟨by repeat (first | (with_reducible first | exact HB.out | apply below_alloc | apply pw_below_drewN | apply below_drew1 | refine below_set ?_ GE368.out) | exact HB.out)⟩⟩
                      · rw [if_neg c17] at H
                        exact absurd H (by simp)
                    · rw [if_neg c16] at H
                      exact absurd H (by simp)
                  · rw [if_neg c15] at H
                    exact absurd H (by simp)
                · rw [if_neg c14] at H
                  have c14b0 : decide (x28_2 < (t364.length : Int)) = false := decide_eq_false c14
                  clear c14
                  obtain rfl := Option.some.inj H
                  go_wp2
                  go_ret
                  exact ⟨by first | rfl | (simp [errW_none, errW_some] <;> rfl) | (simp [*, errW_none, errW_some] <;> rfl), by repeat (first | (with_reducible first | exact HB.out | apply below_alloc | apply pw_below_drewN | apply below_drew1) | exact HB.out)⟩
          · rw [if_neg c10] at H
            exact absurd H (by simp)

-- NOT PRINTED: function 41 (impl_SchurOfPower_1)

/-! ### impl_SchurOfPower_1__c: function 100 -/
def impl_SchurOfPower_1__c.f (k : Nat) (l0 : List Int) (l1 : List Int) : Option (Int) := (impl_CharacterOf.f k l0 l1).bind fun t373 => (some t373)
theorem impl_SchurOfPower_1__c.mono : ∀ a0 a1 k, LeO (impl_SchurOfPower_1__c.f k a0 a1) (impl_SchurOfPower_1__c.f (k + 1) a0 a1) := by
  intro a0 a1 k
  unfold impl_SchurOfPower_1__c.f
  repeat' first
      | (with_reducible exact impl_CharacterOf.mono _ _ _)
      | (with_reducible exact LeO.refl _)
      | (with_reducible exact LeO.none _)
      | (with_reducible refine LeO.ite ?_ ?_)
      | (with_reducible refine LeO.bind ?_ (fun _ => ?_))
      | exact impl_CharacterOf.mono _ _ _
      | exact LeO.none _
      | refine LeO.ite ?_ ?_
      | refine LeO.bind ?_ (fun _ => ?_)
set_option maxHeartbeats 8000000 in
set_option maxRecDepth 100000 in
theorem impl_SchurOfPower_1__c.calls (k : Nat) (A0 : Option Addr) (c0 : Nat) (l0 : List Int) (g1 : Nat) (A1 : Option Addr) (c1 : Nat) (l1 : List Int) (r : Int) (w : World) (hr0 : Kd.C (Kd.int .i64) w A0 l0.length l0) (hc0 : l0.length ≤ c0) (hb1 : w.heap[g1]? = some (.cells #[.slice A1 l1.length c1] 22 (0, 0))) (hr1 : Kd.C (Kd.int .i64) w A1 l1.length l1) (hc1 : l1.length ≤ c1) (h : impl_SchurOfPower_1__c.f k l0 l1 = some r) :
    Calls Try.prog 41 #[.slice A0 l0.length c0, .pointer (some ⟨g1, 0, none⟩)] w fun e w' => e = .returned (.int .i64 r) ∧ Below w.heap.size w w' := by
  have HR0 := Aside0.mk hr0
  have HC0 := Aside0.mk hc0
  clear hr0 hc0
  have HR1 := Aside0.mk hr1
  have HC1 := Aside0.mk hc1
  clear hr1 hc1
  have HX1 := Aside0.mk hb1
  clear hb1
  have HB := Aside0.mk (Below.refl w.heap.size w)
  have H : ((impl_CharacterOf.f k l0 l1).bind fun t373 => (some t373)) = some r := h
  clear h
  replace H := Option.bind_eq_some_iff.mp H
  obtain ⟨t373, A30, H⟩ := H
  replace H : (some t373) = some r := H
  have A3 := Aside0.mk A30
  clear A30
  obtain rfl := Option.some.inj H
  have hcz4_0 : w.cell? ⟨g1, 0, none⟩ = some (.slice A1 l1.length c1) := (blk_cell HX1.out 0).trans rfl
  have hfz4_0 := blk_frozen HX1.out 0
  go_enter Try.func41, Try.ntmps41
  go_wp2_with (first | ((with_reducible refine gate_callee (f := 21) rfl ?_); refine goesL_ (some 6) rfl rfl Try.func21 (by kernel_rfl) rfl #[.slice A0 l0.length c0, .slice A1 l1.length c1] rfl xm ?_; (with_reducible refine (impl_CharacterOf.calls k _ _ l0 _ _ l1 t373 _ ?side1 ?side2 ?side3 ?side4 A3.out).mono ?_); (case side1 => exact xc HR0.out); (case side2 => exact HC0.out); (case side3 => exact xc HR1.out); (case side4 => exact HC1.out); rintro e w5 ⟨rfl, hb⟩; refine ⟨_, rfl, ?_⟩; have n0_ := Aside0.mk (blk_below (g := g1) (o := .cells #[.slice A1 l1.length c1] 22 (0, 0)) (by (with_reducible repeat (first | refine blk_drewN ?_ _ | refine blk_drew ?_ | refine blk_alloc ?_ _)); exact HX1.out) hb); have n1_ := Aside0.mk (below_step (by repeat (first | (with_reducible first | exact HB.out | apply below_alloc | apply pw_below_drewN | apply below_drew1 | refine below_set ?_ GE372.out) | exact HB.out)) hb); clear HX1; clear HB; have HX1 := n0_; have HB := n1_; clear n0_ n1_; (try clear hb); (try clear hb2); (try clear hk); (try clear hi)))
  go_ret
  exact ⟨by first | rfl | (simp [errW_none, errW_some] <;> rfl) | (simp [*, errW_none, errW_some] <;> rfl), by repeat (first | (with_reducible first | exact HB.out | apply below_alloc | apply pw_below_drewN | apply below_drew1 | refine below_set ?_ GE372.out) | exact HB.out)⟩

/-! ### impl_vectorOf__impl_SchurOfPower_1: function 99 -/
def impl_vectorOf__impl_SchurOfPower_1.l0 : Nat → List Int → List (List Int) → Int → Int → List Int → Option (List Int)
  | 0, _, _, _, _, _ => none
  | k + 1, x5, x15, x16, x17, x375000 => if x17 < x16 then (if 0 ≤ x17 then (if x17 < (x15.length : Int) then ((impl_SchurOfPower_1__c.f k (rd_L1 x15 x17) x375000).bind fun t385 => (if x5.length < 17592186044416 then (impl_vectorOf__impl_SchurOfPower_1.l0 k (x5 ++ [t385]) x15 x16 (wrap64 (x17 + 1)) x375000) else (none))) else (none)) else (none)) else (some x5)
def impl_vectorOf__impl_SchurOfPower_1.f (k : Nat) (l0 : List Int) (l1_0 : List Int) : Option (List Int) := (impl_SizeOf.f k l0).bind fun t375 => ((impl_within.f t375 0 6).bind fun t376 => (if t376 = true then ((impl_SizeOf.f k l0).bind fun t380 => ((impl_PartitionsOf.f k t380).bind fun t381 => (impl_vectorOf__impl_SchurOfPower_1.l0 k (([] : List Int)) t381 (t381.length : Int) 0 l1_0))) else (some ([] : List Int))))
theorem impl_vectorOf__impl_SchurOfPower_1.mono_l : ∀ k, (∀ y0 y1 y2 y3 y4, LeO (impl_vectorOf__impl_SchurOfPower_1.l0 k y0 y1 y2 y3 y4) (impl_vectorOf__impl_SchurOfPower_1.l0 (k + 1) y0 y1 y2 y3 y4))
  | 0 => fun _ _ _ _ _ r h => by simp [impl_vectorOf__impl_SchurOfPower_1.l0] at h
  | k + 1 => by
    have ih0 := impl_vectorOf__impl_SchurOfPower_1.mono_l k
    · intro y0 y1 y2 y3 y4
      unfold impl_vectorOf__impl_SchurOfPower_1.l0
      repeat' first
      | (with_reducible exact ih0 _ _ _ _ _)
      | (with_reducible exact impl_PartitionsOf.mono _ _)
      | (with_reducible exact impl_SchurOfPower_1__c.mono _ _ _)
      | (with_reducible exact impl_SizeOf.mono _ _)
      | (with_reducible exact LeO.refl _)
      | (with_reducible exact LeO.none _)
      | (with_reducible refine LeO.ite ?_ ?_)
      | (with_reducible refine LeO.bind ?_ (fun _ => ?_))
      | exact ih0 _ _ _ _ _
      | exact impl_PartitionsOf.mono _ _
      | exact impl_SchurOfPower_1__c.mono _ _ _
      | exact impl_SizeOf.mono _ _
      | exact LeO.none _
      | refine LeO.ite ?_ ?_
      | refine LeO.bind ?_ (fun _ => ?_)
theorem impl_vectorOf__impl_SchurOfPower_1.mono : ∀ a0 a1 k, LeO (impl_vectorOf__impl_SchurOfPower_1.f k a0 a1) (impl_vectorOf__impl_SchurOfPower_1.f (k + 1) a0 a1) := by
  intro a0 a1 k
  have ih0 := impl_vectorOf__impl_SchurOfPower_1.mono_l k
  unfold impl_vectorOf__impl_SchurOfPower_1.f
  repeat' first
      | (with_reducible exact ih0 _ _ _ _ _)
      | (with_reducible exact impl_PartitionsOf.mono _ _)
      | (with_reducible exact impl_SchurOfPower_1__c.mono _ _ _)
      | (with_reducible exact impl_SizeOf.mono _ _)
      | (with_reducible exact LeO.refl _)
      | (with_reducible exact LeO.none _)
      | (with_reducible refine LeO.ite ?_ ?_)
      | (with_reducible refine LeO.bind ?_ (fun _ => ?_))
      | exact ih0 _ _ _ _ _
      | exact impl_PartitionsOf.mono _ _
      | exact impl_SchurOfPower_1__c.mono _ _ _
      | exact impl_SizeOf.mono _ _
      | exact LeO.none _
      | refine LeO.ite ?_ ?_
      | refine LeO.bind ?_ (fun _ => ?_)
set_option maxHeartbeats 8000000 in
set_option maxRecDepth 100000 in
theorem impl_vectorOf__impl_SchurOfPower_1.calls (k : Nat) (A0 : Option Addr) (c0 : Nat) (l0 : List Int) (g1_0 : Nat) (A1_0 : Option Addr) (c1_0 : Nat) (l1_0 : List Int) (r : List Int) (w : World) (hr0 : Kd.C (Kd.int .i64) w A0 l0.length l0) (hc0 : l0.length ≤ c0) (hb1_0 : w.heap[g1_0]? = some (.cells #[.slice A1_0 l1_0.length c1_0] 22 (0, 0))) (hr1_0 : Kd.C (Kd.int .i64) w A1_0 l1_0.length l1_0) (hc1_0 : l1_0.length ≤ c1_0) (h : impl_vectorOf__impl_SchurOfPower_1.f k l0 l1_0 = some r) :
    Calls Try.prog 40 #[.slice A0 l0.length c0, .func (.func 41) #[] #[.pointer (some ⟨g1_0, 0, none⟩)]] w fun e w' => ∃ v0_ : Value, e = .returned (v0_) ∧ Kd.R (Kd.int .i64) 3 w' w.heap.size (fun _ => True) v0_ r ∧ Below w.heap.size w w' := by
  have HR0 := Aside0.mk hr0
  have HC0 := Aside0.mk hc0
  clear hr0 hc0
  have HR1_0 := Aside0.mk hr1_0
  have HC1_0 := Aside0.mk hc1_0
  clear hr1_0 hc1_0
  have HX1_0 := Aside0.mk hb1_0
  clear hb1_0
  have HB := Aside0.mk (Below.refl w.heap.size w)
  have H : ((impl_SizeOf.f k l0).bind fun t375 => ((impl_within.f t375 0 6).bind fun t376 => (if t376 = true then ((impl_SizeOf.f k l0).bind fun t380 => ((impl_PartitionsOf.f k t380).bind fun t381 => (impl_vectorOf__impl_SchurOfPower_1.l0 k (([] : List Int)) t381 (t381.length : Int) 0 l1_0))) else (some ([] : List Int))))) = some r := h
  clear h
  replace H := Option.bind_eq_some_iff.mp H
  obtain ⟨t375, A30, H⟩ := H
  replace H : ((impl_within.f t375 0 6).bind fun t376 => (if t376 = true then ((impl_SizeOf.f k l0).bind fun t380 => ((impl_PartitionsOf.f k t380).bind fun t381 => (impl_vectorOf__impl_SchurOfPower_1.l0 k (([] : List Int)) t381 (t381.length : Int) 0 l1_0))) else (some ([] : List Int)))) = some r := H
  have A3 := Aside0.mk A30
  clear A30
  replace H := Option.bind_eq_some_iff.mp H
  obtain ⟨t376, A40, H⟩ := H
  replace H : (if t376 = true then ((impl_SizeOf.f k l0).bind fun t380 => ((impl_PartitionsOf.f k t380).bind fun t381 => (impl_vectorOf__impl_SchurOfPower_1.l0 k (([] : List Int)) t381 (t381.length : Int) 0 l1_0))) else (some ([] : List Int))) = some r := H
  have A4 := Aside0.mk A40
  clear A40
  by_cases c5 : t376 = true
  · subst c5
    have H1 : ((impl_SizeOf.f k l0).bind fun t380 => ((impl_PartitionsOf.f k t380).bind fun t381 => (impl_vectorOf__impl_SchurOfPower_1.l0 k (([] : List Int)) t381 (t381.length : Int) 0 l1_0))) = some r := by rw [if_pos rfl] at H; exact H
    clear H
    have H := H1
    clear H1
    obtain ⟨y377, hy377⟩ : ∃ y_ : List Int, y_ = (([] : List Int)) := ⟨_, rfl⟩
    replace H : ((impl_SizeOf.f k l0).bind fun t380 => ((impl_PartitionsOf.f k t380).bind fun t381 => (impl_vectorOf__impl_SchurOfPower_1.l0 k y377 t381 (t381.length : Int) 0 l1_0))) = some r := by first | (rw [hy377]; with_reducible exact H) | (have H2_ := (Option.bind_some _ _).symm.trans H; rw [hy377]; with_reducible exact H2_) | (have H2_ := (Option.bind_some _ _).symm.trans H; with_reducible exact H2_) | with_reducible exact H | (rw [hy377]; exact H) | exact H
    have Ny377 := Aside0.mk hy377
    clear hy377
    replace H := Option.bind_eq_some_iff.mp H
    obtain ⟨t380, A60, H⟩ := H
    replace H : ((impl_PartitionsOf.f k t380).bind fun t381 => (impl_vectorOf__impl_SchurOfPower_1.l0 k y377 t381 (t381.length : Int) 0 l1_0)) = some r := H
    have A6 := Aside0.mk A60
    clear A60
    replace H := Option.bind_eq_some_iff.mp H
    obtain ⟨t381, A70, H⟩ := H
    replace H : (impl_vectorOf__impl_SchurOfPower_1.l0 k y377 t381 (t381.length : Int) 0 l1_0) = some r := H
    have A7 := Aside0.mk A70
    clear A70
    have H' := Aside0.mk H
    clear H
    go_enter Try.func40, Try.ntmps40
    go_wp2_with (first | ((with_reducible refine gate_callee (f := 34) rfl ?_); refine goesL_ (some 9) rfl rfl Try.func34 (by kernel_rfl) rfl #[.slice A0 l0.length c0] rfl xm ?_; (with_reducible refine (impl_SizeOf.calls k _ _ l0 t375 _ ?side1 ?side2 A3.out).mono ?_); (case side1 => exact xc HR0.out); (case side2 => exact HC0.out); rintro e w' ⟨rfl, ⟨nd, rfl⟩⟩; refine ⟨_, rfl, ?_⟩) | ((with_reducible refine gate_callee (f := 49) rfl ?_); refine goesL_ (some 10) rfl rfl Try.func49 (by kernel_rfl) rfl #[.int .i64 t375, .int .i64 0, .int .i64 6] rfl xm ?_; (with_reducible refine (impl_within.calls t375 0 6 true _ A4.out).mono ?_); rintro e w' ⟨rfl, ⟨nd, rfl⟩⟩; refine ⟨_, rfl, ?_⟩) | ((with_reducible refine gate_dst (N := 12) rfl ?_); refine Kd.R_lit (Kd.int .i64) _ 3 ?hg (N := 12) ?hd (xs := ([] : List Int)) (inner := []) (ok := fun _ => True) (okp := fun _ => True) ?hr ?hp (fun _ hk => hk) trivial (Below.refl _ _) (Nat.le_refl _) (by simp) ?_; (case hd => rfl); (case hg => rfl); (case hr => first | (go_simp; done) | (go_simp; rfl)); (case hp => exact (Reps.none _ _)); intro v378 w8 ho9 hb hg_ hnew_; clear hg_ hnew_; (first | rw [← Ny377.out] at ho9 | (simp only [Int.reduceToNat] at ho9; rw [← Ny377.out] at ho9)); have n0_ := Aside0.mk (Kd.R_lower ho9 (below_size (by repeat (first | (with_reducible first | exact HB.out | apply below_alloc | apply pw_below_drewN | apply below_drew1 | refine below_set ?_ GE374.out) | exact HB.out)))); have n1_ := Aside0.mk (blk_below (g := g1_0) (o := .cells #[.slice A1_0 l1_0.length c1_0] 22 (0, 0)) (by (with_reducible repeat (first | refine blk_drewN ?_ _ | refine blk_drew ?_ | refine blk_alloc ?_ _)); exact HX1_0.out) hb); have n2_ := Aside0.mk (below_step (by repeat (first | (with_reducible first | exact HB.out | apply below_alloc | apply pw_below_drewN | apply below_drew1 | refine below_set ?_ GE374.out) | exact HB.out)) hb); clear HX1_0; clear HB; have HO379 := n0_; have HX1_0 := n1_; have HB := n2_; clear n0_ n1_ n2_; clear hb ho9) | ((with_reducible refine gate_callee (f := 34) rfl ?_); refine goesL_ (some 14) rfl rfl Try.func34 (by kernel_rfl) rfl #[.slice A0 l0.length c0] rfl xm ?_; (with_reducible refine (impl_SizeOf.calls k _ _ l0 t380 _ ?side1 ?side2 A6.out).mono ?_); (case side1 => exact xc (Kd.C_below HR0.out HB.out)); (case side2 => exact HC0.out); rintro e w' ⟨rfl, ⟨nd, rfl⟩⟩; refine ⟨_, rfl, ?_⟩) | ((with_reducible refine gate_callee (f := 57) rfl ?_); refine goesL_ (some 15) rfl rfl Try.func57 (by kernel_rfl) rfl #[.int .i64 t380] rfl xm ?_; (with_reducible refine (impl_PartitionsOf.calls k t380 t381 _ A7.out).mono ?_); rintro e w10 ⟨v382, rfl, ho0, hb⟩; refine ⟨_, rfl, ?_⟩; have n0_ := Aside0.mk (Kd.R_below (xR HO379.out) hb); have n1_ := Aside0.mk (Kd.N_lower (Kd.N_mono (ok' := fun k_ => some k_ ≠ (v378 : Value).ownBlock ∧ k_ ≠ g1_0) ho0 (fun k_ hk_ => ⟨(Kd.fresh' (Kd.R_lt (xR HO379.out)) k_ hk_), (Kd.freshB (g := g1_0) (o := .cells #[.slice A1_0 l1_0.length c1_0] 22 (0, 0)) (by (with_reducible repeat (first | refine blk_drewN ?_ _ | refine blk_drew ?_ | refine blk_alloc ?_ _)); exact HX1_0.out) k_ hk_)⟩)) (below_size (by repeat (first | (with_reducible first | exact HB.out | apply below_alloc | apply pw_below_drewN | apply below_drew1 | refine below_set ?_ GE374.out) | exact HB.out)))); have n2_ := Aside0.mk (blk_below (g := g1_0) (o := .cells #[.slice A1_0 l1_0.length c1_0] 22 (0, 0)) (by (with_reducible repeat (first | refine blk_drewN ?_ _ | refine blk_drew ?_ | refine blk_alloc ?_ _)); exact HX1_0.out) hb); have n3_ := Aside0.mk (below_step (by repeat (first | (with_reducible first | exact HB.out | apply below_alloc | apply pw_below_drewN | apply below_drew1 | refine below_set ?_ GE374.out) | exact HB.out)) hb); clear HO379; clear HX1_0; clear HB; have HO379 := n0_; have HO383 := n1_; have HX1_0 := n2_; have HB := n3_; clear n0_ n1_ n2_ n3_; (try clear hb); (try clear hb2); (try clear hk); (try clear hi); (try clear ho0); obtain ⟨Ao11, co11, eo11⟩ := Kd.N_slice HO383.out; subst eo11))
    go_loopg [5, 17] k (fun kq v5 v17 w' => ∃ (x5_1 : List Int) (x17_1 : Int), v17 = .int .i64 x17_1 ∧ Aside0 (impl_vectorOf__impl_SchurOfPower_1.l0 kq x5_1 t381 (t381.length : Int) x17_1 l1_0 = some r) ∧ Aside0 (kq ≤ k) ∧ Aside0 (Kd.R (Kd.int .i64) 3 w' w.heap.size (fun _ => True) v5 x5_1) ∧ Aside0 (Kd.N (Kd.slice 3 (Kd.int .i64)) 22 w' w.heap.size (fun k_ => some k_ ≠ (v5 : Value).ownBlock ∧ k_ ≠ g1_0) (.slice Ao11 t381.length co11) t381) ∧ Aside0 (w'.heap[g1_0]? = some (.cells #[(.slice A1_0 l1_0.length c1_0)] 22 (0, 0))) ∧ Aside0 (Below w.heap.size w w'))
    case atStart => exact ⟨(y377), (0), (by first | rfl | (simp; done) | (simp [*]; done)), H', ⟨Nat.le_refl _⟩, ⟨by (with_reducible repeat (first | apply Kd.R_alloc | apply Kd.R_drewN | apply Kd.R_drew)); first | exact HO379.out | exact Kd.R_mono HO379.out xi⟩, ⟨by (with_reducible repeat (first | apply Kd.N_alloc | apply Kd.N_drewN | apply Kd.N_drew)); first | exact HO383.out | exact Kd.N_mono HO383.out xi⟩, ⟨by (with_reducible repeat (first | refine blk_drewN ?_ _ | refine blk_drew ?_ | refine blk_alloc ?_ _)); exact HX1_0.out⟩, ⟨by repeat (first | (with_reducible first | exact HB.out | apply below_alloc | apply pw_below_drewN | apply below_drew1 | refine below_set ?_ GE374.out) | exact HB.out)⟩⟩
    case round =>
      clear H'
      try clear c1
      try clear p2
      try clear c3
      try clear c4
      try clear c5
      obtain ⟨x5_1, x17_1, rfl, HA, HK1, HO_5, HO_15, HX1_0, HB⟩ := hrel
      cases gk with
      | zero => exact absurd HA.out (by simp [impl_vectorOf__impl_SchurOfPower_1.l0])
      | succ k1 =>
        have H := HA.out
        clear HA
        simp only [impl_vectorOf__impl_SchurOfPower_1.l0] at H
        by_cases c12 : x17_1 < (t381.length : Int)
        · rw [if_pos c12] at H
          have c12b0 : decide (x17_1 < (t381.length : Int)) = true := decide_eq_true c12
          clear c12
          by_cases c13 : 0 ≤ x17_1
          · rw [if_pos c13] at H
            have c13b0 : decide (0 ≤ x17_1) = true := decide_eq_true c13
            clear c13
            by_cases c14 : x17_1 < (t381.length : Int)
            · rw [if_pos c14] at H
              have c14b0 : decide (x17_1 < (t381.length : Int)) = true := decide_eq_true c14
              clear c14
              replace H := Option.bind_eq_some_iff.mp H
              obtain ⟨t385, A150, H⟩ := H
              replace H : (if x5_1.length < 17592186044416 then (impl_vectorOf__impl_SchurOfPower_1.l0 k1 (x5_1 ++ [t385]) t381 (t381.length : Int) (wrap64 (x17_1 + 1)) l1_0) else (none)) = some r := H
              have A15 := Aside0.mk A150
              clear A150
              by_cases c16 : x5_1.length < 17592186044416
              · rw [if_pos c16] at H
                have LMc16 := Aside0.mk c16
                clear c16
                obtain ⟨y386, hy386⟩ : ∃ y_ : List Int, y_ = (x5_1 ++ [t385]) := ⟨_, rfl⟩
                replace H : (impl_vectorOf__impl_SchurOfPower_1.l0 k1 y386 t381 (t381.length : Int) (wrap64 (x17_1 + 1)) l1_0) = some r := by first | (rw [hy386]; with_reducible exact H) | (have H2_ := (Option.bind_some _ _).symm.trans H; rw [hy386]; with_reducible exact H2_) | (have H2_ := (Option.bind_some _ _).symm.trans H; with_reducible exact H2_) | with_reducible exact H | (rw [hy386]; exact H) | exact H
                have Ny386 := Aside0.mk hy386
                clear hy386
                have H' := Aside0.mk H
                clear H
                have p384 : 0 ≤ (x17_1 : Int) := of_decide_eq_true (by first | (with_reducible assumption) | assumption)
                have q384 : x17_1 < (t381.length : Int) := of_decide_eq_true (by first | (with_reducible assumption) | assumption)
                obtain ⟨ad384, A384_0, c384_0, e384, hx384_0, hl384_0, hi384_0⟩ := at_L1 (Kd.N_reads' HO_15.out).2.2 x17_1 p384 q384
                cases e384
                obtain ⟨ce384, hce384, hMe384, hcc384⟩ := Kd.N_get HO_15.out [] x17_1 p384 (by first | exact q384 | exact of_decide_eq_true (by first | (with_reducible assumption) | assumption) | (have e_ := (Kd.N_reads' HO_15.out).1; omega))
                obtain ⟨ua384_0, uc384_0, rfl, ul384_0, ge384_0⟩ := Kd.FK_slice_open hMe384
                have hv384_0 := hcc384 0 _ rfl
                rw [Nat.add_zero, show ((Kd.slice 3 (Kd.int .i64))).sz = 1 from rfl, Nat.mul_one] at hv384_0
                replace hv384_0 := Option.some.inj (hv384_0.symm.trans hx384_0)
                injection hv384_0 with hva_ hvn_ hvc_
                rw [hva_] at ge384_0
                rw [hvc_] at ul384_0
                have HL384_0 := Aside0.mk (show Kd.V (Kd.int .i64) 3 _ w.heap.size _ _ (rd_L1 t381 x17_1) from Kd.V_mk ul384_0 ge384_0)
                clear hva_ hvn_ hvc_ ge384_0 ul384_0
                clear hcc384 hce384
                have HR384_0 := Aside0.mk hi384_0
                have HC384_0 := Aside0.mk hl384_0
                clear hi384_0 hl384_0
                replace p384 := eq_true p384
                replace q384 := eq_true q384
                go_wp2_with (first | (go_at_call 41; (with_reducible refine (impl_SchurOfPower_1__c.calls k1 _ _ (rd_L1 t381 x17_1) g1_0 A1_0 c1_0 l1_0 t385 _ ?side1 ?side2 ?side3 ?side4 ?side5 A15.out).mono ?_); (case side1 => repeat (first | exact (by repeat (first | (with_reducible exact HR384_0.out) | (with_reducible refine Kd.C_alloc ?_ _) | (with_reducible refine Kd.C_drewN ?_ _) | (with_reducible refine Kd.C_drew ?_) | exact HR384_0.out)) | (with_reducible refine Kd.C_alloc ?_ _) | (with_reducible refine Kd.C_drewN ?_ _) | (with_reducible refine Kd.C_drew ?_))); (case side2 => exact HC384_0.out); (case side3 => (with_reducible repeat (first | refine blk_drewN ?_ _ | refine blk_drew ?_ | refine blk_alloc ?_ _)); exact HX1_0.out); (case side4 => exact xc (Kd.C_below HR1_0.out HB.out)); (case side5 => exact HC1_0.out); rintro e w17 ⟨rfl, hb⟩; have n0_ := Aside0.mk (Kd.R_below (xR HO_5.out) hb); have n1_ := Aside0.mk (Kd.N_below (xN HO_15.out) hb); have n2_ := Aside0.mk (Kd.V_below (xV HL384_0.out) hb); have n3_ := Aside0.mk (blk_below (g := g1_0) (o := .cells #[.slice A1_0 l1_0.length c1_0] 22 (0, 0)) (by (with_reducible repeat (first | refine blk_drewN ?_ _ | refine blk_drew ?_ | refine blk_alloc ?_ _)); exact HX1_0.out) hb); have n4_ := Aside0.mk (Kd.C_below (by repeat (first | (with_reducible exact HR384_0.out) | (with_reducible refine Kd.C_alloc ?_ _) | (with_reducible refine Kd.C_drewN ?_ _) | (with_reducible refine Kd.C_drew ?_) | exact HR384_0.out)) hb); have n5_ := Aside0.mk (below_step (by repeat (first | (with_reducible first | exact HB.out | apply below_alloc | apply pw_below_drewN | apply below_drew1 | refine below_set ?_ GE374.out) | exact HB.out)) hb); clear HO_5; clear HO_15; clear HL384_0; clear HX1_0; clear HR384_0; clear HB; have HO_5 := n0_; have HO_15 := n1_; have HL384_0 := n2_; have HX1_0 := n3_; have HR384_0 := n4_; have HB := n5_; clear n0_ n1_ n2_ n3_ n4_ n5_; (try clear hb); (try clear hb2); (try clear hk); (try clear hi)) | ((with_reducible refine gate_builtin (b := .append) (xs := #[.tmp 21, .tmp 25]) rfl ?_); at_builtin; refine Kd.R_append (Kd.int .i64) (w0 := w) w.heap.size rfl (.tmp 21) (.tmp 25) 22 3 (.int .i64 0) 8 rfl Try.underlying22 info3 rfl (by decide) (by omega) u5 x5_1 t385 [.int .i64 t385] (fun _ => True) (fun _ => False) rfl rfl ?aP (fun _ hk => hk.elim) ?aF ?aO ?aB ?aS ?aL ?_; (case aP => exact rfl); (case aB => exact (by repeat (first | (with_reducible first | exact HB.out | apply below_alloc | apply pw_below_drewN | apply below_drew1 | refine below_set ?_ GE374.out) | exact HB.out))); (case aF => exact (fun _ _ => trivial)); (case aO => exact (xR HO_5.out)); (case aS => exact (below_size (by repeat (first | (with_reducible first | exact HB.out | apply below_alloc | apply pw_below_drewN | apply below_drew1 | refine below_set ?_ GE374.out) | exact HB.out)))); (case aL => have := LMc16.out; omega); intro v387 w18 ho hb hg hat; rw [← Ny386.out] at ho; have n0_ := Aside0.mk (Kd.N_afterv (ok := (fun k_ => k_ ≠ g1_0)) (by (with_reducible repeat (first | apply Kd.N_alloc | apply Kd.N_drewN | apply Kd.N_drew)); exact Kd.N_mono HO_15.out (by first | exact (fun _ hk => ⟨hk.2, hk.1⟩) | exact xi)) hg hat); have n1_ := Aside0.mk (blk_grown (g := g1_0) (o := .cells #[.slice A1_0 l1_0.length c1_0] 22 (0, 0)) (by (with_reducible repeat (first | refine blk_drewN ?_ _ | refine blk_drew ?_ | refine blk_alloc ?_ _)); exact HX1_0.out) hg (Kd.R_ne HO_5.out HX1_0.out (by decide))); have n2_ := Aside0.mk (Kd.V_afterv (ok := (fun k_ => some k_ ≠ (.slice (some ad384) t381.length co11 : Value).ownBlock ∧ k_ ≠ g1_0)) (by (with_reducible repeat (first | apply Kd.V_alloc | apply Kd.V_drewN | apply Kd.V_drew)); exact Kd.V_mono HL384_0.out (by first | exact (fun _ hk => ⟨⟨hk.2, hk.1.2⟩, hk.1.1⟩) | exact xi)) hg hat); have n3_ := Aside0.mk (hb); have n4_ := Aside0.mk (ho); clear HO_15; clear HX1_0; clear HL384_0; clear HB; clear HO_5; have HO_15 := n0_; have HX1_0 := n1_; have HL384_0 := n2_; have HB := n3_; have HO388 := n4_; clear n0_ n1_ n2_ n3_ n4_; clear ho hb hg hat))
                go_roundg k1
                case measure => have := HK1.out; omega
                case rel => exact ⟨(y386), (wrap64 (x17_1 + 1)), (by first | rfl | (simp; done) | (simp [*]; done)), H', ⟨by have := HK1.out; omega⟩, ⟨by (with_reducible repeat (first | apply Kd.R_alloc | apply Kd.R_drewN | apply Kd.R_drew)); first | exact HO388.out | exact Kd.R_mono HO388.out xi⟩, ⟨by (with_reducible repeat (first | apply Kd.N_alloc | apply Kd.N_drewN | apply Kd.N_drew)); exact Kd.N_mono HO_15.out (fun _ hk => ⟨hk.2, hk.1⟩)⟩, ⟨by (with_reducible repeat (first | refine blk_drewN ?_ _ | refine blk_drew ?_ | refine blk_alloc ?_ _)); exact HX1_0.out⟩, ⟨by repeat (first | (with_reducible first | exact HB.out | apply below_alloc | apply pw_below_drewN | apply below_drew1 | refine below_set ?_ GE374.out) | exact HB.out)⟩⟩
              · rw [if_neg c16] at H
                exact absurd H (by simp)
            · rw [if_neg c14] at H
              exact absurd H (by simp)
          · rw [if_neg c13] at H
            exact absurd H (by simp)
        · rw [if_neg c12] at H
          have c12b0 : decide (x17_1 < (t381.length : Int)) = false := decide_eq_false c12
          clear c12
          obtain rfl := Option.some.inj H
          go_wp2
          go_ret
          exact ⟨_, by first | rfl | (simp [errW_none, errW_some] <;> rfl) | (simp [*, errW_none, errW_some] <;> rfl), by (with_reducible repeat (first | apply Kd.R_alloc | apply Kd.R_drewN | apply Kd.R_drew)); first | exact HO_5.out | exact Kd.R_mono HO_5.out xi, by repeat (first | (with_reducible first | exact HB.out | apply below_alloc | apply pw_below_drewN | apply below_drew1 | refine below_set ?_ GE374.out) | exact HB.out)⟩
  · replace c5 := Bool.eq_false_iff.mpr c5
    subst c5
    have H1 : (some ([] : List Int)) = some r := by rw [if_neg (show ¬ (false = true) by decide)] at H; exact H
    clear H
    have H := H1
    clear H1
    obtain rfl := Option.some.inj H
    go_enter Try.func40, Try.ntmps40
    go_wp2_with (first | ((with_reducible refine gate_callee (f := 34) rfl ?_); refine goesL_ (some 9) rfl rfl Try.func34 (by kernel_rfl) rfl #[.slice A0 l0.length c0] rfl xm ?_; (with_reducible refine (impl_SizeOf.calls k _ _ l0 t375 _ ?side1 ?side2 A3.out).mono ?_); (case side1 => exact xc HR0.out); (case side2 => exact HC0.out); rintro e w' ⟨rfl, ⟨nd, rfl⟩⟩; refine ⟨_, rfl, ?_⟩) | ((with_reducible refine gate_callee (f := 49) rfl ?_); refine goesL_ (some 10) rfl rfl Try.func49 (by kernel_rfl) rfl #[.int .i64 t375, .int .i64 0, .int .i64 6] rfl xm ?_; (with_reducible refine (impl_within.calls t375 0 6 false _ A4.out).mono ?_); rintro e w' ⟨rfl, ⟨nd, rfl⟩⟩; refine ⟨_, rfl, ?_⟩))
    go_ret
    exact ⟨_, by first | rfl | (simp [errW_none, errW_some] <;> rfl) | (simp [*, errW_none, errW_some] <;> rfl), by first | exact Kd.R_nil _ _ _ _ _ | exact Kd.N_nil _ _ _ _ _ | exact Kd.V_nil _ _ _ _ _ | exact Kd.Q_nil _ _ _ _ _ | exact Kd.S_nil _ _ _ _ _, by repeat (first | (with_reducible first | exact HB.out | apply below_alloc | apply pw_below_drewN | apply below_drew1 | refine below_set ?_ GE374.out) | exact HB.out)⟩

/-! ### impl_SchurOfPower: function 23 -/
def impl_SchurOfPower.f (k : Nat) (l0 : List Int) : Option (List Int) := (impl_vectorOf__impl_SchurOfPower_1.f k l0 l0).bind fun t390 => (some t390)
theorem impl_SchurOfPower.mono : ∀ a0 k, LeO (impl_SchurOfPower.f k a0) (impl_SchurOfPower.f (k + 1) a0) := by
  intro a0 k
  unfold impl_SchurOfPower.f
  repeat' first
      | (with_reducible exact impl_vectorOf__impl_SchurOfPower_1.mono _ _ _)
      | (with_reducible exact LeO.refl _)
      | (with_reducible exact LeO.none _)
      | (with_reducible refine LeO.ite ?_ ?_)
      | (with_reducible refine LeO.bind ?_ (fun _ => ?_))
      | exact impl_vectorOf__impl_SchurOfPower_1.mono _ _ _
      | exact LeO.none _
      | refine LeO.ite ?_ ?_
      | refine LeO.bind ?_ (fun _ => ?_)
set_option maxHeartbeats 8000000 in
set_option maxRecDepth 100000 in
theorem impl_SchurOfPower.calls (k : Nat) (A0 : Option Addr) (c0 : Nat) (l0 : List Int) (r : List Int) (w : World) (hr0 : Kd.C (Kd.int .i64) w A0 l0.length l0) (hc0 : l0.length ≤ c0) (h : impl_SchurOfPower.f k l0 = some r) :
    Calls Try.prog 23 #[.slice A0 l0.length c0] w fun e w' => ∃ v0_ : Value, e = .returned (v0_) ∧ Kd.R (Kd.int .i64) 3 w' w.heap.size (fun _ => True) v0_ r ∧ Below w.heap.size w w' := by
  have HR0 := Aside0.mk hr0
  have HC0 := Aside0.mk hc0
  clear hr0 hc0
  have HB := Aside0.mk (Below.refl w.heap.size w)
  have H : ((impl_vectorOf__impl_SchurOfPower_1.f k l0 l0).bind fun t390 => (some t390)) = some r := h
  clear h
  replace H := Option.bind_eq_some_iff.mp H
  obtain ⟨t390, A20, H⟩ := H
  replace H : (some t390) = some r := H
  have A2 := Aside0.mk A20
  clear A20
  obtain rfl := Option.some.inj H
  go_enter Try.func23, Try.ntmps23
  go_wp2_with (first | ((with_reducible refine gate_dst (N := 1) rfl ?_); refine box_event ?hg (N := 1) ?hd (cs := #[.slice A0 l0.length c0]) (t := 22) ?hr ?_; (case hd => rfl); (case hg => rfl); (case hr => first | (go_simp; done) | (go_simp; rfl)); intro gb389 hg w3 hbox hb; have n0_ := Aside0.mk (below_step (xb HB.out) hb); have n1_ := Aside0.mk (hbox); have n2_ := Aside0.mk ((by rw [hg]; exact (below_size (xb HB.out)) : w.heap.size ≤ gb389)); have n3_ := Aside0.mk ((by rw [hg]; exact (below_size (xb HB.out)) : w.heap.size ≤ gb389)); clear HB; have HB := n0_; have BK389 := n1_; have GW389 := n2_; have GE389 := n3_; clear n0_ n1_ n2_ n3_; clear hb hbox hg; have hcz4_0 : w3.cell? ⟨gb389, 0, none⟩ = some (.slice A0 l0.length c0) := (blk_cell BK389.out 0).trans rfl; have hfz4_0 := blk_frozen BK389.out 0) | ((with_reducible refine gate_callee (f := 40) rfl ?_); refine goesL_ (some 5) rfl rfl Try.func40 (by kernel_rfl) rfl #[.slice A0 l0.length c0, .func (.func 41) #[] #[.pointer (some ⟨gb389, 0, none⟩)]] rfl xm ?_; (with_reducible refine (impl_vectorOf__impl_SchurOfPower_1.calls k _ _ l0 gb389 A0 c0 l0 t390 _ ?side1 ?side2 ?side3 ?side4 ?side5 A2.out).mono ?_); (case side1 => exact xc (Kd.C_below HR0.out HB.out)); (case side2 => exact HC0.out); (case side3 => (with_reducible repeat (first | refine blk_drewN ?_ _ | refine blk_drew ?_ | refine blk_alloc ?_ _)); exact BK389.out); (case side4 => exact xc (Kd.C_below HR0.out HB.out)); (case side5 => exact HC0.out); rintro e w5 ⟨v391, rfl, ho0, hb⟩; refine ⟨_, rfl, ?_⟩; have n0_ := Aside0.mk (Kd.R_lower ho0 (below_size (by repeat (first | (with_reducible first | exact HB.out | apply below_alloc | apply pw_below_drewN | apply below_drew1 | refine below_set ?_ GE389.out) | exact HB.out)))); have n1_ := Aside0.mk (blk_below (g := gb389) (o := .cells #[.slice A0 l0.length c0] 22 (0, 0)) (by (with_reducible repeat (first | refine blk_drewN ?_ _ | refine blk_drew ?_ | refine blk_alloc ?_ _)); exact BK389.out) hb); have n2_ := Aside0.mk (below_step (by repeat (first | (with_reducible first | exact HB.out | apply below_alloc | apply pw_below_drewN | apply below_drew1 | refine below_set ?_ GE389.out) | exact HB.out)) hb); clear BK389; clear HB; have HO392 := n0_; have BK389 := n1_; have HB := n2_; clear n0_ n1_ n2_; (try clear hb); (try clear hb2); (try clear hk); (try clear hi); (try clear ho0)))
  go_ret
  exact ⟨_, by first | rfl | (simp [errW_none, errW_some] <;> rfl) | (simp [*, errW_none, errW_some] <;> rfl), by (with_reducible repeat (first | apply Kd.R_alloc | apply Kd.R_drewN | apply Kd.R_drew)); first | exact HO392.out | exact Kd.R_mono HO392.out xi, by repeat (first | (with_reducible first | exact HB.out | apply below_alloc | apply pw_below_drewN | apply below_drew1 | refine below_set ?_ GE389.out) | exact HB.out)⟩

end Go.Proofs.Ytojjokhfmgomcaa.PFnExactSchurOfPower
