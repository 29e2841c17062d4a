-- Written by a program of this session (wip/print/xprint.py).
import Derived.Test.YtdjohgfelmkooaaPFnExactCharacterTablex0
import Derived.Test.YtdjohgfelmkooaaPFnExactCharacterTablex10
import Derived.Test.YtdjohgfelmkooaaPFnExactCharacterTablex11
import Derived.Test.YtdjohgfelmkooaaPFnExactCharacterTablex13
namespace Go.Proofs.Ytdjohgfelmkooaa.PFnExactCharacterTable
open Go.RowKit Go.Proofs.YtdjohgfelmkooaaW.PrintWords Go.Proofs.YtdjohgfelmkooaaW.PrintLast Go.Proofs.YtdjohgfelmkooaaW.PrintMore
attribute [local go_sem] max2_int min2_int max_two min_two max_three min_three max_four min_four   -- for this text's walks alone
set_option linter.unusedVariables false
set_option linter.unusedSimpArgs false

/-! ### impl_CharacterOf: function 50 -/
mutual
def impl_CharacterOf.j0 : Nat → List Int → List Int → Bool → Option (Int)
  | 0, _, _, _ => none
  | k + 1, x0, x1, x18 => if x18 = true then (some 0) else (if (x1.length : Int) = 0 then (some 1) else (if 0 < (x1.length : Int) then ((impl_RibbonsInside.f k x0 (rd x1 0)).bind fun t368 => (impl_CharacterOf.l0 k x1 0 t368 (t368.length : Int) 0)) else (none)))
def impl_CharacterOf.l0 : Nat → List Int → Int → List (S63) → Int → Int → Option (Int)
  | 0, _, _, _, _, _ => none
  | k + 1, x1, x5, x26, x27, x28 => if x28 < x27 then (if 0 ≤ x28 then (if x28 < (x26.length : Int) then (if 1 ≤ (x1.length : Int) then ((impl_CharacterOf.f k ((rd_T63 x26 x28).f1) (x1.drop 1)).bind fun t374 => ((impl_RibbonHeight.f k ((rd_T63 x26 x28).f0) ((rd_T63 x26 x28).f1)).bind fun t375 => (if (Int.tmod t375 2) = 1 then (impl_CharacterOf.l0 k x1 (wrap64 (x5 + (wrap64 (-t374)))) x26 x27 (wrap64 (x28 + 1))) else (impl_CharacterOf.l0 k x1 (wrap64 (x5 + t374)) x26 x27 (wrap64 (x28 + 1)))))) else (none)) else (none)) else (none)) else (some x5)
def impl_CharacterOf.f : Nat → List Int → List Int → Option (Int)
  | 0, _, _ => none
  | k + 1, l0, l1 => (impl_SizeOf.f k l0).bind fun t364 => ((impl_SizeOf.f k l1).bind fun t365 => (if t364 = t365 then ((impl_SizeOf.f k l0).bind fun t366 => (impl_CharacterOf.j0 k l0 l1 (decide (t366 < 0)))) else (impl_CharacterOf.j0 k l0 l1 true)))
end
theorem impl_CharacterOf.mono_l : ∀ k, (∀ y0 y1, LeO (impl_CharacterOf.f k y0 y1) (impl_CharacterOf.f (k + 1) y0 y1)) ∧ (∀ y0 y1 y2, LeO (impl_CharacterOf.j0 k y0 y1 y2) (impl_CharacterOf.j0 (k + 1) y0 y1 y2)) ∧ (∀ y0 y1 y2 y3 y4, LeO (impl_CharacterOf.l0 k y0 y1 y2 y3 y4) (impl_CharacterOf.l0 (k + 1) y0 y1 y2 y3 y4))
  | 0 => ⟨fun _ _ r h => by simp [impl_CharacterOf.f] at h, fun _ _ _ r h => by simp [impl_CharacterOf.j0] at h, fun _ _ _ _ _ r h => by simp [impl_CharacterOf.l0] at h⟩
  | k + 1 => by
    obtain ⟨ih0, ih1, ih2⟩ := impl_CharacterOf.mono_l k
    refine ⟨?_, ?_, ?_⟩
    · intro y0 y1
      unfold impl_CharacterOf.f
      repeat' first
      | (with_reducible exact ih0 _ _)
      | (with_reducible exact ih1 _ _ _)
      | (with_reducible exact ih2 _ _ _ _ _)
      | (with_reducible exact impl_RibbonHeight.mono _ _ _)
      | (with_reducible exact impl_RibbonsInside.mono _ _ _)
      | (with_reducible exact impl_SizeOf.mono _ _)
      | (with_reducible exact LeO.refl _)
      | (with_reducible exact LeO.none _)
      | (with_reducible refine LeO.ite ?_ ?_)
      | (with_reducible refine LeO.bind ?_ (fun _ => ?_))
      | exact ih0 _ _
      | exact ih1 _ _ _
      | exact ih2 _ _ _ _ _
      | exact impl_RibbonHeight.mono _ _ _
      | exact impl_RibbonsInside.mono _ _ _
      | exact impl_SizeOf.mono _ _
      | exact LeO.none _
      | refine LeO.ite ?_ ?_
      | refine LeO.bind ?_ (fun _ => ?_)
    · intro y0 y1 y2
      unfold impl_CharacterOf.j0
      repeat' first
      | (with_reducible exact ih0 _ _)
      | (with_reducible exact ih1 _ _ _)
      | (with_reducible exact ih2 _ _ _ _ _)
      | (with_reducible exact impl_RibbonHeight.mono _ _ _)
      | (with_reducible exact impl_RibbonsInside.mono _ _ _)
      | (with_reducible exact impl_SizeOf.mono _ _)
      | (with_reducible exact LeO.refl _)
      | (with_reducible exact LeO.none _)
      | (with_reducible refine LeO.ite ?_ ?_)
      | (with_reducible refine LeO.bind ?_ (fun _ => ?_))
      | exact ih0 _ _
      | exact ih1 _ _ _
      | exact ih2 _ _ _ _ _
      | exact impl_RibbonHeight.mono _ _ _
      | exact impl_RibbonsInside.mono _ _ _
      | exact impl_SizeOf.mono _ _
      | exact LeO.none _
      | refine LeO.ite ?_ ?_
      | refine LeO.bind ?_ (fun _ => ?_)
    · intro y0 y1 y2 y3 y4
      unfold impl_CharacterOf.l0
      repeat' first
      | (with_reducible exact ih0 _ _)
      | (with_reducible exact ih1 _ _ _)
      | (with_reducible exact ih2 _ _ _ _ _)
      | (with_reducible exact impl_RibbonHeight.mono _ _ _)
      | (with_reducible exact impl_RibbonsInside.mono _ _ _)
      | (with_reducible exact impl_SizeOf.mono _ _)
      | (with_reducible exact LeO.refl _)
      | (with_reducible exact LeO.none _)
      | (with_reducible refine LeO.ite ?_ ?_)
      | (with_reducible refine LeO.bind ?_ (fun _ => ?_))
      | exact ih0 _ _
      | exact ih1 _ _ _
      | exact ih2 _ _ _ _ _
      | exact impl_RibbonHeight.mono _ _ _
      | exact impl_RibbonsInside.mono _ _ _
      | exact impl_SizeOf.mono _ _
      | exact LeO.none _
      | refine LeO.ite ?_ ?_
      | refine LeO.bind ?_ (fun _ => ?_)
theorem impl_CharacterOf.mono : ∀ a0 a1 k, LeO (impl_CharacterOf.f k a0 a1) (impl_CharacterOf.f (k + 1) a0 a1) := by
  intro a0 a1 k
  obtain ⟨ih0, ih1, ih2⟩ := impl_CharacterOf.mono_l k
  exact ih0 a0 a1
set_option maxHeartbeats 8000000 in
set_option maxRecDepth 100000 in
theorem impl_CharacterOf.calls (k : Nat) : ∀ (A0 : Option Addr) (c0 : Nat) (l0 : List Int) (A1 : Option Addr) (c1 : Nat) (l1 : List Int) (r : Int) (w : World) (hr0 : Kd.C (Kd.int .i64) w A0 l0.length l0) (hc0 : l0.length ≤ c0) (hr1 : Kd.C (Kd.int .i64) w A1 l1.length l1) (hc1 : l1.length ≤ c1) (h : impl_CharacterOf.f k l0 l1 = some r),
    Calls Try.prog 50 #[.slice A0 l0.length c0, .slice A1 l1.length c1] w fun e w' => e = .returned (.int .i64 r) ∧ Below w.heap.size w w' := by
  induction k using Nat.strongRecOn with
  | _ k ih =>
  intro A0 c0 l0 A1 c1 l1 r w hr0 hc0 hr1 hc1 h
  cases k with
  | zero => exact absurd h (by simp [impl_CharacterOf.f])
  | succ k =>
  simp only [impl_CharacterOf.f] at h
  have hu63 := Try.underlying63
  have HR0 := Aside0.mk hr0
  have HC0 := Aside0.mk hc0
  clear hr0 hc0
  have HR1 := Aside0.mk hr1
  have HC1 := Aside0.mk hc1
  clear hr1 hc1
  have HB := Aside0.mk (Below.refl w.heap.size w)
  have H : ((impl_SizeOf.f k l0).bind fun t364 => ((impl_SizeOf.f k l1).bind fun t365 => (if t364 = t365 then ((impl_SizeOf.f k l0).bind fun t366 => (impl_CharacterOf.j0 k l0 l1 (decide (t366 < 0)))) else (impl_CharacterOf.j0 k l0 l1 true)))) = some r := h
  clear h
  have HC3 := Aside0.mk H
  clear H
  go_enter Try.func50, Try.ntmps50
  go_upto_region 1 with (fail)
  go_cut [18] (fun v18 wc => ∃ (kq : Nat) (x18_2 : Bool), v18 = .bool x18_2 ∧ Aside0 (impl_CharacterOf.j0 kq l0 l1 x18_2 = some r) ∧ Aside0 (kq ≤ k) ∧ Aside0 (Below w.heap.size w wc))
  case first =>
    have H := HC3.out
    clear HC3
    replace H := Option.bind_eq_some_iff.mp H
    obtain ⟨t364, A40, H⟩ := H
    replace H : ((impl_SizeOf.f k l1).bind fun t365 => (if t364 = t365 then ((impl_SizeOf.f k l0).bind fun t366 => (impl_CharacterOf.j0 k l0 l1 (decide (t366 < 0)))) else (impl_CharacterOf.j0 k l0 l1 true))) = some r := H
    have A4 := Aside0.mk A40
    clear A40
    replace H := Option.bind_eq_some_iff.mp H
    obtain ⟨t365, A50, H⟩ := H
    replace H : (if t364 = t365 then ((impl_SizeOf.f k l0).bind fun t366 => (impl_CharacterOf.j0 k l0 l1 (decide (t366 < 0)))) else (impl_CharacterOf.j0 k l0 l1 true)) = some r := H
    have A5 := Aside0.mk A50
    clear A50
    by_cases c6 : t364 = t365
    · rw [if_pos c6] at H
      have c6b0 : (t364 == t365) = true := beq_iff_eq.mpr c6
      have c6b1 : (t364 != t365) = false := bne_eq_false_iff_eq.mpr c6
      clear c6
      (first | rw [c6b0] | (simp only [i64_w, i32_w]; rw [c6b0]) | skip)
      replace H := Option.bind_eq_some_iff.mp H
      obtain ⟨t366, A70, H⟩ := H
      replace H : (impl_CharacterOf.j0 k l0 l1 (decide (t366 < 0))) = some r := H
      have A7 := Aside0.mk A70
      clear A70
      have H' := Aside0.mk H
      clear H
      go_wp2_with (first | ((with_reducible refine gate_callee (f := 72) rfl ?_); refine goesL_ (some 10) rfl rfl Try.func72 (by kernel_rfl) rfl #[.slice A0 l0.length c0] rfl xm ?_; (with_reducible refine (impl_SizeOf.calls k _ _ l0 t364 _ ?side1 ?side2 A4.out).mono ?_); (case side1 => first | exact xc (Kd.C_below HR0.out HB.out) | exact xc HR0.out); (case side2 => exact HC0.out); rintro e w' ⟨rfl, ⟨nd, rfl⟩⟩; refine ⟨_, rfl, ?_⟩) | ((with_reducible refine gate_callee (f := 72) rfl ?_); refine goesL_ (some 12) rfl rfl Try.func72 (by kernel_rfl) rfl #[.slice A1 l1.length c1] rfl xm ?_; (with_reducible refine (impl_SizeOf.calls k _ _ l1 t365 _ ?side1 ?side2 A5.out).mono ?_); (case side1 => exact xc (Kd.C_below HR1.out (xb HB.out))); (case side2 => exact HC1.out); rintro e w' ⟨rfl, ⟨nd, rfl⟩⟩; refine ⟨_, rfl, ?_⟩) | (go_at_call 72; (with_reducible refine (impl_SizeOf.calls k _ _ l0 t366 _ ?side1 ?side2 A7.out).mono ?_); (case side1 => exact xc (Kd.C_below HR0.out (xb HB.out))); (case side2 => exact HC0.out); rintro e w' ⟨rfl, ⟨nd, rfl⟩⟩))
      go_meet
      case rel => exact ⟨_, (decide (t366 < 0)), (by first | rfl | (simp; done) | (simp [*]; done)), H', ⟨by first | omega | exact Nat.le_refl _⟩, ⟨by repeat (first | (with_reducible first | exact HB.out | apply below_alloc | apply pw_below_drewN | apply below_drew1) | exact HB.out)⟩⟩
    · rw [if_neg c6] at H
      have c6b0 : (t364 == t365) = false := beq_eq_false_iff_ne.mpr c6
      have c6b1 : (t364 != t365) = true := bne_iff_ne.mpr c6
      (first | rw [c6b0] | (simp only [i64_w, i32_w]; rw [c6b0]) | skip)
      have H' := Aside0.mk H
      clear H
      go_wp2_with (first | ((with_reducible refine gate_callee (f := 72) rfl ?_); refine goesL_ (some 10) rfl rfl Try.func72 (by kernel_rfl) rfl #[.slice A0 l0.length c0] rfl xm ?_; (with_reducible refine (impl_SizeOf.calls k _ _ l0 t364 _ ?side1 ?side2 A4.out).mono ?_); (case side1 => first | exact xc (Kd.C_below HR0.out HB.out) | exact xc HR0.out); (case side2 => exact HC0.out); rintro e w' ⟨rfl, ⟨nd, rfl⟩⟩; refine ⟨_, rfl, ?_⟩) | ((with_reducible refine gate_callee (f := 72) rfl ?_); refine goesL_ (some 12) rfl rfl Try.func72 (by kernel_rfl) rfl #[.slice A1 l1.length c1] rfl xm ?_; (with_reducible refine (impl_SizeOf.calls k _ _ l1 t365 _ ?side1 ?side2 A5.out).mono ?_); (case side1 => exact xc (Kd.C_below HR1.out (xb HB.out))); (case side2 => exact HC1.out); rintro e w' ⟨rfl, ⟨nd, rfl⟩⟩; refine ⟨_, rfl, ?_⟩))
      go_meet
      case rel => exact ⟨_, (true), (by first | rfl | (simp; done) | (simp [*]; done)), H', ⟨by first | omega | exact Nat.le_refl _⟩, ⟨by repeat (first | (with_reducible first | exact HB.out | apply below_alloc | apply pw_below_drewN | apply below_drew1) | exact HB.out)⟩⟩
  case rest =>
    clear HC3
    try clear c1
    try clear p2
    try clear c5
    try clear c6
    try clear c6b0
    try clear c6b1
    try clear c7
    obtain ⟨kq, x18_2, rfl, HA, HJ2, HB⟩ := hcut
    cases kq with
    | zero => exact absurd HA.out (by simp [impl_CharacterOf.j0])
    | succ kj2 =>
      have H := HA.out
      clear HA
      simp only [impl_CharacterOf.j0] at H
      by_cases c8 : x18_2 = true
      · subst c8
        have H1 : (some 0) = some r := by rw [if_pos rfl] at H; exact H
        clear H
        have H := H1
        clear H1
        obtain rfl := Option.some.inj H
        go_wp2
        go_ret
        exact ⟨by first | rfl | (simp [errW_none, errW_some] <;> rfl) | (simp [*, errW_none, errW_some] <;> rfl), by repeat (first | (with_reducible first | exact HB.out | apply below_alloc | apply pw_below_drewN | apply below_drew1) | exact HB.out)⟩
      · replace c8 := Bool.eq_false_iff.mpr c8
        subst c8
        have H1 : (if (l1.length : Int) = 0 then (some 1) else (if 0 < (l1.length : Int) then ((impl_RibbonsInside.f kj2 l0 (rd l1 0)).bind fun t368 => (impl_CharacterOf.l0 kj2 l1 0 t368 (t368.length : Int) 0)) else (none))) = some r := by rw [if_neg (show ¬ (false = true) by decide)] at H; exact H
        clear H
        have H := H1
        clear H1
        by_cases c9 : (l1.length : Int) = 0
        · rw [if_pos c9] at H
          have c9b0 : ((l1.length : Int) == 0) = true := beq_iff_eq.mpr c9
          have c9b1 : ((l1.length : Int) != 0) = false := bne_eq_false_iff_eq.mpr c9
          clear c9
          obtain rfl := Option.some.inj H
          go_wp2
          go_ret
          exact ⟨by first | rfl | (simp [errW_none, errW_some] <;> rfl) | (simp [*, errW_none, errW_some] <;> rfl), by repeat (first | (with_reducible first | exact HB.out | apply below_alloc | apply pw_below_drewN | apply below_drew1) | exact HB.out)⟩
        · rw [if_neg c9] at H
          have c9b0 : ((l1.length : Int) == 0) = false := beq_eq_false_iff_ne.mpr c9
          have c9b1 : ((l1.length : Int) != 0) = true := bne_iff_ne.mpr c9
          have c9b2 : ¬ (l1 = []) := fun h_ => c9 (by rw [h_]; rfl)
          by_cases c10 : 0 < (l1.length : Int)
          · rw [if_pos c10] at H
            have c10b0 : decide (0 < (l1.length : Int)) = true := decide_eq_true c10
            have c10b1 : decide (0 < l1.length) = true := decide_eq_true (by omega)
            clear c10
            replace H := Option.bind_eq_some_iff.mp H
            obtain ⟨t368, A110, H⟩ := H
            replace H : (impl_CharacterOf.l0 kj2 l1 0 t368 (t368.length : Int) 0) = some r := H
            have A11 := Aside0.mk A110
            clear A110
            have H' := Aside0.mk H
            clear H
            have p367 : 0 ≤ (0 : Int) := (by omega)
            have q367 : 0 < (l1.length : Int) := of_decide_eq_true (by first | (with_reducible assumption) | assumption)
            obtain ⟨ad367, e367, hx367_0⟩ := Kd.at_int HR1.out 0 p367 q367
            cases e367
            have qi367 : (0 < l1.length) = True := eq_true (by omega)
            (try rw [show ((0 : Int)).toNat = 0 from rfl] at hx367_0)
            (try rw [Addr.add_zero'] at hx367_0)
            (try replace hx367_0 := (HB.out.cell (World.block_lt_of_cell? w _ hx367_0)).trans hx367_0)
            replace p367 := eq_true p367
            replace q367 := eq_true q367
            go_wp2_with (first | ((with_reducible refine gate_callee (f := 73) rfl ?_); refine goesL_ (some 26) rfl rfl Try.func73 (by kernel_rfl) rfl #[.slice A0 l0.length c0, .int .i64 (rd l1 0)] rfl xm ?_; (with_reducible refine (impl_RibbonsInside.calls kj2 _ _ l0 (rd l1 0) t368 _ ?side1 ?side2 A11.out).mono ?_); (case side1 => first | exact xc (Kd.C_below HR0.out HB.out) | exact xc HR0.out); (case side2 => exact HC0.out); rintro e w12 ⟨v369, rfl, ho0, hb⟩; refine ⟨_, rfl, ?_⟩; have n0_ := Aside0.mk (Kd.N_lower (Kd.N_mono (ok' := fun k_ => True) ho0 (fun k_ hk_ => trivial)) (below_size (xb HB.out))); have n1_ := Aside0.mk (below_step (xb HB.out) hb); clear HB; have HO370 := n0_; have HB := n1_; clear n0_ n1_; (try clear hb); (try clear hb2); (try clear hk); (try clear hi); (try clear ho0); obtain ⟨Ao13, co13, eo13⟩ := Kd.N_slice HO370.out; subst eo13))
            go_loopg [5, 28] kj2 (fun kq v5 v28 w' => ∃ (x5_2 : Int) (x28_2 : Int), v5 = .int .i64 x5_2 ∧ v28 = .int .i64 x28_2 ∧ Aside0 (impl_CharacterOf.l0 kq l1 x5_2 t368 (t368.length : Int) x28_2 = some r) ∧ Aside0 (kq ≤ kj2) ∧ Aside0 (Kd.N k63 63 w' w.heap.size (fun _ => True) (.slice Ao13 t368.length co13) t368) ∧ Aside0 (Below w.heap.size w w'))
            case atStart => exact ⟨(0), (0), (by first | rfl | (simp; done) | (simp [*]; done)), (by first | rfl | (simp; done) | (simp [*]; done)), H', ⟨Nat.le_refl _⟩, ⟨by (with_reducible repeat (first | apply Kd.N_alloc | apply Kd.N_drewN | apply Kd.N_drew)); first | exact HO370.out | exact Kd.N_mono HO370.out xi⟩, ⟨by repeat (first | (with_reducible first | exact HB.out | apply below_alloc | apply pw_below_drewN | apply below_drew1) | exact HB.out)⟩⟩
            case round =>
              clear H'
              try clear c1
              try clear p2
              try clear p3
              try clear q3
              try clear hx3
              try clear qi3
              try clear c5
              try clear c6
              try clear c6b0
              try clear c6b1
              try clear c7
              try clear c8
              try clear c9
              try clear c9b0
              try clear c9b1
              try clear c9b2
              try clear c10
              try clear c10b0
              try clear c10b1
              try clear hx367_0
              try clear p2
              try clear p367
              try clear q367
              obtain ⟨x5_2, x28_2, rfl, rfl, HA, HK2, HO_26, HB⟩ := hrel
              cases gk with
              | zero => exact absurd HA.out (by simp [impl_CharacterOf.l0])
              | succ k2 =>
                have H := HA.out
                clear HA
                simp only [impl_CharacterOf.l0] at H
                by_cases c14 : x28_2 < (t368.length : Int)
                · rw [if_pos c14] at H
                  have c14b0 : decide (x28_2 < (t368.length : Int)) = true := decide_eq_true c14
                  clear c14
                  by_cases c15 : 0 ≤ x28_2
                  · rw [if_pos c15] at H
                    have c15b0 : decide (0 ≤ x28_2) = true := decide_eq_true c15
                    clear c15
                    by_cases c16 : x28_2 < (t368.length : Int)
                    · rw [if_pos c16] at H
                      have c16b0 : decide (x28_2 < (t368.length : Int)) = true := decide_eq_true c16
                      clear c16
                      by_cases c17 : 1 ≤ (l1.length : Int)
                      · rw [if_pos c17] at H
                        have c17b0 := eq_true c17
                        have c17b1 : decide (1 ≤ (l1.length : Int)) = true := decide_eq_true c17
                        clear c17
                        replace H := Option.bind_eq_some_iff.mp H
                        obtain ⟨t374, A180, H⟩ := H
                        replace H : ((impl_RibbonHeight.f k2 ((rd_T63 t368 x28_2).f0) ((rd_T63 t368 x28_2).f1)).bind fun t375 => (if (Int.tmod t375 2) = 1 then (impl_CharacterOf.l0 k2 l1 (wrap64 (x5_2 + (wrap64 (-t374)))) t368 (t368.length : Int) (wrap64 (x28_2 + 1))) else (impl_CharacterOf.l0 k2 l1 (wrap64 (x5_2 + t374)) t368 (t368.length : Int) (wrap64 (x28_2 + 1))))) = some r := H
                        have A18 := Aside0.mk A180
                        clear A180
                        replace H := Option.bind_eq_some_iff.mp H
                        obtain ⟨t375, A190, H⟩ := H
                        replace H : (if (Int.tmod t375 2) = 1 then (impl_CharacterOf.l0 k2 l1 (wrap64 (x5_2 + (wrap64 (-t374)))) t368 (t368.length : Int) (wrap64 (x28_2 + 1))) else (impl_CharacterOf.l0 k2 l1 (wrap64 (x5_2 + t374)) t368 (t368.length : Int) (wrap64 (x28_2 + 1)))) = some r := H
                        have A19 := Aside0.mk A190
                        clear A190
                        by_cases c20 : (Int.tmod t375 2) = 1
                        · rw [if_pos c20] at H
                          have c20b0 : ((Int.tmod t375 2) == 1) = true := beq_iff_eq.mpr c20
                          have c20b1 : ((Int.tmod t375 2) != 1) = false := bne_eq_false_iff_eq.mpr c20
                          clear c20
                          have H' := Aside0.mk H
                          clear H
                          have p371 : 0 ≤ (x28_2 : Int) := of_decide_eq_true (by first | (with_reducible assumption) | assumption)
                          have q371 : x28_2 < (t368.length : Int) := of_decide_eq_true (by first | (with_reducible assumption) | assumption)
                          obtain ⟨ad371, A371_0, c371_0, A371_1, c371_1, e371, hx371_0, hx371_1, hl371_0, hi371_0, hl371_1, hi371_1⟩ := at_T63 (Kd.N_reads' HO_26.out).2.2 x28_2 p371 q371
                          cases e371
                          obtain ⟨ce371, hce371, hMe371, hcc371⟩ := Kd.N_get HO_26.out z63 x28_2 p371 (by first | exact q371 | exact of_decide_eq_true (by first | (with_reducible assumption) | assumption) | (have e_ := (Kd.N_reads' HO_26.out).1; omega))
                          obtain ⟨ua371_0, uc371_0, ua371_1, uc371_1, rfl, ul371_0, ge371_0, ul371_1, ge371_1⟩ := k63_openF hMe371
                          have hv371_0 := hcc371 0 _ rfl
                          rw [Nat.add_zero] at hv371_0
                          replace hv371_0 := Option.some.inj (hv371_0.symm.trans hx371_0)
                          injection hv371_0 with hva_ hvn_ hvc_
                          rw [hva_] at ge371_0
                          rw [hvc_] at ul371_0
                          have HL371_0 := Aside0.mk (show Kd.V (Kd.int .i64) 3 _ w.heap.size _ _ ((rd_T63 t368 x28_2).f0) from Kd.V_mk ul371_0 ge371_0)
                          clear hva_ hvn_ hvc_ ge371_0 ul371_0
                          have hv371_1 := hcc371 1 _ rfl
                          rw [add_field _ _ 1 (by omega)] at hv371_1
                          replace hv371_1 := Option.some.inj (hv371_1.symm.trans hx371_1)
                          injection hv371_1 with hva_ hvn_ hvc_
                          rw [hva_] at ge371_1
                          rw [hvc_] at ul371_1
                          have HL371_1 := Aside0.mk (show Kd.V (Kd.int .i64) 3 _ w.heap.size _ _ ((rd_T63 t368 x28_2).f1) from Kd.V_mk ul371_1 ge371_1)
                          clear hva_ hvn_ hvc_ ge371_1 ul371_1
                          clear hcc371 hce371
                          have HR371_0 := Aside0.mk hi371_0
                          have HC371_0 := Aside0.mk hl371_0
                          clear hi371_0 hl371_0
                          have HR371_1 := Aside0.mk hi371_1
                          have HC371_1 := Aside0.mk hl371_1
                          clear hi371_1 hl371_1
                          replace p371 := eq_true p371
                          replace q371 := eq_true q371
                          try go_wp2_with (first | ((with_reducible refine gate_dst (N := 7) rfl ?_); refine box_event ?hg (N := 7) ?hd (cs := #[.slice none 0 0, .slice none 0 0]) (t := 63) ?hr ?_; (case hd => rfl); (case hg => rfl); (case hr => first | (go_simp; done) | (go_simp; rfl)); intro gb372 hg w21 hbox hb; have n0_ := Aside0.mk (Kd.N_below (Kd.N_elderB (xN HO_26.out) gb372 (Nat.le_of_eq hg.symm)) hb); have n1_ := Aside0.mk (Kd.V_below (Kd.V_elderB (xV HL371_0.out) gb372 (Nat.le_of_eq hg.symm)) hb); have n2_ := Aside0.mk (Kd.V_below (Kd.V_elderB (xV HL371_1.out) gb372 (Nat.le_of_eq hg.symm)) hb); have n3_ := Aside0.mk (Kd.C_below (by repeat (first | (with_reducible exact HR371_0.out) | (with_reducible refine Kd.C_alloc ?_ _) | (with_reducible refine Kd.C_drewN ?_ _) | (with_reducible refine Kd.C_drew ?_) | exact HR371_0.out)) hb); have n4_ := Aside0.mk (Kd.C_below (by repeat (first | (with_reducible exact HR371_1.out) | (with_reducible refine Kd.C_alloc ?_ _) | (with_reducible refine Kd.C_drewN ?_ _) | (with_reducible refine Kd.C_drew ?_) | exact HR371_1.out)) hb); have n5_ := Aside0.mk (below_step (xb HB.out) hb); have n6_ := Aside0.mk (hbox); have n7_ := Aside0.mk ((by rw [hg]; exact (below_size (xb HB.out)) : w.heap.size ≤ gb372)); have n8_ := Aside0.mk ((by rw [hg]; exact (below_size (xb HB.out)) : w.heap.size ≤ gb372)); clear HO_26; clear HL371_0; clear HL371_1; clear HR371_0; clear HR371_1; clear HB; have HO_26 := n0_; have HL371_0 := n1_; have HL371_1 := n2_; have HR371_0 := n3_; have HR371_1 := n4_; have HB := n5_; have BK372 := n6_; have GW372 := n7_; have GE372 := n8_; clear n0_ n1_ n2_ n3_ n4_ n5_ n6_ n7_ n8_; clear hb hbox hg; have hcz22_0 : w21.cell? ⟨gb372, 0, none⟩ = some (.slice none 0 0) := (blk_cell BK372.out 0).trans rfl; have hcz22_1 : w21.cell? ⟨gb372, 1, none⟩ = some (.slice none 0 0) := (blk_cell BK372.out 1).trans rfl; have hfz22_0 := blk_frozen BK372.out 0; have hfz22_1 := blk_frozen BK372.out 1))
                          have n0_ : Aside0 (Kd.N k63 63 ((w21.setCell ⟨gb372, 0, none⟩ (.slice A371_0 ((rd_T63 t368 x28_2).f0).length c371_0)).setCell ⟨gb372, 1, none⟩ (.slice A371_1 ((rd_T63 t368 x28_2).f1).length c371_1)) w.heap.size (fun k_ => k_ ≠ gb372) (.slice (some ad371) t368.length co13) t368) := ⟨by (with_reducible repeat (first | apply Kd.N_alloc | apply Kd.N_drewN | apply Kd.N_drew)); exact Kd.N_mono (Kd.N_far (p := ⟨gb372, 1, none⟩) (Kd.N_far (p := ⟨gb372, 0, none⟩) (Kd.N_mono HO_26.out (fun k_ hk => (⟨hk, hk.2⟩ : _ ∧ k_ ≠ gb372))) (fun _ hk => hk.2) (.slice A371_0 ((rd_T63 t368 x28_2).f0).length c371_0)) (fun _ hk => hk.2) (.slice A371_1 ((rd_T63 t368 x28_2).f1).length c371_1)) (fun _ hk => hk.1.2)⟩
                          have n1_ : Aside0 (Kd.V (Kd.int .i64) 3 ((w21.setCell ⟨gb372, 0, none⟩ (.slice A371_0 ((rd_T63 t368 x28_2).f0).length c371_0)).setCell ⟨gb372, 1, none⟩ (.slice A371_1 ((rd_T63 t368 x28_2).f1).length c371_1)) w.heap.size (fun k_ => some k_ ≠ (.slice (some ad371) t368.length co13 : Value).ownBlock ∧ k_ ≠ gb372) (.slice A371_0 ((rd_T63 t368 x28_2).f0).length c371_0) ((rd_T63 t368 x28_2).f0)) := ⟨by (with_reducible repeat (first | apply Kd.V_alloc | apply Kd.V_drewN | apply Kd.V_drew)); exact Kd.V_mono (Kd.V_far (p := ⟨gb372, 1, none⟩) (Kd.V_far (p := ⟨gb372, 0, none⟩) (Kd.V_mono HL371_0.out (fun k_ hk => (⟨hk, hk.2⟩ : _ ∧ k_ ≠ gb372))) (fun _ hk => hk.2) (.slice A371_0 ((rd_T63 t368 x28_2).f0).length c371_0)) (fun _ hk => hk.2) (.slice A371_1 ((rd_T63 t368 x28_2).f1).length c371_1)) (fun _ hk => ⟨hk.1.1.2, hk.1.2⟩)⟩
                          have n2_ : Aside0 (Kd.V (Kd.int .i64) 3 ((w21.setCell ⟨gb372, 0, none⟩ (.slice A371_0 ((rd_T63 t368 x28_2).f0).length c371_0)).setCell ⟨gb372, 1, none⟩ (.slice A371_1 ((rd_T63 t368 x28_2).f1).length c371_1)) w.heap.size (fun k_ => some k_ ≠ (.slice (some ad371) t368.length co13 : Value).ownBlock ∧ k_ ≠ gb372) (.slice A371_1 ((rd_T63 t368 x28_2).f1).length c371_1) ((rd_T63 t368 x28_2).f1)) := ⟨by (with_reducible repeat (first | apply Kd.V_alloc | apply Kd.V_drewN | apply Kd.V_drew)); exact Kd.V_mono (Kd.V_far (p := ⟨gb372, 1, none⟩) (Kd.V_far (p := ⟨gb372, 0, none⟩) (Kd.V_mono HL371_1.out (fun k_ hk => (⟨hk, hk.2⟩ : _ ∧ k_ ≠ gb372))) (fun _ hk => hk.2) (.slice A371_0 ((rd_T63 t368 x28_2).f0).length c371_0)) (fun _ hk => hk.2) (.slice A371_1 ((rd_T63 t368 x28_2).f1).length c371_1)) (fun _ hk => ⟨hk.1.1.2, hk.1.2⟩)⟩
                          have n3_ : Aside0 (((w21.setCell ⟨gb372, 0, none⟩ (.slice A371_0 ((rd_T63 t368 x28_2).f0).length c371_0)).setCell ⟨gb372, 1, none⟩ (.slice A371_1 ((rd_T63 t368 x28_2).f1).length c371_1)).heap[gb372]? = some (.cells #[.slice A371_0 ((rd_T63 t368 x28_2).f0).length c371_0, .slice A371_1 ((rd_T63 t368 x28_2).f1).length c371_1] 63 (0, 0))) := ⟨by (with_reducible repeat (first | refine blk_drewN ?_ _ | refine blk_drew ?_ | refine blk_alloc ?_ _)); refine blk_put (cs := #[.slice A371_0 ((rd_T63 t368 x28_2).f0).length c371_0, .slice none 0 0]) ?_ 1 _ rfl; (with_reducible repeat (first | refine blk_drewN ?_ _ | refine blk_drew ?_ | refine blk_alloc ?_ _)); refine blk_put (cs := #[.slice none 0 0, .slice none 0 0]) ?_ 0 _ rfl; (with_reducible repeat (first | refine blk_drewN ?_ _ | refine blk_drew ?_ | refine blk_alloc ?_ _)); exact BK372.out⟩
                          have n4_ : Aside0 (Below w.heap.size w ((w21.setCell ⟨gb372, 0, none⟩ (.slice A371_0 ((rd_T63 t368 x28_2).f0).length c371_0)).setCell ⟨gb372, 1, none⟩ (.slice A371_1 ((rd_T63 t368 x28_2).f1).length c371_1))) := ⟨by repeat (first | (with_reducible first | exact HB.out | apply below_alloc | apply pw_below_drewN | apply below_drew1 | refine below_set ?_ GE372.out) | exact HB.out)⟩
                          (try clear HO_26)
                          (try clear HL371_0)
                          (try clear HL371_1)
                          (try clear BK372)
                          (try clear HB)
                          generalize ((w21.setCell ⟨gb372, 0, none⟩ (.slice A371_0 ((rd_T63 t368 x28_2).f0).length c371_0)).setCell ⟨gb372, 1, none⟩ (.slice A371_1 ((rd_T63 t368 x28_2).f1).length c371_1)) = w23 at n0_ n1_ n2_ n3_ n4_ ⊢
                          have HO_26 := n0_
                          have HL371_0 := n1_
                          have HL371_1 := n2_
                          have BK372 := n3_
                          have HB := n4_
                          clear n0_ n1_ n2_ n3_ n4_
                          have n0_ := Aside0.mk (Kd.N_drew HO_26.out)
                          have n1_ := Aside0.mk (Kd.V_drew HL371_0.out)
                          have n2_ := Aside0.mk (Kd.V_drew HL371_1.out)
                          have n3_ := Aside0.mk (blk_drew BK372.out)
                          have n4_ := Aside0.mk (below_drew1 HB.out)
                          clear HO_26
                          clear HL371_0
                          clear HL371_1
                          clear BK372
                          clear HB
                          have HO_26 := n0_
                          have HL371_0 := n1_
                          have HL371_1 := n2_
                          have BK372 := n3_
                          have HB := n4_
                          clear n0_ n1_ n2_ n3_ n4_
                          obtain ⟨i025, hi025, _, hsz25, _⟩ := info_parts info3
                          obtain ⟨A25, hcut25, hA25, hC25⟩ := print_drop_of (P := Try.prog) (Value.int .i64) 0 22 3 .i64 Try.underlying22 hi025 hsz25 (some ad367) c1 l1 1 (by omega) (of_decide_eq_true (by first | (with_reducible assumption) | assumption)) HC1.out
                          have HR373 := Aside0.mk (Kd.C_of_reads (h1 := fun _ => rfl) (hA25 _ (Kd.reads_of_C HR1.out)))
                          have HC373 := Aside0.mk hC25
                          clear hA25 hC25 hi025 hsz25
                          refine start_ (n := 6) (S := fun w' => w'.cell? ⟨gb372, 0, none⟩ = some (.slice A371_0 ((rd_T63 t368 x28_2).f0).length c371_0) ∧ w'.cell? ⟨gb372, 1, none⟩ = some (.slice A371_1 ((rd_T63 t368 x28_2).f1).length c371_1)) (ds := []) #[false, false, false, false, false, false] (by kernel_rfl) rfl rfl ⟨(blk_cell BK372.out 0).trans rfl, (blk_cell BK372.out 1).trans rfl⟩ (fun hHeld => ?_)
                          generalize w23.drew = w24 at HO_26 HL371_0 HL371_1 BK372 HB HR373 hHeld ⊢
                          refine pure_ (i := 0) (N := some 32) (v := ?_) (a' := ?_) #[true, false, false, false, false, false] rfl rfl (by kernel_rfl) (fun _ _ _ h => h) (Or.inl ⟨by rfl, ?_⟩) ?_ ?_
                          rotate_left
                          · intro w'
                            go_simp
                            with_reducible rfl
                          rotate_left
                          · simp only [Act.put, List.setIfInBounds_toArray, List.set_cons_zero, List.set_cons_succ, i64_w, i32_w]
                            rfl
                          refine pure_ (i := 2) (N := some 34) (v := ?_) (a' := ?_) #[true, false, true, false, false, false] rfl rfl (by kernel_rfl) (fun _ _ _ h => h) (Or.inl ⟨by rfl, ?_⟩) ?_ ?_
                          rotate_left
                          · intro w'
                            go_simp
                            with_reducible rfl
                          rotate_left
                          · simp only [Act.put, List.setIfInBounds_toArray, List.set_cons_zero, List.set_cons_succ, i64_w, i32_w]
                            rfl
                          refine pure_ (i := 3) (N := some 35) (v := ?_) (a' := ?_) #[true, false, true, true, false, false] rfl rfl (by kernel_rfl) (fun _ _ _ h => h) (Or.inl ⟨by rfl, ?_⟩) ?_ ?_
                          rotate_left
                          · intro w'
                            go_simp
                            with_reducible rfl
                          rotate_left
                          · simp only [Act.put, List.setIfInBounds_toArray, List.set_cons_zero, List.set_cons_succ, i64_w, i32_w]
                            rfl
                          refine take_ (i := 1) (N := some 33) (v := ?_) (a' := ?_) #[true, true, true, true, false, false] rfl rfl (by kernel_rfl) (fun _ _ _ h => h) (Or.inl ⟨by rfl, ?_⟩) hHeld ?_ ?_
                          rotate_left
                          · rintro w' ⟨s0, s1⟩
                            go_simp
                            with_reducible rfl
                          rotate_left
                          · simp only [Act.put, List.setIfInBounds_toArray, List.set_cons_zero, List.set_cons_succ, i64_w, i32_w]
                            rfl
                          refine one_ (i := 4) (N := some 36) #[true, true, true, true, true, false] rfl rfl (by kernel_rfl) (by decide) (fun K hK => ?_)
                          refine goes_ Try.func50 (by kernel_rfl) rfl #[.slice A371_1 ((rd_T63 t368 x28_2).f1).length c371_1, .slice A25 (l1.drop 1).length (c1 - 1)] (by rfl) rfl rfl (by (try simp only [List.map_toArray, List.map_cons, List.map_nil]); first | done | (rw [show (l1.drop 1).length = (l1.length - 1) from List.length_drop] <;> rfl) | rfl | (simp only [List.length_drop, List.length_take]; rfl)) ?_
                          with_reducible refine (ih k2 (by have := HJ2.out; have := HK2.out; omega) _ _ ((rd_T63 t368 x28_2).f1) _ _ (l1.drop 1) t374 _ ?side1 ?side2 ?side3 ?side4 A18.out).mono ?_
                          (case side1 => repeat (first | exact ((Kd.V_reads' (xV HL371_1.out)).2.2) | (with_reducible refine Kd.C_alloc ?_ _) | (with_reducible refine Kd.C_drewN ?_ _) | (with_reducible refine Kd.C_drew ?_)))
                          (case side2 => exact HC371_1.out)
                          (case side3 => first | exact xc (Kd.C_below HR373.out HB.out) | exact xc HR373.out)
                          (case side4 => exact HC373.out)
                          rintro e w26 ⟨rfl, hb⟩
                          refine ⟨_, rfl, ?_⟩
                          have n0_ := Aside0.mk (Kd.N_below (xN HO_26.out) hb)
                          have n1_ := Aside0.mk (Kd.V_below (xV HL371_0.out) hb)
                          have n2_ := Aside0.mk (Kd.V_below (xV HL371_1.out) hb)
                          have n3_ := Aside0.mk (blk_below (g := gb372) (o := .cells #[.slice A371_0 ((rd_T63 t368 x28_2).f0).length c371_0, .slice A371_1 ((rd_T63 t368 x28_2).f1).length c371_1] 63 (0, 0)) (by (with_reducible repeat (first | refine blk_drewN ?_ _ | refine blk_drew ?_ | refine blk_alloc ?_ _)); exact BK372.out) hb)
                          have n4_ := Aside0.mk (below_step (by repeat (first | (with_reducible first | exact HB.out | apply below_alloc | apply pw_below_drewN | apply below_drew1 | refine below_set ?_ GE372.out) | exact HB.out)) hb)
                          clear HO_26
                          clear HL371_0
                          clear HL371_1
                          clear BK372
                          clear HB
                          have HO_26 := n0_
                          have HL371_0 := n1_
                          have HL371_1 := n2_
                          have BK372 := n3_
                          have HB := n4_
                          clear n0_ n1_ n2_ n3_ n4_
                          (try clear hb)
                          (try clear hb2)
                          (try clear hk)
                          (try clear hi)
                          refine hK.out _ _ ⟨(blk_cell BK372.out 0).trans rfl, (blk_cell BK372.out 1).trans rfl⟩ (fun hHeld => ?_)
                          clear hK K
                          refine norm_ (a' := ?_) ?_ ?_
                          rotate_left
                          · show Act.put _ (some 36) _ = _
                            simp only [Act.put, List.setIfInBounds_toArray, List.set_cons_zero, List.set_cons_succ, i64_w, i32_w]
                            rfl
                          refine pure_ (i := 5) (N := some 8) (v := ?_) (a' := ?_) #[true, true, true, true, true, true] rfl rfl (by kernel_rfl) (fun _ _ _ h => h) (Or.inl ⟨by rfl, ?_⟩) ?_ ?_
                          rotate_left
                          · intro w'
                            go_simp
                            with_reducible rfl
                          rotate_left
                          · simp only [Act.put, List.setIfInBounds_toArray, List.set_cons_zero, List.set_cons_succ, i64_w, i32_w]
                            rfl
                          refine done_ (by kernel_rfl) ?_
                          have hcz27_0 : w26.cell? ⟨gb372, 0, none⟩ = some (.slice A371_0 ((rd_T63 t368 x28_2).f0).length c371_0) := (blk_cell BK372.out 0).trans rfl
                          have hcz27_1 : w26.cell? ⟨gb372, 1, none⟩ = some (.slice A371_1 ((rd_T63 t368 x28_2).f1).length c371_1) := (blk_cell BK372.out 1).trans rfl
                          have hfz27_0 := blk_frozen BK372.out 0
                          have hfz27_1 := blk_frozen BK372.out 1
                          try go_wp2_with (first | ((with_reducible refine gate_callee (f := 74) rfl ?_); refine goesL_ (some 38) rfl rfl Try.func74 (by kernel_rfl) rfl #[.agg #[.slice A371_0 ((rd_T63 t368 x28_2).f0).length c371_0, .slice A371_1 ((rd_T63 t368 x28_2).f1).length c371_1]] rfl xm ?_; (with_reducible refine (impl_RibbonHeight.calls k2 _ _ ((rd_T63 t368 x28_2).f0) _ _ ((rd_T63 t368 x28_2).f1) t375 _ ?side1 ?side2 ?side3 ?side4 A19.out).mono ?_); (case side1 => repeat (first | exact ((Kd.V_reads' (xV HL371_0.out)).2.2) | (with_reducible refine Kd.C_alloc ?_ _) | (with_reducible refine Kd.C_drewN ?_ _) | (with_reducible refine Kd.C_drew ?_))); (case side2 => exact HC371_0.out); (case side3 => repeat (first | exact ((Kd.V_reads' (xV HL371_1.out)).2.2) | (with_reducible refine Kd.C_alloc ?_ _) | (with_reducible refine Kd.C_drewN ?_ _) | (with_reducible refine Kd.C_drew ?_))); (case side4 => exact HC371_1.out); rintro e w28 ⟨rfl, hb⟩; refine ⟨_, rfl, ?_⟩; have n0_ := Aside0.mk (Kd.N_below (xN HO_26.out) hb); have n1_ := Aside0.mk (Kd.V_below (xV HL371_0.out) hb); have n2_ := Aside0.mk (Kd.V_below (xV HL371_1.out) hb); have n3_ := Aside0.mk (blk_below (g := gb372) (o := .cells #[.slice A371_0 ((rd_T63 t368 x28_2).f0).length c371_0, .slice A371_1 ((rd_T63 t368 x28_2).f1).length c371_1] 63 (0, 0)) (by (with_reducible repeat (first | refine blk_drewN ?_ _ | refine blk_drew ?_ | refine blk_alloc ?_ _)); exact BK372.out) hb); have n4_ := Aside0.mk (below_step (by repeat (first | (with_reducible first | exact HB.out | apply below_alloc | apply pw_below_drewN | apply below_drew1 | refine below_set ?_ GE372.out) | exact HB.out)) hb); clear HO_26; clear HL371_0; clear HL371_1; clear BK372; clear HB; have HO_26 := n0_; have HL371_0 := n1_; have HL371_1 := n2_; have BK372 := n3_; have HB := n4_; clear n0_ n1_ n2_ n3_ n4_; (try clear hb); (try clear hb2); (try clear hk); (try clear hi)))
                          go_roundg k2
                          case measure => have := HJ2.out; have := HK2.out; omega
                          case rel => exact ⟨(wrap64 (x5_2 + (wrap64 (-t374)))), (wrap64 (x28_2 + 1)), (by first | rfl | (simp; done) | (simp [*]; done)), (by first | rfl | (simp; done) | (simp [*]; done)), H', ⟨by have := HJ2.out; have := HK2.out; omega⟩, ⟨by (with_reducible repeat (first | apply Kd.N_alloc | apply Kd.N_drewN | apply Kd.N_drew)); exact Kd.N_mono HO_26.out (fun _ hk => trivial)⟩, ⟨by repeat (first | (with_reducible first | exact HB.out | apply below_alloc | apply pw_below_drewN | apply below_drew1 | refine below_set ?_ GE372.out) | exact HB.out)⟩⟩
                        · rw [if_neg c20] at H
                          have c20b0 : ((Int.tmod t375 2) == 1) = false := beq_eq_false_iff_ne.mpr c20
                          have c20b1 : ((Int.tmod t375 2) != 1) = true := bne_iff_ne.mpr c20
                          have H' := Aside0.mk H
                          clear H
                          have p371 : 0 ≤ (x28_2 : Int) := of_decide_eq_true (by first | (with_reducible assumption) | assumption)
                          have q371 : x28_2 < (t368.length : Int) := of_decide_eq_true (by first | (with_reducible assumption) | assumption)
                          obtain ⟨ad371, A371_0, c371_0, A371_1, c371_1, e371, hx371_0, hx371_1, hl371_0, hi371_0, hl371_1, hi371_1⟩ := at_T63 (Kd.N_reads' HO_26.out).2.2 x28_2 p371 q371
                          cases e371
                          obtain ⟨ce371, hce371, hMe371, hcc371⟩ := Kd.N_get HO_26.out z63 x28_2 p371 (by first | exact q371 | exact of_decide_eq_true (by first | (with_reducible assumption) | assumption) | (have e_ := (Kd.N_reads' HO_26.out).1; omega))
                          obtain ⟨ua371_0, uc371_0, ua371_1, uc371_1, rfl, ul371_0, ge371_0, ul371_1, ge371_1⟩ := k63_openF hMe371
                          have hv371_0 := hcc371 0 _ rfl
                          rw [Nat.add_zero] at hv371_0
                          replace hv371_0 := Option.some.inj (hv371_0.symm.trans hx371_0)
                          injection hv371_0 with hva_ hvn_ hvc_
                          rw [hva_] at ge371_0
                          rw [hvc_] at ul371_0
                          have HL371_0 := Aside0.mk (show Kd.V (Kd.int .i64) 3 _ w.heap.size _ _ ((rd_T63 t368 x28_2).f0) from Kd.V_mk ul371_0 ge371_0)
                          clear hva_ hvn_ hvc_ ge371_0 ul371_0
                          have hv371_1 := hcc371 1 _ rfl
                          rw [add_field _ _ 1 (by omega)] at hv371_1
                          replace hv371_1 := Option.some.inj (hv371_1.symm.trans hx371_1)
                          injection hv371_1 with hva_ hvn_ hvc_
                          rw [hva_] at ge371_1
                          rw [hvc_] at ul371_1
                          have HL371_1 := Aside0.mk (show Kd.V (Kd.int .i64) 3 _ w.heap.size _ _ ((rd_T63 t368 x28_2).f1) from Kd.V_mk ul371_1 ge371_1)
                          clear hva_ hvn_ hvc_ ge371_1 ul371_1
                          clear hcc371 hce371
                          have HR371_0 := Aside0.mk hi371_0
                          have HC371_0 := Aside0.mk hl371_0
                          clear hi371_0 hl371_0
                          have HR371_1 := Aside0.mk hi371_1
                          have HC371_1 := Aside0.mk hl371_1
                          clear hi371_1 hl371_1
                          replace p371 := eq_true p371
                          replace q371 := eq_true q371
                          try go_wp2_with (first | ((with_reducible refine gate_dst (N := 7) rfl ?_); refine box_event ?hg (N := 7) ?hd (cs := #[.slice none 0 0, .slice none 0 0]) (t := 63) ?hr ?_; (case hd => rfl); (case hg => rfl); (case hr => first | (go_simp; done) | (go_simp; rfl)); intro gb372 hg w29 hbox hb; have n0_ := Aside0.mk (Kd.N_below (Kd.N_elderB (xN HO_26.out) gb372 (Nat.le_of_eq hg.symm)) hb); have n1_ := Aside0.mk (Kd.V_below (Kd.V_elderB (xV HL371_0.out) gb372 (Nat.le_of_eq hg.symm)) hb); have n2_ := Aside0.mk (Kd.V_below (Kd.V_elderB (xV HL371_1.out) gb372 (Nat.le_of_eq hg.symm)) hb); have n3_ := Aside0.mk (Kd.C_below (by repeat (first | (with_reducible exact HR371_0.out) | (with_reducible refine Kd.C_alloc ?_ _) | (with_reducible refine Kd.C_drewN ?_ _) | (with_reducible refine Kd.C_drew ?_) | exact HR371_0.out)) hb); have n4_ := Aside0.mk (Kd.C_below (by repeat (first | (with_reducible exact HR371_1.out) | (with_reducible refine Kd.C_alloc ?_ _) | (with_reducible refine Kd.C_drewN ?_ _) | (with_reducible refine Kd.C_drew ?_) | exact HR371_1.out)) hb); have n5_ := Aside0.mk (below_step (xb HB.out) hb); have n6_ := Aside0.mk (hbox); have n7_ := Aside0.mk ((by rw [hg]; exact (below_size (xb HB.out)) : w.heap.size ≤ gb372)); have n8_ := Aside0.mk ((by rw [hg]; exact (below_size (xb HB.out)) : w.heap.size ≤ gb372)); clear HO_26; clear HL371_0; clear HL371_1; clear HR371_0; clear HR371_1; clear HB; have HO_26 := n0_; have HL371_0 := n1_; have HL371_1 := n2_; have HR371_0 := n3_; have HR371_1 := n4_; have HB := n5_; have BK372 := n6_; have GW372 := n7_; have GE372 := n8_; clear n0_ n1_ n2_ n3_ n4_ n5_ n6_ n7_ n8_; clear hb hbox hg; have hcz30_0 : w29.cell? ⟨gb372, 0, none⟩ = some (.slice none 0 0) := (blk_cell BK372.out 0).trans rfl; have hcz30_1 : w29.cell? ⟨gb372, 1, none⟩ = some (.slice none 0 0) := (blk_cell BK372.out 1).trans rfl; have hfz30_0 := blk_frozen BK372.out 0; have hfz30_1 := blk_frozen BK372.out 1))
                          have n0_ : Aside0 (Kd.N k63 63 ((w29.setCell ⟨gb372, 0, none⟩ (.slice A371_0 ((rd_T63 t368 x28_2).f0).length c371_0)).setCell ⟨gb372, 1, none⟩ (.slice A371_1 ((rd_T63 t368 x28_2).f1).length c371_1)) w.heap.size (fun k_ => k_ ≠ gb372) (.slice (some ad371) t368.length co13) t368) := ⟨by (with_reducible repeat (first | apply Kd.N_alloc | apply Kd.N_drewN | apply Kd.N_drew)); exact Kd.N_mono (Kd.N_far (p := ⟨gb372, 1, none⟩) (Kd.N_far (p := ⟨gb372, 0, none⟩) (Kd.N_mono HO_26.out (fun k_ hk => (⟨hk, hk.2⟩ : _ ∧ k_ ≠ gb372))) (fun _ hk => hk.2) (.slice A371_0 ((rd_T63 t368 x28_2).f0).length c371_0)) (fun _ hk => hk.2) (.slice A371_1 ((rd_T63 t368 x28_2).f1).length c371_1)) (fun _ hk => hk.1.2)⟩
                          have n1_ : Aside0 (Kd.V (Kd.int .i64) 3 ((w29.setCell ⟨gb372, 0, none⟩ (.slice A371_0 ((rd_T63 t368 x28_2).f0).length c371_0)).setCell ⟨gb372, 1, none⟩ (.slice A371_1 ((rd_T63 t368 x28_2).f1).length c371_1)) w.heap.size (fun k_ => some k_ ≠ (.slice (some ad371) t368.length co13 : Value).ownBlock ∧ k_ ≠ gb372) (.slice A371_0 ((rd_T63 t368 x28_2).f0).length c371_0) ((rd_T63 t368 x28_2).f0)) := ⟨by (with_reducible repeat (first | apply Kd.V_alloc | apply Kd.V_drewN | apply Kd.V_drew)); exact Kd.V_mono (Kd.V_far (p := ⟨gb372, 1, none⟩) (Kd.V_far (p := ⟨gb372, 0, none⟩) (Kd.V_mono HL371_0.out (fun k_ hk => (⟨hk, hk.2⟩ : _ ∧ k_ ≠ gb372))) (fun _ hk => hk.2) (.slice A371_0 ((rd_T63 t368 x28_2).f0).length c371_0)) (fun _ hk => hk.2) (.slice A371_1 ((rd_T63 t368 x28_2).f1).length c371_1)) (fun _ hk => ⟨hk.1.1.2, hk.1.2⟩)⟩
                          have n2_ : Aside0 (Kd.V (Kd.int .i64) 3 ((w29.setCell ⟨gb372, 0, none⟩ (.slice A371_0 ((rd_T63 t368 x28_2).f0).length c371_0)).setCell ⟨gb372, 1, none⟩ (.slice A371_1 ((rd_T63 t368 x28_2).f1).length c371_1)) w.heap.size (fun k_ => some k_ ≠ (.slice (some ad371) t368.length co13 : Value).ownBlock ∧ k_ ≠ gb372) (.slice A371_1 ((rd_T63 t368 x28_2).f1).length c371_1) ((rd_T63 t368 x28_2).f1)) := ⟨by (with_reducible repeat (first | apply Kd.V_alloc | apply Kd.V_drewN | apply Kd.V_drew)); exact Kd.V_mono (Kd.V_far (p := ⟨gb372, 1, none⟩) (Kd.V_far (p := ⟨gb372, 0, none⟩) (Kd.V_mono HL371_1.out (fun k_ hk => (⟨hk, hk.2⟩ : _ ∧ k_ ≠ gb372))) (fun _ hk => hk.2) (.slice A371_0 ((rd_T63 t368 x28_2).f0).length c371_0)) (fun _ hk => hk.2) (.slice A371_1 ((rd_T63 t368 x28_2).f1).length c371_1)) (fun _ hk => ⟨hk.1.1.2, hk.1.2⟩)⟩
                          have n3_ : Aside0 (((w29.setCell ⟨gb372, 0, none⟩ (.slice A371_0 ((rd_T63 t368 x28_2).f0).length c371_0)).setCell ⟨gb372, 1, none⟩ (.slice A371_1 ((rd_T63 t368 x28_2).f1).length c371_1)).heap[gb372]? = some (.cells #[.slice A371_0 ((rd_T63 t368 x28_2).f0).length c371_0, .slice A371_1 ((rd_T63 t368 x28_2).f1).length c371_1] 63 (0, 0))) := ⟨by (with_reducible repeat (first | refine blk_drewN ?_ _ | refine blk_drew ?_ | refine blk_alloc ?_ _)); refine blk_put (cs := #[.slice A371_0 ((rd_T63 t368 x28_2).f0).length c371_0, .slice none 0 0]) ?_ 1 _ rfl; (with_reducible repeat (first | refine blk_drewN ?_ _ | refine blk_drew ?_ | refine blk_alloc ?_ _)); refine blk_put (cs := #[.slice none 0 0, .slice none 0 0]) ?_ 0 _ rfl; (with_reducible repeat (first | refine blk_drewN ?_ _ | refine blk_drew ?_ | refine blk_alloc ?_ _)); exact BK372.out⟩
                          have n4_ : Aside0 (Below w.heap.size w ((w29.setCell ⟨gb372, 0, none⟩ (.slice A371_0 ((rd_T63 t368 x28_2).f0).length c371_0)).setCell ⟨gb372, 1, none⟩ (.slice A371_1 ((rd_T63 t368 x28_2).f1).length c371_1))) := ⟨by repeat (first | (with_reducible first | exact HB.out | apply below_alloc | apply pw_below_drewN | apply below_drew1 | refine below_set ?_ GE372.out) | exact HB.out)⟩
                          (try clear HO_26)
                          (try clear HL371_0)
                          (try clear HL371_1)
                          (try clear BK372)
                          (try clear HB)
                          generalize ((w29.setCell ⟨gb372, 0, none⟩ (.slice A371_0 ((rd_T63 t368 x28_2).f0).length c371_0)).setCell ⟨gb372, 1, none⟩ (.slice A371_1 ((rd_T63 t368 x28_2).f1).length c371_1)) = w31 at n0_ n1_ n2_ n3_ n4_ ⊢
                          have HO_26 := n0_
                          have HL371_0 := n1_
                          have HL371_1 := n2_
                          have BK372 := n3_
                          have HB := n4_
                          clear n0_ n1_ n2_ n3_ n4_
                          have n0_ := Aside0.mk (Kd.N_drew HO_26.out)
                          have n1_ := Aside0.mk (Kd.V_drew HL371_0.out)
                          have n2_ := Aside0.mk (Kd.V_drew HL371_1.out)
                          have n3_ := Aside0.mk (blk_drew BK372.out)
                          have n4_ := Aside0.mk (below_drew1 HB.out)
                          clear HO_26
                          clear HL371_0
                          clear HL371_1
                          clear BK372
                          clear HB
                          have HO_26 := n0_
                          have HL371_0 := n1_
                          have HL371_1 := n2_
                          have BK372 := n3_
                          have HB := n4_
                          clear n0_ n1_ n2_ n3_ n4_
                          obtain ⟨i033, hi033, _, hsz33, _⟩ := info_parts info3
                          obtain ⟨A33, hcut33, hA33, hC33⟩ := print_drop_of (P := Try.prog) (Value.int .i64) 0 22 3 .i64 Try.underlying22 hi033 hsz33 (some ad367) c1 l1 1 (by omega) (of_decide_eq_true (by first | (with_reducible assumption) | assumption)) HC1.out
                          have HR373 := Aside0.mk (Kd.C_of_reads (h1 := fun _ => rfl) (hA33 _ (Kd.reads_of_C HR1.out)))
                          have HC373 := Aside0.mk hC33
                          clear hA33 hC33 hi033 hsz33
                          refine start_ (n := 6) (S := fun w' => w'.cell? ⟨gb372, 0, none⟩ = some (.slice A371_0 ((rd_T63 t368 x28_2).f0).length c371_0) ∧ w'.cell? ⟨gb372, 1, none⟩ = some (.slice A371_1 ((rd_T63 t368 x28_2).f1).length c371_1)) (ds := []) #[false, false, false, false, false, false] (by kernel_rfl) rfl rfl ⟨(blk_cell BK372.out 0).trans rfl, (blk_cell BK372.out 1).trans rfl⟩ (fun hHeld => ?_)
                          generalize w31.drew = w32 at HO_26 HL371_0 HL371_1 BK372 HB HR373 hHeld ⊢
                          refine pure_ (i := 0) (N := some 32) (v := ?_) (a' := ?_) #[true, false, false, false, false, false] rfl rfl (by kernel_rfl) (fun _ _ _ h => h) (Or.inl ⟨by rfl, ?_⟩) ?_ ?_
                          rotate_left
                          · intro w'
                            go_simp
                            with_reducible rfl
                          rotate_left
                          · simp only [Act.put, List.setIfInBounds_toArray, List.set_cons_zero, List.set_cons_succ, i64_w, i32_w]
                            rfl
                          refine pure_ (i := 2) (N := some 34) (v := ?_) (a' := ?_) #[true, false, true, false, false, false] rfl rfl (by kernel_rfl) (fun _ _ _ h => h) (Or.inl ⟨by rfl, ?_⟩) ?_ ?_
                          rotate_left
                          · intro w'
                            go_simp
                            with_reducible rfl
                          rotate_left
                          · simp only [Act.put, List.setIfInBounds_toArray, List.set_cons_zero, List.set_cons_succ, i64_w, i32_w]
                            rfl
                          refine pure_ (i := 3) (N := some 35) (v := ?_) (a' := ?_) #[true, false, true, true, false, false] rfl rfl (by kernel_rfl) (fun _ _ _ h => h) (Or.inl ⟨by rfl, ?_⟩) ?_ ?_
                          rotate_left
                          · intro w'
                            go_simp
                            with_reducible rfl
                          rotate_left
                          · simp only [Act.put, List.setIfInBounds_toArray, List.set_cons_zero, List.set_cons_succ, i64_w, i32_w]
                            rfl
                          refine take_ (i := 1) (N := some 33) (v := ?_) (a' := ?_) #[true, true, true, true, false, false] rfl rfl (by kernel_rfl) (fun _ _ _ h => h) (Or.inl ⟨by rfl, ?_⟩) hHeld ?_ ?_
                          rotate_left
                          · rintro w' ⟨s0, s1⟩
                            go_simp
                            with_reducible rfl
                          rotate_left
                          · simp only [Act.put, List.setIfInBounds_toArray, List.set_cons_zero, List.set_cons_succ, i64_w, i32_w]
                            rfl
                          refine one_ (i := 4) (N := some 36) #[true, true, true, true, true, false] rfl rfl (by kernel_rfl) (by decide) (fun K hK => ?_)
                          refine goes_ Try.func50 (by kernel_rfl) rfl #[.slice A371_1 ((rd_T63 t368 x28_2).f1).length c371_1, .slice A33 (l1.drop 1).length (c1 - 1)] (by rfl) rfl rfl (by (try simp only [List.map_toArray, List.map_cons, List.map_nil]); first | done | (rw [show (l1.drop 1).length = (l1.length - 1) from List.length_drop] <;> rfl) | rfl | (simp only [List.length_drop, List.length_take]; rfl)) ?_
                          with_reducible refine (ih k2 (by have := HJ2.out; have := HK2.out; omega) _ _ ((rd_T63 t368 x28_2).f1) _ _ (l1.drop 1) t374 _ ?side1 ?side2 ?side3 ?side4 A18.out).mono ?_
                          (case side1 => repeat (first | exact ((Kd.V_reads' (xV HL371_1.out)).2.2) | (with_reducible refine Kd.C_alloc ?_ _) | (with_reducible refine Kd.C_drewN ?_ _) | (with_reducible refine Kd.C_drew ?_)))
                          (case side2 => exact HC371_1.out)
                          (case side3 => first | exact xc (Kd.C_below HR373.out HB.out) | exact xc HR373.out)
                          (case side4 => exact HC373.out)
                          rintro e w34 ⟨rfl, hb⟩
                          refine ⟨_, rfl, ?_⟩
                          have n0_ := Aside0.mk (Kd.N_below (xN HO_26.out) hb)
                          have n1_ := Aside0.mk (Kd.V_below (xV HL371_0.out) hb)
                          have n2_ := Aside0.mk (Kd.V_below (xV HL371_1.out) hb)
                          have n3_ := Aside0.mk (blk_below (g := gb372) (o := .cells #[.slice A371_0 ((rd_T63 t368 x28_2).f0).length c371_0, .slice A371_1 ((rd_T63 t368 x28_2).f1).length c371_1] 63 (0, 0)) (by (with_reducible repeat (first | refine blk_drewN ?_ _ | refine blk_drew ?_ | refine blk_alloc ?_ _)); exact BK372.out) hb)
                          have n4_ := Aside0.mk (below_step (by repeat (first | (with_reducible first | exact HB.out | apply below_alloc | apply pw_below_drewN | apply below_drew1 | refine below_set ?_ GE372.out) | exact HB.out)) hb)
                          clear HO_26
                          clear HL371_0
                          clear HL371_1
                          clear BK372
                          clear HB
                          have HO_26 := n0_
                          have HL371_0 := n1_
                          have HL371_1 := n2_
                          have BK372 := n3_
                          have HB := n4_
                          clear n0_ n1_ n2_ n3_ n4_
                          (try clear hb)
                          (try clear hb2)
                          (try clear hk)
                          (try clear hi)
                          refine hK.out _ _ ⟨(blk_cell BK372.out 0).trans rfl, (blk_cell BK372.out 1).trans rfl⟩ (fun hHeld => ?_)
                          clear hK K
                          refine norm_ (a' := ?_) ?_ ?_
                          rotate_left
                          · show Act.put _ (some 36) _ = _
                            simp only [Act.put, List.setIfInBounds_toArray, List.set_cons_zero, List.set_cons_succ, i64_w, i32_w]
                            rfl
                          refine pure_ (i := 5) (N := some 8) (v := ?_) (a' := ?_) #[true, true, true, true, true, true] rfl rfl (by kernel_rfl) (fun _ _ _ h => h) (Or.inl ⟨by rfl, ?_⟩) ?_ ?_
                          rotate_left
                          · intro w'
                            go_simp
                            with_reducible rfl
                          rotate_left
                          · simp only [Act.put, List.setIfInBounds_toArray, List.set_cons_zero, List.set_cons_succ, i64_w, i32_w]
                            rfl
                          refine done_ (by kernel_rfl) ?_
                          have hcz35_0 : w34.cell? ⟨gb372, 0, none⟩ = some (.slice A371_0 ((rd_T63 t368 x28_2).f0).length c371_0) := (blk_cell BK372.out 0).trans rfl
                          have hcz35_1 : w34.cell? ⟨gb372, 1, none⟩ = some (.slice A371_1 ((rd_T63 t368 x28_2).f1).length c371_1) := (blk_cell BK372.out 1).trans rfl
                          have hfz35_0 := blk_frozen BK372.out 0
                          have hfz35_1 := blk_frozen BK372.out 1
                          try go_wp2_with (first | ((with_reducible refine gate_callee (f := 74) rfl ?_); refine goesL_ (some 38) rfl rfl Try.func74 (by kernel_rfl) rfl #[.agg #[.slice A371_0 ((rd_T63 t368 x28_2).f0).length c371_0, .slice A371_1 ((rd_T63 t368 x28_2).f1).length c371_1]] rfl xm ?_; (with_reducible refine (impl_RibbonHeight.calls k2 _ _ ((rd_T63 t368 x28_2).f0) _ _ ((rd_T63 t368 x28_2).f1) t375 _ ?side1 ?side2 ?side3 ?side4 A19.out).mono ?_); (case side1 => repeat (first | exact ((Kd.V_reads' (xV HL371_0.out)).2.2) | (with_reducible refine Kd.C_alloc ?_ _) | (with_reducible refine Kd.C_drewN ?_ _) | (with_reducible refine Kd.C_drew ?_))); (case side2 => exact HC371_0.out); (case side3 => repeat (first | exact ((Kd.V_reads' (xV HL371_1.out)).2.2) | (with_reducible refine Kd.C_alloc ?_ _) | (with_reducible refine Kd.C_drewN ?_ _) | (with_reducible refine Kd.C_drew ?_))); (case side4 => exact HC371_1.out); rintro e w36 ⟨rfl, hb⟩; refine ⟨_, rfl, ?_⟩; have n0_ := Aside0.mk (Kd.N_below (xN HO_26.out) hb); have n1_ := Aside0.mk (Kd.V_below (xV HL371_0.out) hb); have n2_ := Aside0.mk (Kd.V_below (xV HL371_1.out) hb); have n3_ := Aside0.mk (blk_below (g := gb372) (o := .cells #[.slice A371_0 ((rd_T63 t368 x28_2).f0).length c371_0, .slice A371_1 ((rd_T63 t368 x28_2).f1).length c371_1] 63 (0, 0)) (by (with_reducible repeat (first | refine blk_drewN ?_ _ | refine blk_drew ?_ | refine blk_alloc ?_ _)); exact BK372.out) hb); have n4_ := Aside0.mk (below_step (by repeat (first | (with_reducible first | exact HB.out | apply below_alloc | apply pw_below_drewN | apply below_drew1 | refine below_set ?_ GE372.out) | exact HB.out)) hb); clear HO_26; clear HL371_0; clear HL371_1; clear BK372; clear HB; have HO_26 := n0_; have HL371_0 := n1_; have HL371_1 := n2_; have BK372 := n3_; have HB := n4_; clear n0_ n1_ n2_ n3_ n4_; (try clear hb); (try clear hb2); (try clear hk); (try clear hi)))
                          go_roundg k2
                          case measure => have := HJ2.out; have := HK2.out; omega
                          case rel => exact ⟨(wrap64 (x5_2 + t374)), (wrap64 (x28_2 + 1)), (by first | rfl | (simp; done) | (simp [*]; done)), (by first | rfl | (simp; done) | (simp [*]; done)), H', ⟨by have := HJ2.out; have := HK2.out; omega⟩, ⟨by (with_reducible repeat (first | apply Kd.N_alloc | apply Kd.N_drewN | apply Kd.N_drew)); exact Kd.N_mono HO_26.out (fun _ hk => trivial)⟩, ⟨by repeat (first | (with_reducible first | exact HB.out | apply below_alloc | apply pw_below_drewN | apply below_drew1 | refine below_set ?_ GE372.out) | exact HB.out)⟩⟩
                      · rw [if_neg c17] at H
                        exact absurd H (by simp)
                    · rw [if_neg c16] at H
                      exact absurd H (by simp)
                  · rw [if_neg c15] at H
                    exact absurd H (by simp)
                · rw [if_neg c14] at H
                  have c14b0 : decide (x28_2 < (t368.length : Int)) = false := decide_eq_false c14
                  clear c14
                  obtain rfl := Option.some.inj H
                  go_wp2
                  go_ret
                  exact ⟨by first | rfl | (simp [errW_none, errW_some] <;> rfl) | (simp [*, errW_none, errW_some] <;> rfl), by repeat (first | (with_reducible first | exact HB.out | apply below_alloc | apply pw_below_drewN | apply below_drew1) | exact HB.out)⟩
          · rw [if_neg c10] at H
            exact absurd H (by simp)

-- NOT PRINTED: function 49 (impl_CharacterTable_1)

/-! ### impl_CharacterTable_1__c: function 166 -/
def impl_CharacterTable_1__c.f (k : Nat) (l0 : List Int) (l1 : List Int) : Option (Int) := (impl_CharacterOf.f k l1 l0).bind fun t377 => (some t377)
theorem impl_CharacterTable_1__c.mono : ∀ a0 a1 k, LeO (impl_CharacterTable_1__c.f k a0 a1) (impl_CharacterTable_1__c.f (k + 1) a0 a1) := by
  intro a0 a1 k
  unfold impl_CharacterTable_1__c.f
  repeat' first
      | (with_reducible exact impl_CharacterOf.mono _ _ _)
      | (with_reducible exact LeO.refl _)
      | (with_reducible exact LeO.none _)
      | (with_reducible refine LeO.ite ?_ ?_)
      | (with_reducible refine LeO.bind ?_ (fun _ => ?_))
      | exact impl_CharacterOf.mono _ _ _
      | exact LeO.none _
      | refine LeO.ite ?_ ?_
      | refine LeO.bind ?_ (fun _ => ?_)
set_option maxHeartbeats 8000000 in
set_option maxRecDepth 100000 in
theorem impl_CharacterTable_1__c.calls (k : Nat) (A0 : Option Addr) (c0 : Nat) (l0 : List Int) (g1 : Nat) (A1 : Option Addr) (c1 : Nat) (l1 : List Int) (r : Int) (w : World) (hr0 : Kd.C (Kd.int .i64) w A0 l0.length l0) (hc0 : l0.length ≤ c0) (hb1 : w.heap[g1]? = some (.cells #[.slice A1 l1.length c1] 22 (0, 0))) (hr1 : Kd.C (Kd.int .i64) w A1 l1.length l1) (hc1 : l1.length ≤ c1) (h : impl_CharacterTable_1__c.f k l0 l1 = some r) :
    Calls Try.prog 49 #[.slice A0 l0.length c0, .pointer (some ⟨g1, 0, none⟩)] w fun e w' => e = .returned (.int .i64 r) ∧ Below w.heap.size w w' := by
  have HR0 := Aside0.mk hr0
  have HC0 := Aside0.mk hc0
  clear hr0 hc0
  have HR1 := Aside0.mk hr1
  have HC1 := Aside0.mk hc1
  clear hr1 hc1
  have HX1 := Aside0.mk hb1
  clear hb1
  have HB := Aside0.mk (Below.refl w.heap.size w)
  have H : ((impl_CharacterOf.f k l1 l0).bind fun t377 => (some t377)) = some r := h
  clear h
  replace H := Option.bind_eq_some_iff.mp H
  obtain ⟨t377, A30, H⟩ := H
  replace H : (some t377) = some r := H
  have A3 := Aside0.mk A30
  clear A30
  obtain rfl := Option.some.inj H
  have hcz4_0 : w.cell? ⟨g1, 0, none⟩ = some (.slice A1 l1.length c1) := (blk_cell HX1.out 0).trans rfl
  have hfz4_0 := blk_frozen HX1.out 0
  go_enter Try.func49, Try.ntmps49
  go_wp2_with (first | ((with_reducible refine gate_callee (f := 50) rfl ?_); refine goesL_ (some 6) rfl rfl Try.func50 (by kernel_rfl) rfl #[.slice A1 l1.length c1, .slice A0 l0.length c0] rfl xm ?_; (with_reducible refine (impl_CharacterOf.calls k _ _ l1 _ _ l0 t377 _ ?side1 ?side2 ?side3 ?side4 A3.out).mono ?_); (case side1 => exact xc HR1.out); (case side2 => exact HC1.out); (case side3 => exact xc HR0.out); (case side4 => exact HC0.out); rintro e w5 ⟨rfl, hb⟩; refine ⟨_, rfl, ?_⟩; have n0_ := Aside0.mk (blk_below (g := g1) (o := .cells #[.slice A1 l1.length c1] 22 (0, 0)) (by (with_reducible repeat (first | refine blk_drewN ?_ _ | refine blk_drew ?_ | refine blk_alloc ?_ _)); exact HX1.out) hb); have n1_ := Aside0.mk (below_step (by repeat (first | (with_reducible first | exact HB.out | apply below_alloc | apply pw_below_drewN | apply below_drew1 | refine below_set ?_ GE376.out) | exact HB.out)) hb); clear HX1; clear HB; have HX1 := n0_; have HB := n1_; clear n0_ n1_; (try clear hb); (try clear hb2); (try clear hk); (try clear hi)))
  go_ret
  exact ⟨by first | rfl | (simp [errW_none, errW_some] <;> rfl) | (simp [*, errW_none, errW_some] <;> rfl), by repeat (first | (with_reducible first | exact HB.out | apply below_alloc | apply pw_below_drewN | apply below_drew1 | refine below_set ?_ GE376.out) | exact HB.out)⟩

/-! ### impl_vectorOf__impl_CharacterTable_1: function 165 -/
def impl_vectorOf__impl_CharacterTable_1.l0 : Nat → List Int → List (List Int) → Int → Int → List Int → Option (List Int)
  | 0, _, _, _, _, _ => none
  | k + 1, x5, x15, x16, x17, x379000 => if x17 < x16 then (if 0 ≤ x17 then (if x17 < (x15.length : Int) then ((impl_CharacterTable_1__c.f k (rd_L1 x15 x17) x379000).bind fun t389 => (if x5.length < 17592186044416 then (impl_vectorOf__impl_CharacterTable_1.l0 k (x5 ++ [t389]) x15 x16 (wrap64 (x17 + 1)) x379000) else (none))) else (none)) else (none)) else (some x5)
def impl_vectorOf__impl_CharacterTable_1.f (k : Nat) (l0 : List Int) (l1_0 : List Int) : Option (List Int) := (impl_SizeOf.f k l0).bind fun t379 => ((impl_within.f t379 0 6).bind fun t380 => (if t380 = true then ((impl_SizeOf.f k l0).bind fun t384 => ((impl_PartitionsOf.f k t384).bind fun t385 => (impl_vectorOf__impl_CharacterTable_1.l0 k (([] : List Int)) t385 (t385.length : Int) 0 l1_0))) else (some ([] : List Int))))
theorem impl_vectorOf__impl_CharacterTable_1.mono_l : ∀ k, (∀ y0 y1 y2 y3 y4, LeO (impl_vectorOf__impl_CharacterTable_1.l0 k y0 y1 y2 y3 y4) (impl_vectorOf__impl_CharacterTable_1.l0 (k + 1) y0 y1 y2 y3 y4))
  | 0 => fun _ _ _ _ _ r h => by simp [impl_vectorOf__impl_CharacterTable_1.l0] at h
  | k + 1 => by
    have ih0 := impl_vectorOf__impl_CharacterTable_1.mono_l k
    · intro y0 y1 y2 y3 y4
      unfold impl_vectorOf__impl_CharacterTable_1.l0
      repeat' first
      | (with_reducible exact ih0 _ _ _ _ _)
      | (with_reducible exact impl_CharacterTable_1__c.mono _ _ _)
      | (with_reducible exact impl_PartitionsOf.mono _ _)
      | (with_reducible exact impl_SizeOf.mono _ _)
      | (with_reducible exact LeO.refl _)
      | (with_reducible exact LeO.none _)
      | (with_reducible refine LeO.ite ?_ ?_)
      | (with_reducible refine LeO.bind ?_ (fun _ => ?_))
      | exact ih0 _ _ _ _ _
      | exact impl_CharacterTable_1__c.mono _ _ _
      | exact impl_PartitionsOf.mono _ _
      | exact impl_SizeOf.mono _ _
      | exact LeO.none _
      | refine LeO.ite ?_ ?_
      | refine LeO.bind ?_ (fun _ => ?_)
theorem impl_vectorOf__impl_CharacterTable_1.mono : ∀ a0 a1 k, LeO (impl_vectorOf__impl_CharacterTable_1.f k a0 a1) (impl_vectorOf__impl_CharacterTable_1.f (k + 1) a0 a1) := by
  intro a0 a1 k
  have ih0 := impl_vectorOf__impl_CharacterTable_1.mono_l k
  unfold impl_vectorOf__impl_CharacterTable_1.f
  repeat' first
      | (with_reducible exact ih0 _ _ _ _ _)
      | (with_reducible exact impl_CharacterTable_1__c.mono _ _ _)
      | (with_reducible exact impl_PartitionsOf.mono _ _)
      | (with_reducible exact impl_SizeOf.mono _ _)
      | (with_reducible exact LeO.refl _)
      | (with_reducible exact LeO.none _)
      | (with_reducible refine LeO.ite ?_ ?_)
      | (with_reducible refine LeO.bind ?_ (fun _ => ?_))
      | exact ih0 _ _ _ _ _
      | exact impl_CharacterTable_1__c.mono _ _ _
      | exact impl_PartitionsOf.mono _ _
      | exact impl_SizeOf.mono _ _
      | exact LeO.none _
      | refine LeO.ite ?_ ?_
      | refine LeO.bind ?_ (fun _ => ?_)
set_option maxHeartbeats 8000000 in
set_option maxRecDepth 100000 in
theorem impl_vectorOf__impl_CharacterTable_1.calls (k : Nat) (A0 : Option Addr) (c0 : Nat) (l0 : List Int) (g1_0 : Nat) (A1_0 : Option Addr) (c1_0 : Nat) (l1_0 : List Int) (r : List Int) (w : World) (hr0 : Kd.C (Kd.int .i64) w A0 l0.length l0) (hc0 : l0.length ≤ c0) (hb1_0 : w.heap[g1_0]? = some (.cells #[.slice A1_0 l1_0.length c1_0] 22 (0, 0))) (hr1_0 : Kd.C (Kd.int .i64) w A1_0 l1_0.length l1_0) (hc1_0 : l1_0.length ≤ c1_0) (h : impl_vectorOf__impl_CharacterTable_1.f k l0 l1_0 = some r) :
    Calls Try.prog 48 #[.slice A0 l0.length c0, .func (.func 49) #[] #[.pointer (some ⟨g1_0, 0, none⟩)]] w fun e w' => ∃ v0_ : Value, e = .returned (v0_) ∧ Kd.R (Kd.int .i64) 3 w' w.heap.size (fun _ => True) v0_ r ∧ Below w.heap.size w w' := by
  have HR0 := Aside0.mk hr0
  have HC0 := Aside0.mk hc0
  clear hr0 hc0
  have HR1_0 := Aside0.mk hr1_0
  have HC1_0 := Aside0.mk hc1_0
  clear hr1_0 hc1_0
  have HX1_0 := Aside0.mk hb1_0
  clear hb1_0
  have HB := Aside0.mk (Below.refl w.heap.size w)
  have H : ((impl_SizeOf.f k l0).bind fun t379 => ((impl_within.f t379 0 6).bind fun t380 => (if t380 = true then ((impl_SizeOf.f k l0).bind fun t384 => ((impl_PartitionsOf.f k t384).bind fun t385 => (impl_vectorOf__impl_CharacterTable_1.l0 k (([] : List Int)) t385 (t385.length : Int) 0 l1_0))) else (some ([] : List Int))))) = some r := h
  clear h
  replace H := Option.bind_eq_some_iff.mp H
  obtain ⟨t379, A30, H⟩ := H
  replace H : ((impl_within.f t379 0 6).bind fun t380 => (if t380 = true then ((impl_SizeOf.f k l0).bind fun t384 => ((impl_PartitionsOf.f k t384).bind fun t385 => (impl_vectorOf__impl_CharacterTable_1.l0 k (([] : List Int)) t385 (t385.length : Int) 0 l1_0))) else (some ([] : List Int)))) = some r := H
  have A3 := Aside0.mk A30
  clear A30
  replace H := Option.bind_eq_some_iff.mp H
  obtain ⟨t380, A40, H⟩ := H
  replace H : (if t380 = true then ((impl_SizeOf.f k l0).bind fun t384 => ((impl_PartitionsOf.f k t384).bind fun t385 => (impl_vectorOf__impl_CharacterTable_1.l0 k (([] : List Int)) t385 (t385.length : Int) 0 l1_0))) else (some ([] : List Int))) = some r := H
  have A4 := Aside0.mk A40
  clear A40
  by_cases c5 : t380 = true
  · subst c5
    have H1 : ((impl_SizeOf.f k l0).bind fun t384 => ((impl_PartitionsOf.f k t384).bind fun t385 => (impl_vectorOf__impl_CharacterTable_1.l0 k (([] : List Int)) t385 (t385.length : Int) 0 l1_0))) = some r := by rw [if_pos rfl] at H; exact H
    clear H
    have H := H1
    clear H1
    obtain ⟨y381, hy381⟩ : ∃ y_ : List Int, y_ = (([] : List Int)) := ⟨_, rfl⟩
    replace H : ((impl_SizeOf.f k l0).bind fun t384 => ((impl_PartitionsOf.f k t384).bind fun t385 => (impl_vectorOf__impl_CharacterTable_1.l0 k y381 t385 (t385.length : Int) 0 l1_0))) = some r := by first | (rw [hy381]; with_reducible exact H) | (have H2_ := (Option.bind_some _ _).symm.trans H; rw [hy381]; with_reducible exact H2_) | (have H2_ := (Option.bind_some _ _).symm.trans H; with_reducible exact H2_) | with_reducible exact H | (rw [hy381]; exact H) | exact H
    have Ny381 := Aside0.mk hy381
    clear hy381
    replace H := Option.bind_eq_some_iff.mp H
    obtain ⟨t384, A60, H⟩ := H
    replace H : ((impl_PartitionsOf.f k t384).bind fun t385 => (impl_vectorOf__impl_CharacterTable_1.l0 k y381 t385 (t385.length : Int) 0 l1_0)) = some r := H
    have A6 := Aside0.mk A60
    clear A60
    replace H := Option.bind_eq_some_iff.mp H
    obtain ⟨t385, A70, H⟩ := H
    replace H : (impl_vectorOf__impl_CharacterTable_1.l0 k y381 t385 (t385.length : Int) 0 l1_0) = some r := H
    have A7 := Aside0.mk A70
    clear A70
    have H' := Aside0.mk H
    clear H
    go_enter Try.func48, Try.ntmps48
    go_wp2_with (first | ((with_reducible refine gate_callee (f := 72) rfl ?_); refine goesL_ (some 9) rfl rfl Try.func72 (by kernel_rfl) rfl #[.slice A0 l0.length c0] rfl xm ?_; (with_reducible refine (impl_SizeOf.calls k _ _ l0 t379 _ ?side1 ?side2 A3.out).mono ?_); (case side1 => exact xc HR0.out); (case side2 => exact HC0.out); rintro e w' ⟨rfl, ⟨nd, rfl⟩⟩; refine ⟨_, rfl, ?_⟩) | ((with_reducible refine gate_callee (f := 44) rfl ?_); refine goesL_ (some 10) rfl rfl Try.func44 (by kernel_rfl) rfl #[.int .i64 t379, .int .i64 0, .int .i64 6] rfl xm ?_; (with_reducible refine (impl_within.calls t379 0 6 true _ A4.out).mono ?_); rintro e w' ⟨rfl, ⟨nd, rfl⟩⟩; refine ⟨_, rfl, ?_⟩) | ((with_reducible refine gate_dst (N := 12) rfl ?_); refine Kd.R_lit (Kd.int .i64) _ 3 ?hg (N := 12) ?hd (xs := ([] : List Int)) (inner := []) (ok := fun _ => True) (okp := fun _ => True) ?hr ?hp (fun _ hk => hk) trivial (Below.refl _ _) (Nat.le_refl _) (by simp) ?_; (case hd => rfl); (case hg => rfl); (case hr => first | (go_simp; done) | (go_simp; rfl)); (case hp => exact (Reps.none _ _)); intro v382 w8 ho9 hb hg_ hnew_; clear hg_ hnew_; (first | rw [← Ny381.out] at ho9 | (simp only [Int.reduceToNat] at ho9; rw [← Ny381.out] at ho9)); have n0_ := Aside0.mk (Kd.R_lower ho9 (below_size (by repeat (first | (with_reducible first | exact HB.out | apply below_alloc | apply pw_below_drewN | apply below_drew1 | refine below_set ?_ GE378.out) | exact HB.out)))); have n1_ := Aside0.mk (blk_below (g := g1_0) (o := .cells #[.slice A1_0 l1_0.length c1_0] 22 (0, 0)) (by (with_reducible repeat (first | refine blk_drewN ?_ _ | refine blk_drew ?_ | refine blk_alloc ?_ _)); exact HX1_0.out) hb); have n2_ := Aside0.mk (below_step (by repeat (first | (with_reducible first | exact HB.out | apply below_alloc | apply pw_below_drewN | apply below_drew1 | refine below_set ?_ GE378.out) | exact HB.out)) hb); clear HX1_0; clear HB; have HO383 := n0_; have HX1_0 := n1_; have HB := n2_; clear n0_ n1_ n2_; clear hb ho9) | ((with_reducible refine gate_callee (f := 72) rfl ?_); refine goesL_ (some 14) rfl rfl Try.func72 (by kernel_rfl) rfl #[.slice A0 l0.length c0] rfl xm ?_; (with_reducible refine (impl_SizeOf.calls k _ _ l0 t384 _ ?side1 ?side2 A6.out).mono ?_); (case side1 => first | exact xc (Kd.C_below HR0.out HB.out) | exact xc HR0.out); (case side2 => exact HC0.out); rintro e w' ⟨rfl, ⟨nd, rfl⟩⟩; refine ⟨_, rfl, ?_⟩) | ((with_reducible refine gate_callee (f := 47) rfl ?_); refine goesL_ (some 15) rfl rfl Try.func47 (by kernel_rfl) rfl #[.int .i64 t384] rfl xm ?_; (with_reducible refine (impl_PartitionsOf.calls k t384 t385 _ A7.out).mono ?_); rintro e w10 ⟨v386, rfl, ho0, hb⟩; refine ⟨_, rfl, ?_⟩; have n0_ := Aside0.mk (Kd.R_below (xR HO383.out) hb); have n1_ := Aside0.mk (Kd.N_lower (Kd.N_mono (ok' := fun k_ => some k_ ≠ (v382 : Value).ownBlock ∧ k_ ≠ g1_0) ho0 (fun k_ hk_ => ⟨(Kd.fresh' (Kd.R_lt (xR HO383.out)) k_ hk_), (Kd.freshB (g := g1_0) (o := .cells #[.slice A1_0 l1_0.length c1_0] 22 (0, 0)) (by (with_reducible repeat (first | refine blk_drewN ?_ _ | refine blk_drew ?_ | refine blk_alloc ?_ _)); exact HX1_0.out) k_ hk_)⟩)) (below_size (by repeat (first | (with_reducible first | exact HB.out | apply below_alloc | apply pw_below_drewN | apply below_drew1 | refine below_set ?_ GE378.out) | exact HB.out)))); have n2_ := Aside0.mk (blk_below (g := g1_0) (o := .cells #[.slice A1_0 l1_0.length c1_0] 22 (0, 0)) (by (with_reducible repeat (first | refine blk_drewN ?_ _ | refine blk_drew ?_ | refine blk_alloc ?_ _)); exact HX1_0.out) hb); have n3_ := Aside0.mk (below_step (by repeat (first | (with_reducible first | exact HB.out | apply below_alloc | apply pw_below_drewN | apply below_drew1 | refine below_set ?_ GE378.out) | exact HB.out)) hb); clear HO383; clear HX1_0; clear HB; have HO383 := n0_; have HO387 := n1_; have HX1_0 := n2_; have HB := n3_; clear n0_ n1_ n2_ n3_; (try clear hb); (try clear hb2); (try clear hk); (try clear hi); (try clear ho0); obtain ⟨Ao11, co11, eo11⟩ := Kd.N_slice HO387.out; subst eo11))
    go_loopg [5, 17] k (fun kq v5 v17 w' => ∃ (x5_1 : List Int) (x17_1 : Int), v17 = .int .i64 x17_1 ∧ Aside0 (impl_vectorOf__impl_CharacterTable_1.l0 kq x5_1 t385 (t385.length : Int) x17_1 l1_0 = some r) ∧ Aside0 (kq ≤ k) ∧ Aside0 (Kd.R (Kd.int .i64) 3 w' w.heap.size (fun _ => True) v5 x5_1) ∧ Aside0 (Kd.N (Kd.slice 3 (Kd.int .i64)) 22 w' w.heap.size (fun k_ => some k_ ≠ (v5 : Value).ownBlock ∧ k_ ≠ g1_0) (.slice Ao11 t385.length co11) t385) ∧ Aside0 (w'.heap[g1_0]? = some (.cells #[(.slice A1_0 l1_0.length c1_0)] 22 (0, 0))) ∧ Aside0 (Below w.heap.size w w'))
    case atStart => exact ⟨(y381), (0), (by first | rfl | (simp; done) | (simp [*]; done)), H', ⟨Nat.le_refl _⟩, ⟨by (with_reducible repeat (first | apply Kd.R_alloc | apply Kd.R_drewN | apply Kd.R_drew)); first | exact HO383.out | exact Kd.R_mono HO383.out xi⟩, ⟨by (with_reducible repeat (first | apply Kd.N_alloc | apply Kd.N_drewN | apply Kd.N_drew)); first | exact HO387.out | exact Kd.N_mono HO387.out xi⟩, ⟨by (with_reducible repeat (first | refine blk_drewN ?_ _ | refine blk_drew ?_ | refine blk_alloc ?_ _)); exact HX1_0.out⟩, ⟨by repeat (first | (with_reducible first | exact HB.out | apply below_alloc | apply pw_below_drewN | apply below_drew1 | refine below_set ?_ GE378.out) | exact HB.out)⟩⟩
    case round =>
      clear H'
      try clear c1
      try clear p2
      try clear c4
      try clear c5
      try clear c7
      obtain ⟨x5_1, x17_1, rfl, HA, HK1, HO_5, HO_15, HX1_0, HB⟩ := hrel
      cases gk with
      | zero => exact absurd HA.out (by simp [impl_vectorOf__impl_CharacterTable_1.l0])
      | succ k1 =>
        have H := HA.out
        clear HA
        simp only [impl_vectorOf__impl_CharacterTable_1.l0] at H
        by_cases c12 : x17_1 < (t385.length : Int)
        · rw [if_pos c12] at H
          have c12b0 : decide (x17_1 < (t385.length : Int)) = true := decide_eq_true c12
          clear c12
          by_cases c13 : 0 ≤ x17_1
          · rw [if_pos c13] at H
            have c13b0 : decide (0 ≤ x17_1) = true := decide_eq_true c13
            clear c13
            by_cases c14 : x17_1 < (t385.length : Int)
            · rw [if_pos c14] at H
              have c14b0 : decide (x17_1 < (t385.length : Int)) = true := decide_eq_true c14
              clear c14
              replace H := Option.bind_eq_some_iff.mp H
              obtain ⟨t389, A150, H⟩ := H
              replace H : (if x5_1.length < 17592186044416 then (impl_vectorOf__impl_CharacterTable_1.l0 k1 (x5_1 ++ [t389]) t385 (t385.length : Int) (wrap64 (x17_1 + 1)) l1_0) else (none)) = some r := H
              have A15 := Aside0.mk A150
              clear A150
              by_cases c16 : x5_1.length < 17592186044416
              · rw [if_pos c16] at H
                have LMc16 := Aside0.mk c16
                clear c16
                obtain ⟨y390, hy390⟩ : ∃ y_ : List Int, y_ = (x5_1 ++ [t389]) := ⟨_, rfl⟩
                replace H : (impl_vectorOf__impl_CharacterTable_1.l0 k1 y390 t385 (t385.length : Int) (wrap64 (x17_1 + 1)) l1_0) = some r := by first | (rw [hy390]; with_reducible exact H) | (have H2_ := (Option.bind_some _ _).symm.trans H; rw [hy390]; with_reducible exact H2_) | (have H2_ := (Option.bind_some _ _).symm.trans H; with_reducible exact H2_) | with_reducible exact H | (rw [hy390]; exact H) | exact H
                have Ny390 := Aside0.mk hy390
                clear hy390
                have H' := Aside0.mk H
                clear H
                have p388 : 0 ≤ (x17_1 : Int) := of_decide_eq_true (by first | (with_reducible assumption) | assumption)
                have q388 : x17_1 < (t385.length : Int) := of_decide_eq_true (by first | (with_reducible assumption) | assumption)
                obtain ⟨ad388, A388_0, c388_0, e388, hx388_0, hl388_0, hi388_0⟩ := at_L1 (Kd.N_reads' HO_15.out).2.2 x17_1 p388 q388
                cases e388
                obtain ⟨ce388, hce388, hMe388, hcc388⟩ := Kd.N_get HO_15.out [] x17_1 p388 (by first | exact q388 | exact of_decide_eq_true (by first | (with_reducible assumption) | assumption) | (have e_ := (Kd.N_reads' HO_15.out).1; omega))
                obtain ⟨ua388_0, uc388_0, rfl, ul388_0, ge388_0⟩ := Kd.FK_slice_open hMe388
                have hv388_0 := hcc388 0 _ rfl
                rw [Nat.add_zero, show ((Kd.slice 3 (Kd.int .i64))).sz = 1 from rfl, Nat.mul_one] at hv388_0
                replace hv388_0 := Option.some.inj (hv388_0.symm.trans hx388_0)
                injection hv388_0 with hva_ hvn_ hvc_
                rw [hva_] at ge388_0
                rw [hvc_] at ul388_0
                have HL388_0 := Aside0.mk (show Kd.V (Kd.int .i64) 3 _ w.heap.size _ _ (rd_L1 t385 x17_1) from Kd.V_mk ul388_0 ge388_0)
                clear hva_ hvn_ hvc_ ge388_0 ul388_0
                clear hcc388 hce388
                have HR388_0 := Aside0.mk hi388_0
                have HC388_0 := Aside0.mk hl388_0
                clear hi388_0 hl388_0
                replace p388 := eq_true p388
                replace q388 := eq_true q388
                go_wp2_with (first | (go_at_call 49; (with_reducible refine (impl_CharacterTable_1__c.calls k1 _ _ (rd_L1 t385 x17_1) g1_0 A1_0 c1_0 l1_0 t389 _ ?side1 ?side2 ?side3 ?side4 ?side5 A15.out).mono ?_); (case side1 => repeat (first | exact (by repeat (first | (with_reducible exact HR388_0.out) | (with_reducible refine Kd.C_alloc ?_ _) | (with_reducible refine Kd.C_drewN ?_ _) | (with_reducible refine Kd.C_drew ?_) | exact HR388_0.out)) | (with_reducible refine Kd.C_alloc ?_ _) | (with_reducible refine Kd.C_drewN ?_ _) | (with_reducible refine Kd.C_drew ?_))); (case side2 => exact HC388_0.out); (case side3 => (with_reducible repeat (first | refine blk_drewN ?_ _ | refine blk_drew ?_ | refine blk_alloc ?_ _)); exact HX1_0.out); (case side4 => first | exact xc (Kd.C_below HR1_0.out HB.out) | exact xc HR1_0.out); (case side5 => exact HC1_0.out); rintro e w17 ⟨rfl, hb⟩; have n0_ := Aside0.mk (Kd.R_below (xR HO_5.out) hb); have n1_ := Aside0.mk (Kd.N_below (xN HO_15.out) hb); have n2_ := Aside0.mk (Kd.V_below (xV HL388_0.out) hb); have n3_ := Aside0.mk (blk_below (g := g1_0) (o := .cells #[.slice A1_0 l1_0.length c1_0] 22 (0, 0)) (by (with_reducible repeat (first | refine blk_drewN ?_ _ | refine blk_drew ?_ | refine blk_alloc ?_ _)); exact HX1_0.out) hb); have n4_ := Aside0.mk (Kd.C_below (by repeat (first | (with_reducible exact HR388_0.out) | (with_reducible refine Kd.C_alloc ?_ _) | (with_reducible refine Kd.C_drewN ?_ _) | (with_reducible refine Kd.C_drew ?_) | exact HR388_0.out)) hb); have n5_ := Aside0.mk (below_step (by repeat (first | (with_reducible first | exact HB.out | apply below_alloc | apply pw_below_drewN | apply below_drew1 | refine below_set ?_ GE378.out) | exact HB.out)) hb); clear HO_5; clear HO_15; clear HL388_0; clear HX1_0; clear HR388_0; clear HB; have HO_5 := n0_; have HO_15 := n1_; have HL388_0 := n2_; have HX1_0 := n3_; have HR388_0 := n4_; have HB := n5_; clear n0_ n1_ n2_ n3_ n4_ n5_; (try clear hb); (try clear hb2); (try clear hk); (try clear hi)) | ((with_reducible refine gate_builtin (b := .append) (xs := #[.tmp 21, .tmp 25]) rfl ?_); at_builtin; refine Kd.R_append (Kd.int .i64) (w0 := w) w.heap.size rfl (.tmp 21) (.tmp 25) 22 3 (.int .i64 0) 8 rfl Try.underlying22 info3 rfl (by decide) (by omega) u5 x5_1 t389 [.int .i64 t389] (fun _ => True) (fun _ => False) rfl rfl ?aP (fun _ hk => hk.elim) ?aF ?aO ?aB ?aS ?aL ?_; (case aP => exact rfl); (case aB => exact (by repeat (first | (with_reducible first | exact HB.out | apply below_alloc | apply pw_below_drewN | apply below_drew1 | refine below_set ?_ GE378.out) | exact HB.out))); (case aF => exact (fun _ _ => trivial)); (case aO => exact (xR HO_5.out)); (case aS => exact (below_size (by repeat (first | (with_reducible first | exact HB.out | apply below_alloc | apply pw_below_drewN | apply below_drew1 | refine below_set ?_ GE378.out) | exact HB.out)))); (case aL => have := LMc16.out; omega); intro v391 w18 ho hb hg hat; rw [← Ny390.out] at ho; have n0_ := Aside0.mk (Kd.N_afterv (ok := (fun k_ => k_ ≠ g1_0)) (by (with_reducible repeat (first | apply Kd.N_alloc | apply Kd.N_drewN | apply Kd.N_drew)); exact Kd.N_mono HO_15.out (by first | exact (fun _ hk => ⟨hk.2, hk.1⟩) | exact xi)) hg hat); have n1_ := Aside0.mk (blk_grown (g := g1_0) (o := .cells #[.slice A1_0 l1_0.length c1_0] 22 (0, 0)) (by (with_reducible repeat (first | refine blk_drewN ?_ _ | refine blk_drew ?_ | refine blk_alloc ?_ _)); exact HX1_0.out) hg (Kd.R_ne HO_5.out HX1_0.out (by decide))); have n2_ := Aside0.mk (Kd.V_afterv (ok := (fun k_ => some k_ ≠ (.slice (some ad388) t385.length co11 : Value).ownBlock ∧ k_ ≠ g1_0)) (by (with_reducible repeat (first | apply Kd.V_alloc | apply Kd.V_drewN | apply Kd.V_drew)); exact Kd.V_mono HL388_0.out (by first | exact (fun _ hk => ⟨⟨hk.2, hk.1.2⟩, hk.1.1⟩) | exact xi)) hg hat); have n3_ := Aside0.mk (hb); have n4_ := Aside0.mk (ho); clear HO_15; clear HX1_0; clear HL388_0; clear HB; clear HO_5; have HO_15 := n0_; have HX1_0 := n1_; have HL388_0 := n2_; have HB := n3_; have HO392 := n4_; clear n0_ n1_ n2_ n3_ n4_; clear ho hb hg hat))
                go_roundg k1
                case measure => have := HK1.out; omega
                case rel => exact ⟨(y390), (wrap64 (x17_1 + 1)), (by first | rfl | (simp; done) | (simp [*]; done)), H', ⟨by have := HK1.out; omega⟩, ⟨by (with_reducible repeat (first | apply Kd.R_alloc | apply Kd.R_drewN | apply Kd.R_drew)); first | exact HO392.out | exact Kd.R_mono HO392.out xi⟩, ⟨by (with_reducible repeat (first | apply Kd.N_alloc | apply Kd.N_drewN | apply Kd.N_drew)); exact Kd.N_mono HO_15.out (fun _ hk => ⟨hk.2, hk.1⟩)⟩, ⟨by (with_reducible repeat (first | refine blk_drewN ?_ _ | refine blk_drew ?_ | refine blk_alloc ?_ _)); exact HX1_0.out⟩, ⟨by repeat (first | (with_reducible first | exact HB.out | apply below_alloc | apply pw_below_drewN | apply below_drew1 | refine below_set ?_ GE378.out) | exact HB.out)⟩⟩
              · rw [if_neg c16] at H
                exact absurd H (by simp)
            · rw [if_neg c14] at H
              exact absurd H (by simp)
          · rw [if_neg c13] at H
            exact absurd H (by simp)
        · rw [if_neg c12] at H
          have c12b0 : decide (x17_1 < (t385.length : Int)) = false := decide_eq_false c12
          clear c12
          obtain rfl := Option.some.inj H
          go_wp2
          go_ret
          exact ⟨_, by first | rfl | (simp [errW_none, errW_some] <;> rfl) | (simp [*, errW_none, errW_some] <;> rfl), by (with_reducible repeat (first | apply Kd.R_alloc | apply Kd.R_drewN | apply Kd.R_drew)); first | exact HO_5.out | exact Kd.R_mono HO_5.out xi, by repeat (first | (with_reducible first | exact HB.out | apply below_alloc | apply pw_below_drewN | apply below_drew1 | refine below_set ?_ GE378.out) | exact HB.out)⟩
  · replace c5 := Bool.eq_false_iff.mpr c5
    subst c5
    have H1 : (some ([] : List Int)) = some r := by rw [if_neg (show ¬ (false = true) by decide)] at H; exact H
    clear H
    have H := H1
    clear H1
    obtain rfl := Option.some.inj H
    go_enter Try.func48, Try.ntmps48
    go_wp2_with (first | ((with_reducible refine gate_callee (f := 72) rfl ?_); refine goesL_ (some 9) rfl rfl Try.func72 (by kernel_rfl) rfl #[.slice A0 l0.length c0] rfl xm ?_; (with_reducible refine (impl_SizeOf.calls k _ _ l0 t379 _ ?side1 ?side2 A3.out).mono ?_); (case side1 => exact xc HR0.out); (case side2 => exact HC0.out); rintro e w' ⟨rfl, ⟨nd, rfl⟩⟩; refine ⟨_, rfl, ?_⟩) | ((with_reducible refine gate_callee (f := 44) rfl ?_); refine goesL_ (some 10) rfl rfl Try.func44 (by kernel_rfl) rfl #[.int .i64 t379, .int .i64 0, .int .i64 6] rfl xm ?_; (with_reducible refine (impl_within.calls t379 0 6 false _ A4.out).mono ?_); rintro e w' ⟨rfl, ⟨nd, rfl⟩⟩; refine ⟨_, rfl, ?_⟩))
    go_ret
    exact ⟨_, by first | rfl | (simp [errW_none, errW_some] <;> rfl) | (simp [*, errW_none, errW_some] <;> rfl), by first | exact Kd.R_nil _ _ _ _ _ | exact Kd.N_nil _ _ _ _ _ | exact Kd.V_nil _ _ _ _ _ | exact Kd.Q_nil _ _ _ _ _ | exact Kd.S_nil _ _ _ _ _, by repeat (first | (with_reducible first | exact HB.out | apply below_alloc | apply pw_below_drewN | apply below_drew1 | refine below_set ?_ GE378.out) | exact HB.out)⟩

end Go.Proofs.Ytdjohgfelmkooaa.PFnExactCharacterTable
