-- Written by a program of this session (wip/print/xprint.py).
import Derived.Test.YtojjokhfmgomcaaPFnExactKroneckerOfx0
import Derived.Test.YtojjokhfmgomcaaPFnExactKroneckerOfx1
import Derived.Test.YtojjokhfmgomcaaPFnExactKroneckerOfx10
import Derived.Test.YtojjokhfmgomcaaPFnExactKroneckerOfx11
import Derived.Test.YtojjokhfmgomcaaPFnExactKroneckerOfx15
import Derived.Test.YtojjokhfmgomcaaPFnExactKroneckerOfx16
namespace Go.Proofs.Ytojjokhfmgomcaa.PFnExactKroneckerOf
open Go.RowKit Go.Proofs.YtojjokhfmgomcaaW.PrintWords Go.Proofs.YtojjokhfmgomcaaW.PrintLast Go.Proofs.YtojjokhfmgomcaaW.PrintMore
attribute [local go_sem] max2_int min2_int max_two min_two max_three min_three max_four min_four   -- for this text's walks alone
set_option linter.unusedVariables false
set_option linter.unusedSimpArgs false

/-! ### impl_classSum: function 44 -/
mutual
def impl_classSum.l0 : Nat → List (List Int) → Int → List (List Int) → Int → Int → Option (Int)
  | 0, _, _, _, _, _ => none
  | k + 1, x0, x3, x16, x17, x18 => if x18 < x17 then (if 0 ≤ x18 then (if x18 < (x16.length : Int) then ((impl_SizeOf.f k (rd_L1 x16 x18)).bind fun t410 => (if t410 = x3 then ((impl_within.f x3 0 6).bind fun t411 => (if t411 = true then (impl_classSum.l0 k x0 x3 x16 x17 (wrap64 (x18 + 1))) else (some 0))) else (some 0))) else (none)) else (none)) else ((impl_PartitionsOf.f k x3).bind fun t412 => (impl_classSum.l1 k x0 x3 0 t412 (t412.length : Int) 0))
def impl_classSum.l1 : Nat → List (List Int) → Int → Int → List (List Int) → Int → Int → Option (Int)
  | 0, _, _, _, _, _, _ => none
  | k + 1, x0, x3, x6, x33, x34, x35 => if x35 < x34 then (if 0 ≤ x35 then (if x35 < (x33.length : Int) then ((impl_ClassSize.f k (rd_L1 x33 x35)).bind fun t417 => (impl_classSum.l2 k x0 x3 x6 (rd_L1 x33 x35) t417 x33 x34 x35 x0 (x0.length : Int) 0)) else (none)) else (none)) else ((impl_factorial.f k x3).bind fun t415 => (if t415 = 0 then (none) else (some (wrap64 (Int.tdiv x6 t415)))))
def impl_classSum.l2 : Nat → List (List Int) → Int → Int → List Int → Int → List (List Int) → Int → Int → List (List Int) → Int → Int → Option (Int)
  | 0, _, _, _, _, _, _, _, _, _, _, _ => none
  | k + 1, x0, x3, x6, x8, x9, x33, x34, x35, x41, x42, x43 => if x43 < x42 then (if 0 ≤ x43 then (if x43 < (x41.length : Int) then ((impl_CharacterOf.f k (rd_L1 x41 x43) x8).bind fun t419 => (impl_classSum.l2 k x0 x3 x6 x8 (wrap64 (x9 * t419)) x33 x34 x35 x41 x42 (wrap64 (x43 + 1)))) else (none)) else (none)) else (impl_classSum.l1 k x0 x3 (wrap64 (x6 + x9)) x33 x34 (wrap64 (x35 + 1)))
end
def impl_classSum.f (k : Nat) (l0 : List (List Int)) : Option (Int) := if 0 < (l0.length : Int) then ((impl_SizeOf.f k (rd_L1 l0 0)).bind fun t408 => (impl_classSum.l0 k l0 t408 l0 (l0.length : Int) 0)) else (none)
theorem impl_classSum.mono_l : ∀ k, (∀ y0 y1 y2 y3 y4, LeO (impl_classSum.l0 k y0 y1 y2 y3 y4) (impl_classSum.l0 (k + 1) y0 y1 y2 y3 y4)) ∧ (∀ y0 y1 y2 y3 y4 y5, LeO (impl_classSum.l1 k y0 y1 y2 y3 y4 y5) (impl_classSum.l1 (k + 1) y0 y1 y2 y3 y4 y5)) ∧ (∀ y0 y1 y2 y3 y4 y5 y6 y7 y8 y9 y10, LeO (impl_classSum.l2 k y0 y1 y2 y3 y4 y5 y6 y7 y8 y9 y10) (impl_classSum.l2 (k + 1) y0 y1 y2 y3 y4 y5 y6 y7 y8 y9 y10))
  | 0 => ⟨fun _ _ _ _ _ r h => by simp [impl_classSum.l0] at h, fun _ _ _ _ _ _ r h => by simp [impl_classSum.l1] at h, fun _ _ _ _ _ _ _ _ _ _ _ r h => by simp [impl_classSum.l2] at h⟩
  | k + 1 => by
    obtain ⟨ih0, ih1, ih2⟩ := impl_classSum.mono_l k
    refine ⟨?_, ?_, ?_⟩
    · intro y0 y1 y2 y3 y4
      unfold impl_classSum.l0
      repeat' first
      | (with_reducible exact ih0 _ _ _ _ _)
      | (with_reducible exact ih1 _ _ _ _ _ _)
      | (with_reducible exact ih2 _ _ _ _ _ _ _ _ _ _ _)
      | (with_reducible exact impl_CharacterOf.mono _ _ _)
      | (with_reducible exact impl_ClassSize.mono _ _)
      | (with_reducible exact impl_PartitionsOf.mono _ _)
      | (with_reducible exact impl_SizeOf.mono _ _)
      | (with_reducible exact impl_factorial.mono _ _)
      | (with_reducible exact LeO.refl _)
      | (with_reducible exact LeO.none _)
      | (with_reducible refine LeO.ite ?_ ?_)
      | (with_reducible refine LeO.bind ?_ (fun _ => ?_))
      | exact ih0 _ _ _ _ _
      | exact ih1 _ _ _ _ _ _
      | exact ih2 _ _ _ _ _ _ _ _ _ _ _
      | exact impl_CharacterOf.mono _ _ _
      | exact impl_ClassSize.mono _ _
      | exact impl_PartitionsOf.mono _ _
      | exact impl_SizeOf.mono _ _
      | exact impl_factorial.mono _ _
      | exact LeO.none _
      | refine LeO.ite ?_ ?_
      | refine LeO.bind ?_ (fun _ => ?_)
    · intro y0 y1 y2 y3 y4 y5
      unfold impl_classSum.l1
      repeat' first
      | (with_reducible exact ih0 _ _ _ _ _)
      | (with_reducible exact ih1 _ _ _ _ _ _)
      | (with_reducible exact ih2 _ _ _ _ _ _ _ _ _ _ _)
      | (with_reducible exact impl_CharacterOf.mono _ _ _)
      | (with_reducible exact impl_ClassSize.mono _ _)
      | (with_reducible exact impl_PartitionsOf.mono _ _)
      | (with_reducible exact impl_SizeOf.mono _ _)
      | (with_reducible exact impl_factorial.mono _ _)
      | (with_reducible exact LeO.refl _)
      | (with_reducible exact LeO.none _)
      | (with_reducible refine LeO.ite ?_ ?_)
      | (with_reducible refine LeO.bind ?_ (fun _ => ?_))
      | exact ih0 _ _ _ _ _
      | exact ih1 _ _ _ _ _ _
      | exact ih2 _ _ _ _ _ _ _ _ _ _ _
      | exact impl_CharacterOf.mono _ _ _
      | exact impl_ClassSize.mono _ _
      | exact impl_PartitionsOf.mono _ _
      | exact impl_SizeOf.mono _ _
      | exact impl_factorial.mono _ _
      | exact LeO.none _
      | refine LeO.ite ?_ ?_
      | refine LeO.bind ?_ (fun _ => ?_)
    · intro y0 y1 y2 y3 y4 y5 y6 y7 y8 y9 y10
      unfold impl_classSum.l2
      repeat' first
      | (with_reducible exact ih0 _ _ _ _ _)
      | (with_reducible exact ih1 _ _ _ _ _ _)
      | (with_reducible exact ih2 _ _ _ _ _ _ _ _ _ _ _)
      | (with_reducible exact impl_CharacterOf.mono _ _ _)
      | (with_reducible exact impl_ClassSize.mono _ _)
      | (with_reducible exact impl_PartitionsOf.mono _ _)
      | (with_reducible exact impl_SizeOf.mono _ _)
      | (with_reducible exact impl_factorial.mono _ _)
      | (with_reducible exact LeO.refl _)
      | (with_reducible exact LeO.none _)
      | (with_reducible refine LeO.ite ?_ ?_)
      | (with_reducible refine LeO.bind ?_ (fun _ => ?_))
      | exact ih0 _ _ _ _ _
      | exact ih1 _ _ _ _ _ _
      | exact ih2 _ _ _ _ _ _ _ _ _ _ _
      | exact impl_CharacterOf.mono _ _ _
      | exact impl_ClassSize.mono _ _
      | exact impl_PartitionsOf.mono _ _
      | exact impl_SizeOf.mono _ _
      | exact impl_factorial.mono _ _
      | exact LeO.none _
      | refine LeO.ite ?_ ?_
      | refine LeO.bind ?_ (fun _ => ?_)
theorem impl_classSum.mono : ∀ a0 k, LeO (impl_classSum.f k a0) (impl_classSum.f (k + 1) a0) := by
  intro a0 k
  obtain ⟨ih0, ih1, ih2⟩ := impl_classSum.mono_l k
  unfold impl_classSum.f
  repeat' first
      | (with_reducible exact ih0 _ _ _ _ _)
      | (with_reducible exact ih1 _ _ _ _ _ _)
      | (with_reducible exact ih2 _ _ _ _ _ _ _ _ _ _ _)
      | (with_reducible exact impl_CharacterOf.mono _ _ _)
      | (with_reducible exact impl_ClassSize.mono _ _)
      | (with_reducible exact impl_PartitionsOf.mono _ _)
      | (with_reducible exact impl_SizeOf.mono _ _)
      | (with_reducible exact impl_factorial.mono _ _)
      | (with_reducible exact LeO.refl _)
      | (with_reducible exact LeO.none _)
      | (with_reducible refine LeO.ite ?_ ?_)
      | (with_reducible refine LeO.bind ?_ (fun _ => ?_))
      | exact ih0 _ _ _ _ _
      | exact ih1 _ _ _ _ _ _
      | exact ih2 _ _ _ _ _ _ _ _ _ _ _
      | exact impl_CharacterOf.mono _ _ _
      | exact impl_ClassSize.mono _ _
      | exact impl_PartitionsOf.mono _ _
      | exact impl_SizeOf.mono _ _
      | exact impl_factorial.mono _ _
      | exact LeO.none _
      | refine LeO.ite ?_ ?_
      | refine LeO.bind ?_ (fun _ => ?_)
set_option maxHeartbeats 8000000 in
set_option maxRecDepth 100000 in
theorem impl_classSum.calls (k : Nat) (A0 : Option Addr) (c0 : Nat) (l0 : List (List Int)) (r : Int) (w : World) (hr0 : Kd.C (Kd.slice 3 (Kd.int .i64)) w A0 l0.length l0) (hc0 : l0.length ≤ c0) (h : impl_classSum.f k l0 = some r) :
    Calls Try.prog 44 #[.slice A0 l0.length c0] w fun e w' => e = .returned (.int .i64 r) ∧ Below w.heap.size w w' := by
  have HR0 := Aside0.mk hr0
  have HC0 := Aside0.mk hc0
  clear hr0 hc0
  have HB := Aside0.mk (Below.refl w.heap.size w)
  have H : (if 0 < (l0.length : Int) then ((impl_SizeOf.f k (rd_L1 l0 0)).bind fun t408 => (impl_classSum.l0 k l0 t408 l0 (l0.length : Int) 0)) else (none)) = some r := h
  clear h
  by_cases c2 : 0 < (l0.length : Int)
  · rw [if_pos c2] at H
    have c2b0 : decide (0 < (l0.length : Int)) = true := decide_eq_true c2
    have c2b1 : decide (0 < l0.length) = true := decide_eq_true (by omega)
    clear c2
    replace H := Option.bind_eq_some_iff.mp H
    obtain ⟨t408, A30, H⟩ := H
    replace H : (impl_classSum.l0 k l0 t408 l0 (l0.length : Int) 0) = some r := H
    have A3 := Aside0.mk A30
    clear A30
    have H' := Aside0.mk H
    clear H
    have p407 : 0 ≤ (0 : Int) := (by omega)
    have q407 : 0 < (l0.length : Int) := of_decide_eq_true (by first | (with_reducible assumption) | assumption)
    obtain ⟨ad407, A407_0, c407_0, e407, hx407_0, hl407_0, hi407_0⟩ := at_L1 HR0.out 0 p407 q407
    cases e407
    have qi407 : (0 < l0.length) = True := eq_true (by omega)
    (try rw [show ((0 : Int)).toNat = 0 from rfl] at hx407_0)
    (try rw [Addr.add_zero'] at hx407_0)
    have HR407_0 := Aside0.mk hi407_0
    have HC407_0 := Aside0.mk hl407_0
    clear hi407_0 hl407_0
    replace p407 := eq_true p407
    replace q407 := eq_true q407
    go_enter Try.func44, Try.ntmps44
    go_wp2_with (first | ((with_reducible refine gate_callee (f := 34) rfl ?_); refine goesL_ (some 15) rfl rfl Try.func34 (by kernel_rfl) rfl #[.slice A407_0 (rd_L1 l0 0).length c407_0] rfl xm ?_; (with_reducible refine (impl_SizeOf.calls k _ _ (rd_L1 l0 0) t408 _ ?side1 ?side2 A3.out).mono ?_); (case side1 => exact xc HR407_0.out); (case side2 => exact HC407_0.out); rintro e w' ⟨rfl, ⟨nd, rfl⟩⟩; refine ⟨_, rfl, ?_⟩))
    go_loopg [18] k (fun kq v18 w' => ∃ (x18_1 : Int), v18 = .int .i64 x18_1 ∧ Aside0 (impl_classSum.l0 kq l0 t408 l0 (l0.length : Int) x18_1 = some r) ∧ Aside0 (kq ≤ k) ∧ Aside0 (Below w.heap.size w w'))
    case atStart => exact ⟨(0), (by first | rfl | (simp; done) | (simp [*]; done)), H', ⟨Nat.le_refl _⟩, ⟨by repeat (first | (with_reducible first | exact HB.out | apply below_alloc | apply pw_below_drewN | apply below_drew1) | exact HB.out)⟩⟩
    case round =>
      clear H'
      try clear c2
      try clear c2b0
      try clear c2b1
      try clear p2
      try clear c3
      try clear hx407_0
      try clear p407
      try clear q407
      obtain ⟨x18_1, rfl, HA, HK1, HB⟩ := hrel
      cases gk with
      | zero => exact absurd HA.out (by simp [impl_classSum.l0])
      | succ k1 =>
        have H := HA.out
        clear HA
        simp only [impl_classSum.l0] at H
        by_cases c4 : x18_1 < (l0.length : Int)
        · rw [if_pos c4] at H
          have c4b0 : decide (x18_1 < (l0.length : Int)) = true := decide_eq_true c4
          clear c4
          by_cases c5 : 0 ≤ x18_1
          · rw [if_pos c5] at H
            have c5b0 : decide (0 ≤ x18_1) = true := decide_eq_true c5
            clear c5
            by_cases c6 : x18_1 < (l0.length : Int)
            · rw [if_pos c6] at H
              have c6b0 : decide (x18_1 < (l0.length : Int)) = true := decide_eq_true c6
              clear c6
              replace H := Option.bind_eq_some_iff.mp H
              obtain ⟨t410, A70, H⟩ := H
              replace H : (if t410 = t408 then ((impl_within.f t408 0 6).bind fun t411 => (if t411 = true then (impl_classSum.l0 k1 l0 t408 l0 (l0.length : Int) (wrap64 (x18_1 + 1))) else (some 0))) else (some 0)) = some r := H
              have A7 := Aside0.mk A70
              clear A70
              by_cases c8 : t410 = t408
              · rw [if_pos c8] at H
                have c8b0 : (t410 == t408) = true := beq_iff_eq.mpr c8
                have c8b1 : (t410 != t408) = false := bne_eq_false_iff_eq.mpr c8
                clear c8
                replace H := Option.bind_eq_some_iff.mp H
                obtain ⟨t411, A90, H⟩ := H
                replace H : (if t411 = true then (impl_classSum.l0 k1 l0 t408 l0 (l0.length : Int) (wrap64 (x18_1 + 1))) else (some 0)) = some r := H
                have A9 := Aside0.mk A90
                clear A90
                by_cases c10 : t411 = true
                · subst c10
                  have H1 : (impl_classSum.l0 k1 l0 t408 l0 (l0.length : Int) (wrap64 (x18_1 + 1))) = some r := by rw [if_pos rfl] at H; exact H
                  clear H
                  have H := H1
                  clear H1
                  have H' := Aside0.mk H
                  clear H
                  have p409 : 0 ≤ (x18_1 : Int) := of_decide_eq_true (by first | (with_reducible assumption) | assumption)
                  have q409 : x18_1 < (l0.length : Int) := of_decide_eq_true (by first | (with_reducible assumption) | assumption)
                  obtain ⟨ad409, A409_0, c409_0, e409, hx409_0, hl409_0, hi409_0⟩ := at_L1 HR0.out x18_1 p409 q409
                  obtain rfl : ad407 = ad409 := (by injection e409)
                  (try replace hx409_0 := (HB.out.cell (World.block_lt_of_cell? w _ hx409_0)).trans hx409_0)
                  have HR409_0 := Aside0.mk hi409_0
                  have HC409_0 := Aside0.mk hl409_0
                  clear hi409_0 hl409_0
                  replace p409 := eq_true p409
                  replace q409 := eq_true q409
                  go_wp2_with (first | ((with_reducible refine gate_callee (f := 34) rfl ?_); refine goesL_ (some 23) rfl rfl Try.func34 (by kernel_rfl) rfl #[.slice A409_0 (rd_L1 l0 x18_1).length c409_0] rfl xm ?_; (with_reducible refine (impl_SizeOf.calls k1 _ _ (rd_L1 l0 x18_1) t410 _ ?side1 ?side2 A7.out).mono ?_); (case side1 => first | exact xc (Kd.C_below HR409_0.out HB.out) | exact xc HR409_0.out); (case side2 => exact HC409_0.out); rintro e w' ⟨rfl, ⟨nd, rfl⟩⟩; refine ⟨_, rfl, ?_⟩) | (go_at_call 49; (with_reducible refine (impl_within.calls t408 0 6 true _ A9.out).mono ?_); rintro e w' ⟨rfl, ⟨nd, rfl⟩⟩))
                  go_roundg k1
                  case measure => have := HK1.out; omega
                  case rel => exact ⟨(wrap64 (x18_1 + 1)), (by first | rfl | (simp; done) | (simp [*]; done)), H', ⟨by have := HK1.out; omega⟩, ⟨by repeat (first | (with_reducible first | exact HB.out | apply below_alloc | apply pw_below_drewN | apply below_drew1) | exact HB.out)⟩⟩
                · replace c10 := Bool.eq_false_iff.mpr c10
                  subst c10
                  have H1 : (some 0) = some r := by rw [if_neg (show ¬ (false = true) by decide)] at H; exact H
                  clear H
                  have H := H1
                  clear H1
                  obtain rfl := Option.some.inj H
                  have p409 : 0 ≤ (x18_1 : Int) := of_decide_eq_true (by first | (with_reducible assumption) | assumption)
                  have q409 : x18_1 < (l0.length : Int) := of_decide_eq_true (by first | (with_reducible assumption) | assumption)
                  obtain ⟨ad409, A409_0, c409_0, e409, hx409_0, hl409_0, hi409_0⟩ := at_L1 HR0.out x18_1 p409 q409
                  obtain rfl : ad407 = ad409 := (by injection e409)
                  (try replace hx409_0 := (HB.out.cell (World.block_lt_of_cell? w _ hx409_0)).trans hx409_0)
                  have HR409_0 := Aside0.mk hi409_0
                  have HC409_0 := Aside0.mk hl409_0
                  clear hi409_0 hl409_0
                  replace p409 := eq_true p409
                  replace q409 := eq_true q409
                  go_wp2_with (first | ((with_reducible refine gate_callee (f := 34) rfl ?_); refine goesL_ (some 23) rfl rfl Try.func34 (by kernel_rfl) rfl #[.slice A409_0 (rd_L1 l0 x18_1).length c409_0] rfl xm ?_; (with_reducible refine (impl_SizeOf.calls k1 _ _ (rd_L1 l0 x18_1) t410 _ ?side1 ?side2 A7.out).mono ?_); (case side1 => first | exact xc (Kd.C_below HR409_0.out HB.out) | exact xc HR409_0.out); (case side2 => exact HC409_0.out); rintro e w' ⟨rfl, ⟨nd, rfl⟩⟩; refine ⟨_, rfl, ?_⟩) | (go_at_call 49; (with_reducible refine (impl_within.calls t408 0 6 false _ A9.out).mono ?_); rintro e w' ⟨rfl, ⟨nd, rfl⟩⟩))
                  go_ret
                  exact ⟨by first | rfl | (simp [errW_none, errW_some] <;> rfl) | (simp [*, errW_none, errW_some] <;> rfl), by repeat (first | (with_reducible first | exact HB.out | apply below_alloc | apply pw_below_drewN | apply below_drew1) | exact HB.out)⟩
              · rw [if_neg c8] at H
                have c8b0 : (t410 == t408) = false := beq_eq_false_iff_ne.mpr c8
                have c8b1 : (t410 != t408) = true := bne_iff_ne.mpr c8
                obtain rfl := Option.some.inj H
                have p409 : 0 ≤ (x18_1 : Int) := of_decide_eq_true (by first | (with_reducible assumption) | assumption)
                have q409 : x18_1 < (l0.length : Int) := of_decide_eq_true (by first | (with_reducible assumption) | assumption)
                obtain ⟨ad409, A409_0, c409_0, e409, hx409_0, hl409_0, hi409_0⟩ := at_L1 HR0.out x18_1 p409 q409
                obtain rfl : ad407 = ad409 := (by injection e409)
                (try replace hx409_0 := (HB.out.cell (World.block_lt_of_cell? w _ hx409_0)).trans hx409_0)
                have HR409_0 := Aside0.mk hi409_0
                have HC409_0 := Aside0.mk hl409_0
                clear hi409_0 hl409_0
                replace p409 := eq_true p409
                replace q409 := eq_true q409
                go_wp2_with (first | ((with_reducible refine gate_callee (f := 34) rfl ?_); refine goesL_ (some 23) rfl rfl Try.func34 (by kernel_rfl) rfl #[.slice A409_0 (rd_L1 l0 x18_1).length c409_0] rfl xm ?_; (with_reducible refine (impl_SizeOf.calls k1 _ _ (rd_L1 l0 x18_1) t410 _ ?side1 ?side2 A7.out).mono ?_); (case side1 => first | exact xc (Kd.C_below HR409_0.out HB.out) | exact xc HR409_0.out); (case side2 => exact HC409_0.out); rintro e w' ⟨rfl, ⟨nd, rfl⟩⟩; refine ⟨_, rfl, ?_⟩))
                go_ret
                exact ⟨by first | rfl | (simp [errW_none, errW_some] <;> rfl) | (simp [*, errW_none, errW_some] <;> rfl), by repeat (first | (with_reducible first | exact HB.out | apply below_alloc | apply pw_below_drewN | apply below_drew1) | exact HB.out)⟩
            · rw [if_neg c6] at H
              exact absurd H (by simp)
          · rw [if_neg c5] at H
            exact absurd H (by simp)
        · rw [if_neg c4] at H
          have c4b0 : decide (x18_1 < (l0.length : Int)) = false := decide_eq_false c4
          clear c4
          replace H := Option.bind_eq_some_iff.mp H
          obtain ⟨t412, A110, H⟩ := H
          replace H : (impl_classSum.l1 k1 l0 t408 0 t412 (t412.length : Int) 0) = some r := H
          have A11 := Aside0.mk A110
          clear A110
          have H' := Aside0.mk H
          clear H
          go_wp2_with (first | ((with_reducible refine gate_callee (f := 57) rfl ?_); refine goesL_ (some 33) rfl rfl Try.func57 (by kernel_rfl) rfl #[.int .i64 t408] rfl xm ?_; (with_reducible refine (impl_PartitionsOf.calls k1 t408 t412 _ A11.out).mono ?_); rintro e w12 ⟨v413, rfl, ho0, hb⟩; refine ⟨_, rfl, ?_⟩; have n0_ := Aside0.mk (Kd.N_lower (Kd.N_mono (ok' := fun k_ => True) ho0 (fun k_ hk_ => trivial)) (below_size (xb HB.out))); have n1_ := Aside0.mk (below_step (xb HB.out) hb); clear HB; have HO414 := n0_; have HB := n1_; clear n0_ n1_; (try clear hb); (try clear hb2); (try clear hk); (try clear hi); (try clear ho0); obtain ⟨Ao13, co13, eo13⟩ := Kd.N_slice HO414.out; subst eo13))
          go_loopg [6, 35] k1 (fun kq v6 v35 w' => ∃ (x6_2 : Int) (x35_2 : Int), v6 = .int .i64 x6_2 ∧ v35 = .int .i64 x35_2 ∧ Aside0 (impl_classSum.l1 kq l0 t408 x6_2 t412 (t412.length : Int) x35_2 = some r) ∧ Aside0 (kq ≤ k1) ∧ Aside0 (Kd.N (Kd.slice 3 (Kd.int .i64)) 22 w' w.heap.size (fun _ => True) (.slice Ao13 t412.length co13) t412) ∧ Aside0 (Below w.heap.size w w'))
          case atStart => exact ⟨(0), (0), (by first | rfl | (simp; done) | (simp [*]; done)), (by first | rfl | (simp; done) | (simp [*]; done)), H', ⟨Nat.le_refl _⟩, ⟨by (with_reducible repeat (first | apply Kd.N_alloc | apply Kd.N_drewN | apply Kd.N_drew)); first | exact HO414.out | exact Kd.N_mono HO414.out xi⟩, ⟨by repeat (first | (with_reducible first | exact HB.out | apply below_alloc | apply pw_below_drewN | apply below_drew1) | exact HB.out)⟩⟩
          case round =>
            clear H'
            try clear c1
            try clear c2
            try clear c2b0
            try clear c2b1
            try clear p2
            try clear c3
            try clear c4
            try clear c4b0
            try clear p4
            try clear q4
            try clear hx4
            try clear qi4
            try clear c5
            try clear c5b0
            try clear c6
            try clear c6b0
            try clear p6
            try clear c8
            try clear c8b0
            try clear c8b1
            try clear c10
            try clear hx407_0
            try clear hx409_0
            try clear p2
            try clear p407
            try clear p409
            try clear q407
            try clear q409
            obtain ⟨x6_2, x35_2, rfl, rfl, HA, HK2, HO_33, HB⟩ := hrel
            cases gk with
            | zero => exact absurd HA.out (by simp [impl_classSum.l1])
            | succ k2 =>
              have H := HA.out
              clear HA
              simp only [impl_classSum.l1] at H
              by_cases c14 : x35_2 < (t412.length : Int)
              · rw [if_pos c14] at H
                have c14b0 : decide (x35_2 < (t412.length : Int)) = true := decide_eq_true c14
                clear c14
                by_cases c15 : 0 ≤ x35_2
                · rw [if_pos c15] at H
                  have c15b0 : decide (0 ≤ x35_2) = true := decide_eq_true c15
                  clear c15
                  by_cases c16 : x35_2 < (t412.length : Int)
                  · rw [if_pos c16] at H
                    have c16b0 : decide (x35_2 < (t412.length : Int)) = true := decide_eq_true c16
                    clear c16
                    replace H := Option.bind_eq_some_iff.mp H
                    obtain ⟨t417, A170, H⟩ := H
                    replace H : (impl_classSum.l2 k2 l0 t408 x6_2 (rd_L1 t412 x35_2) t417 t412 (t412.length : Int) x35_2 l0 (l0.length : Int) 0) = some r := H
                    have A17 := Aside0.mk A170
                    clear A170
                    have H' := Aside0.mk H
                    clear H
                    have p416 : 0 ≤ (x35_2 : Int) := of_decide_eq_true (by first | (with_reducible assumption) | assumption)
                    have q416 : x35_2 < (t412.length : Int) := of_decide_eq_true (by first | (with_reducible assumption) | assumption)
                    obtain ⟨ad416, A416_0, c416_0, e416, hx416_0, hl416_0, hi416_0⟩ := at_L1 (Kd.N_reads' HO_33.out).2.2 x35_2 p416 q416
                    cases e416
                    obtain ⟨ce416, hce416, hMe416, hcc416⟩ := Kd.N_get HO_33.out [] x35_2 p416 (by first | exact q416 | exact of_decide_eq_true (by first | (with_reducible assumption) | assumption) | (have e_ := (Kd.N_reads' HO_33.out).1; omega))
                    obtain ⟨ua416_0, uc416_0, rfl, ul416_0, ge416_0⟩ := Kd.FK_slice_open hMe416
                    have hv416_0 := hcc416 0 _ rfl
                    rw [Nat.add_zero, show ((Kd.slice 3 (Kd.int .i64))).sz = 1 from rfl, Nat.mul_one] at hv416_0
                    replace hv416_0 := Option.some.inj (hv416_0.symm.trans hx416_0)
                    injection hv416_0 with hva_ hvn_ hvc_
                    rw [hva_] at ge416_0
                    rw [hvc_] at ul416_0
                    have HL416_0 := Aside0.mk (show Kd.V (Kd.int .i64) 3 _ w.heap.size _ _ (rd_L1 t412 x35_2) from Kd.V_mk ul416_0 ge416_0)
                    clear hva_ hvn_ hvc_ ge416_0 ul416_0
                    clear hcc416 hce416
                    have HR416_0 := Aside0.mk hi416_0
                    have HC416_0 := Aside0.mk hl416_0
                    clear hi416_0 hl416_0
                    replace p416 := eq_true p416
                    replace q416 := eq_true q416
                    go_wp2_with (first | ((with_reducible refine gate_callee (f := 59) rfl ?_); refine goesL_ (some 40) rfl rfl Try.func59 (by kernel_rfl) rfl #[.slice A416_0 (rd_L1 t412 x35_2).length c416_0] rfl xm ?_; (with_reducible refine (impl_ClassSize.calls k2 _ _ (rd_L1 t412 x35_2) t417 _ ?side1 ?side2 A17.out).mono ?_); (case side1 => repeat (first | exact (by repeat (first | (with_reducible exact HR416_0.out) | (with_reducible refine Kd.C_alloc ?_ _) | (with_reducible refine Kd.C_drewN ?_ _) | (with_reducible refine Kd.C_drew ?_) | exact HR416_0.out)) | (with_reducible refine Kd.C_alloc ?_ _) | (with_reducible refine Kd.C_drewN ?_ _) | (with_reducible refine Kd.C_drew ?_))); (case side2 => exact HC416_0.out); rintro e w18 ⟨rfl, hb⟩; refine ⟨_, rfl, ?_⟩; have n0_ := Aside0.mk (Kd.N_below (xN HO_33.out) hb); have n1_ := Aside0.mk (Kd.V_below (xV HL416_0.out) hb); have n2_ := Aside0.mk (Kd.C_below (by repeat (first | (with_reducible exact HR416_0.out) | (with_reducible refine Kd.C_alloc ?_ _) | (with_reducible refine Kd.C_drewN ?_ _) | (with_reducible refine Kd.C_drew ?_) | exact HR416_0.out)) hb); have n3_ := Aside0.mk (below_step (xb HB.out) hb); clear HO_33; clear HL416_0; clear HR416_0; clear HB; have HO_33 := n0_; have HL416_0 := n1_; have HR416_0 := n2_; have HB := n3_; clear n0_ n1_ n2_ n3_; (try clear hb); (try clear hb2); (try clear hk); (try clear hi)))
                    go_loopg [9, 43] k2 (fun kq v9 v43 w' => ∃ (x9_3 : Int) (x43_3 : Int), v9 = .int .i64 x9_3 ∧ v43 = .int .i64 x43_3 ∧ Aside0 (impl_classSum.l2 kq l0 t408 x6_2 (rd_L1 t412 x35_2) x9_3 t412 (t412.length : Int) x35_2 l0 (l0.length : Int) x43_3 = some r) ∧ Aside0 (kq ≤ k2) ∧ Aside0 (Kd.N (Kd.slice 3 (Kd.int .i64)) 22 w' w.heap.size (fun _ => True) (.slice (some ad416) t412.length co13) t412) ∧ Aside0 (Kd.C (Kd.int .i64) w' A416_0 (rd_L1 t412 x35_2).length (rd_L1 t412 x35_2)) ∧ Aside0 (Below w.heap.size w w'))
                    case atStart => exact ⟨(t417), (0), (by first | rfl | (simp; done) | (simp [*]; done)), (by first | rfl | (simp; done) | (simp [*]; done)), H', ⟨Nat.le_refl _⟩, ⟨by (with_reducible repeat (first | apply Kd.N_alloc | apply Kd.N_drewN | apply Kd.N_drew)); first | exact HO_33.out | exact Kd.N_mono HO_33.out xi⟩, ⟨by repeat (first | (with_reducible exact HR416_0.out) | (with_reducible refine Kd.C_alloc ?_ _) | (with_reducible refine Kd.C_drewN ?_ _) | (with_reducible refine Kd.C_drew ?_) | exact HR416_0.out)⟩, ⟨by repeat (first | (with_reducible first | exact HB.out | apply below_alloc | apply pw_below_drewN | apply below_drew1) | exact HB.out)⟩⟩
                    case round =>
                      clear H'
                      try clear c1
                      try clear c2
                      try clear c2b0
                      try clear c2b1
                      try clear p2
                      try clear c3
                      try clear c4
                      try clear c4b0
                      try clear p4
                      try clear q4
                      try clear hx4
                      try clear qi4
                      try clear c5
                      try clear c5b0
                      try clear c6
                      try clear c6b0
                      try clear p6
                      try clear c8
                      try clear c8b0
                      try clear c8b1
                      try clear c10
                      try clear c14
                      try clear c14b0
                      try clear c15
                      try clear c15b0
                      try clear c16
                      try clear c16b0
                      try clear hx407_0
                      try clear hx409_0
                      try clear hx416_0
                      try clear p2
                      try clear p4
                      try clear p407
                      try clear p409
                      try clear p416
                      try clear p6
                      try clear q4
                      try clear q407
                      try clear q409
                      try clear q416
                      obtain ⟨x9_3, x43_3, rfl, rfl, HA, HK3, HO_33, HR416_0, HB⟩ := hrel
                      cases gk with
                      | zero => exact absurd HA.out (by simp [impl_classSum.l2])
                      | succ k3 =>
                        have H := HA.out
                        clear HA
                        simp only [impl_classSum.l2] at H
                        by_cases c19 : x43_3 < (l0.length : Int)
                        · rw [if_pos c19] at H
                          have c19b0 : decide (x43_3 < (l0.length : Int)) = true := decide_eq_true c19
                          clear c19
                          by_cases c20 : 0 ≤ x43_3
                          · rw [if_pos c20] at H
                            have c20b0 : decide (0 ≤ x43_3) = true := decide_eq_true c20
                            clear c20
                            by_cases c21 : x43_3 < (l0.length : Int)
                            · rw [if_pos c21] at H
                              have c21b0 : decide (x43_3 < (l0.length : Int)) = true := decide_eq_true c21
                              clear c21
                              replace H := Option.bind_eq_some_iff.mp H
                              obtain ⟨t419, A220, H⟩ := H
                              replace H : (impl_classSum.l2 k3 l0 t408 x6_2 (rd_L1 t412 x35_2) (wrap64 (x9_3 * t419)) t412 (t412.length : Int) x35_2 l0 (l0.length : Int) (wrap64 (x43_3 + 1))) = some r := H
                              have A22 := Aside0.mk A220
                              clear A220
                              have H' := Aside0.mk H
                              clear H
                              have p418 : 0 ≤ (x43_3 : Int) := of_decide_eq_true (by first | (with_reducible assumption) | assumption)
                              have q418 : x43_3 < (l0.length : Int) := of_decide_eq_true (by first | (with_reducible assumption) | assumption)
                              obtain ⟨ad418, A418_0, c418_0, e418, hx418_0, hl418_0, hi418_0⟩ := at_L1 HR0.out x43_3 p418 q418
                              obtain rfl : ad407 = ad418 := (by injection e418)
                              (try replace hx418_0 := (HB.out.cell (World.block_lt_of_cell? w _ hx418_0)).trans hx418_0)
                              have HR418_0 := Aside0.mk hi418_0
                              have HC418_0 := Aside0.mk hl418_0
                              clear hi418_0 hl418_0
                              replace p418 := eq_true p418
                              replace q418 := eq_true q418
                              go_wp2_with (first | ((with_reducible refine gate_callee (f := 21) rfl ?_); refine goesL_ (some 50) rfl rfl Try.func21 (by kernel_rfl) rfl #[.slice A418_0 (rd_L1 l0 x43_3).length c418_0, .slice A416_0 (rd_L1 t412 x35_2).length c416_0] rfl xm ?_; (with_reducible refine (impl_CharacterOf.calls k3 _ _ (rd_L1 l0 x43_3) _ _ (rd_L1 t412 x35_2) t419 _ ?side1 ?side2 ?side3 ?side4 A22.out).mono ?_); (case side1 => first | exact xc (Kd.C_below HR418_0.out HB.out) | exact xc HR418_0.out); (case side2 => exact HC418_0.out); (case side3 => first | exact xc (Kd.C_below HR416_0.out HB.out) | exact xc HR416_0.out); (case side4 => exact HC416_0.out); rintro e w23 ⟨rfl, hb⟩; refine ⟨_, rfl, ?_⟩; have n0_ := Aside0.mk (Kd.N_below (xN HO_33.out) hb); have n1_ := Aside0.mk (Kd.C_below (by repeat (first | (with_reducible exact HR416_0.out) | (with_reducible refine Kd.C_alloc ?_ _) | (with_reducible refine Kd.C_drewN ?_ _) | (with_reducible refine Kd.C_drew ?_) | exact HR416_0.out)) hb); have n2_ := Aside0.mk (below_step (xb HB.out) hb); clear HO_33; clear HR416_0; clear HB; have HO_33 := n0_; have HR416_0 := n1_; have HB := n2_; clear n0_ n1_ n2_; (try clear hb); (try clear hb2); (try clear hk); (try clear hi)))
                              go_roundg k3
                              case measure => have := HK1.out; have := HK2.out; have := HK3.out; omega
                              case rel => exact ⟨(wrap64 (x9_3 * t419)), (wrap64 (x43_3 + 1)), (by first | rfl | (simp; done) | (simp [*]; done)), (by first | rfl | (simp; done) | (simp [*]; done)), H', ⟨by have := HK1.out; have := HK2.out; have := HK3.out; omega⟩, ⟨by (with_reducible repeat (first | apply Kd.N_alloc | apply Kd.N_drewN | apply Kd.N_drew)); first | exact HO_33.out | exact Kd.N_mono HO_33.out xi⟩, ⟨by repeat (first | (with_reducible exact HR416_0.out) | (with_reducible refine Kd.C_alloc ?_ _) | (with_reducible refine Kd.C_drewN ?_ _) | (with_reducible refine Kd.C_drew ?_) | exact HR416_0.out)⟩, ⟨by repeat (first | (with_reducible first | exact HB.out | apply below_alloc | apply pw_below_drewN | apply below_drew1) | exact HB.out)⟩⟩
                            · rw [if_neg c21] at H
                              exact absurd H (by simp)
                          · rw [if_neg c20] at H
                            exact absurd H (by simp)
                        · rw [if_neg c19] at H
                          have c19b0 : decide (x43_3 < (l0.length : Int)) = false := decide_eq_false c19
                          clear c19
                          have H' := Aside0.mk H
                          clear H
                          go_wp2
                          go_roundg k3
                          case measure => have := HK1.out; have := HK2.out; have := HK3.out; omega
                          case rel => exact ⟨(wrap64 (x6_2 + x9_3)), (wrap64 (x35_2 + 1)), (by first | rfl | (simp; done) | (simp [*]; done)), (by first | rfl | (simp; done) | (simp [*]; done)), H', ⟨by have := HK1.out; have := HK2.out; have := HK3.out; omega⟩, ⟨by (with_reducible repeat (first | apply Kd.N_alloc | apply Kd.N_drewN | apply Kd.N_drew)); first | exact HO_33.out | exact Kd.N_mono HO_33.out xi⟩, ⟨by repeat (first | (with_reducible first | exact HB.out | apply below_alloc | apply pw_below_drewN | apply below_drew1) | exact HB.out)⟩⟩
                  · rw [if_neg c16] at H
                    exact absurd H (by simp)
                · rw [if_neg c15] at H
                  exact absurd H (by simp)
              · rw [if_neg c14] at H
                have c14b0 : decide (x35_2 < (t412.length : Int)) = false := decide_eq_false c14
                clear c14
                replace H := Option.bind_eq_some_iff.mp H
                obtain ⟨t415, A240, H⟩ := H
                replace H : (if t415 = 0 then (none) else (some (wrap64 (Int.tdiv x6_2 t415)))) = some r := H
                have A24 := Aside0.mk A240
                clear A240
                by_cases c25 : t415 = 0
                · rw [if_pos c25] at H
                  exact absurd H (by simp)
                · rw [if_neg c25] at H
                  have c25b0 : (t415 == 0) = false := beq_eq_false_iff_ne.mpr c25
                  have c25b1 : (t415 != 0) = true := bne_iff_ne.mpr c25
                  obtain rfl := Option.some.inj H
                  go_wp2_with (first | ((with_reducible refine gate_callee (f := 60) rfl ?_); refine goesL_ (some 59) rfl rfl Try.func60 (by kernel_rfl) rfl #[.int .i64 t408] rfl xm ?_; (with_reducible refine (impl_factorial.calls k2 t408 t415 _ A24.out).mono ?_); rintro e w' ⟨rfl, ⟨nd, rfl⟩⟩; refine ⟨_, rfl, ?_⟩))
                  go_ret
                  exact ⟨by first | rfl | (simp [errW_none, errW_some] <;> rfl) | (simp [*, errW_none, errW_some] <;> rfl), by repeat (first | (with_reducible first | exact HB.out | apply below_alloc | apply pw_below_drewN | apply below_drew1) | exact HB.out)⟩
  · rw [if_neg c2] at H
    exact absurd H (by simp)

/-! ### impl_KroneckerOf: function 27 -/
def impl_KroneckerOf.f (k : Nat) (l0 : List Int) (l1 : List Int) (l2 : List Int) : Option (Int) := (impl_classSum.f k (([l0, l1, l2] : List (List Int)))).bind fun t423 => (some t423)
theorem impl_KroneckerOf.mono : ∀ a0 a1 a2 k, LeO (impl_KroneckerOf.f k a0 a1 a2) (impl_KroneckerOf.f (k + 1) a0 a1 a2) := by
  intro a0 a1 a2 k
  unfold impl_KroneckerOf.f
  repeat' first
      | (with_reducible exact impl_classSum.mono _ _)
      | (with_reducible exact LeO.refl _)
      | (with_reducible exact LeO.none _)
      | (with_reducible refine LeO.ite ?_ ?_)
      | (with_reducible refine LeO.bind ?_ (fun _ => ?_))
      | exact impl_classSum.mono _ _
      | exact LeO.none _
      | refine LeO.ite ?_ ?_
      | refine LeO.bind ?_ (fun _ => ?_)
set_option maxHeartbeats 8000000 in
set_option maxRecDepth 100000 in
theorem impl_KroneckerOf.calls (k : Nat) (P0_ : Nat → Prop) (A0 : Option Addr) (c0 : Nat) (l0 : List Int) (P1_ : Nat → Prop) (A1 : Option Addr) (c1 : Nat) (l1 : List Int) (P2_ : Nat → Prop) (A2 : Option Addr) (c2 : Nat) (l2 : List Int) (r : Int) (w : World) (hs0 : Kd.V (Kd.int .i64) 3 w w.heap.size (fun k_ => P0_ k_) (.slice A0 l0.length c0) l0) (hs1 : Kd.V (Kd.int .i64) 3 w w.heap.size (fun k_ => P1_ k_) (.slice A1 l1.length c1) l1) (hs2 : Kd.V (Kd.int .i64) 3 w w.heap.size (fun k_ => P2_ k_) (.slice A2 l2.length c2) l2) (h : impl_KroneckerOf.f k l0 l1 l2 = some r) :
    Calls Try.prog 27 #[.slice A0 l0.length c0, .slice A1 l1.length c1, .slice A2 l2.length c2] w fun e w' => e = .returned (.int .i64 r) ∧ Below w.heap.size w w' := by
  have HO0 := Aside0.mk (show Kd.V (Kd.int .i64) 3 w w.heap.size (fun k_ => ((P0_ k_ ∨ P1_ k_ ∨ P2_ k_) ∨ w.heap.size ≤ k_)) (.slice A0 l0.length c0) l0 from Kd.V_mono hs0 (fun k_ hk => .inl (.inl hk)))
  have HO1 := Aside0.mk (show Kd.V (Kd.int .i64) 3 w w.heap.size (fun k_ => ((P0_ k_ ∨ P1_ k_ ∨ P2_ k_) ∨ w.heap.size ≤ k_)) (.slice A1 l1.length c1) l1 from Kd.V_mono hs1 (fun k_ hk => .inl (.inr (.inl hk))))
  have HO2 := Aside0.mk (show Kd.V (Kd.int .i64) 3 w w.heap.size (fun k_ => ((P0_ k_ ∨ P1_ k_ ∨ P2_ k_) ∨ w.heap.size ≤ k_)) (.slice A2 l2.length c2) l2 from Kd.V_mono hs2 (fun k_ hk => .inl (.inr (.inr hk))))
  have HB := Aside0.mk (Below.refl w.heap.size w)
  have H : ((impl_classSum.f k (([l0, l1, l2] : List (List Int)))).bind fun t423 => (some t423)) = some r := h
  clear h
  obtain ⟨y420, hy420⟩ : ∃ y_ : List (List Int), y_ = (([l0, l1, l2] : List (List Int))) := ⟨_, rfl⟩
  replace H : ((impl_classSum.f k y420).bind fun t423 => (some t423)) = some r := by first | (rw [hy420]; with_reducible exact H) | (have H2_ := (Option.bind_some _ _).symm.trans H; rw [hy420]; with_reducible exact H2_) | (have H2_ := (Option.bind_some _ _).symm.trans H; with_reducible exact H2_) | with_reducible exact H | (rw [hy420]; exact H) | exact H
  have Ny420 := Aside0.mk hy420
  clear hy420
  replace H := Option.bind_eq_some_iff.mp H
  obtain ⟨t423, A40, H⟩ := H
  replace H : (some t423) = some r := H
  have A4 := Aside0.mk A40
  clear A40
  obtain rfl := Option.some.inj H
  go_enter Try.func27, Try.ntmps27
  go_wp2_with (first | ((with_reducible refine gate_dst (N := 10) rfl ?_); refine Kd.N_lit (Kd.slice 3 (Kd.int .i64)) _ 22 ?hg (N' := 10) ?hd (xs := ([l0, l1, l2] : List (List Int))) (inner := [.slice A0 l0.length c0, .slice A1 l1.length c1, .slice A2 l2.length c2]) (ok := (fun k_ => ((P0_ k_ ∨ P1_ k_ ∨ P2_ k_) ∨ w.heap.size ≤ k_))) (okp := (fun k_ => ((P0_ k_ ∨ P1_ k_ ∨ P2_ k_) ∨ w.heap.size ≤ k_))) ?hr ?hp (fun _ hk => hk) ((show ∀ k_, w.heap.size ≤ k_ → (fun k_ => ((P0_ k_ ∨ P1_ k_ ∨ P2_ k_) ∨ w.heap.size ≤ k_)) k_ from fun k_ hk => (.inr (Nat.le_trans (below_size (xb HB.out)) hk))) _ (Nat.le_refl _)) (Below.refl _ _) (Nat.le_refl _) (by simp) ?_; (case hd => rfl); (case hg => rfl); (case hr => first | (go_simp; done) | (go_simp; rfl)); (case hp => exact (Reps.one (show Kd.FK (Kd.slice 3 (Kd.int .i64)) _ _ l0 [.slice A0 l0.length c0] from (Kd.FK_slice_mk (Kd.V_reads' (Kd.V_mono (ok' := (fun k_ => ((P0_ k_ ∨ P1_ k_ ∨ P2_ k_) ∨ w.heap.size ≤ k_))) (HO0.out) (fun k_ hk => hk))).2.1 (Kd.V_F (Kd.V_mono (ok' := (fun k_ => ((P0_ k_ ∨ P1_ k_ ∨ P2_ k_) ∨ w.heap.size ≤ k_))) (HO0.out) (fun k_ hk => hk))))) (Reps.one (show Kd.FK (Kd.slice 3 (Kd.int .i64)) _ _ l1 [.slice A1 l1.length c1] from (Kd.FK_slice_mk (Kd.V_reads' (Kd.V_mono (ok' := (fun k_ => ((P0_ k_ ∨ P1_ k_ ∨ P2_ k_) ∨ w.heap.size ≤ k_))) (HO1.out) (fun k_ hk => hk))).2.1 (Kd.V_F (Kd.V_mono (ok' := (fun k_ => ((P0_ k_ ∨ P1_ k_ ∨ P2_ k_) ∨ w.heap.size ≤ k_))) (HO1.out) (fun k_ hk => hk))))) (Reps.one (show Kd.FK (Kd.slice 3 (Kd.int .i64)) _ _ l2 [.slice A2 l2.length c2] from (Kd.FK_slice_mk (Kd.V_reads' (Kd.V_mono (ok' := (fun k_ => ((P0_ k_ ∨ P1_ k_ ∨ P2_ k_) ∨ w.heap.size ≤ k_))) (HO2.out) (fun k_ hk => hk))).2.1 (Kd.V_F (Kd.V_mono (ok' := (fun k_ => ((P0_ k_ ∨ P1_ k_ ∨ P2_ k_) ∨ w.heap.size ≤ k_))) (HO2.out) (fun k_ hk => hk))))) (Reps.none _ _))))); intro v421 w5 ho6 hb hg_ hnew_; clear hg_ hnew_; (first | rw [← Ny420.out] at ho6 | (simp only [Int.reduceToNat] at ho6; rw [← Ny420.out] at ho6)); have n0_ := Aside0.mk (Kd.V_elder' (xV HO0.out) (by first | exact Kd.N_base ho6 | exact Kd.S_base ho6 | exact Kd.R_base ho6) hb); have n1_ := Aside0.mk (Kd.V_elder' (xV HO1.out) (by first | exact Kd.N_base ho6 | exact Kd.S_base ho6 | exact Kd.R_base ho6) hb); have n2_ := Aside0.mk (Kd.V_elder' (xV HO2.out) (by first | exact Kd.N_base ho6 | exact Kd.S_base ho6 | exact Kd.R_base ho6) hb); have n3_ := Aside0.mk (Kd.N_lower ho6 (below_size (xb HB.out))); have n4_ := Aside0.mk (below_step (xb HB.out) hb); clear HO0; clear HO1; clear HO2; clear HB; have HO0 := n0_; have HO1 := n1_; have HO2 := n2_; have HO422 := n3_; have HB := n4_; clear n0_ n1_ n2_ n3_ n4_; clear hb ho6; obtain ⟨Ao7, co7, eo7⟩ := Kd.N_slice HO422.out; subst eo7) | ((with_reducible refine gate_callee (f := 44) rfl ?_); refine goesL_ (some 11) rfl rfl Try.func44 (by kernel_rfl) rfl #[.slice Ao7 y420.length co7] rfl xm ?_; (with_reducible refine (impl_classSum.calls k _ _ y420 t423 _ ?side1 ?side2 A4.out).mono ?_); (case side1 => repeat (first | exact (Kd.N_reads' HO422.out).2.2 | (with_reducible refine Kd.C_alloc ?_ _) | (with_reducible refine Kd.C_drewN ?_ _) | (with_reducible refine Kd.C_drew ?_))); (case side2 => exact (Kd.N_reads' HO422.out).2.1); rintro e w8 ⟨rfl, hb⟩; refine ⟨_, rfl, ?_⟩; have n0_ := Aside0.mk (Kd.V_below (xV HO0.out) hb); have n1_ := Aside0.mk (Kd.V_below (xV HO1.out) hb); have n2_ := Aside0.mk (Kd.V_below (xV HO2.out) hb); have n3_ := Aside0.mk (Kd.N_below (xN HO422.out) hb); have n4_ := Aside0.mk (below_step (xb HB.out) hb); clear HO0; clear HO1; clear HO2; clear HO422; clear HB; have HO0 := n0_; have HO1 := n1_; have HO2 := n2_; have HO422 := n3_; have HB := n4_; clear n0_ n1_ n2_ n3_ n4_; (try clear hb); (try clear hb2); (try clear hk); (try clear hi)))
  go_ret
  exact ⟨by first | rfl | (simp [errW_none, errW_some] <;> rfl) | (simp [*, errW_none, errW_some] <;> rfl), by repeat (first | (with_reducible first | exact HB.out | apply below_alloc | apply pw_below_drewN | apply below_drew1) | exact HB.out)⟩

/-! ### laws_FnExactKroneckerOf: function 9 -/
def laws_FnExactKroneckerOf.f (k : Nat) (l0 : List Int) (l1 : List Int) (l2 : List Int) : Option (Bool) := if (l0.length : Int) > 1048576 then (some true) else (if (l1.length : Int) > 1048576 then (some true) else (if (l2.length : Int) > 1048576 then (some true) else ((laws_toIntS.f k l0).bind fun t424 => ((laws_toIntS.f k l1).bind fun t427 => ((laws_toIntS.f k l2).bind fun t430 => ((spec_KroneckerOf.f k t424 t427 t430).bind fun t433 => ((laws_toIntS.f k l0).bind fun t434 => ((laws_toIntS.f k l1).bind fun t437 => ((laws_toIntS.f k l2).bind fun t440 => ((impl_KroneckerOf.f k t434 t437 t440).bind fun t443 => (if t443 = t433 then ((laws_toIntS.f k l0).bind fun t444 => ((laws_eqIntS.f k t434 t444).bind fun t447 => (if t447 = true then ((laws_toIntS.f k l1).bind fun t448 => ((laws_eqIntS.f k t437 t448).bind fun t451 => (if t451 = true then ((laws_toIntS.f k l2).bind fun t452 => ((laws_eqIntS.f k t440 t452).bind fun t455 => (if t455 = true then (some true) else (some false)))) else (some false)))) else (some false)))) else (some false))))))))))))
theorem laws_FnExactKroneckerOf.mono : ∀ a0 a1 a2 k, LeO (laws_FnExactKroneckerOf.f k a0 a1 a2) (laws_FnExactKroneckerOf.f (k + 1) a0 a1 a2) := by
  intro a0 a1 a2 k
  unfold laws_FnExactKroneckerOf.f
  repeat' first
      | (with_reducible exact impl_KroneckerOf.mono _ _ _ _)
      | (with_reducible exact laws_eqIntS.mono _ _ _)
      | (with_reducible exact laws_toIntS.mono _ _)
      | (with_reducible exact spec_KroneckerOf.mono _ _ _ _)
      | (with_reducible exact LeO.refl _)
      | (with_reducible exact LeO.none _)
      | (with_reducible refine LeO.ite ?_ ?_)
      | (with_reducible refine LeO.bind ?_ (fun _ => ?_))
      | exact impl_KroneckerOf.mono _ _ _ _
      | exact laws_eqIntS.mono _ _ _
      | exact laws_toIntS.mono _ _
      | exact spec_KroneckerOf.mono _ _ _ _
      | exact LeO.none _
      | refine LeO.ite ?_ ?_
      | refine LeO.bind ?_ (fun _ => ?_)
set_option maxHeartbeats 8000000 in
set_option maxRecDepth 100000 in
theorem laws_FnExactKroneckerOf.calls (k : Nat) (A0 : Option Addr) (c0 : Nat) (l0 : List Int) (A1 : Option Addr) (c1 : Nat) (l1 : List Int) (A2 : Option Addr) (c2 : Nat) (l2 : List Int) (r : Bool) (w : World) (hr0 : Kd.C (Kd.int .i64) w A0 l0.length l0) (hc0 : l0.length ≤ c0) (hr1 : Kd.C (Kd.int .i64) w A1 l1.length l1) (hc1 : l1.length ≤ c1) (hr2 : Kd.C (Kd.int .i64) w A2 l2.length l2) (hc2 : l2.length ≤ c2) (h : laws_FnExactKroneckerOf.f k l0 l1 l2 = some r) :
    Calls Try.prog 9 #[.slice A0 l0.length c0, .slice A1 l1.length c1, .slice A2 l2.length c2] w fun e w' => e = .returned (.bool r) ∧ Below w.heap.size w w' := by
  have HR0 := Aside0.mk hr0
  have HC0 := Aside0.mk hc0
  clear hr0 hc0
  have HR1 := Aside0.mk hr1
  have HC1 := Aside0.mk hc1
  clear hr1 hc1
  have HR2 := Aside0.mk hr2
  have HC2 := Aside0.mk hc2
  clear hr2 hc2
  have HB := Aside0.mk (Below.refl w.heap.size w)
  have H : (if (l0.length : Int) > 1048576 then (some true) else (if (l1.length : Int) > 1048576 then (some true) else (if (l2.length : Int) > 1048576 then (some true) else ((laws_toIntS.f k l0).bind fun t424 => ((laws_toIntS.f k l1).bind fun t427 => ((laws_toIntS.f k l2).bind fun t430 => ((spec_KroneckerOf.f k t424 t427 t430).bind fun t433 => ((laws_toIntS.f k l0).bind fun t434 => ((laws_toIntS.f k l1).bind fun t437 => ((laws_toIntS.f k l2).bind fun t440 => ((impl_KroneckerOf.f k t434 t437 t440).bind fun t443 => (if t443 = t433 then ((laws_toIntS.f k l0).bind fun t444 => ((laws_eqIntS.f k t434 t444).bind fun t447 => (if t447 = true then ((laws_toIntS.f k l1).bind fun t448 => ((laws_eqIntS.f k t437 t448).bind fun t451 => (if t451 = true then ((laws_toIntS.f k l2).bind fun t452 => ((laws_eqIntS.f k t440 t452).bind fun t455 => (if t455 = true then (some true) else (some false)))) else (some false)))) else (some false)))) else (some false))))))))))))) = some r := h
  clear h
  by_cases c4 : (l0.length : Int) > 1048576
  · rw [if_pos c4] at H
    have c4b0 : decide (1048576 < (l0.length : Int)) = true := decide_eq_true c4
    have c4b1 : decide (1048576 < l0.length) = true := decide_eq_true (by omega)
    clear c4
    obtain rfl := Option.some.inj H
    go_enter Try.func9, Try.ntmps9
    go_wp2
    go_ret
    exact ⟨by first | rfl | (simp [errW_none, errW_some] <;> rfl) | (simp [*, errW_none, errW_some] <;> rfl), by repeat (first | (with_reducible first | exact HB.out | apply below_alloc | apply pw_below_drewN | apply below_drew1) | exact HB.out)⟩
  · rw [if_neg c4] at H
    have c4b0 : decide (1048576 < (l0.length : Int)) = false := decide_eq_false c4
    have c4b1 : decide (1048576 < l0.length) = false := decide_eq_false (by omega)
    clear c4
    by_cases c5 : (l1.length : Int) > 1048576
    · rw [if_pos c5] at H
      have c5b0 : decide (1048576 < (l1.length : Int)) = true := decide_eq_true c5
      have c5b1 : decide (1048576 < l1.length) = true := decide_eq_true (by omega)
      clear c5
      obtain rfl := Option.some.inj H
      go_enter Try.func9, Try.ntmps9
      go_wp2
      go_ret
      exact ⟨by first | rfl | (simp [errW_none, errW_some] <;> rfl) | (simp [*, errW_none, errW_some] <;> rfl), by repeat (first | (with_reducible first | exact HB.out | apply below_alloc | apply pw_below_drewN | apply below_drew1) | exact HB.out)⟩
    · rw [if_neg c5] at H
      have c5b0 : decide (1048576 < (l1.length : Int)) = false := decide_eq_false c5
      have c5b1 : decide (1048576 < l1.length) = false := decide_eq_false (by omega)
      clear c5
      by_cases c6 : (l2.length : Int) > 1048576
      · rw [if_pos c6] at H
        have c6b0 : decide (1048576 < (l2.length : Int)) = true := decide_eq_true c6
        have c6b1 : decide (1048576 < l2.length) = true := decide_eq_true (by omega)
        clear c6
        obtain rfl := Option.some.inj H
        go_enter Try.func9, Try.ntmps9
        go_wp2
        go_ret
        exact ⟨by first | rfl | (simp [errW_none, errW_some] <;> rfl) | (simp [*, errW_none, errW_some] <;> rfl), by repeat (first | (with_reducible first | exact HB.out | apply below_alloc | apply pw_below_drewN | apply below_drew1) | exact HB.out)⟩
      · rw [if_neg c6] at H
        have c6b0 : decide (1048576 < (l2.length : Int)) = false := decide_eq_false c6
        have c6b1 : decide (1048576 < l2.length) = false := decide_eq_false (by omega)
        clear c6
        replace H := Option.bind_eq_some_iff.mp H
        obtain ⟨t424, A70, H⟩ := H
        replace H : ((laws_toIntS.f k l1).bind fun t427 => ((laws_toIntS.f k l2).bind fun t430 => ((spec_KroneckerOf.f k t424 t427 t430).bind fun t433 => ((laws_toIntS.f k l0).bind fun t434 => ((laws_toIntS.f k l1).bind fun t437 => ((laws_toIntS.f k l2).bind fun t440 => ((impl_KroneckerOf.f k t434 t437 t440).bind fun t443 => (if t443 = t433 then ((laws_toIntS.f k l0).bind fun t444 => ((laws_eqIntS.f k t434 t444).bind fun t447 => (if t447 = true then ((laws_toIntS.f k l1).bind fun t448 => ((laws_eqIntS.f k t437 t448).bind fun t451 => (if t451 = true then ((laws_toIntS.f k l2).bind fun t452 => ((laws_eqIntS.f k t440 t452).bind fun t455 => (if t455 = true then (some true) else (some false)))) else (some false)))) else (some false)))) else (some false))))))))) = some r := H
        have A7 := Aside0.mk A70
        clear A70
        replace H := Option.bind_eq_some_iff.mp H
        obtain ⟨t427, A80, H⟩ := H
        replace H : ((laws_toIntS.f k l2).bind fun t430 => ((spec_KroneckerOf.f k t424 t427 t430).bind fun t433 => ((laws_toIntS.f k l0).bind fun t434 => ((laws_toIntS.f k l1).bind fun t437 => ((laws_toIntS.f k l2).bind fun t440 => ((impl_KroneckerOf.f k t434 t437 t440).bind fun t443 => (if t443 = t433 then ((laws_toIntS.f k l0).bind fun t444 => ((laws_eqIntS.f k t434 t444).bind fun t447 => (if t447 = true then ((laws_toIntS.f k l1).bind fun t448 => ((laws_eqIntS.f k t437 t448).bind fun t451 => (if t451 = true then ((laws_toIntS.f k l2).bind fun t452 => ((laws_eqIntS.f k t440 t452).bind fun t455 => (if t455 = true then (some true) else (some false)))) else (some false)))) else (some false)))) else (some false)))))))) = some r := H
        have A8 := Aside0.mk A80
        clear A80
        replace H := Option.bind_eq_some_iff.mp H
        obtain ⟨t430, A90, H⟩ := H
        replace H : ((spec_KroneckerOf.f k t424 t427 t430).bind fun t433 => ((laws_toIntS.f k l0).bind fun t434 => ((laws_toIntS.f k l1).bind fun t437 => ((laws_toIntS.f k l2).bind fun t440 => ((impl_KroneckerOf.f k t434 t437 t440).bind fun t443 => (if t443 = t433 then ((laws_toIntS.f k l0).bind fun t444 => ((laws_eqIntS.f k t434 t444).bind fun t447 => (if t447 = true then ((laws_toIntS.f k l1).bind fun t448 => ((laws_eqIntS.f k t437 t448).bind fun t451 => (if t451 = true then ((laws_toIntS.f k l2).bind fun t452 => ((laws_eqIntS.f k t440 t452).bind fun t455 => (if t455 = true then (some true) else (some false)))) else (some false)))) else (some false)))) else (some false))))))) = some r := H
        have A9 := Aside0.mk A90
        clear A90
        replace H := Option.bind_eq_some_iff.mp H
        obtain ⟨t433, A100, H⟩ := H
        replace H : ((laws_toIntS.f k l0).bind fun t434 => ((laws_toIntS.f k l1).bind fun t437 => ((laws_toIntS.f k l2).bind fun t440 => ((impl_KroneckerOf.f k t434 t437 t440).bind fun t443 => (if t443 = t433 then ((laws_toIntS.f k l0).bind fun t444 => ((laws_eqIntS.f k t434 t444).bind fun t447 => (if t447 = true then ((laws_toIntS.f k l1).bind fun t448 => ((laws_eqIntS.f k t437 t448).bind fun t451 => (if t451 = true then ((laws_toIntS.f k l2).bind fun t452 => ((laws_eqIntS.f k t440 t452).bind fun t455 => (if t455 = true then (some true) else (some false)))) else (some false)))) else (some false)))) else (some false)))))) = some r := H
        have A10 := Aside0.mk A100
        clear A100
        replace H := Option.bind_eq_some_iff.mp H
        obtain ⟨t434, A110, H⟩ := H
        replace H : ((laws_toIntS.f k l1).bind fun t437 => ((laws_toIntS.f k l2).bind fun t440 => ((impl_KroneckerOf.f k t434 t437 t440).bind fun t443 => (if t443 = t433 then ((laws_toIntS.f k l0).bind fun t444 => ((laws_eqIntS.f k t434 t444).bind fun t447 => (if t447 = true then ((laws_toIntS.f k l1).bind fun t448 => ((laws_eqIntS.f k t437 t448).bind fun t451 => (if t451 = true then ((laws_toIntS.f k l2).bind fun t452 => ((laws_eqIntS.f k t440 t452).bind fun t455 => (if t455 = true then (some true) else (some false)))) else (some false)))) else (some false)))) else (some false))))) = some r := H
        have A11 := Aside0.mk A110
        clear A110
        replace H := Option.bind_eq_some_iff.mp H
        obtain ⟨t437, A120, H⟩ := H
        replace H : ((laws_toIntS.f k l2).bind fun t440 => ((impl_KroneckerOf.f k t434 t437 t440).bind fun t443 => (if t443 = t433 then ((laws_toIntS.f k l0).bind fun t444 => ((laws_eqIntS.f k t434 t444).bind fun t447 => (if t447 = true then ((laws_toIntS.f k l1).bind fun t448 => ((laws_eqIntS.f k t437 t448).bind fun t451 => (if t451 = true then ((laws_toIntS.f k l2).bind fun t452 => ((laws_eqIntS.f k t440 t452).bind fun t455 => (if t455 = true then (some true) else (some false)))) else (some false)))) else (some false)))) else (some false)))) = some r := H
        have A12 := Aside0.mk A120
        clear A120
        replace H := Option.bind_eq_some_iff.mp H
        obtain ⟨t440, A130, H⟩ := H
        replace H : ((impl_KroneckerOf.f k t434 t437 t440).bind fun t443 => (if t443 = t433 then ((laws_toIntS.f k l0).bind fun t444 => ((laws_eqIntS.f k t434 t444).bind fun t447 => (if t447 = true then ((laws_toIntS.f k l1).bind fun t448 => ((laws_eqIntS.f k t437 t448).bind fun t451 => (if t451 = true then ((laws_toIntS.f k l2).bind fun t452 => ((laws_eqIntS.f k t440 t452).bind fun t455 => (if t455 = true then (some true) else (some false)))) else (some false)))) else (some false)))) else (some false))) = some r := H
        have A13 := Aside0.mk A130
        clear A130
        replace H := Option.bind_eq_some_iff.mp H
        obtain ⟨t443, A140, H⟩ := H
        replace H : (if t443 = t433 then ((laws_toIntS.f k l0).bind fun t444 => ((laws_eqIntS.f k t434 t444).bind fun t447 => (if t447 = true then ((laws_toIntS.f k l1).bind fun t448 => ((laws_eqIntS.f k t437 t448).bind fun t451 => (if t451 = true then ((laws_toIntS.f k l2).bind fun t452 => ((laws_eqIntS.f k t440 t452).bind fun t455 => (if t455 = true then (some true) else (some false)))) else (some false)))) else (some false)))) else (some false)) = some r := H
        have A14 := Aside0.mk A140
        clear A140
        by_cases c15 : t443 = t433
        · rw [if_pos c15] at H
          have c15b0 : (t443 == t433) = true := beq_iff_eq.mpr c15
          have c15b1 : (t443 != t433) = false := bne_eq_false_iff_eq.mpr c15
          clear c15
          replace H := Option.bind_eq_some_iff.mp H
          obtain ⟨t444, A160, H⟩ := H
          replace H : ((laws_eqIntS.f k t434 t444).bind fun t447 => (if t447 = true then ((laws_toIntS.f k l1).bind fun t448 => ((laws_eqIntS.f k t437 t448).bind fun t451 => (if t451 = true then ((laws_toIntS.f k l2).bind fun t452 => ((laws_eqIntS.f k t440 t452).bind fun t455 => (if t455 = true then (some true) else (some false)))) else (some false)))) else (some false))) = some r := H
          have A16 := Aside0.mk A160
          clear A160
          replace H := Option.bind_eq_some_iff.mp H
          obtain ⟨t447, A170, H⟩ := H
          replace H : (if t447 = true then ((laws_toIntS.f k l1).bind fun t448 => ((laws_eqIntS.f k t437 t448).bind fun t451 => (if t451 = true then ((laws_toIntS.f k l2).bind fun t452 => ((laws_eqIntS.f k t440 t452).bind fun t455 => (if t455 = true then (some true) else (some false)))) else (some false)))) else (some false)) = some r := H
          have A17 := Aside0.mk A170
          clear A170
          by_cases c18 : t447 = true
          · subst c18
            have H1 : ((laws_toIntS.f k l1).bind fun t448 => ((laws_eqIntS.f k t437 t448).bind fun t451 => (if t451 = true then ((laws_toIntS.f k l2).bind fun t452 => ((laws_eqIntS.f k t440 t452).bind fun t455 => (if t455 = true then (some true) else (some false)))) else (some false)))) = some r := by rw [if_pos rfl] at H; exact H
            clear H
            have H := H1
            clear H1
            replace H := Option.bind_eq_some_iff.mp H
            obtain ⟨t448, A190, H⟩ := H
            replace H : ((laws_eqIntS.f k t437 t448).bind fun t451 => (if t451 = true then ((laws_toIntS.f k l2).bind fun t452 => ((laws_eqIntS.f k t440 t452).bind fun t455 => (if t455 = true then (some true) else (some false)))) else (some false))) = some r := H
            have A19 := Aside0.mk A190
            clear A190
            replace H := Option.bind_eq_some_iff.mp H
            obtain ⟨t451, A200, H⟩ := H
            replace H : (if t451 = true then ((laws_toIntS.f k l2).bind fun t452 => ((laws_eqIntS.f k t440 t452).bind fun t455 => (if t455 = true then (some true) else (some false)))) else (some false)) = some r := H
            have A20 := Aside0.mk A200
            clear A200
            by_cases c21 : t451 = true
            · subst c21
              have H1 : ((laws_toIntS.f k l2).bind fun t452 => ((laws_eqIntS.f k t440 t452).bind fun t455 => (if t455 = true then (some true) else (some false)))) = some r := by rw [if_pos rfl] at H; exact H
              clear H
              have H := H1
              clear H1
              replace H := Option.bind_eq_some_iff.mp H
              obtain ⟨t452, A220, H⟩ := H
              replace H : ((laws_eqIntS.f k t440 t452).bind fun t455 => (if t455 = true then (some true) else (some false))) = some r := H
              have A22 := Aside0.mk A220
              clear A220
              replace H := Option.bind_eq_some_iff.mp H
              obtain ⟨t455, A230, H⟩ := H
              replace H : (if t455 = true then (some true) else (some false)) = some r := H
              have A23 := Aside0.mk A230
              clear A230
              by_cases c24 : t455 = true
              · subst c24
                have H1 : (some true) = some r := by rw [if_pos rfl] at H; exact H
                clear H
                have H := H1
                clear H1
                obtain rfl := Option.some.inj H
                go_enter Try.func9, Try.ntmps9
                go_wp2_with (first | ((with_reducible refine gate_callee (f := 11) rfl ?_); refine goesL_ (some 22) rfl rfl Try.func11 (by kernel_rfl) rfl #[.slice A0 l0.length c0] rfl xm ?_; (with_reducible refine (laws_toIntS.calls k _ _ l0 t424 _ ?side1 ?side2 A7.out).mono ?_); (case side1 => exact xc HR0.out); (case side2 => exact HC0.out); rintro e w25 ⟨v425, rfl, ho0, hb⟩; refine ⟨_, rfl, ?_⟩; have n0_ := Aside0.mk (Kd.R_lower ho0 (below_size (xb HB.out))); have n1_ := Aside0.mk (below_step (xb HB.out) hb); clear HB; have HO426 := n0_; have HB := n1_; clear n0_ n1_; (try clear hb); (try clear hb2); (try clear hk); (try clear hi); (try clear ho0)) | ((with_reducible refine gate_callee (f := 11) rfl ?_); refine goesL_ (some 24) rfl rfl Try.func11 (by kernel_rfl) rfl #[.slice A1 l1.length c1] rfl xm ?_; (with_reducible refine (laws_toIntS.calls k _ _ l1 t427 _ ?side1 ?side2 A8.out).mono ?_); (case side1 => first | exact xc (Kd.C_below HR1.out HB.out) | exact xc HR1.out); (case side2 => exact HC1.out); rintro e w26 ⟨v428, rfl, ho0, hb⟩; refine ⟨_, rfl, ?_⟩; have n0_ := Aside0.mk (Kd.R_elder' (xR HO426.out) (Kd.R_base ho0) hb); have n1_ := Aside0.mk (Kd.R_lower (Kd.R_new' ho0 (Kd.R_lt (xR HO426.out))) (below_size (xb HB.out))); have n2_ := Aside0.mk (below_step (xb HB.out) hb); clear HO426; clear HB; have HO426 := n0_; have HO429 := n1_; have HB := n2_; clear n0_ n1_ n2_; (try clear hb); (try clear hb2); (try clear hk); (try clear hi); (try clear ho0)) | ((with_reducible refine gate_callee (f := 11) rfl ?_); refine goesL_ (some 26) rfl rfl Try.func11 (by kernel_rfl) rfl #[.slice A2 l2.length c2] rfl xm ?_; (with_reducible refine (laws_toIntS.calls k _ _ l2 t430 _ ?side1 ?side2 A9.out).mono ?_); (case side1 => first | exact xc (Kd.C_below HR2.out HB.out) | exact xc HR2.out); (case side2 => exact HC2.out); rintro e w27 ⟨v431, rfl, ho0, hb⟩; refine ⟨_, rfl, ?_⟩; have n0_ := Aside0.mk (Kd.R_elder' (xR HO426.out) (Kd.R_base ho0) hb); have n1_ := Aside0.mk (Kd.R_elder' (xR HO429.out) (Kd.R_base ho0) hb); have n2_ := Aside0.mk (Kd.R_lower (Kd.R_new' (Kd.R_new' ho0 (Kd.R_lt (xR HO426.out))) (Kd.R_lt (xR HO429.out))) (below_size (xb HB.out))); have n3_ := Aside0.mk (below_step (xb HB.out) hb); clear HO426; clear HO429; clear HB; have HO426 := n0_; have HO429 := n1_; have HO432 := n2_; have HB := n3_; clear n0_ n1_ n2_ n3_; (try clear hb); (try clear hb2); (try clear hk); (try clear hi); (try clear ho0); obtain ⟨Ao28, co28, eo28⟩ := Kd.R_slice HO426.out; subst eo28; obtain ⟨Ao29, co29, eo29⟩ := Kd.R_slice HO429.out; subst eo29; obtain ⟨Ao30, co30, eo30⟩ := Kd.R_slice HO432.out; subst eo30) | ((with_reducible refine gate_callee (f := 26) rfl ?_); refine goesL_ (some 27) rfl rfl Try.func26 (by kernel_rfl) rfl #[.slice Ao28 t424.length co28, .slice Ao29 t427.length co29, .slice Ao30 t430.length co30] rfl xm ?_; (with_reducible refine (spec_KroneckerOf.calls k _ _ t424 _ _ t427 _ _ t430 t433 _ ?side1 ?side2 ?side3 ?side4 ?side5 ?side6 A10.out).mono ?_); (case side1 => repeat (first | exact (Kd.R_reads' HO426.out).2.2 | (with_reducible refine Kd.C_alloc ?_ _) | (with_reducible refine Kd.C_drewN ?_ _) | (with_reducible refine Kd.C_drew ?_))); (case side2 => exact (Kd.R_reads' HO426.out).2.1); (case side3 => repeat (first | exact (Kd.R_reads' HO429.out).2.2 | (with_reducible refine Kd.C_alloc ?_ _) | (with_reducible refine Kd.C_drewN ?_ _) | (with_reducible refine Kd.C_drew ?_))); (case side4 => exact (Kd.R_reads' HO429.out).2.1); (case side5 => repeat (first | exact (Kd.R_reads' HO432.out).2.2 | (with_reducible refine Kd.C_alloc ?_ _) | (with_reducible refine Kd.C_drewN ?_ _) | (with_reducible refine Kd.C_drew ?_))); (case side6 => exact (Kd.R_reads' HO432.out).2.1); rintro e w31 ⟨rfl, hb⟩; refine ⟨_, rfl, ?_⟩; have n0_ := Aside0.mk (Kd.R_below (xR HO426.out) hb); have n1_ := Aside0.mk (Kd.R_below (xR HO429.out) hb); have n2_ := Aside0.mk (Kd.R_below (xR HO432.out) hb); have n3_ := Aside0.mk (below_step (xb HB.out) hb); clear HO426; clear HO429; clear HO432; clear HB; have HO426 := n0_; have HO429 := n1_; have HO432 := n2_; have HB := n3_; clear n0_ n1_ n2_ n3_; (try clear hb); (try clear hb2); (try clear hk); (try clear hi)) | ((with_reducible refine gate_callee (f := 11) rfl ?_); refine goesL_ (some 29) rfl rfl Try.func11 (by kernel_rfl) rfl #[.slice A0 l0.length c0] rfl xm ?_; (with_reducible refine (laws_toIntS.calls k _ _ l0 t434 _ ?side1 ?side2 A11.out).mono ?_); (case side1 => first | exact xc (Kd.C_below HR0.out HB.out) | exact xc HR0.out); (case side2 => exact HC0.out); rintro e w32 ⟨v435, rfl, ho0, hb⟩; refine ⟨_, rfl, ?_⟩; have n0_ := Aside0.mk (Kd.R_elder' (xR HO426.out) (Kd.R_base ho0) hb); have n1_ := Aside0.mk (Kd.R_elder' (xR HO429.out) (Kd.R_base ho0) hb); have n2_ := Aside0.mk (Kd.R_elder' (xR HO432.out) (Kd.R_base ho0) hb); have n3_ := Aside0.mk (Kd.R_lower (Kd.R_new' (Kd.R_new' (Kd.R_new' ho0 (Kd.R_lt (xR HO426.out))) (Kd.R_lt (xR HO429.out))) (Kd.R_lt (xR HO432.out))) (below_size (xb HB.out))); have n4_ := Aside0.mk (below_step (xb HB.out) hb); clear HO426; clear HO429; clear HO432; clear HB; have HO426 := n0_; have HO429 := n1_; have HO432 := n2_; have HO436 := n3_; have HB := n4_; clear n0_ n1_ n2_ n3_ n4_; (try clear hb); (try clear hb2); (try clear hk); (try clear hi); (try clear ho0)) | ((with_reducible refine gate_callee (f := 11) rfl ?_); refine goesL_ (some 31) rfl rfl Try.func11 (by kernel_rfl) rfl #[.slice A1 l1.length c1] rfl xm ?_; (with_reducible refine (laws_toIntS.calls k _ _ l1 t437 _ ?side1 ?side2 A12.out).mono ?_); (case side1 => first | exact xc (Kd.C_below HR1.out HB.out) | exact xc HR1.out); (case side2 => exact HC1.out); rintro e w33 ⟨v438, rfl, ho0, hb⟩; refine ⟨_, rfl, ?_⟩; have n0_ := Aside0.mk (Kd.R_elder' (xR HO426.out) (Kd.R_base ho0) hb); have n1_ := Aside0.mk (Kd.R_elder' (xR HO429.out) (Kd.R_base ho0) hb); have n2_ := Aside0.mk (Kd.R_elder' (xR HO432.out) (Kd.R_base ho0) hb); have n3_ := Aside0.mk (Kd.R_elder' (xR HO436.out) (Kd.R_base ho0) hb); have n4_ := Aside0.mk (Kd.R_lower (Kd.R_new' (Kd.R_new' (Kd.R_new' (Kd.R_new' ho0 (Kd.R_lt (xR HO426.out))) (Kd.R_lt (xR HO429.out))) (Kd.R_lt (xR HO432.out))) (Kd.R_lt (xR HO436.out))) (below_size (xb HB.out))); have n5_ := Aside0.mk (below_step (xb HB.out) hb); clear HO426; clear HO429; clear HO432; clear HO436; clear HB; have HO426 := n0_; have HO429 := n1_; have HO432 := n2_; have HO436 := n3_; have HO439 := n4_; have HB := n5_; clear n0_ n1_ n2_ n3_ n4_ n5_; (try clear hb); (try clear hb2); (try clear hk); (try clear hi); (try clear ho0)) | ((with_reducible refine gate_callee (f := 11) rfl ?_); refine goesL_ (some 33) rfl rfl Try.func11 (by kernel_rfl) rfl #[.slice A2 l2.length c2] rfl xm ?_; (with_reducible refine (laws_toIntS.calls k _ _ l2 t440 _ ?side1 ?side2 A13.out).mono ?_); (case side1 => first | exact xc (Kd.C_below HR2.out HB.out) | exact xc HR2.out); (case side2 => exact HC2.out); rintro e w34 ⟨v441, rfl, ho0, hb⟩; refine ⟨_, rfl, ?_⟩; have n0_ := Aside0.mk (Kd.R_elder' (xR HO426.out) (Kd.R_base ho0) hb); have n1_ := Aside0.mk (Kd.R_elder' (xR HO429.out) (Kd.R_base ho0) hb); have n2_ := Aside0.mk (Kd.R_elder' (xR HO432.out) (Kd.R_base ho0) hb); have n3_ := Aside0.mk (Kd.R_elder' (xR HO436.out) (Kd.R_base ho0) hb); have n4_ := Aside0.mk (Kd.R_elder' (xR HO439.out) (Kd.R_base ho0) hb); have n5_ := Aside0.mk (Kd.R_lower (Kd.R_new' (Kd.R_new' (Kd.R_new' (Kd.R_new' (Kd.R_new' ho0 (Kd.R_lt (xR HO426.out))) (Kd.R_lt (xR HO429.out))) (Kd.R_lt (xR HO432.out))) (Kd.R_lt (xR HO436.out))) (Kd.R_lt (xR HO439.out))) (below_size (xb HB.out))); have n6_ := Aside0.mk (below_step (xb HB.out) hb); clear HO426; clear HO429; clear HO432; clear HO436; clear HO439; clear HB; have HO426 := n0_; have HO429 := n1_; have HO432 := n2_; have HO436 := n3_; have HO439 := n4_; have HO442 := n5_; have HB := n6_; clear n0_ n1_ n2_ n3_ n4_ n5_ n6_; (try clear hb); (try clear hb2); (try clear hk); (try clear hi); (try clear ho0); obtain ⟨Ao35, co35, eo35⟩ := Kd.R_slice HO436.out; subst eo35; obtain ⟨Ao36, co36, eo36⟩ := Kd.R_slice HO439.out; subst eo36; obtain ⟨Ao37, co37, eo37⟩ := Kd.R_slice HO442.out; subst eo37) | ((with_reducible refine gate_callee (f := 27) rfl ?_); refine goesL_ (some 37) rfl rfl Try.func27 (by kernel_rfl) rfl #[.slice Ao35 t434.length co35, .slice Ao36 t437.length co36, .slice Ao37 t440.length co37] rfl xm ?_; (with_reducible refine (impl_KroneckerOf.calls k (fun k_ => some k_ = (.slice Ao35 t434.length co35 : Value).ownBlock) _ _ t434 (fun k_ => some k_ = (.slice Ao36 t437.length co36 : Value).ownBlock) _ _ t437 (fun k_ => some k_ = (.slice Ao37 t440.length co37 : Value).ownBlock) _ _ t440 t443 _ ?side1 ?side2 ?side3 A14.out).mono ?_); (case side1 => exact Kd.R_V (Kd.R_tight rfl (HO436.out))); (case side2 => exact Kd.R_V (Kd.R_tight rfl (HO439.out))); (case side3 => exact Kd.R_V (Kd.R_tight rfl (HO442.out))); rintro e w38 ⟨rfl, hb⟩; refine ⟨_, rfl, ?_⟩; have n0_ := Aside0.mk (Kd.R_below (xR HO426.out) hb); have n1_ := Aside0.mk (Kd.R_below (xR HO429.out) hb); have n2_ := Aside0.mk (Kd.R_below (xR HO432.out) hb); have n3_ := Aside0.mk (Kd.R_below (xR HO436.out) hb); have n4_ := Aside0.mk (Kd.R_below (xR HO439.out) hb); have n5_ := Aside0.mk (Kd.R_below (xR HO442.out) hb); have n6_ := Aside0.mk (below_step (xb HB.out) hb); clear HO426; clear HO429; clear HO432; clear HO436; clear HO439; clear HO442; clear HB; have HO426 := n0_; have HO429 := n1_; have HO432 := n2_; have HO436 := n3_; have HO439 := n4_; have HO442 := n5_; have HB := n6_; clear n0_ n1_ n2_ n3_ n4_ n5_ n6_; (try clear hb); (try clear hb2); (try clear hk); (try clear hi)) | ((with_reducible refine gate_callee (f := 11) rfl ?_); refine goesL_ (some 43) rfl rfl Try.func11 (by kernel_rfl) rfl #[.slice A0 l0.length c0] rfl xm ?_; (with_reducible refine (laws_toIntS.calls k _ _ l0 t444 _ ?side1 ?side2 A16.out).mono ?_); (case side1 => first | exact xc (Kd.C_below HR0.out HB.out) | exact xc HR0.out); (case side2 => exact HC0.out); rintro e w39 ⟨v445, rfl, ho0, hb⟩; refine ⟨_, rfl, ?_⟩; have n0_ := Aside0.mk (Kd.R_elder' (xR HO426.out) (Kd.R_base ho0) hb); have n1_ := Aside0.mk (Kd.R_elder' (xR HO429.out) (Kd.R_base ho0) hb); have n2_ := Aside0.mk (Kd.R_elder' (xR HO432.out) (Kd.R_base ho0) hb); have n3_ := Aside0.mk (Kd.R_elder' (xR HO436.out) (Kd.R_base ho0) hb); have n4_ := Aside0.mk (Kd.R_elder' (xR HO439.out) (Kd.R_base ho0) hb); have n5_ := Aside0.mk (Kd.R_elder' (xR HO442.out) (Kd.R_base ho0) hb); have n6_ := Aside0.mk (Kd.R_lower (Kd.R_new' (Kd.R_new' (Kd.R_new' (Kd.R_new' (Kd.R_new' (Kd.R_new' ho0 (Kd.R_lt (xR HO426.out))) (Kd.R_lt (xR HO429.out))) (Kd.R_lt (xR HO432.out))) (Kd.R_lt (xR HO436.out))) (Kd.R_lt (xR HO439.out))) (Kd.R_lt (xR HO442.out))) (below_size (xb HB.out))); have n7_ := Aside0.mk (below_step (xb HB.out) hb); clear HO426; clear HO429; clear HO432; clear HO436; clear HO439; clear HO442; clear HB; have HO426 := n0_; have HO429 := n1_; have HO432 := n2_; have HO436 := n3_; have HO439 := n4_; have HO442 := n5_; have HO446 := n6_; have HB := n7_; clear n0_ n1_ n2_ n3_ n4_ n5_ n6_ n7_; (try clear hb); (try clear hb2); (try clear hk); (try clear hi); (try clear ho0); obtain ⟨Ao40, co40, eo40⟩ := Kd.R_slice HO446.out; subst eo40) | ((with_reducible refine gate_callee (f := 13) rfl ?_); refine goesL_ (some 44) rfl rfl Try.func13 (by kernel_rfl) rfl #[.slice Ao35 t434.length co35, .slice Ao40 t444.length co40] rfl xm ?_; (with_reducible refine (laws_eqIntS.calls k _ _ t434 _ _ t444 true _ ?side1 ?side2 ?side3 ?side4 A17.out).mono ?_); (case side1 => repeat (first | exact (Kd.R_reads' HO436.out).2.2 | (with_reducible refine Kd.C_alloc ?_ _) | (with_reducible refine Kd.C_drewN ?_ _) | (with_reducible refine Kd.C_drew ?_))); (case side2 => exact (Kd.R_reads' HO436.out).2.1); (case side3 => repeat (first | exact (Kd.R_reads' HO446.out).2.2 | (with_reducible refine Kd.C_alloc ?_ _) | (with_reducible refine Kd.C_drewN ?_ _) | (with_reducible refine Kd.C_drew ?_))); (case side4 => exact (Kd.R_reads' HO446.out).2.1); rintro e w' ⟨rfl, ⟨nd, rfl⟩⟩; refine ⟨_, rfl, ?_⟩) | ((with_reducible refine gate_callee (f := 11) rfl ?_); refine goesL_ (some 48) rfl rfl Try.func11 (by kernel_rfl) rfl #[.slice A1 l1.length c1] rfl xm ?_; (with_reducible refine (laws_toIntS.calls k _ _ l1 t448 _ ?side1 ?side2 A19.out).mono ?_); (case side1 => exact xc (Kd.C_below HR1.out (xb HB.out))); (case side2 => exact HC1.out); rintro e w41 ⟨v449, rfl, ho0, hb⟩; refine ⟨_, rfl, ?_⟩; have n0_ := Aside0.mk (Kd.R_elder' (xR HO426.out) (Kd.R_base ho0) hb); have n1_ := Aside0.mk (Kd.R_elder' (xR HO429.out) (Kd.R_base ho0) hb); have n2_ := Aside0.mk (Kd.R_elder' (xR HO432.out) (Kd.R_base ho0) hb); have n3_ := Aside0.mk (Kd.R_elder' (xR HO436.out) (Kd.R_base ho0) hb); have n4_ := Aside0.mk (Kd.R_elder' (xR HO439.out) (Kd.R_base ho0) hb); have n5_ := Aside0.mk (Kd.R_elder' (xR HO442.out) (Kd.R_base ho0) hb); have n6_ := Aside0.mk (Kd.R_elder' (xR HO446.out) (Kd.R_base ho0) hb); have n7_ := Aside0.mk (Kd.R_lower (Kd.R_new' (Kd.R_new' (Kd.R_new' (Kd.R_new' (Kd.R_new' (Kd.R_new' (Kd.R_new' ho0 (Kd.R_lt (xR HO426.out))) (Kd.R_lt (xR HO429.out))) (Kd.R_lt (xR HO432.out))) (Kd.R_lt (xR HO436.out))) (Kd.R_lt (xR HO439.out))) (Kd.R_lt (xR HO442.out))) (Kd.R_lt (xR HO446.out))) (below_size (xb HB.out))); have n8_ := Aside0.mk (below_step (xb HB.out) hb); clear HO426; clear HO429; clear HO432; clear HO436; clear HO439; clear HO442; clear HO446; clear HB; have HO426 := n0_; have HO429 := n1_; have HO432 := n2_; have HO436 := n3_; have HO439 := n4_; have HO442 := n5_; have HO446 := n6_; have HO450 := n7_; have HB := n8_; clear n0_ n1_ n2_ n3_ n4_ n5_ n6_ n7_ n8_; (try clear hb); (try clear hb2); (try clear hk); (try clear hi); (try clear ho0); obtain ⟨Ao42, co42, eo42⟩ := Kd.R_slice HO450.out; subst eo42) | ((with_reducible refine gate_callee (f := 13) rfl ?_); refine goesL_ (some 49) rfl rfl Try.func13 (by kernel_rfl) rfl #[.slice Ao36 t437.length co36, .slice Ao42 t448.length co42] rfl xm ?_; (with_reducible refine (laws_eqIntS.calls k _ _ t437 _ _ t448 true _ ?side1 ?side2 ?side3 ?side4 A20.out).mono ?_); (case side1 => repeat (first | exact (Kd.R_reads' HO439.out).2.2 | (with_reducible refine Kd.C_alloc ?_ _) | (with_reducible refine Kd.C_drewN ?_ _) | (with_reducible refine Kd.C_drew ?_))); (case side2 => exact (Kd.R_reads' HO439.out).2.1); (case side3 => repeat (first | exact (Kd.R_reads' HO450.out).2.2 | (with_reducible refine Kd.C_alloc ?_ _) | (with_reducible refine Kd.C_drewN ?_ _) | (with_reducible refine Kd.C_drew ?_))); (case side4 => exact (Kd.R_reads' HO450.out).2.1); rintro e w' ⟨rfl, ⟨nd, rfl⟩⟩; refine ⟨_, rfl, ?_⟩) | ((with_reducible refine gate_callee (f := 11) rfl ?_); refine goesL_ (some 53) rfl rfl Try.func11 (by kernel_rfl) rfl #[.slice A2 l2.length c2] rfl xm ?_; (with_reducible refine (laws_toIntS.calls k _ _ l2 t452 _ ?side1 ?side2 A22.out).mono ?_); (case side1 => exact xc (Kd.C_below HR2.out (xb HB.out))); (case side2 => exact HC2.out); rintro e w43 ⟨v453, rfl, ho0, hb⟩; refine ⟨_, rfl, ?_⟩; have n0_ := Aside0.mk (Kd.R_elder' (xR HO426.out) (Kd.R_base ho0) hb); have n1_ := Aside0.mk (Kd.R_elder' (xR HO429.out) (Kd.R_base ho0) hb); have n2_ := Aside0.mk (Kd.R_elder' (xR HO432.out) (Kd.R_base ho0) hb); have n3_ := Aside0.mk (Kd.R_elder' (xR HO436.out) (Kd.R_base ho0) hb); have n4_ := Aside0.mk (Kd.R_elder' (xR HO439.out) (Kd.R_base ho0) hb); have n5_ := Aside0.mk (Kd.R_elder' (xR HO442.out) (Kd.R_base ho0) hb); have n6_ := Aside0.mk (Kd.R_elder' (xR HO446.out) (Kd.R_base ho0) hb); have n7_ := Aside0.mk (Kd.R_elder' (xR HO450.out) (Kd.R_base ho0) hb); have n8_ := Aside0.mk (Kd.R_lower (Kd.R_new' (Kd.R_new' (Kd.R_new' (Kd.R_new' (Kd.R_new' (Kd.R_new' (Kd.R_new' (Kd.R_new' ho0 (Kd.R_lt (xR HO426.out))) (Kd.R_lt (xR HO429.out))) (Kd.R_lt (xR HO432.out))) (Kd.R_lt (xR HO436.out))) (Kd.R_lt (xR HO439.out))) (Kd.R_lt (xR HO442.out))) (Kd.R_lt (xR HO446.out))) (Kd.R_lt (xR HO450.out))) (below_size (xb HB.out))); have n9_ := Aside0.mk (below_step (xb HB.out) hb); clear HO426; clear HO429; clear HO432; clear HO436; clear HO439; clear HO442; clear HO446; clear HO450; clear HB; have HO426 := n0_; have HO429 := n1_; have HO432 := n2_; have HO436 := n3_; have HO439 := n4_; have HO442 := n5_; have HO446 := n6_; have HO450 := n7_; have HO454 := n8_; have HB := n9_; clear n0_ n1_ n2_ n3_ n4_ n5_ n6_ n7_ n8_ n9_; (try clear hb); (try clear hb2); (try clear hk); (try clear hi); (try clear ho0); obtain ⟨Ao44, co44, eo44⟩ := Kd.R_slice HO454.out; subst eo44) | ((with_reducible refine gate_callee (f := 13) rfl ?_); refine goesL_ (some 54) rfl rfl Try.func13 (by kernel_rfl) rfl #[.slice Ao37 t440.length co37, .slice Ao44 t452.length co44] rfl xm ?_; (with_reducible refine (laws_eqIntS.calls k _ _ t440 _ _ t452 true _ ?side1 ?side2 ?side3 ?side4 A23.out).mono ?_); (case side1 => repeat (first | exact (Kd.R_reads' HO442.out).2.2 | (with_reducible refine Kd.C_alloc ?_ _) | (with_reducible refine Kd.C_drewN ?_ _) | (with_reducible refine Kd.C_drew ?_))); (case side2 => exact (Kd.R_reads' HO442.out).2.1); (case side3 => repeat (first | exact (Kd.R_reads' HO454.out).2.2 | (with_reducible refine Kd.C_alloc ?_ _) | (with_reducible refine Kd.C_drewN ?_ _) | (with_reducible refine Kd.C_drew ?_))); (case side4 => exact (Kd.R_reads' HO454.out).2.1); rintro e w' ⟨rfl, ⟨nd, rfl⟩⟩; refine ⟨_, rfl, ?_⟩))
                go_ret
                exact ⟨by first | rfl | (simp [errW_none, errW_some] <;> rfl) | (simp [*, errW_none, errW_some] <;> rfl), by repeat (first | (with_reducible first | exact HB.out | apply below_alloc | apply pw_below_drewN | apply below_drew1) | exact HB.out)⟩
              · replace c24 := Bool.eq_false_iff.mpr c24
                subst c24
                have H1 : (some false) = some r := by rw [if_neg (show ¬ (false = true) by decide)] at H; exact H
                clear H
                have H := H1
                clear H1
                obtain rfl := Option.some.inj H
                go_enter Try.func9, Try.ntmps9
                go_wp2_with (first | ((with_reducible refine gate_callee (f := 11) rfl ?_); refine goesL_ (some 22) rfl rfl Try.func11 (by kernel_rfl) rfl #[.slice A0 l0.length c0] rfl xm ?_; (with_reducible refine (laws_toIntS.calls k _ _ l0 t424 _ ?side1 ?side2 A7.out).mono ?_); (case side1 => exact xc HR0.out); (case side2 => exact HC0.out); rintro e w45 ⟨v425, rfl, ho0, hb⟩; refine ⟨_, rfl, ?_⟩; have n0_ := Aside0.mk (Kd.R_lower ho0 (below_size (xb HB.out))); have n1_ := Aside0.mk (below_step (xb HB.out) hb); clear HB; have HO426 := n0_; have HB := n1_; clear n0_ n1_; (try clear hb); (try clear hb2); (try clear hk); (try clear hi); (try clear ho0)) | ((with_reducible refine gate_callee (f := 11) rfl ?_); refine goesL_ (some 24) rfl rfl Try.func11 (by kernel_rfl) rfl #[.slice A1 l1.length c1] rfl xm ?_; (with_reducible refine (laws_toIntS.calls k _ _ l1 t427 _ ?side1 ?side2 A8.out).mono ?_); (case side1 => first | exact xc (Kd.C_below HR1.out HB.out) | exact xc HR1.out); (case side2 => exact HC1.out); rintro e w46 ⟨v428, rfl, ho0, hb⟩; refine ⟨_, rfl, ?_⟩; have n0_ := Aside0.mk (Kd.R_elder' (xR HO426.out) (Kd.R_base ho0) hb); have n1_ := Aside0.mk (Kd.R_lower (Kd.R_new' ho0 (Kd.R_lt (xR HO426.out))) (below_size (xb HB.out))); have n2_ := Aside0.mk (below_step (xb HB.out) hb); clear HO426; clear HB; have HO426 := n0_; have HO429 := n1_; have HB := n2_; clear n0_ n1_ n2_; (try clear hb); (try clear hb2); (try clear hk); (try clear hi); (try clear ho0)) | ((with_reducible refine gate_callee (f := 11) rfl ?_); refine goesL_ (some 26) rfl rfl Try.func11 (by kernel_rfl) rfl #[.slice A2 l2.length c2] rfl xm ?_; (with_reducible refine (laws_toIntS.calls k _ _ l2 t430 _ ?side1 ?side2 A9.out).mono ?_); (case side1 => first | exact xc (Kd.C_below HR2.out HB.out) | exact xc HR2.out); (case side2 => exact HC2.out); rintro e w47 ⟨v431, rfl, ho0, hb⟩; refine ⟨_, rfl, ?_⟩; have n0_ := Aside0.mk (Kd.R_elder' (xR HO426.out) (Kd.R_base ho0) hb); have n1_ := Aside0.mk (Kd.R_elder' (xR HO429.out) (Kd.R_base ho0) hb); have n2_ := Aside0.mk (Kd.R_lower (Kd.R_new' (Kd.R_new' ho0 (Kd.R_lt (xR HO426.out))) (Kd.R_lt (xR HO429.out))) (below_size (xb HB.out))); have n3_ := Aside0.mk (below_step (xb HB.out) hb); clear HO426; clear HO429; clear HB; have HO426 := n0_; have HO429 := n1_; have HO432 := n2_; have HB := n3_; clear n0_ n1_ n2_ n3_; (try clear hb); (try clear hb2); (try clear hk); (try clear hi); (try clear ho0); obtain ⟨Ao48, co48, eo48⟩ := Kd.R_slice HO426.out; subst eo48; obtain ⟨Ao49, co49, eo49⟩ := Kd.R_slice HO429.out; subst eo49; obtain ⟨Ao50, co50, eo50⟩ := Kd.R_slice HO432.out; subst eo50) | ((with_reducible refine gate_callee (f := 26) rfl ?_); refine goesL_ (some 27) rfl rfl Try.func26 (by kernel_rfl) rfl #[.slice Ao48 t424.length co48, .slice Ao49 t427.length co49, .slice Ao50 t430.length co50] rfl xm ?_; (with_reducible refine (spec_KroneckerOf.calls k _ _ t424 _ _ t427 _ _ t430 t433 _ ?side1 ?side2 ?side3 ?side4 ?side5 ?side6 A10.out).mono ?_); (case side1 => repeat (first | exact (Kd.R_reads' HO426.out).2.2 | (with_reducible refine Kd.C_alloc ?_ _) | (with_reducible refine Kd.C_drewN ?_ _) | (with_reducible refine Kd.C_drew ?_))); (case side2 => exact (Kd.R_reads' HO426.out).2.1); (case side3 => repeat (first | exact (Kd.R_reads' HO429.out).2.2 | (with_reducible refine Kd.C_alloc ?_ _) | (with_reducible refine Kd.C_drewN ?_ _) | (with_reducible refine Kd.C_drew ?_))); (case side4 => exact (Kd.R_reads' HO429.out).2.1); (case side5 => repeat (first | exact (Kd.R_reads' HO432.out).2.2 | (with_reducible refine Kd.C_alloc ?_ _) | (with_reducible refine Kd.C_drewN ?_ _) | (with_reducible refine Kd.C_drew ?_))); (case side6 => exact (Kd.R_reads' HO432.out).2.1); rintro e w51 ⟨rfl, hb⟩; refine ⟨_, rfl, ?_⟩; have n0_ := Aside0.mk (Kd.R_below (xR HO426.out) hb); have n1_ := Aside0.mk (Kd.R_below (xR HO429.out) hb); have n2_ := Aside0.mk (Kd.R_below (xR HO432.out) hb); have n3_ := Aside0.mk (below_step (xb HB.out) hb); clear HO426; clear HO429; clear HO432; clear HB; have HO426 := n0_; have HO429 := n1_; have HO432 := n2_; have HB := n3_; clear n0_ n1_ n2_ n3_; (try clear hb); (try clear hb2); (try clear hk); (try clear hi)) | ((with_reducible refine gate_callee (f := 11) rfl ?_); refine goesL_ (some 29) rfl rfl Try.func11 (by kernel_rfl) rfl #[.slice A0 l0.length c0] rfl xm ?_; (with_reducible refine (laws_toIntS.calls k _ _ l0 t434 _ ?side1 ?side2 A11.out).mono ?_); (case side1 => first | exact xc (Kd.C_below HR0.out HB.out) | exact xc HR0.out); (case side2 => exact HC0.out); rintro e w52 ⟨v435, rfl, ho0, hb⟩; refine ⟨_, rfl, ?_⟩; have n0_ := Aside0.mk (Kd.R_elder' (xR HO426.out) (Kd.R_base ho0) hb); have n1_ := Aside0.mk (Kd.R_elder' (xR HO429.out) (Kd.R_base ho0) hb); have n2_ := Aside0.mk (Kd.R_elder' (xR HO432.out) (Kd.R_base ho0) hb); have n3_ := Aside0.mk (Kd.R_lower (Kd.R_new' (Kd.R_new' (Kd.R_new' ho0 (Kd.R_lt (xR HO426.out))) (Kd.R_lt (xR HO429.out))) (Kd.R_lt (xR HO432.out))) (below_size (xb HB.out))); have n4_ := Aside0.mk (below_step (xb HB.out) hb); clear HO426; clear HO429; clear HO432; clear HB; have HO426 := n0_; have HO429 := n1_; have HO432 := n2_; have HO436 := n3_; have HB := n4_; clear n0_ n1_ n2_ n3_ n4_; (try clear hb); (try clear hb2); (try clear hk); (try clear hi); (try clear ho0)) | ((with_reducible refine gate_callee (f := 11) rfl ?_); refine goesL_ (some 31) rfl rfl Try.func11 (by kernel_rfl) rfl #[.slice A1 l1.length c1] rfl xm ?_; (with_reducible refine (laws_toIntS.calls k _ _ l1 t437 _ ?side1 ?side2 A12.out).mono ?_); (case side1 => first | exact xc (Kd.C_below HR1.out HB.out) | exact xc HR1.out); (case side2 => exact HC1.out); rintro e w53 ⟨v438, rfl, ho0, hb⟩; refine ⟨_, rfl, ?_⟩; have n0_ := Aside0.mk (Kd.R_elder' (xR HO426.out) (Kd.R_base ho0) hb); have n1_ := Aside0.mk (Kd.R_elder' (xR HO429.out) (Kd.R_base ho0) hb); have n2_ := Aside0.mk (Kd.R_elder' (xR HO432.out) (Kd.R_base ho0) hb); have n3_ := Aside0.mk (Kd.R_elder' (xR HO436.out) (Kd.R_base ho0) hb); have n4_ := Aside0.mk (Kd.R_lower (Kd.R_new' (Kd.R_new' (Kd.R_new' (Kd.R_new' ho0 (Kd.R_lt (xR HO426.out))) (Kd.R_lt (xR HO429.out))) (Kd.R_lt (xR HO432.out))) (Kd.R_lt (xR HO436.out))) (below_size (xb HB.out))); have n5_ := Aside0.mk (below_step (xb HB.out) hb); clear HO426; clear HO429; clear HO432; clear HO436; clear HB; have HO426 := n0_; have HO429 := n1_; have HO432 := n2_; have HO436 := n3_; have HO439 := n4_; have HB := n5_; clear n0_ n1_ n2_ n3_ n4_ n5_; (try clear hb); (try clear hb2); (try clear hk); (try clear hi); (try clear ho0)) | ((with_reducible refine gate_callee (f := 11) rfl ?_); refine goesL_ (some 33) rfl rfl Try.func11 (by kernel_rfl) rfl #[.slice A2 l2.length c2] rfl xm ?_; (with_reducible refine (laws_toIntS.calls k _ _ l2 t440 _ ?side1 ?side2 A13.out).mono ?_); (case side1 => first | exact xc (Kd.C_below HR2.out HB.out) | exact xc HR2.out); (case side2 => exact HC2.out); rintro e w54 ⟨v441, rfl, ho0, hb⟩; refine ⟨_, rfl, ?_⟩; have n0_ := Aside0.mk (Kd.R_elder' (xR HO426.out) (Kd.R_base ho0) hb); have n1_ := Aside0.mk (Kd.R_elder' (xR HO429.out) (Kd.R_base ho0) hb); have n2_ := Aside0.mk (Kd.R_elder' (xR HO432.out) (Kd.R_base ho0) hb); have n3_ := Aside0.mk (Kd.R_elder' (xR HO436.out) (Kd.R_base ho0) hb); have n4_ := Aside0.mk (Kd.R_elder' (xR HO439.out) (Kd.R_base ho0) hb); have n5_ := Aside0.mk (Kd.R_lower (Kd.R_new' (Kd.R_new' (Kd.R_new' (Kd.R_new' (Kd.R_new' ho0 (Kd.R_lt (xR HO426.out))) (Kd.R_lt (xR HO429.out))) (Kd.R_lt (xR HO432.out))) (Kd.R_lt (xR HO436.out))) (Kd.R_lt (xR HO439.out))) (below_size (xb HB.out))); have n6_ := Aside0.mk (below_step (xb HB.out) hb); clear HO426; clear HO429; clear HO432; clear HO436; clear HO439; clear HB; have HO426 := n0_; have HO429 := n1_; have HO432 := n2_; have HO436 := n3_; have HO439 := n4_; have HO442 := n5_; have HB := n6_; clear n0_ n1_ n2_ n3_ n4_ n5_ n6_; (try clear hb); (try clear hb2); (try clear hk); (try clear hi); (try clear ho0); obtain ⟨Ao55, co55, eo55⟩ := Kd.R_slice HO436.out; subst eo55; obtain ⟨Ao56, co56, eo56⟩ := Kd.R_slice HO439.out; subst eo56; obtain ⟨Ao57, co57, eo57⟩ := Kd.R_slice HO442.out; subst eo57) | ((with_reducible refine gate_callee (f := 27) rfl ?_); refine goesL_ (some 37) rfl rfl Try.func27 (by kernel_rfl) rfl #[.slice Ao55 t434.length co55, .slice Ao56 t437.length co56, .slice Ao57 t440.length co57] rfl xm ?_; (with_reducible refine (impl_KroneckerOf.calls k (fun k_ => some k_ = (.slice Ao55 t434.length co55 : Value).ownBlock) _ _ t434 (fun k_ => some k_ = (.slice Ao56 t437.length co56 : Value).ownBlock) _ _ t437 (fun k_ => some k_ = (.slice Ao57 t440.length co57 : Value).ownBlock) _ _ t440 t443 _ ?side1 ?side2 ?side3 A14.out).mono ?_); (case side1 => exact Kd.R_V (Kd.R_tight rfl (HO436.out))); (case side2 => exact Kd.R_V (Kd.R_tight rfl (HO439.out))); (case side3 => exact Kd.R_V (Kd.R_tight rfl (HO442.out))); rintro e w58 ⟨rfl, hb⟩; refine ⟨_, rfl, ?_⟩; have n0_ := Aside0.mk (Kd.R_below (xR HO426.out) hb); have n1_ := Aside0.mk (Kd.R_below (xR HO429.out) hb); have n2_ := Aside0.mk (Kd.R_below (xR HO432.out) hb); have n3_ := Aside0.mk (Kd.R_below (xR HO436.out) hb); have n4_ := Aside0.mk (Kd.R_below (xR HO439.out) hb); have n5_ := Aside0.mk (Kd.R_below (xR HO442.out) hb); have n6_ := Aside0.mk (below_step (xb HB.out) hb); clear HO426; clear HO429; clear HO432; clear HO436; clear HO439; clear HO442; clear HB; have HO426 := n0_; have HO429 := n1_; have HO432 := n2_; have HO436 := n3_; have HO439 := n4_; have HO442 := n5_; have HB := n6_; clear n0_ n1_ n2_ n3_ n4_ n5_ n6_; (try clear hb); (try clear hb2); (try clear hk); (try clear hi)) | ((with_reducible refine gate_callee (f := 11) rfl ?_); refine goesL_ (some 43) rfl rfl Try.func11 (by kernel_rfl) rfl #[.slice A0 l0.length c0] rfl xm ?_; (with_reducible refine (laws_toIntS.calls k _ _ l0 t444 _ ?side1 ?side2 A16.out).mono ?_); (case side1 => first | exact xc (Kd.C_below HR0.out HB.out) | exact xc HR0.out); (case side2 => exact HC0.out); rintro e w59 ⟨v445, rfl, ho0, hb⟩; refine ⟨_, rfl, ?_⟩; have n0_ := Aside0.mk (Kd.R_elder' (xR HO426.out) (Kd.R_base ho0) hb); have n1_ := Aside0.mk (Kd.R_elder' (xR HO429.out) (Kd.R_base ho0) hb); have n2_ := Aside0.mk (Kd.R_elder' (xR HO432.out) (Kd.R_base ho0) hb); have n3_ := Aside0.mk (Kd.R_elder' (xR HO436.out) (Kd.R_base ho0) hb); have n4_ := Aside0.mk (Kd.R_elder' (xR HO439.out) (Kd.R_base ho0) hb); have n5_ := Aside0.mk (Kd.R_elder' (xR HO442.out) (Kd.R_base ho0) hb); have n6_ := Aside0.mk (Kd.R_lower (Kd.R_new' (Kd.R_new' (Kd.R_new' (Kd.R_new' (Kd.R_new' (Kd.R_new' ho0 (Kd.R_lt (xR HO426.out))) (Kd.R_lt (xR HO429.out))) (Kd.R_lt (xR HO432.out))) (Kd.R_lt (xR HO436.out))) (Kd.R_lt (xR HO439.out))) (Kd.R_lt (xR HO442.out))) (below_size (xb HB.out))); have n7_ := Aside0.mk (below_step (xb HB.out) hb); clear HO426; clear HO429; clear HO432; clear HO436; clear HO439; clear HO442; clear HB; have HO426 := n0_; have HO429 := n1_; have HO432 := n2_; have HO436 := n3_; have HO439 := n4_; have HO442 := n5_; have HO446 := n6_; have HB := n7_; clear n0_ n1_ n2_ n3_ n4_ n5_ n6_ n7_; (try clear hb); (try clear hb2); (try clear hk); (try clear hi); (try clear ho0); obtain ⟨Ao60, co60, eo60⟩ := Kd.R_slice HO446.out; subst eo60) | ((with_reducible refine gate_callee (f := 13) rfl ?_); refine goesL_ (some 44) rfl rfl Try.func13 (by kernel_rfl) rfl #[.slice Ao55 t434.length co55, .slice Ao60 t444.length co60] rfl xm ?_; (with_reducible refine (laws_eqIntS.calls k _ _ t434 _ _ t444 true _ ?side1 ?side2 ?side3 ?side4 A17.out).mono ?_); (case side1 => repeat (first | exact (Kd.R_reads' HO436.out).2.2 | (with_reducible refine Kd.C_alloc ?_ _) | (with_reducible refine Kd.C_drewN ?_ _) | (with_reducible refine Kd.C_drew ?_))); (case side2 => exact (Kd.R_reads' HO436.out).2.1); (case side3 => repeat (first | exact (Kd.R_reads' HO446.out).2.2 | (with_reducible refine Kd.C_alloc ?_ _) | (with_reducible refine Kd.C_drewN ?_ _) | (with_reducible refine Kd.C_drew ?_))); (case side4 => exact (Kd.R_reads' HO446.out).2.1); rintro e w' ⟨rfl, ⟨nd, rfl⟩⟩; refine ⟨_, rfl, ?_⟩) | ((with_reducible refine gate_callee (f := 11) rfl ?_); refine goesL_ (some 48) rfl rfl Try.func11 (by kernel_rfl) rfl #[.slice A1 l1.length c1] rfl xm ?_; (with_reducible refine (laws_toIntS.calls k _ _ l1 t448 _ ?side1 ?side2 A19.out).mono ?_); (case side1 => exact xc (Kd.C_below HR1.out (xb HB.out))); (case side2 => exact HC1.out); rintro e w61 ⟨v449, rfl, ho0, hb⟩; refine ⟨_, rfl, ?_⟩; have n0_ := Aside0.mk (Kd.R_elder' (xR HO426.out) (Kd.R_base ho0) hb); have n1_ := Aside0.mk (Kd.R_elder' (xR HO429.out) (Kd.R_base ho0) hb); have n2_ := Aside0.mk (Kd.R_elder' (xR HO432.out) (Kd.R_base ho0) hb); have n3_ := Aside0.mk (Kd.R_elder' (xR HO436.out) (Kd.R_base ho0) hb); have n4_ := Aside0.mk (Kd.R_elder' (xR HO439.out) (Kd.R_base ho0) hb); have n5_ := Aside0.mk (Kd.R_elder' (xR HO442.out) (Kd.R_base ho0) hb); have n6_ := Aside0.mk (Kd.R_elder' (xR HO446.out) (Kd.R_base ho0) hb); have n7_ := Aside0.mk (Kd.R_lower (Kd.R_new' (Kd.R_new' (Kd.R_new' (Kd.R_new' (Kd.R_new' (Kd.R_new' (Kd.R_new' ho0 (Kd.R_lt (xR HO426.out))) (Kd.R_lt (xR HO429.out))) (Kd.R_lt (xR HO432.out))) (Kd.R_lt (xR HO436.out))) (Kd.R_lt (xR HO439.out))) (Kd.R_lt (xR HO442.out))) (Kd.R_lt (xR HO446.out))) (below_size (xb HB.out))); have n8_ := Aside0.mk (below_step (xb HB.out) hb); clear HO426; clear HO429; clear HO432; clear HO436; clear HO439; clear HO442; clear HO446; clear HB; have HO426 := n0_; have HO429 := n1_; have HO432 := n2_; have HO436 := n3_; have HO439 := n4_; have HO442 := n5_; have HO446 := n6_; have HO450 := n7_; have HB := n8_; clear n0_ n1_ n2_ n3_ n4_ n5_ n6_ n7_ n8_; (try clear hb); (try clear hb2); (try clear hk); (try clear hi); (try clear ho0); obtain ⟨Ao62, co62, eo62⟩ := Kd.R_slice HO450.out; subst eo62) | ((with_reducible refine gate_callee (f := 13) rfl ?_); refine goesL_ (some 49) rfl rfl Try.func13 (by kernel_rfl) rfl #[.slice Ao56 t437.length co56, .slice Ao62 t448.length co62] rfl xm ?_; (with_reducible refine (laws_eqIntS.calls k _ _ t437 _ _ t448 true _ ?side1 ?side2 ?side3 ?side4 A20.out).mono ?_); (case side1 => repeat (first | exact (Kd.R_reads' HO439.out).2.2 | (with_reducible refine Kd.C_alloc ?_ _) | (with_reducible refine Kd.C_drewN ?_ _) | (with_reducible refine Kd.C_drew ?_))); (case side2 => exact (Kd.R_reads' HO439.out).2.1); (case side3 => repeat (first | exact (Kd.R_reads' HO450.out).2.2 | (with_reducible refine Kd.C_alloc ?_ _) | (with_reducible refine Kd.C_drewN ?_ _) | (with_reducible refine Kd.C_drew ?_))); (case side4 => exact (Kd.R_reads' HO450.out).2.1); rintro e w' ⟨rfl, ⟨nd, rfl⟩⟩; refine ⟨_, rfl, ?_⟩) | ((with_reducible refine gate_callee (f := 11) rfl ?_); refine goesL_ (some 53) rfl rfl Try.func11 (by kernel_rfl) rfl #[.slice A2 l2.length c2] rfl xm ?_; (with_reducible refine (laws_toIntS.calls k _ _ l2 t452 _ ?side1 ?side2 A22.out).mono ?_); (case side1 => exact xc (Kd.C_below HR2.out (xb HB.out))); (case side2 => exact HC2.out); rintro e w63 ⟨v453, rfl, ho0, hb⟩; refine ⟨_, rfl, ?_⟩; have n0_ := Aside0.mk (Kd.R_elder' (xR HO426.out) (Kd.R_base ho0) hb); have n1_ := Aside0.mk (Kd.R_elder' (xR HO429.out) (Kd.R_base ho0) hb); have n2_ := Aside0.mk (Kd.R_elder' (xR HO432.out) (Kd.R_base ho0) hb); have n3_ := Aside0.mk (Kd.R_elder' (xR HO436.out) (Kd.R_base ho0) hb); have n4_ := Aside0.mk (Kd.R_elder' (xR HO439.out) (Kd.R_base ho0) hb); have n5_ := Aside0.mk (Kd.R_elder' (xR HO442.out) (Kd.R_base ho0) hb); have n6_ := Aside0.mk (Kd.R_elder' (xR HO446.out) (Kd.R_base ho0) hb); have n7_ := Aside0.mk (Kd.R_elder' (xR HO450.out) (Kd.R_base ho0) hb); have n8_ := Aside0.mk (Kd.R_lower (Kd.R_new' (Kd.R_new' (Kd.R_new' (Kd.R_new' (Kd.R_new' (Kd.R_new' (Kd.R_new' (Kd.R_new' ho0 (Kd.R_lt (xR HO426.out))) (Kd.R_lt (xR HO429.out))) (Kd.R_lt (xR HO432.out))) (Kd.R_lt (xR HO436.out))) (Kd.R_lt (xR HO439.out))) (Kd.R_lt (xR HO442.out))) (Kd.R_lt (xR HO446.out))) (Kd.R_lt (xR HO450.out))) (below_size (xb HB.out))); have n9_ := Aside0.mk (below_step (xb HB.out) hb); clear HO426; clear HO429; clear HO432; clear HO436; clear HO439; clear HO442; clear HO446; clear HO450; clear HB; have HO426 := n0_; have HO429 := n1_; have HO432 := n2_; have HO436 := n3_; have HO439 := n4_; have HO442 := n5_; have HO446 := n6_; have HO450 := n7_; have HO454 := n8_; have HB := n9_; clear n0_ n1_ n2_ n3_ n4_ n5_ n6_ n7_ n8_ n9_; (try clear hb); (try clear hb2); (try clear hk); (try clear hi); (try clear ho0); obtain ⟨Ao64, co64, eo64⟩ := Kd.R_slice HO454.out; subst eo64) | ((with_reducible refine gate_callee (f := 13) rfl ?_); refine goesL_ (some 54) rfl rfl Try.func13 (by kernel_rfl) rfl #[.slice Ao57 t440.length co57, .slice Ao64 t452.length co64] rfl xm ?_; (with_reducible refine (laws_eqIntS.calls k _ _ t440 _ _ t452 false _ ?side1 ?side2 ?side3 ?side4 A23.out).mono ?_); (case side1 => repeat (first | exact (Kd.R_reads' HO442.out).2.2 | (with_reducible refine Kd.C_alloc ?_ _) | (with_reducible refine Kd.C_drewN ?_ _) | (with_reducible refine Kd.C_drew ?_))); (case side2 => exact (Kd.R_reads' HO442.out).2.1); (case side3 => repeat (first | exact (Kd.R_reads' HO454.out).2.2 | (with_reducible refine Kd.C_alloc ?_ _) | (with_reducible refine Kd.C_drewN ?_ _) | (with_reducible refine Kd.C_drew ?_))); (case side4 => exact (Kd.R_reads' HO454.out).2.1); rintro e w' ⟨rfl, ⟨nd, rfl⟩⟩; refine ⟨_, rfl, ?_⟩))
                go_ret
                exact ⟨by first | rfl | (simp [errW_none, errW_some] <;> rfl) | (simp [*, errW_none, errW_some] <;> rfl), by repeat (first | (with_reducible first | exact HB.out | apply below_alloc | apply pw_below_drewN | apply below_drew1) | exact HB.out)⟩
            · replace c21 := Bool.eq_false_iff.mpr c21
              subst c21
              have H1 : (some false) = some r := by rw [if_neg (show ¬ (false = true) by decide)] at H; exact H
              clear H
              have H := H1
              clear H1
              obtain rfl := Option.some.inj H
              go_enter Try.func9, Try.ntmps9
              go_wp2_with (first | ((with_reducible refine gate_callee (f := 11) rfl ?_); refine goesL_ (some 22) rfl rfl Try.func11 (by kernel_rfl) rfl #[.slice A0 l0.length c0] rfl xm ?_; (with_reducible refine (laws_toIntS.calls k _ _ l0 t424 _ ?side1 ?side2 A7.out).mono ?_); (case side1 => exact xc HR0.out); (case side2 => exact HC0.out); rintro e w65 ⟨v425, rfl, ho0, hb⟩; refine ⟨_, rfl, ?_⟩; have n0_ := Aside0.mk (Kd.R_lower ho0 (below_size (xb HB.out))); have n1_ := Aside0.mk (below_step (xb HB.out) hb); clear HB; have HO426 := n0_; have HB := n1_; clear n0_ n1_; (try clear hb); (try clear hb2); (try clear hk); (try clear hi); (try clear ho0)) | ((with_reducible refine gate_callee (f := 11) rfl ?_); refine goesL_ (some 24) rfl rfl Try.func11 (by kernel_rfl) rfl #[.slice A1 l1.length c1] rfl xm ?_; (with_reducible refine (laws_toIntS.calls k _ _ l1 t427 _ ?side1 ?side2 A8.out).mono ?_); (case side1 => first | exact xc (Kd.C_below HR1.out HB.out) | exact xc HR1.out); (case side2 => exact HC1.out); rintro e w66 ⟨v428, rfl, ho0, hb⟩; refine ⟨_, rfl, ?_⟩; have n0_ := Aside0.mk (Kd.R_elder' (xR HO426.out) (Kd.R_base ho0) hb); have n1_ := Aside0.mk (Kd.R_lower (Kd.R_new' ho0 (Kd.R_lt (xR HO426.out))) (below_size (xb HB.out))); have n2_ := Aside0.mk (below_step (xb HB.out) hb); clear HO426; clear HB; have HO426 := n0_; have HO429 := n1_; have HB := n2_; clear n0_ n1_ n2_; (try clear hb); (try clear hb2); (try clear hk); (try clear hi); (try clear ho0)) | ((with_reducible refine gate_callee (f := 11) rfl ?_); refine goesL_ (some 26) rfl rfl Try.func11 (by kernel_rfl) rfl #[.slice A2 l2.length c2] rfl xm ?_; (with_reducible refine (laws_toIntS.calls k _ _ l2 t430 _ ?side1 ?side2 A9.out).mono ?_); (case side1 => first | exact xc (Kd.C_below HR2.out HB.out) | exact xc HR2.out); (case side2 => exact HC2.out); rintro e w67 ⟨v431, rfl, ho0, hb⟩; refine ⟨_, rfl, ?_⟩; have n0_ := Aside0.mk (Kd.R_elder' (xR HO426.out) (Kd.R_base ho0) hb); have n1_ := Aside0.mk (Kd.R_elder' (xR HO429.out) (Kd.R_base ho0) hb); have n2_ := Aside0.mk (Kd.R_lower (Kd.R_new' (Kd.R_new' ho0 (Kd.R_lt (xR HO426.out))) (Kd.R_lt (xR HO429.out))) (below_size (xb HB.out))); have n3_ := Aside0.mk (below_step (xb HB.out) hb); clear HO426; clear HO429; clear HB; have HO426 := n0_; have HO429 := n1_; have HO432 := n2_; have HB := n3_; clear n0_ n1_ n2_ n3_; (try clear hb); (try clear hb2); (try clear hk); (try clear hi); (try clear ho0); obtain ⟨Ao68, co68, eo68⟩ := Kd.R_slice HO426.out; subst eo68; obtain ⟨Ao69, co69, eo69⟩ := Kd.R_slice HO429.out; subst eo69; obtain ⟨Ao70, co70, eo70⟩ := Kd.R_slice HO432.out; subst eo70) | ((with_reducible refine gate_callee (f := 26) rfl ?_); refine goesL_ (some 27) rfl rfl Try.func26 (by kernel_rfl) rfl #[.slice Ao68 t424.length co68, .slice Ao69 t427.length co69, .slice Ao70 t430.length co70] rfl xm ?_; (with_reducible refine (spec_KroneckerOf.calls k _ _ t424 _ _ t427 _ _ t430 t433 _ ?side1 ?side2 ?side3 ?side4 ?side5 ?side6 A10.out).mono ?_); (case side1 => repeat (first | exact (Kd.R_reads' HO426.out).2.2 | (with_reducible refine Kd.C_alloc ?_ _) | (with_reducible refine Kd.C_drewN ?_ _) | (with_reducible refine Kd.C_drew ?_))); (case side2 => exact (Kd.R_reads' HO426.out).2.1); (case side3 => repeat (first | exact (Kd.R_reads' HO429.out).2.2 | (with_reducible refine Kd.C_alloc ?_ _) | (with_reducible refine Kd.C_drewN ?_ _) | (with_reducible refine Kd.C_drew ?_))); (case side4 => exact (Kd.R_reads' HO429.out).2.1); (case side5 => repeat (first | exact (Kd.R_reads' HO432.out).2.2 | (with_reducible refine Kd.C_alloc ?_ _) | (with_reducible refine Kd.C_drewN ?_ _) | (with_reducible refine Kd.C_drew ?_))); (case side6 => exact (Kd.R_reads' HO432.out).2.1); rintro e w71 ⟨rfl, hb⟩; refine ⟨_, rfl, ?_⟩; have n0_ := Aside0.mk (Kd.R_below (xR HO426.out) hb); have n1_ := Aside0.mk (Kd.R_below (xR HO429.out) hb); have n2_ := Aside0.mk (Kd.R_below (xR HO432.out) hb); have n3_ := Aside0.mk (below_step (xb HB.out) hb); clear HO426; clear HO429; clear HO432; clear HB; have HO426 := n0_; have HO429 := n1_; have HO432 := n2_; have HB := n3_; clear n0_ n1_ n2_ n3_; (try clear hb); (try clear hb2); (try clear hk); (try clear hi)) | ((with_reducible refine gate_callee (f := 11) rfl ?_); refine goesL_ (some 29) rfl rfl Try.func11 (by kernel_rfl) rfl #[.slice A0 l0.length c0] rfl xm ?_; (with_reducible refine (laws_toIntS.calls k _ _ l0 t434 _ ?side1 ?side2 A11.out).mono ?_); (case side1 => first | exact xc (Kd.C_below HR0.out HB.out) | exact xc HR0.out); (case side2 => exact HC0.out); rintro e w72 ⟨v435, rfl, ho0, hb⟩; refine ⟨_, rfl, ?_⟩; have n0_ := Aside0.mk (Kd.R_elder' (xR HO426.out) (Kd.R_base ho0) hb); have n1_ := Aside0.mk (Kd.R_elder' (xR HO429.out) (Kd.R_base ho0) hb); have n2_ := Aside0.mk (Kd.R_elder' (xR HO432.out) (Kd.R_base ho0) hb); have n3_ := Aside0.mk (Kd.R_lower (Kd.R_new' (Kd.R_new' (Kd.R_new' ho0 (Kd.R_lt (xR HO426.out))) (Kd.R_lt (xR HO429.out))) (Kd.R_lt (xR HO432.out))) (below_size (xb HB.out))); have n4_ := Aside0.mk (below_step (xb HB.out) hb); clear HO426; clear HO429; clear HO432; clear HB; have HO426 := n0_; have HO429 := n1_; have HO432 := n2_; have HO436 := n3_; have HB := n4_; clear n0_ n1_ n2_ n3_ n4_; (try clear hb); (try clear hb2); (try clear hk); (try clear hi); (try clear ho0)) | ((with_reducible refine gate_callee (f := 11) rfl ?_); refine goesL_ (some 31) rfl rfl Try.func11 (by kernel_rfl) rfl #[.slice A1 l1.length c1] rfl xm ?_; (with_reducible refine (laws_toIntS.calls k _ _ l1 t437 _ ?side1 ?side2 A12.out).mono ?_); (case side1 => first | exact xc (Kd.C_below HR1.out HB.out) | exact xc HR1.out); (case side2 => exact HC1.out); rintro e w73 ⟨v438, rfl, ho0, hb⟩; refine ⟨_, rfl, ?_⟩; have n0_ := Aside0.mk (Kd.R_elder' (xR HO426.out) (Kd.R_base ho0) hb); have n1_ := Aside0.mk (Kd.R_elder' (xR HO429.out) (Kd.R_base ho0) hb); have n2_ := Aside0.mk (Kd.R_elder' (xR HO432.out) (Kd.R_base ho0) hb); have n3_ := Aside0.mk (Kd.R_elder' (xR HO436.out) (Kd.R_base ho0) hb); have n4_ := Aside0.mk (Kd.R_lower (Kd.R_new' (Kd.R_new' (Kd.R_new' (Kd.R_new' ho0 (Kd.R_lt (xR HO426.out))) (Kd.R_lt (xR HO429.out))) (Kd.R_lt (xR HO432.out))) (Kd.R_lt (xR HO436.out))) (below_size (xb HB.out))); have n5_ := Aside0.mk (below_step (xb HB.out) hb); clear HO426; clear HO429; clear HO432; clear HO436; clear HB; have HO426 := n0_; have HO429 := n1_; have HO432 := n2_; have HO436 := n3_; have HO439 := n4_; have HB := n5_; clear n0_ n1_ n2_ n3_ n4_ n5_; (try clear hb); (try clear hb2); (try clear hk); (try clear hi); (try clear ho0)) | ((with_reducible refine gate_callee (f := 11) rfl ?_); refine goesL_ (some 33) rfl rfl Try.func11 (by kernel_rfl) rfl #[.slice A2 l2.length c2] rfl xm ?_; (with_reducible refine (laws_toIntS.calls k _ _ l2 t440 _ ?side1 ?side2 A13.out).mono ?_); (case side1 => first | exact xc (Kd.C_below HR2.out HB.out) | exact xc HR2.out); (case side2 => exact HC2.out); rintro e w74 ⟨v441, rfl, ho0, hb⟩; refine ⟨_, rfl, ?_⟩; have n0_ := Aside0.mk (Kd.R_elder' (xR HO426.out) (Kd.R_base ho0) hb); have n1_ := Aside0.mk (Kd.R_elder' (xR HO429.out) (Kd.R_base ho0) hb); have n2_ := Aside0.mk (Kd.R_elder' (xR HO432.out) (Kd.R_base ho0) hb); have n3_ := Aside0.mk (Kd.R_elder' (xR HO436.out) (Kd.R_base ho0) hb); have n4_ := Aside0.mk (Kd.R_elder' (xR HO439.out) (Kd.R_base ho0) hb); have n5_ := Aside0.mk (Kd.R_lower (Kd.R_new' (Kd.R_new' (Kd.R_new' (Kd.R_new' (Kd.R_new' ho0 (Kd.R_lt (xR HO426.out))) (Kd.R_lt (xR HO429.out))) (Kd.R_lt (xR HO432.out))) (Kd.R_lt (xR HO436.out))) (Kd.R_lt (xR HO439.out))) (below_size (xb HB.out))); have n6_ := Aside0.mk (below_step (xb HB.out) hb); clear HO426; clear HO429; clear HO432; clear HO436; clear HO439; clear HB; have HO426 := n0_; have HO429 := n1_; have HO432 := n2_; have HO436 := n3_; have HO439 := n4_; have HO442 := n5_; have HB := n6_; clear n0_ n1_ n2_ n3_ n4_ n5_ n6_; (try clear hb); (try clear hb2); (try clear hk); (try clear hi); (try clear ho0); obtain ⟨Ao75, co75, eo75⟩ := Kd.R_slice HO436.out; subst eo75; obtain ⟨Ao76, co76, eo76⟩ := Kd.R_slice HO439.out; subst eo76; obtain ⟨Ao77, co77, eo77⟩ := Kd.R_slice HO442.out; subst eo77) | ((with_reducible refine gate_callee (f := 27) rfl ?_); refine goesL_ (some 37) rfl rfl Try.func27 (by kernel_rfl) rfl #[.slice Ao75 t434.length co75, .slice Ao76 t437.length co76, .slice Ao77 t440.length co77] rfl xm ?_; (with_reducible refine (impl_KroneckerOf.calls k (fun k_ => some k_ = (.slice Ao75 t434.length co75 : Value).ownBlock) _ _ t434 (fun k_ => some k_ = (.slice Ao76 t437.length co76 : Value).ownBlock) _ _ t437 (fun k_ => some k_ = (.slice Ao77 t440.length co77 : Value).ownBlock) _ _ t440 t443 _ ?side1 ?side2 ?side3 A14.out).mono ?_); (case side1 => exact Kd.R_V (Kd.R_tight rfl (HO436.out))); (case side2 => exact Kd.R_V (Kd.R_tight rfl (HO439.out))); (case side3 => exact Kd.R_V (Kd.R_tight rfl (HO442.out))); rintro e w78 ⟨rfl, hb⟩; refine ⟨_, rfl, ?_⟩; have n0_ := Aside0.mk (Kd.R_below (xR HO426.out) hb); have n1_ := Aside0.mk (Kd.R_below (xR HO429.out) hb); have n2_ := Aside0.mk (Kd.R_below (xR HO432.out) hb); have n3_ := Aside0.mk (Kd.R_below (xR HO436.out) hb); have n4_ := Aside0.mk (Kd.R_below (xR HO439.out) hb); have n5_ := Aside0.mk (Kd.R_below (xR HO442.out) hb); have n6_ := Aside0.mk (below_step (xb HB.out) hb); clear HO426; clear HO429; clear HO432; clear HO436; clear HO439; clear HO442; clear HB; have HO426 := n0_; have HO429 := n1_; have HO432 := n2_; have HO436 := n3_; have HO439 := n4_; have HO442 := n5_; have HB := n6_; clear n0_ n1_ n2_ n3_ n4_ n5_ n6_; (try clear hb); (try clear hb2); (try clear hk); (try clear hi)) | ((with_reducible refine gate_callee (f := 11) rfl ?_); refine goesL_ (some 43) rfl rfl Try.func11 (by kernel_rfl) rfl #[.slice A0 l0.length c0] rfl xm ?_; (with_reducible refine (laws_toIntS.calls k _ _ l0 t444 _ ?side1 ?side2 A16.out).mono ?_); (case side1 => first | exact xc (Kd.C_below HR0.out HB.out) | exact xc HR0.out); (case side2 => exact HC0.out); rintro e w79 ⟨v445, rfl, ho0, hb⟩; refine ⟨_, rfl, ?_⟩; have n0_ := Aside0.mk (Kd.R_elder' (xR HO426.out) (Kd.R_base ho0) hb); have n1_ := Aside0.mk (Kd.R_elder' (xR HO429.out) (Kd.R_base ho0) hb); have n2_ := Aside0.mk (Kd.R_elder' (xR HO432.out) (Kd.R_base ho0) hb); have n3_ := Aside0.mk (Kd.R_elder' (xR HO436.out) (Kd.R_base ho0) hb); have n4_ := Aside0.mk (Kd.R_elder' (xR HO439.out) (Kd.R_base ho0) hb); have n5_ := Aside0.mk (Kd.R_elder' (xR HO442.out) (Kd.R_base ho0) hb); have n6_ := Aside0.mk (Kd.R_lower (Kd.R_new' (Kd.R_new' (Kd.R_new' (Kd.R_new' (Kd.R_new' (Kd.R_new' ho0 (Kd.R_lt (xR HO426.out))) (Kd.R_lt (xR HO429.out))) (Kd.R_lt (xR HO432.out))) (Kd.R_lt (xR HO436.out))) (Kd.R_lt (xR HO439.out))) (Kd.R_lt (xR HO442.out))) (below_size (xb HB.out))); have n7_ := Aside0.mk (below_step (xb HB.out) hb); clear HO426; clear HO429; clear HO432; clear HO436; clear HO439; clear HO442; clear HB; have HO426 := n0_; have HO429 := n1_; have HO432 := n2_; have HO436 := n3_; have HO439 := n4_; have HO442 := n5_; have HO446 := n6_; have HB := n7_; clear n0_ n1_ n2_ n3_ n4_ n5_ n6_ n7_; (try clear hb); (try clear hb2); (try clear hk); (try clear hi); (try clear ho0); obtain ⟨Ao80, co80, eo80⟩ := Kd.R_slice HO446.out; subst eo80) | ((with_reducible refine gate_callee (f := 13) rfl ?_); refine goesL_ (some 44) rfl rfl Try.func13 (by kernel_rfl) rfl #[.slice Ao75 t434.length co75, .slice Ao80 t444.length co80] rfl xm ?_; (with_reducible refine (laws_eqIntS.calls k _ _ t434 _ _ t444 true _ ?side1 ?side2 ?side3 ?side4 A17.out).mono ?_); (case side1 => repeat (first | exact (Kd.R_reads' HO436.out).2.2 | (with_reducible refine Kd.C_alloc ?_ _) | (with_reducible refine Kd.C_drewN ?_ _) | (with_reducible refine Kd.C_drew ?_))); (case side2 => exact (Kd.R_reads' HO436.out).2.1); (case side3 => repeat (first | exact (Kd.R_reads' HO446.out).2.2 | (with_reducible refine Kd.C_alloc ?_ _) | (with_reducible refine Kd.C_drewN ?_ _) | (with_reducible refine Kd.C_drew ?_))); (case side4 => exact (Kd.R_reads' HO446.out).2.1); rintro e w' ⟨rfl, ⟨nd, rfl⟩⟩; refine ⟨_, rfl, ?_⟩) | ((with_reducible refine gate_callee (f := 11) rfl ?_); refine goesL_ (some 48) rfl rfl Try.func11 (by kernel_rfl) rfl #[.slice A1 l1.length c1] rfl xm ?_; (with_reducible refine (laws_toIntS.calls k _ _ l1 t448 _ ?side1 ?side2 A19.out).mono ?_); (case side1 => exact xc (Kd.C_below HR1.out (xb HB.out))); (case side2 => exact HC1.out); rintro e w81 ⟨v449, rfl, ho0, hb⟩; refine ⟨_, rfl, ?_⟩; have n0_ := Aside0.mk (Kd.R_elder' (xR HO426.out) (Kd.R_base ho0) hb); have n1_ := Aside0.mk (Kd.R_elder' (xR HO429.out) (Kd.R_base ho0) hb); have n2_ := Aside0.mk (Kd.R_elder' (xR HO432.out) (Kd.R_base ho0) hb); have n3_ := Aside0.mk (Kd.R_elder' (xR HO436.out) (Kd.R_base ho0) hb); have n4_ := Aside0.mk (Kd.R_elder' (xR HO439.out) (Kd.R_base ho0) hb); have n5_ := Aside0.mk (Kd.R_elder' (xR HO442.out) (Kd.R_base ho0) hb); have n6_ := Aside0.mk (Kd.R_elder' (xR HO446.out) (Kd.R_base ho0) hb); have n7_ := Aside0.mk (Kd.R_lower (Kd.R_new' (Kd.R_new' (Kd.R_new' (Kd.R_new' (Kd.R_new' (Kd.R_new' (Kd.R_new' ho0 (Kd.R_lt (xR HO426.out))) (Kd.R_lt (xR HO429.out))) (Kd.R_lt (xR HO432.out))) (Kd.R_lt (xR HO436.out))) (Kd.R_lt (xR HO439.out))) (Kd.R_lt (xR HO442.out))) (Kd.R_lt (xR HO446.out))) (below_size (xb HB.out))); have n8_ := Aside0.mk (below_step (xb HB.out) hb); clear HO426; clear HO429; clear HO432; clear HO436; clear HO439; clear HO442; clear HO446; clear HB; have HO426 := n0_; have HO429 := n1_; have HO432 := n2_; have HO436 := n3_; have HO439 := n4_; have HO442 := n5_; have HO446 := n6_; have HO450 := n7_; have HB := n8_; clear n0_ n1_ n2_ n3_ n4_ n5_ n6_ n7_ n8_; (try clear hb); (try clear hb2); (try clear hk); (try clear hi); (try clear ho0); obtain ⟨Ao82, co82, eo82⟩ := Kd.R_slice HO450.out; subst eo82) | ((with_reducible refine gate_callee (f := 13) rfl ?_); refine goesL_ (some 49) rfl rfl Try.func13 (by kernel_rfl) rfl #[.slice Ao76 t437.length co76, .slice Ao82 t448.length co82] rfl xm ?_; (with_reducible refine (laws_eqIntS.calls k _ _ t437 _ _ t448 false _ ?side1 ?side2 ?side3 ?side4 A20.out).mono ?_); (case side1 => repeat (first | exact (Kd.R_reads' HO439.out).2.2 | (with_reducible refine Kd.C_alloc ?_ _) | (with_reducible refine Kd.C_drewN ?_ _) | (with_reducible refine Kd.C_drew ?_))); (case side2 => exact (Kd.R_reads' HO439.out).2.1); (case side3 => repeat (first | exact (Kd.R_reads' HO450.out).2.2 | (with_reducible refine Kd.C_alloc ?_ _) | (with_reducible refine Kd.C_drewN ?_ _) | (with_reducible refine Kd.C_drew ?_))); (case side4 => exact (Kd.R_reads' HO450.out).2.1); rintro e w' ⟨rfl, ⟨nd, rfl⟩⟩; refine ⟨_, rfl, ?_⟩))
              go_ret
              exact ⟨by first | rfl | (simp [errW_none, errW_some] <;> rfl) | (simp [*, errW_none, errW_some] <;> rfl), by repeat (first | (with_reducible first | exact HB.out | apply below_alloc | apply pw_below_drewN | apply below_drew1) | exact HB.out)⟩
          · replace c18 := Bool.eq_false_iff.mpr c18
            subst c18
            have H1 : (some false) = some r := by rw [if_neg (show ¬ (false = true) by decide)] at H; exact H
            clear H
            have H := H1
            clear H1
            obtain rfl := Option.some.inj H
            go_enter Try.func9, Try.ntmps9
            go_wp2_with (first | ((with_reducible refine gate_callee (f := 11) rfl ?_); refine goesL_ (some 22) rfl rfl Try.func11 (by kernel_rfl) rfl #[.slice A0 l0.length c0] rfl xm ?_; (with_reducible refine (laws_toIntS.calls k _ _ l0 t424 _ ?side1 ?side2 A7.out).mono ?_); (case side1 => exact xc HR0.out); (case side2 => exact HC0.out); rintro e w83 ⟨v425, rfl, ho0, hb⟩; refine ⟨_, rfl, ?_⟩; have n0_ := Aside0.mk (Kd.R_lower ho0 (below_size (xb HB.out))); have n1_ := Aside0.mk (below_step (xb HB.out) hb); clear HB; have HO426 := n0_; have HB := n1_; clear n0_ n1_; (try clear hb); (try clear hb2); (try clear hk); (try clear hi); (try clear ho0)) | ((with_reducible refine gate_callee (f := 11) rfl ?_); refine goesL_ (some 24) rfl rfl Try.func11 (by kernel_rfl) rfl #[.slice A1 l1.length c1] rfl xm ?_; (with_reducible refine (laws_toIntS.calls k _ _ l1 t427 _ ?side1 ?side2 A8.out).mono ?_); (case side1 => first | exact xc (Kd.C_below HR1.out HB.out) | exact xc HR1.out); (case side2 => exact HC1.out); rintro e w84 ⟨v428, rfl, ho0, hb⟩; refine ⟨_, rfl, ?_⟩; have n0_ := Aside0.mk (Kd.R_elder' (xR HO426.out) (Kd.R_base ho0) hb); have n1_ := Aside0.mk (Kd.R_lower (Kd.R_new' ho0 (Kd.R_lt (xR HO426.out))) (below_size (xb HB.out))); have n2_ := Aside0.mk (below_step (xb HB.out) hb); clear HO426; clear HB; have HO426 := n0_; have HO429 := n1_; have HB := n2_; clear n0_ n1_ n2_; (try clear hb); (try clear hb2); (try clear hk); (try clear hi); (try clear ho0)) | ((with_reducible refine gate_callee (f := 11) rfl ?_); refine goesL_ (some 26) rfl rfl Try.func11 (by kernel_rfl) rfl #[.slice A2 l2.length c2] rfl xm ?_; (with_reducible refine (laws_toIntS.calls k _ _ l2 t430 _ ?side1 ?side2 A9.out).mono ?_); (case side1 => first | exact xc (Kd.C_below HR2.out HB.out) | exact xc HR2.out); (case side2 => exact HC2.out); rintro e w85 ⟨v431, rfl, ho0, hb⟩; refine ⟨_, rfl, ?_⟩; have n0_ := Aside0.mk (Kd.R_elder' (xR HO426.out) (Kd.R_base ho0) hb); have n1_ := Aside0.mk (Kd.R_elder' (xR HO429.out) (Kd.R_base ho0) hb); have n2_ := Aside0.mk (Kd.R_lower (Kd.R_new' (Kd.R_new' ho0 (Kd.R_lt (xR HO426.out))) (Kd.R_lt (xR HO429.out))) (below_size (xb HB.out))); have n3_ := Aside0.mk (below_step (xb HB.out) hb); clear HO426; clear HO429; clear HB; have HO426 := n0_; have HO429 := n1_; have HO432 := n2_; have HB := n3_; clear n0_ n1_ n2_ n3_; (try clear hb); (try clear hb2); (try clear hk); (try clear hi); (try clear ho0); obtain ⟨Ao86, co86, eo86⟩ := Kd.R_slice HO426.out; subst eo86; obtain ⟨Ao87, co87, eo87⟩ := Kd.R_slice HO429.out; subst eo87; obtain ⟨Ao88, co88, eo88⟩ := Kd.R_slice HO432.out; subst eo88) | ((with_reducible refine gate_callee (f := 26) rfl ?_); refine goesL_ (some 27) rfl rfl Try.func26 (by kernel_rfl) rfl #[.slice Ao86 t424.length co86, .slice Ao87 t427.length co87, .slice Ao88 t430.length co88] rfl xm ?_; (with_reducible refine (spec_KroneckerOf.calls k _ _ t424 _ _ t427 _ _ t430 t433 _ ?side1 ?side2 ?side3 ?side4 ?side5 ?side6 A10.out).mono ?_); (case side1 => repeat (first | exact (Kd.R_reads' HO426.out).2.2 | (with_reducible refine Kd.C_alloc ?_ _) | (with_reducible refine Kd.C_drewN ?_ _) | (with_reducible refine Kd.C_drew ?_))); (case side2 => exact (Kd.R_reads' HO426.out).2.1); (case side3 => repeat (first | exact (Kd.R_reads' HO429.out).2.2 | (with_reducible refine Kd.C_alloc ?_ _) | (with_reducible refine Kd.C_drewN ?_ _) | (with_reducible refine Kd.C_drew ?_))); (case side4 => exact (Kd.R_reads' HO429.out).2.1); (case side5 => repeat (first | exact (Kd.R_reads' HO432.out).2.2 | (with_reducible refine Kd.C_alloc ?_ _) | (with_reducible refine Kd.C_drewN ?_ _) | (with_reducible refine Kd.C_drew ?_))); (case side6 => exact (Kd.R_reads' HO432.out).2.1); rintro e w89 ⟨rfl, hb⟩; refine ⟨_, rfl, ?_⟩; have n0_ := Aside0.mk (Kd.R_below (xR HO426.out) hb); have n1_ := Aside0.mk (Kd.R_below (xR HO429.out) hb); have n2_ := Aside0.mk (Kd.R_below (xR HO432.out) hb); have n3_ := Aside0.mk (below_step (xb HB.out) hb); clear HO426; clear HO429; clear HO432; clear HB; have HO426 := n0_; have HO429 := n1_; have HO432 := n2_; have HB := n3_; clear n0_ n1_ n2_ n3_; (try clear hb); (try clear hb2); (try clear hk); (try clear hi)) | ((with_reducible refine gate_callee (f := 11) rfl ?_); refine goesL_ (some 29) rfl rfl Try.func11 (by kernel_rfl) rfl #[.slice A0 l0.length c0] rfl xm ?_; (with_reducible refine (laws_toIntS.calls k _ _ l0 t434 _ ?side1 ?side2 A11.out).mono ?_); (case side1 => first | exact xc (Kd.C_below HR0.out HB.out) | exact xc HR0.out); (case side2 => exact HC0.out); rintro e w90 ⟨v435, rfl, ho0, hb⟩; refine ⟨_, rfl, ?_⟩; have n0_ := Aside0.mk (Kd.R_elder' (xR HO426.out) (Kd.R_base ho0) hb); have n1_ := Aside0.mk (Kd.R_elder' (xR HO429.out) (Kd.R_base ho0) hb); have n2_ := Aside0.mk (Kd.R_elder' (xR HO432.out) (Kd.R_base ho0) hb); have n3_ := Aside0.mk (Kd.R_lower (Kd.R_new' (Kd.R_new' (Kd.R_new' ho0 (Kd.R_lt (xR HO426.out))) (Kd.R_lt (xR HO429.out))) (Kd.R_lt (xR HO432.out))) (below_size (xb HB.out))); have n4_ := Aside0.mk (below_step (xb HB.out) hb); clear HO426; clear HO429; clear HO432; clear HB; have HO426 := n0_; have HO429 := n1_; have HO432 := n2_; have HO436 := n3_; have HB := n4_; clear n0_ n1_ n2_ n3_ n4_; (try clear hb); (try clear hb2); (try clear hk); (try clear hi); (try clear ho0)) | ((with_reducible refine gate_callee (f := 11) rfl ?_); refine goesL_ (some 31) rfl rfl Try.func11 (by kernel_rfl) rfl #[.slice A1 l1.length c1] rfl xm ?_; (with_reducible refine (laws_toIntS.calls k _ _ l1 t437 _ ?side1 ?side2 A12.out).mono ?_); (case side1 => first | exact xc (Kd.C_below HR1.out HB.out) | exact xc HR1.out); (case side2 => exact HC1.out); rintro e w91 ⟨v438, rfl, ho0, hb⟩; refine ⟨_, rfl, ?_⟩; have n0_ := Aside0.mk (Kd.R_elder' (xR HO426.out) (Kd.R_base ho0) hb); have n1_ := Aside0.mk (Kd.R_elder' (xR HO429.out) (Kd.R_base ho0) hb); have n2_ := Aside0.mk (Kd.R_elder' (xR HO432.out) (Kd.R_base ho0) hb); have n3_ := Aside0.mk (Kd.R_elder' (xR HO436.out) (Kd.R_base ho0) hb); have n4_ := Aside0.mk (Kd.R_lower (Kd.R_new' (Kd.R_new' (Kd.R_new' (Kd.R_new' ho0 (Kd.R_lt (xR HO426.out))) (Kd.R_lt (xR HO429.out))) (Kd.R_lt (xR HO432.out))) (Kd.R_lt (xR HO436.out))) (below_size (xb HB.out))); have n5_ := Aside0.mk (below_step (xb HB.out) hb); clear HO426; clear HO429; clear HO432; clear HO436; clear HB; have HO426 := n0_; have HO429 := n1_; have HO432 := n2_; have HO436 := n3_; have HO439 := n4_; have HB := n5_; clear n0_ n1_ n2_ n3_ n4_ n5_; (try clear hb); (try clear hb2); (try clear hk); (try clear hi); (try clear ho0)) | ((with_reducible refine gate_callee (f := 11) rfl ?_); refine goesL_ (some 33) rfl rfl Try.func11 (by kernel_rfl) rfl #[.slice A2 l2.length c2] rfl xm ?_; (with_reducible refine (laws_toIntS.calls k _ _ l2 t440 _ ?side1 ?side2 A13.out).mono ?_); (case side1 => first | exact xc (Kd.C_below HR2.out HB.out) | exact xc HR2.out); (case side2 => exact HC2.out); rintro e w92 ⟨v441, rfl, ho0, hb⟩; refine ⟨_, rfl, ?_⟩; have n0_ := Aside0.mk (Kd.R_elder' (xR HO426.out) (Kd.R_base ho0) hb); have n1_ := Aside0.mk (Kd.R_elder' (xR HO429.out) (Kd.R_base ho0) hb); have n2_ := Aside0.mk (Kd.R_elder' (xR HO432.out) (Kd.R_base ho0) hb); have n3_ := Aside0.mk (Kd.R_elder' (xR HO436.out) (Kd.R_base ho0) hb); have n4_ := Aside0.mk (Kd.R_elder' (xR HO439.out) (Kd.R_base ho0) hb); have n5_ := Aside0.mk (Kd.R_lower (Kd.R_new' (Kd.R_new' (Kd.R_new' (Kd.R_new' (Kd.R_new' ho0 (Kd.R_lt (xR HO426.out))) (Kd.R_lt (xR HO429.out))) (Kd.R_lt (xR HO432.out))) (Kd.R_lt (xR HO436.out))) (Kd.R_lt (xR HO439.out))) (below_size (xb HB.out))); have n6_ := Aside0.mk (below_step (xb HB.out) hb); clear HO426; clear HO429; clear HO432; clear HO436; clear HO439; clear HB; have HO426 := n0_; have HO429 := n1_; have HO432 := n2_; have HO436 := n3_; have HO439 := n4_; have HO442 := n5_; have HB := n6_; clear n0_ n1_ n2_ n3_ n4_ n5_ n6_; (try clear hb); (try clear hb2); (try clear hk); (try clear hi); (try clear ho0); obtain ⟨Ao93, co93, eo93⟩ := Kd.R_slice HO436.out; subst eo93; obtain ⟨Ao94, co94, eo94⟩ := Kd.R_slice HO439.out; subst eo94; obtain ⟨Ao95, co95, eo95⟩ := Kd.R_slice HO442.out; subst eo95) | ((with_reducible refine gate_callee (f := 27) rfl ?_); refine goesL_ (some 37) rfl rfl Try.func27 (by kernel_rfl) rfl #[.slice Ao93 t434.length co93, .slice Ao94 t437.length co94, .slice Ao95 t440.length co95] rfl xm ?_; (with_reducible refine (impl_KroneckerOf.calls k (fun k_ => some k_ = (.slice Ao93 t434.length co93 : Value).ownBlock) _ _ t434 (fun k_ => some k_ = (.slice Ao94 t437.length co94 : Value).ownBlock) _ _ t437 (fun k_ => some k_ = (.slice Ao95 t440.length co95 : Value).ownBlock) _ _ t440 t443 _ ?side1 ?side2 ?side3 A14.out).mono ?_); (case side1 => exact Kd.R_V (Kd.R_tight rfl (HO436.out))); (case side2 => exact Kd.R_V (Kd.R_tight rfl (HO439.out))); (case side3 => exact Kd.R_V (Kd.R_tight rfl (HO442.out))); rintro e w96 ⟨rfl, hb⟩; refine ⟨_, rfl, ?_⟩; have n0_ := Aside0.mk (Kd.R_below (xR HO426.out) hb); have n1_ := Aside0.mk (Kd.R_below (xR HO429.out) hb); have n2_ := Aside0.mk (Kd.R_below (xR HO432.out) hb); have n3_ := Aside0.mk (Kd.R_below (xR HO436.out) hb); have n4_ := Aside0.mk (Kd.R_below (xR HO439.out) hb); have n5_ := Aside0.mk (Kd.R_below (xR HO442.out) hb); have n6_ := Aside0.mk (below_step (xb HB.out) hb); clear HO426; clear HO429; clear HO432; clear HO436; clear HO439; clear HO442; clear HB; have HO426 := n0_; have HO429 := n1_; have HO432 := n2_; have HO436 := n3_; have HO439 := n4_; have HO442 := n5_; have HB := n6_; clear n0_ n1_ n2_ n3_ n4_ n5_ n6_; (try clear hb); (try clear hb2); (try clear hk); (try clear hi)) | ((with_reducible refine gate_callee (f := 11) rfl ?_); refine goesL_ (some 43) rfl rfl Try.func11 (by kernel_rfl) rfl #[.slice A0 l0.length c0] rfl xm ?_; (with_reducible refine (laws_toIntS.calls k _ _ l0 t444 _ ?side1 ?side2 A16.out).mono ?_); (case side1 => first | exact xc (Kd.C_below HR0.out HB.out) | exact xc HR0.out); (case side2 => exact HC0.out); rintro e w97 ⟨v445, rfl, ho0, hb⟩; refine ⟨_, rfl, ?_⟩; have n0_ := Aside0.mk (Kd.R_elder' (xR HO426.out) (Kd.R_base ho0) hb); have n1_ := Aside0.mk (Kd.R_elder' (xR HO429.out) (Kd.R_base ho0) hb); have n2_ := Aside0.mk (Kd.R_elder' (xR HO432.out) (Kd.R_base ho0) hb); have n3_ := Aside0.mk (Kd.R_elder' (xR HO436.out) (Kd.R_base ho0) hb); have n4_ := Aside0.mk (Kd.R_elder' (xR HO439.out) (Kd.R_base ho0) hb); have n5_ := Aside0.mk (Kd.R_elder' (xR HO442.out) (Kd.R_base ho0) hb); have n6_ := Aside0.mk (Kd.R_lower (Kd.R_new' (Kd.R_new' (Kd.R_new' (Kd.R_new' (Kd.R_new' (Kd.R_new' ho0 (Kd.R_lt (xR HO426.out))) (Kd.R_lt (xR HO429.out))) (Kd.R_lt (xR HO432.out))) (Kd.R_lt (xR HO436.out))) (Kd.R_lt (xR HO439.out))) (Kd.R_lt (xR HO442.out))) (below_size (xb HB.out))); have n7_ := Aside0.mk (below_step (xb HB.out) hb); clear HO426; clear HO429; clear HO432; clear HO436; clear HO439; clear HO442; clear HB; have HO426 := n0_; have HO429 := n1_; have HO432 := n2_; have HO436 := n3_; have HO439 := n4_; have HO442 := n5_; have HO446 := n6_; have HB := n7_; clear n0_ n1_ n2_ n3_ n4_ n5_ n6_ n7_; (try clear hb); (try clear hb2); (try clear hk); (try clear hi); (try clear ho0); obtain ⟨Ao98, co98, eo98⟩ := Kd.R_slice HO446.out; subst eo98) | ((with_reducible refine gate_callee (f := 13) rfl ?_); refine goesL_ (some 44) rfl rfl Try.func13 (by kernel_rfl) rfl #[.slice Ao93 t434.length co93, .slice Ao98 t444.length co98] rfl xm ?_; (with_reducible refine (laws_eqIntS.calls k _ _ t434 _ _ t444 false _ ?side1 ?side2 ?side3 ?side4 A17.out).mono ?_); (case side1 => repeat (first | exact (Kd.R_reads' HO436.out).2.2 | (with_reducible refine Kd.C_alloc ?_ _) | (with_reducible refine Kd.C_drewN ?_ _) | (with_reducible refine Kd.C_drew ?_))); (case side2 => exact (Kd.R_reads' HO436.out).2.1); (case side3 => repeat (first | exact (Kd.R_reads' HO446.out).2.2 | (with_reducible refine Kd.C_alloc ?_ _) | (with_reducible refine Kd.C_drewN ?_ _) | (with_reducible refine Kd.C_drew ?_))); (case side4 => exact (Kd.R_reads' HO446.out).2.1); rintro e w' ⟨rfl, ⟨nd, rfl⟩⟩; refine ⟨_, rfl, ?_⟩))
            go_ret
            exact ⟨by first | rfl | (simp [errW_none, errW_some] <;> rfl) | (simp [*, errW_none, errW_some] <;> rfl), by repeat (first | (with_reducible first | exact HB.out | apply below_alloc | apply pw_below_drewN | apply below_drew1) | exact HB.out)⟩
        · rw [if_neg c15] at H
          have c15b0 : (t443 == t433) = false := beq_eq_false_iff_ne.mpr c15
          have c15b1 : (t443 != t433) = true := bne_iff_ne.mpr c15
          obtain rfl := Option.some.inj H
          go_enter Try.func9, Try.ntmps9
          go_wp2_with (first | ((with_reducible refine gate_callee (f := 11) rfl ?_); refine goesL_ (some 22) rfl rfl Try.func11 (by kernel_rfl) rfl #[.slice A0 l0.length c0] rfl xm ?_; (with_reducible refine (laws_toIntS.calls k _ _ l0 t424 _ ?side1 ?side2 A7.out).mono ?_); (case side1 => exact xc HR0.out); (case side2 => exact HC0.out); rintro e w99 ⟨v425, rfl, ho0, hb⟩; refine ⟨_, rfl, ?_⟩; have n0_ := Aside0.mk (Kd.R_lower ho0 (below_size (xb HB.out))); have n1_ := Aside0.mk (below_step (xb HB.out) hb); clear HB; have HO426 := n0_; have HB := n1_; clear n0_ n1_; (try clear hb); (try clear hb2); (try clear hk); (try clear hi); (try clear ho0)) | ((with_reducible refine gate_callee (f := 11) rfl ?_); refine goesL_ (some 24) rfl rfl Try.func11 (by kernel_rfl) rfl #[.slice A1 l1.length c1] rfl xm ?_; (with_reducible refine (laws_toIntS.calls k _ _ l1 t427 _ ?side1 ?side2 A8.out).mono ?_); (case side1 => first | exact xc (Kd.C_below HR1.out HB.out) | exact xc HR1.out); (case side2 => exact HC1.out); rintro e w100 ⟨v428, rfl, ho0, hb⟩; refine ⟨_, rfl, ?_⟩; have n0_ := Aside0.mk (Kd.R_elder' (xR HO426.out) (Kd.R_base ho0) hb); have n1_ := Aside0.mk (Kd.R_lower (Kd.R_new' ho0 (Kd.R_lt (xR HO426.out))) (below_size (xb HB.out))); have n2_ := Aside0.mk (below_step (xb HB.out) hb); clear HO426; clear HB; have HO426 := n0_; have HO429 := n1_; have HB := n2_; clear n0_ n1_ n2_; (try clear hb); (try clear hb2); (try clear hk); (try clear hi); (try clear ho0)) | ((with_reducible refine gate_callee (f := 11) rfl ?_); refine goesL_ (some 26) rfl rfl Try.func11 (by kernel_rfl) rfl #[.slice A2 l2.length c2] rfl xm ?_; (with_reducible refine (laws_toIntS.calls k _ _ l2 t430 _ ?side1 ?side2 A9.out).mono ?_); (case side1 => first | exact xc (Kd.C_below HR2.out HB.out) | exact xc HR2.out); (case side2 => exact HC2.out); rintro e w101 ⟨v431, rfl, ho0, hb⟩; refine ⟨_, rfl, ?_⟩; have n0_ := Aside0.mk (Kd.R_elder' (xR HO426.out) (Kd.R_base ho0) hb); have n1_ := Aside0.mk (Kd.R_elder' (xR HO429.out) (Kd.R_base ho0) hb); have n2_ := Aside0.mk (Kd.R_lower (Kd.R_new' (Kd.R_new' ho0 (Kd.R_lt (xR HO426.out))) (Kd.R_lt (xR HO429.out))) (below_size (xb HB.out))); have n3_ := Aside0.mk (below_step (xb HB.out) hb); clear HO426; clear HO429; clear HB; have HO426 := n0_; have HO429 := n1_; have HO432 := n2_; have HB := n3_; clear n0_ n1_ n2_ n3_; (try clear hb); (try clear hb2); (try clear hk); (try clear hi); (try clear ho0); obtain ⟨Ao102, co102, eo102⟩ := Kd.R_slice HO426.out; subst eo102; obtain ⟨Ao103, co103, eo103⟩ := Kd.R_slice HO429.out; subst eo103; obtain ⟨Ao104, co104, eo104⟩ := Kd.R_slice HO432.out; subst eo104) | ((with_reducible refine gate_callee (f := 26) rfl ?_); refine goesL_ (some 27) rfl rfl Try.func26 (by kernel_rfl) rfl #[.slice Ao102 t424.length co102, .slice Ao103 t427.length co103, .slice Ao104 t430.length co104] rfl xm ?_; (with_reducible refine (spec_KroneckerOf.calls k _ _ t424 _ _ t427 _ _ t430 t433 _ ?side1 ?side2 ?side3 ?side4 ?side5 ?side6 A10.out).mono ?_); (case side1 => repeat (first | exact (Kd.R_reads' HO426.out).2.2 | (with_reducible refine Kd.C_alloc ?_ _) | (with_reducible refine Kd.C_drewN ?_ _) | (with_reducible refine Kd.C_drew ?_))); (case side2 => exact (Kd.R_reads' HO426.out).2.1); (case side3 => repeat (first | exact (Kd.R_reads' HO429.out).2.2 | (with_reducible refine Kd.C_alloc ?_ _) | (with_reducible refine Kd.C_drewN ?_ _) | (with_reducible refine Kd.C_drew ?_))); (case side4 => exact (Kd.R_reads' HO429.out).2.1); (case side5 => repeat (first | exact (Kd.R_reads' HO432.out).2.2 | (with_reducible refine Kd.C_alloc ?_ _) | (with_reducible refine Kd.C_drewN ?_ _) | (with_reducible refine Kd.C_drew ?_))); (case side6 => exact (Kd.R_reads' HO432.out).2.1); rintro e w105 ⟨rfl, hb⟩; refine ⟨_, rfl, ?_⟩; have n0_ := Aside0.mk (Kd.R_below (xR HO426.out) hb); have n1_ := Aside0.mk (Kd.R_below (xR HO429.out) hb); have n2_ := Aside0.mk (Kd.R_below (xR HO432.out) hb); have n3_ := Aside0.mk (below_step (xb HB.out) hb); clear HO426; clear HO429; clear HO432; clear HB; have HO426 := n0_; have HO429 := n1_; have HO432 := n2_; have HB := n3_; clear n0_ n1_ n2_ n3_; (try clear hb); (try clear hb2); (try clear hk); (try clear hi)) | ((with_reducible refine gate_callee (f := 11) rfl ?_); refine goesL_ (some 29) rfl rfl Try.func11 (by kernel_rfl) rfl #[.slice A0 l0.length c0] rfl xm ?_; (with_reducible refine (laws_toIntS.calls k _ _ l0 t434 _ ?side1 ?side2 A11.out).mono ?_); (case side1 => first | exact xc (Kd.C_below HR0.out HB.out) | exact xc HR0.out); (case side2 => exact HC0.out); rintro e w106 ⟨v435, rfl, ho0, hb⟩; refine ⟨_, rfl, ?_⟩; have n0_ := Aside0.mk (Kd.R_elder' (xR HO426.out) (Kd.R_base ho0) hb); have n1_ := Aside0.mk (Kd.R_elder' (xR HO429.out) (Kd.R_base ho0) hb); have n2_ := Aside0.mk (Kd.R_elder' (xR HO432.out) (Kd.R_base ho0) hb); have n3_ := Aside0.mk (Kd.R_lower (Kd.R_new' (Kd.R_new' (Kd.R_new' ho0 (Kd.R_lt (xR HO426.out))) (Kd.R_lt (xR HO429.out))) (Kd.R_lt (xR HO432.out))) (below_size (xb HB.out))); have n4_ := Aside0.mk (below_step (xb HB.out) hb); clear HO426; clear HO429; clear HO432; clear HB; have HO426 := n0_; have HO429 := n1_; have HO432 := n2_; have HO436 := n3_; have HB := n4_; clear n0_ n1_ n2_ n3_ n4_; (try clear hb); (try clear hb2); (try clear hk); (try clear hi); (try clear ho0)) | ((with_reducible refine gate_callee (f := 11) rfl ?_); refine goesL_ (some 31) rfl rfl Try.func11 (by kernel_rfl) rfl #[.slice A1 l1.length c1] rfl xm ?_; (with_reducible refine (laws_toIntS.calls k _ _ l1 t437 _ ?side1 ?side2 A12.out).mono ?_); (case side1 => first | exact xc (Kd.C_below HR1.out HB.out) | exact xc HR1.out); (case side2 => exact HC1.out); rintro e w107 ⟨v438, rfl, ho0, hb⟩; refine ⟨_, rfl, ?_⟩; have n0_ := Aside0.mk (Kd.R_elder' (xR HO426.out) (Kd.R_base ho0) hb); have n1_ := Aside0.mk (Kd.R_elder' (xR HO429.out) (Kd.R_base ho0) hb); have n2_ := Aside0.mk (Kd.R_elder' (xR HO432.out) (Kd.R_base ho0) hb); have n3_ := Aside0.mk (Kd.R_elder' (xR HO436.out) (Kd.R_base ho0) hb); have n4_ := Aside0.mk (Kd.R_lower (Kd.R_new' (Kd.R_new' (Kd.R_new' (Kd.R_new' ho0 (Kd.R_lt (xR HO426.out))) (Kd.R_lt (xR HO429.out))) (Kd.R_lt (xR HO432.out))) (Kd.R_lt (xR HO436.out))) (below_size (xb HB.out))); have n5_ := Aside0.mk (below_step (xb HB.out) hb); clear HO426; clear HO429; clear HO432; clear HO436; clear HB; have HO426 := n0_; have HO429 := n1_; have HO432 := n2_; have HO436 := n3_; have HO439 := n4_; have HB := n5_; clear n0_ n1_ n2_ n3_ n4_ n5_; (try clear hb); (try clear hb2); (try clear hk); (try clear hi); (try clear ho0)) | ((with_reducible refine gate_callee (f := 11) rfl ?_); refine goesL_ (some 33) rfl rfl Try.func11 (by kernel_rfl) rfl #[.slice A2 l2.length c2] rfl xm ?_; (with_reducible refine (laws_toIntS.calls k _ _ l2 t440 _ ?side1 ?side2 A13.out).mono ?_); (case side1 => first | exact xc (Kd.C_below HR2.out HB.out) | exact xc HR2.out); (case side2 => exact HC2.out); rintro e w108 ⟨v441, rfl, ho0, hb⟩; refine ⟨_, rfl, ?_⟩; have n0_ := Aside0.mk (Kd.R_elder' (xR HO426.out) (Kd.R_base ho0) hb); have n1_ := Aside0.mk (Kd.R_elder' (xR HO429.out) (Kd.R_base ho0) hb); have n2_ := Aside0.mk (Kd.R_elder' (xR HO432.out) (Kd.R_base ho0) hb); have n3_ := Aside0.mk (Kd.R_elder' (xR HO436.out) (Kd.R_base ho0) hb); have n4_ := Aside0.mk (Kd.R_elder' (xR HO439.out) (Kd.R_base ho0) hb); have n5_ := Aside0.mk (Kd.R_lower (Kd.R_new' (Kd.R_new' (Kd.R_new' (Kd.R_new' (Kd.R_new' ho0 (Kd.R_lt (xR HO426.out))) (Kd.R_lt (xR HO429.out))) (Kd.R_lt (xR HO432.out))) (Kd.R_lt (xR HO436.out))) (Kd.R_lt (xR HO439.out))) (below_size (xb HB.out))); have n6_ := Aside0.mk (below_step (xb HB.out) hb); clear HO426; clear HO429; clear HO432; clear HO436; clear HO439; clear HB; have HO426 := n0_; have HO429 := n1_; have HO432 := n2_; have HO436 := n3_; have HO439 := n4_; have HO442 := n5_; have HB := n6_; clear n0_ n1_ n2_ n3_ n4_ n5_ n6_; (try clear hb); (try clear hb2); (try clear hk); (try clear hi); (try clear ho0); obtain ⟨Ao109, co109, eo109⟩ := Kd.R_slice HO436.out; subst eo109; obtain ⟨Ao110, co110, eo110⟩ := Kd.R_slice HO439.out; subst eo110; obtain ⟨Ao111, co111, eo111⟩ := Kd.R_slice HO442.out; subst eo111) | ((with_reducible refine gate_callee (f := 27) rfl ?_); refine goesL_ (some 37) rfl rfl Try.func27 (by kernel_rfl) rfl #[.slice Ao109 t434.length co109, .slice Ao110 t437.length co110, .slice Ao111 t440.length co111] rfl xm ?_; (with_reducible refine (impl_KroneckerOf.calls k (fun k_ => some k_ = (.slice Ao109 t434.length co109 : Value).ownBlock) _ _ t434 (fun k_ => some k_ = (.slice Ao110 t437.length co110 : Value).ownBlock) _ _ t437 (fun k_ => some k_ = (.slice Ao111 t440.length co111 : Value).ownBlock) _ _ t440 t443 _ ?side1 ?side2 ?side3 A14.out).mono ?_); (case side1 => exact Kd.R_V (Kd.R_tight rfl (HO436.out))); (case side2 => exact Kd.R_V (Kd.R_tight rfl (HO439.out))); (case side3 => exact Kd.R_V (Kd.R_tight rfl (HO442.out))); rintro e w112 ⟨rfl, hb⟩; refine ⟨_, rfl, ?_⟩; have n0_ := Aside0.mk (Kd.R_below (xR HO426.out) hb); have n1_ := Aside0.mk (Kd.R_below (xR HO429.out) hb); have n2_ := Aside0.mk (Kd.R_below (xR HO432.out) hb); have n3_ := Aside0.mk (Kd.R_below (xR HO436.out) hb); have n4_ := Aside0.mk (Kd.R_below (xR HO439.out) hb); have n5_ := Aside0.mk (Kd.R_below (xR HO442.out) hb); have n6_ := Aside0.mk (below_step (xb HB.out) hb); clear HO426; clear HO429; clear HO432; clear HO436; clear HO439; clear HO442; clear HB; have HO426 := n0_; have HO429 := n1_; have HO432 := n2_; have HO436 := n3_; have HO439 := n4_; have HO442 := n5_; have HB := n6_; clear n0_ n1_ n2_ n3_ n4_ n5_ n6_; (try clear hb); (try clear hb2); (try clear hk); (try clear hi)))
          go_ret
          exact ⟨by first | rfl | (simp [errW_none, errW_some] <;> rfl) | (simp [*, errW_none, errW_some] <;> rfl), by repeat (first | (with_reducible first | exact HB.out | apply below_alloc | apply pw_below_drewN | apply below_drew1) | exact HB.out)⟩

/-- THE ONE PURE STATEMENT of laws_FnExactKroneckerOf: yours. -/
def laws_FnExactKroneckerOf.Pure : Prop := ∀ (l0 : List Int) (l1 : List Int) (l2 : List Int), l0.length ≤ maxLen → l0.length * 8 ≤ 140737488351232 → (∀ x ∈ l0, (Lit.int .i64 x).wf = true) → l1.length ≤ maxLen → l1.length * 8 ≤ 140737488351232 → (∀ x ∈ l1, (Lit.int .i64 x).wf = true) → l2.length ≤ maxLen → l2.length * 8 ≤ 140737488351232 → (∀ x ∈ l2, (Lit.int .i64 x).wf = true) → ∃ k, laws_FnExactKroneckerOf.f k l0 l1 l2 = some true
theorem laws_FnExactKroneckerOf.walk (P : laws_FnExactKroneckerOf.Pure) (a0 : Option Addr) (len0 cap0 : Nat) (z0 : List Int) (a1 : Option Addr) (len1 cap1 : Nat) (z1 : List Int) (a2 : Option Addr) (len2 cap2 : Nat) (z2 : List Int) (w : World) (w0 : (a0 = none ∧ len0 = 0 ∧ cap0 = 0 ∧ z0 = []) ∨ ∃ x, a0 = some x ∧ len0 ≤ cap0 ∧ cap0 ≤ maxLen ∧ z0.length = cap0 ∧ (∀ i, i < z0.length → w.cell? (x.add i) = some (.int .i64 (z0.getD i 0))) ∧ ∀ n ∈ z0, (Lit.int .i64 n).wf = true) (y0 : len0 * 8 ≤ 140737488351232) (w1 : (a1 = none ∧ len1 = 0 ∧ cap1 = 0 ∧ z1 = []) ∨ ∃ x, a1 = some x ∧ len1 ≤ cap1 ∧ cap1 ≤ maxLen ∧ z1.length = cap1 ∧ (∀ i, i < z1.length → w.cell? (x.add i) = some (.int .i64 (z1.getD i 0))) ∧ ∀ n ∈ z1, (Lit.int .i64 n).wf = true) (y1 : len1 * 8 ≤ 140737488351232) (w2 : (a2 = none ∧ len2 = 0 ∧ cap2 = 0 ∧ z2 = []) ∨ ∃ x, a2 = some x ∧ len2 ≤ cap2 ∧ cap2 ≤ maxLen ∧ z2.length = cap2 ∧ (∀ i, i < z2.length → w.cell? (x.add i) = some (.int .i64 (z2.getD i 0))) ∧ ∀ n ∈ z2, (Lit.int .i64 n).wf = true) (y2 : len2 * 8 ≤ 140737488351232) :
    Calls Try.prog 9 #[.slice a0 len0 cap0, .slice a1 len1 cap1, .slice a2 len2 cap2] w fun e w' => e = .returned (.bool true) ∧ Below w.heap.size w w' := by
  obtain ⟨l0, rfl, hr0, hm0, hw0, hc0⟩ := ReadsInt.ofRowC w0
  obtain ⟨l1, rfl, hr1, hm1, hw1, hc1⟩ := ReadsInt.ofRowC w1
  obtain ⟨l2, rfl, hr2, hm2, hw2, hc2⟩ := ReadsInt.ofRowC w2
  obtain ⟨k, h⟩ := P l0 l1 l2 hm0 y0 hw0 hm1 y1 hw1 hm2 y2 hw2
  refine (laws_FnExactKroneckerOf.calls k _ _ l0 _ _ l1 _ _ l2 true w (Kd.C_of_reads (d := (0 : Int)) (h1 := fun _ => rfl) hr0) hc0 (Kd.C_of_reads (d := (0 : Int)) (h1 := fun _ => rfl) hr1) hc1 (Kd.C_of_reads (d := (0 : Int)) (h1 := fun _ => rfl) hr2) hc2 h).mono ?_
  rintro e w' ⟨rfl, hd⟩
  exact ⟨rfl, hd⟩

end Go.Proofs.Ytojjokhfmgomcaa.PFnExactKroneckerOf
