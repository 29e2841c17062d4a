-- Written by a program of this session (wip/print/xprint.py).
import Derived.Test.YtojjokhfmgomcaaPFnExactPairingOfx0
import Derived.Test.YtojjokhfmgomcaaPFnExactPairingOfx1
import Derived.Test.YtojjokhfmgomcaaPFnExactPairingOfx10
import Derived.Test.YtojjokhfmgomcaaPFnExactPairingOfx11
import Derived.Test.YtojjokhfmgomcaaPFnExactPairingOfx15
import Derived.Test.YtojjokhfmgomcaaPFnExactPairingOfx16
namespace Go.Proofs.Ytojjokhfmgomcaa.PFnExactPairingOf
open Go.RowKit Go.Proofs.YtojjokhfmgomcaaW.PrintWords Go.Proofs.YtojjokhfmgomcaaW.PrintLast Go.Proofs.YtojjokhfmgomcaaW.PrintMore
attribute [local go_sem] max2_int min2_int max_two min_two max_three min_three max_four min_four   -- for this text's walks alone
set_option linter.unusedVariables false
set_option linter.unusedSimpArgs false

/-! ### impl_classSum: function 44 -/
mutual
def impl_classSum.l0 : Nat → List (List Int) → Int → List (List Int) → Int → Int → Option (Int)
  | 0, _, _, _, _, _ => none
  | k + 1, x0, x3, x16, x17, x18 => if x18 < x17 then (if 0 ≤ x18 then (if x18 < (x16.length : Int) then ((impl_SizeOf.f k (rd_L1 x16 x18)).bind fun t405 => (if t405 = x3 then ((impl_within.f x3 0 6).bind fun t406 => (if t406 = true then (impl_classSum.l0 k x0 x3 x16 x17 (wrap64 (x18 + 1))) else (some 0))) else (some 0))) else (none)) else (none)) else ((impl_PartitionsOf.f k x3).bind fun t407 => (impl_classSum.l1 k x0 x3 0 t407 (t407.length : Int) 0))
def impl_classSum.l1 : Nat → List (List Int) → Int → Int → List (List Int) → Int → Int → Option (Int)
  | 0, _, _, _, _, _, _ => none
  | k + 1, x0, x3, x6, x33, x34, x35 => if x35 < x34 then (if 0 ≤ x35 then (if x35 < (x33.length : Int) then ((impl_ClassSize.f k (rd_L1 x33 x35)).bind fun t412 => (impl_classSum.l2 k x0 x3 x6 (rd_L1 x33 x35) t412 x33 x34 x35 x0 (x0.length : Int) 0)) else (none)) else (none)) else ((impl_factorial.f k x3).bind fun t410 => (if t410 = 0 then (none) else (some (wrap64 (Int.tdiv x6 t410)))))
def impl_classSum.l2 : Nat → List (List Int) → Int → Int → List Int → Int → List (List Int) → Int → Int → List (List Int) → Int → Int → Option (Int)
  | 0, _, _, _, _, _, _, _, _, _, _, _ => none
  | k + 1, x0, x3, x6, x8, x9, x33, x34, x35, x41, x42, x43 => if x43 < x42 then (if 0 ≤ x43 then (if x43 < (x41.length : Int) then ((impl_CharacterOf.f k (rd_L1 x41 x43) x8).bind fun t414 => (impl_classSum.l2 k x0 x3 x6 x8 (wrap64 (x9 * t414)) x33 x34 x35 x41 x42 (wrap64 (x43 + 1)))) else (none)) else (none)) else (impl_classSum.l1 k x0 x3 (wrap64 (x6 + x9)) x33 x34 (wrap64 (x35 + 1)))
end
def impl_classSum.f (k : Nat) (l0 : List (List Int)) : Option (Int) := if 0 < (l0.length : Int) then ((impl_SizeOf.f k (rd_L1 l0 0)).bind fun t403 => (impl_classSum.l0 k l0 t403 l0 (l0.length : Int) 0)) else (none)
theorem impl_classSum.mono_l : ∀ k, (∀ y0 y1 y2 y3 y4, LeO (impl_classSum.l0 k y0 y1 y2 y3 y4) (impl_classSum.l0 (k + 1) y0 y1 y2 y3 y4)) ∧ (∀ y0 y1 y2 y3 y4 y5, LeO (impl_classSum.l1 k y0 y1 y2 y3 y4 y5) (impl_classSum.l1 (k + 1) y0 y1 y2 y3 y4 y5)) ∧ (∀ y0 y1 y2 y3 y4 y5 y6 y7 y8 y9 y10, LeO (impl_classSum.l2 k y0 y1 y2 y3 y4 y5 y6 y7 y8 y9 y10) (impl_classSum.l2 (k + 1) y0 y1 y2 y3 y4 y5 y6 y7 y8 y9 y10))
  | 0 => ⟨fun _ _ _ _ _ r h => by simp [impl_classSum.l0] at h, fun _ _ _ _ _ _ r h => by simp [impl_classSum.l1] at h, fun _ _ _ _ _ _ _ _ _ _ _ r h => by simp [impl_classSum.l2] at h⟩
  | k + 1 => by
    obtain ⟨ih0, ih1, ih2⟩ := impl_classSum.mono_l k
    refine ⟨?_, ?_, ?_⟩
    · intro y0 y1 y2 y3 y4
      unfold impl_classSum.l0
      repeat' first
      | (with_reducible exact ih0 _ _ _ _ _)
      | (with_reducible exact ih1 _ _ _ _ _ _)
      | (with_reducible exact ih2 _ _ _ _ _ _ _ _ _ _ _)
      | (with_reducible exact impl_CharacterOf.mono _ _ _)
      | (with_reducible exact impl_ClassSize.mono _ _)
      | (with_reducible exact impl_PartitionsOf.mono _ _)
      | (with_reducible exact impl_SizeOf.mono _ _)
      | (with_reducible exact impl_factorial.mono _ _)
      | (with_reducible exact LeO.refl _)
      | (with_reducible exact LeO.none _)
      | (with_reducible refine LeO.ite ?_ ?_)
      | (with_reducible refine LeO.bind ?_ (fun _ => ?_))
      | exact ih0 _ _ _ _ _
      | exact ih1 _ _ _ _ _ _
      | exact ih2 _ _ _ _ _ _ _ _ _ _ _
      | exact impl_CharacterOf.mono _ _ _
      | exact impl_ClassSize.mono _ _
      | exact impl_PartitionsOf.mono _ _
      | exact impl_SizeOf.mono _ _
      | exact impl_factorial.mono _ _
      | exact LeO.none _
      | refine LeO.ite ?_ ?_
      | refine LeO.bind ?_ (fun _ => ?_)
    · intro y0 y1 y2 y3 y4 y5
      unfold impl_classSum.l1
      repeat' first
      | (with_reducible exact ih0 _ _ _ _ _)
      | (with_reducible exact ih1 _ _ _ _ _ _)
      | (with_reducible exact ih2 _ _ _ _ _ _ _ _ _ _ _)
      | (with_reducible exact impl_CharacterOf.mono _ _ _)
      | (with_reducible exact impl_ClassSize.mono _ _)
      | (with_reducible exact impl_PartitionsOf.mono _ _)
      | (with_reducible exact impl_SizeOf.mono _ _)
      | (with_reducible exact impl_factorial.mono _ _)
      | (with_reducible exact LeO.refl _)
      | (with_reducible exact LeO.none _)
      | (with_reducible refine LeO.ite ?_ ?_)
      | (with_reducible refine LeO.bind ?_ (fun _ => ?_))
      | exact ih0 _ _ _ _ _
      | exact ih1 _ _ _ _ _ _
      | exact ih2 _ _ _ _ _ _ _ _ _ _ _
      | exact impl_CharacterOf.mono _ _ _
      | exact impl_ClassSize.mono _ _
      | exact impl_PartitionsOf.mono _ _
      | exact impl_SizeOf.mono _ _
      | exact impl_factorial.mono _ _
      | exact LeO.none _
      | refine LeO.ite ?_ ?_
      | refine LeO.bind ?_ (fun _ => ?_)
    · intro y0 y1 y2 y3 y4 y5 y6 y7 y8 y9 y10
      unfold impl_classSum.l2
      repeat' first
      | (with_reducible exact ih0 _ _ _ _ _)
      | (with_reducible exact ih1 _ _ _ _ _ _)
      | (with_reducible exact ih2 _ _ _ _ _ _ _ _ _ _ _)
      | (with_reducible exact impl_CharacterOf.mono _ _ _)
      | (with_reducible exact impl_ClassSize.mono _ _)
      | (with_reducible exact impl_PartitionsOf.mono _ _)
      | (with_reducible exact impl_SizeOf.mono _ _)
      | (with_reducible exact impl_factorial.mono _ _)
      | (with_reducible exact LeO.refl _)
      | (with_reducible exact LeO.none _)
      | (with_reducible refine LeO.ite ?_ ?_)
      | (with_reducible refine LeO.bind ?_ (fun _ => ?_))
      | exact ih0 _ _ _ _ _
      | exact ih1 _ _ _ _ _ _
      | exact ih2 _ _ _ _ _ _ _ _ _ _ _
      | exact impl_CharacterOf.mono _ _ _
      | exact impl_ClassSize.mono _ _
      | exact impl_PartitionsOf.mono _ _
      | exact impl_SizeOf.mono _ _
      | exact impl_factorial.mono _ _
      | exact LeO.none _
      | refine LeO.ite ?_ ?_
      | refine LeO.bind ?_ (fun _ => ?_)
theorem impl_classSum.mono : ∀ a0 k, LeO (impl_classSum.f k a0) (impl_classSum.f (k + 1) a0) := by
  intro a0 k
  obtain ⟨ih0, ih1, ih2⟩ := impl_classSum.mono_l k
  unfold impl_classSum.f
  repeat' first
      | (with_reducible exact ih0 _ _ _ _ _)
      | (with_reducible exact ih1 _ _ _ _ _ _)
      | (with_reducible exact ih2 _ _ _ _ _ _ _ _ _ _ _)
      | (with_reducible exact impl_CharacterOf.mono _ _ _)
      | (with_reducible exact impl_ClassSize.mono _ _)
      | (with_reducible exact impl_PartitionsOf.mono _ _)
      | (with_reducible exact impl_SizeOf.mono _ _)
      | (with_reducible exact impl_factorial.mono _ _)
      | (with_reducible exact LeO.refl _)
      | (with_reducible exact LeO.none _)
      | (with_reducible refine LeO.ite ?_ ?_)
      | (with_reducible refine LeO.bind ?_ (fun _ => ?_))
      | exact ih0 _ _ _ _ _
      | exact ih1 _ _ _ _ _ _
      | exact ih2 _ _ _ _ _ _ _ _ _ _ _
      | exact impl_CharacterOf.mono _ _ _
      | exact impl_ClassSize.mono _ _
      | exact impl_PartitionsOf.mono _ _
      | exact impl_SizeOf.mono _ _
      | exact impl_factorial.mono _ _
      | exact LeO.none _
      | refine LeO.ite ?_ ?_
      | refine LeO.bind ?_ (fun _ => ?_)
set_option maxHeartbeats 8000000 in
set_option maxRecDepth 100000 in
theorem impl_classSum.calls (k : Nat) (A0 : Option Addr) (c0 : Nat) (l0 : List (List Int)) (r : Int) (w : World) (hr0 : Kd.C (Kd.slice 3 (Kd.int .i64)) w A0 l0.length l0) (hc0 : l0.length ≤ c0) (h : impl_classSum.f k l0 = some r) :
    Calls Try.prog 44 #[.slice A0 l0.length c0] w fun e w' => e = .returned (.int .i64 r) ∧ Below w.heap.size w w' := by
  have HR0 := Aside0.mk hr0
  have HC0 := Aside0.mk hc0
  clear hr0 hc0
  have HB := Aside0.mk (Below.refl w.heap.size w)
  have H : (if 0 < (l0.length : Int) then ((impl_SizeOf.f k (rd_L1 l0 0)).bind fun t403 => (impl_classSum.l0 k l0 t403 l0 (l0.length : Int) 0)) else (none)) = some r := h
  clear h
  by_cases c2 : 0 < (l0.length : Int)
  · rw [if_pos c2] at H
    have c2b0 : decide (0 < (l0.length : Int)) = true := decide_eq_true c2
    have c2b1 : decide (0 < l0.length) = true := decide_eq_true (by omega)
    clear c2
    replace H := Option.bind_eq_some_iff.mp H
    obtain ⟨t403, A30, H⟩ := H
    replace H : (impl_classSum.l0 k l0 t403 l0 (l0.length : Int) 0) = some r := H
    have A3 := Aside0.mk A30
    clear A30
    have H' := Aside0.mk H
    clear H
    have p402 : 0 ≤ (0 : Int) := (by omega)
    have q402 : 0 < (l0.length : Int) := of_decide_eq_true (by first | (with_reducible assumption) | assumption)
    obtain ⟨ad402, A402_0, c402_0, e402, hx402_0, hl402_0, hi402_0⟩ := at_L1 HR0.out 0 p402 q402
    cases e402
    have qi402 : (0 < l0.length) = True := eq_true (by omega)
    (try rw [show ((0 : Int)).toNat = 0 from rfl] at hx402_0)
    (try rw [Addr.add_zero'] at hx402_0)
    have HR402_0 := Aside0.mk hi402_0
    have HC402_0 := Aside0.mk hl402_0
    clear hi402_0 hl402_0
    replace p402 := eq_true p402
    replace q402 := eq_true q402
    go_enter Try.func44, Try.ntmps44
    go_wp2_with (first | ((with_reducible refine gate_callee (f := 34) rfl ?_); refine goesL_ (some 15) rfl rfl Try.func34 (by kernel_rfl) rfl #[.slice A402_0 (rd_L1 l0 0).length c402_0] rfl xm ?_; (with_reducible refine (impl_SizeOf.calls k _ _ (rd_L1 l0 0) t403 _ ?side1 ?side2 A3.out).mono ?_); (case side1 => exact xc HR402_0.out); (case side2 => exact HC402_0.out); rintro e w' ⟨rfl, ⟨nd, rfl⟩⟩; refine ⟨_, rfl, ?_⟩))
    go_loopg [18] k (fun kq v18 w' => ∃ (x18_1 : Int), v18 = .int .i64 x18_1 ∧ Aside0 (impl_classSum.l0 kq l0 t403 l0 (l0.length : Int) x18_1 = some r) ∧ Aside0 (kq ≤ k) ∧ Aside0 (Below w.heap.size w w'))
    case atStart => exact ⟨(0), (by first | rfl | (simp; done) | (simp [*]; done)), H', ⟨Nat.le_refl _⟩, ⟨by repeat (first | (with_reducible first | exact HB.out | apply below_alloc | apply pw_below_drewN | apply below_drew1) | exact HB.out)⟩⟩
    case round =>
      clear H'
      try clear c2
      try clear c2b0
      try clear c2b1
      try clear p2
      try clear c3
      try clear hx402_0
      try clear p402
      try clear q402
      obtain ⟨x18_1, rfl, HA, HK1, HB⟩ := hrel
      cases gk with
      | zero => exact absurd HA.out (by simp [impl_classSum.l0])
      | succ k1 =>
        have H := HA.out
        clear HA
        simp only [impl_classSum.l0] at H
        by_cases c4 : x18_1 < (l0.length : Int)
        · rw [if_pos c4] at H
          have c4b0 : decide (x18_1 < (l0.length : Int)) = true := decide_eq_true c4
          clear c4
          by_cases c5 : 0 ≤ x18_1
          · rw [if_pos c5] at H
            have c5b0 : decide (0 ≤ x18_1) = true := decide_eq_true c5
            clear c5
            by_cases c6 : x18_1 < (l0.length : Int)
            · rw [if_pos c6] at H
              have c6b0 : decide (x18_1 < (l0.length : Int)) = true := decide_eq_true c6
              clear c6
              replace H := Option.bind_eq_some_iff.mp H
              obtain ⟨t405, A70, H⟩ := H
              replace H : (if t405 = t403 then ((impl_within.f t403 0 6).bind fun t406 => (if t406 = true then (impl_classSum.l0 k1 l0 t403 l0 (l0.length : Int) (wrap64 (x18_1 + 1))) else (some 0))) else (some 0)) = some r := H
              have A7 := Aside0.mk A70
              clear A70
              by_cases c8 : t405 = t403
              · rw [if_pos c8] at H
                have c8b0 : (t405 == t403) = true := beq_iff_eq.mpr c8
                have c8b1 : (t405 != t403) = false := bne_eq_false_iff_eq.mpr c8
                clear c8
                replace H := Option.bind_eq_some_iff.mp H
                obtain ⟨t406, A90, H⟩ := H
                replace H : (if t406 = true then (impl_classSum.l0 k1 l0 t403 l0 (l0.length : Int) (wrap64 (x18_1 + 1))) else (some 0)) = some r := H
                have A9 := Aside0.mk A90
                clear A90
                by_cases c10 : t406 = true
                · subst c10
                  have H1 : (impl_classSum.l0 k1 l0 t403 l0 (l0.length : Int) (wrap64 (x18_1 + 1))) = some r := by rw [if_pos rfl] at H; exact H
                  clear H
                  have H := H1
                  clear H1
                  have H' := Aside0.mk H
                  clear H
                  have p404 : 0 ≤ (x18_1 : Int) := of_decide_eq_true (by first | (with_reducible assumption) | assumption)
                  have q404 : x18_1 < (l0.length : Int) := of_decide_eq_true (by first | (with_reducible assumption) | assumption)
                  obtain ⟨ad404, A404_0, c404_0, e404, hx404_0, hl404_0, hi404_0⟩ := at_L1 HR0.out x18_1 p404 q404
                  obtain rfl : ad402 = ad404 := (by injection e404)
                  (try replace hx404_0 := (HB.out.cell (World.block_lt_of_cell? w _ hx404_0)).trans hx404_0)
                  have HR404_0 := Aside0.mk hi404_0
                  have HC404_0 := Aside0.mk hl404_0
                  clear hi404_0 hl404_0
                  replace p404 := eq_true p404
                  replace q404 := eq_true q404
                  go_wp2_with (first | ((with_reducible refine gate_callee (f := 34) rfl ?_); refine goesL_ (some 23) rfl rfl Try.func34 (by kernel_rfl) rfl #[.slice A404_0 (rd_L1 l0 x18_1).length c404_0] rfl xm ?_; (with_reducible refine (impl_SizeOf.calls k1 _ _ (rd_L1 l0 x18_1) t405 _ ?side1 ?side2 A7.out).mono ?_); (case side1 => first | exact xc (Kd.C_below HR404_0.out HB.out) | exact xc HR404_0.out); (case side2 => exact HC404_0.out); rintro e w' ⟨rfl, ⟨nd, rfl⟩⟩; refine ⟨_, rfl, ?_⟩) | (go_at_call 49; (with_reducible refine (impl_within.calls t403 0 6 true _ A9.out).mono ?_); rintro e w' ⟨rfl, ⟨nd, rfl⟩⟩))
                  go_roundg k1
                  case measure => have := HK1.out; omega
                  case rel => exact ⟨(wrap64 (x18_1 + 1)), (by first | rfl | (simp; done) | (simp [*]; done)), H', ⟨by have := HK1.out; omega⟩, ⟨by repeat (first | (with_reducible first | exact HB.out | apply below_alloc | apply pw_below_drewN | apply below_drew1) | exact HB.out)⟩⟩
                · replace c10 := Bool.eq_false_iff.mpr c10
                  subst c10
                  have H1 : (some 0) = some r := by rw [if_neg (show ¬ (false = true) by decide)] at H; exact H
                  clear H
                  have H := H1
                  clear H1
                  obtain rfl := Option.some.inj H
                  have p404 : 0 ≤ (x18_1 : Int) := of_decide_eq_true (by first | (with_reducible assumption) | assumption)
                  have q404 : x18_1 < (l0.length : Int) := of_decide_eq_true (by first | (with_reducible assumption) | assumption)
                  obtain ⟨ad404, A404_0, c404_0, e404, hx404_0, hl404_0, hi404_0⟩ := at_L1 HR0.out x18_1 p404 q404
                  obtain rfl : ad402 = ad404 := (by injection e404)
                  (try replace hx404_0 := (HB.out.cell (World.block_lt_of_cell? w _ hx404_0)).trans hx404_0)
                  have HR404_0 := Aside0.mk hi404_0
                  have HC404_0 := Aside0.mk hl404_0
                  clear hi404_0 hl404_0
                  replace p404 := eq_true p404
                  replace q404 := eq_true q404
                  go_wp2_with (first | ((with_reducible refine gate_callee (f := 34) rfl ?_); refine goesL_ (some 23) rfl rfl Try.func34 (by kernel_rfl) rfl #[.slice A404_0 (rd_L1 l0 x18_1).length c404_0] rfl xm ?_; (with_reducible refine (impl_SizeOf.calls k1 _ _ (rd_L1 l0 x18_1) t405 _ ?side1 ?side2 A7.out).mono ?_); (case side1 => first | exact xc (Kd.C_below HR404_0.out HB.out) | exact xc HR404_0.out); (case side2 => exact HC404_0.out); rintro e w' ⟨rfl, ⟨nd, rfl⟩⟩; refine ⟨_, rfl, ?_⟩) | (go_at_call 49; (with_reducible refine (impl_within.calls t403 0 6 false _ A9.out).mono ?_); rintro e w' ⟨rfl, ⟨nd, rfl⟩⟩))
                  go_ret
                  exact ⟨by first | rfl | (simp [errW_none, errW_some] <;> rfl) | (simp [*, errW_none, errW_some] <;> rfl), by repeat (first | (with_reducible first | exact HB.out | apply below_alloc | apply pw_below_drewN | apply below_drew1) | exact HB.out)⟩
              · rw [if_neg c8] at H
                have c8b0 : (t405 == t403) = false := beq_eq_false_iff_ne.mpr c8
                have c8b1 : (t405 != t403) = true := bne_iff_ne.mpr c8
                obtain rfl := Option.some.inj H
                have p404 : 0 ≤ (x18_1 : Int) := of_decide_eq_true (by first | (with_reducible assumption) | assumption)
                have q404 : x18_1 < (l0.length : Int) := of_decide_eq_true (by first | (with_reducible assumption) | assumption)
                obtain ⟨ad404, A404_0, c404_0, e404, hx404_0, hl404_0, hi404_0⟩ := at_L1 HR0.out x18_1 p404 q404
                obtain rfl : ad402 = ad404 := (by injection e404)
                (try replace hx404_0 := (HB.out.cell (World.block_lt_of_cell? w _ hx404_0)).trans hx404_0)
                have HR404_0 := Aside0.mk hi404_0
                have HC404_0 := Aside0.mk hl404_0
                clear hi404_0 hl404_0
                replace p404 := eq_true p404
                replace q404 := eq_true q404
                go_wp2_with (first | ((with_reducible refine gate_callee (f := 34) rfl ?_); refine goesL_ (some 23) rfl rfl Try.func34 (by kernel_rfl) rfl #[.slice A404_0 (rd_L1 l0 x18_1).length c404_0] rfl xm ?_; (with_reducible refine (impl_SizeOf.calls k1 _ _ (rd_L1 l0 x18_1) t405 _ ?side1 ?side2 A7.out).mono ?_); (case side1 => first | exact xc (Kd.C_below HR404_0.out HB.out) | exact xc HR404_0.out); (case side2 => exact HC404_0.out); rintro e w' ⟨rfl, ⟨nd, rfl⟩⟩; refine ⟨_, rfl, ?_⟩))
                go_ret
                exact ⟨by first | rfl | (simp [errW_none, errW_some] <;> rfl) | (simp [*, errW_none, errW_some] <;> rfl), by repeat (first | (with_reducible first | exact HB.out | apply below_alloc | apply pw_below_drewN | apply below_drew1) | exact HB.out)⟩
            · rw [if_neg c6] at H
              exact absurd H (by simp)
          · rw [if_neg c5] at H
            exact absurd H (by simp)
        · rw [if_neg c4] at H
          have c4b0 : decide (x18_1 < (l0.length : Int)) = false := decide_eq_false c4
          clear c4
          replace H := Option.bind_eq_some_iff.mp H
          obtain ⟨t407, A110, H⟩ := H
          replace H : (impl_classSum.l1 k1 l0 t403 0 t407 (t407.length : Int) 0) = some r := H
          have A11 := Aside0.mk A110
          clear A110
          have H' := Aside0.mk H
          clear H
          go_wp2_with (first | ((with_reducible refine gate_callee (f := 57) rfl ?_); refine goesL_ (some 33) rfl rfl Try.func57 (by kernel_rfl) rfl #[.int .i64 t403] rfl xm ?_; (with_reducible refine (impl_PartitionsOf.calls k1 t403 t407 _ A11.out).mono ?_); rintro e w12 ⟨v408, rfl, ho0, hb⟩; refine ⟨_, rfl, ?_⟩; have n0_ := Aside0.mk (Kd.N_lower (Kd.N_mono (ok' := fun k_ => True) ho0 (fun k_ hk_ => trivial)) (below_size (xb HB.out))); have n1_ := Aside0.mk (below_step (xb HB.out) hb); clear HB; have HO409 := n0_; have HB := n1_; clear n0_ n1_; (try clear hb); (try clear hb2); (try clear hk); (try clear hi); (try clear ho0); obtain ⟨Ao13, co13, eo13⟩ := Kd.N_slice HO409.out; subst eo13))
          go_loopg [6, 35] k1 (fun kq v6 v35 w' => ∃ (x6_2 : Int) (x35_2 : Int), v6 = .int .i64 x6_2 ∧ v35 = .int .i64 x35_2 ∧ Aside0 (impl_classSum.l1 kq l0 t403 x6_2 t407 (t407.length : Int) x35_2 = some r) ∧ Aside0 (kq ≤ k1) ∧ Aside0 (Kd.N (Kd.slice 3 (Kd.int .i64)) 22 w' w.heap.size (fun _ => True) (.slice Ao13 t407.length co13) t407) ∧ Aside0 (Below w.heap.size w w'))
          case atStart => exact ⟨(0), (0), (by first | rfl | (simp; done) | (simp [*]; done)), (by first | rfl | (simp; done) | (simp [*]; done)), H', ⟨Nat.le_refl _⟩, ⟨by (with_reducible repeat (first | apply Kd.N_alloc | apply Kd.N_drewN | apply Kd.N_drew)); first | exact HO409.out | exact Kd.N_mono HO409.out xi⟩, ⟨by repeat (first | (with_reducible first | exact HB.out | apply below_alloc | apply pw_below_drewN | apply below_drew1) | exact HB.out)⟩⟩
          case round =>
            clear H'
            try clear c1
            try clear c2
            try clear c2b0
            try clear c2b1
            try clear p2
            try clear c3
            try clear c4
            try clear c4b0
            try clear p4
            try clear q4
            try clear hx4
            try clear qi4
            try clear c5
            try clear c5b0
            try clear c6
            try clear c6b0
            try clear p6
            try clear c8
            try clear c8b0
            try clear c8b1
            try clear c10
            try clear hx402_0
            try clear hx404_0
            try clear p2
            try clear p402
            try clear p404
            try clear q402
            try clear q404
            obtain ⟨x6_2, x35_2, rfl, rfl, HA, HK2, HO_33, HB⟩ := hrel
            cases gk with
            | zero => exact absurd HA.out (by simp [impl_classSum.l1])
            | succ k2 =>
              have H := HA.out
              clear HA
              simp only [impl_classSum.l1] at H
              by_cases c14 : x35_2 < (t407.length : Int)
              · rw [if_pos c14] at H
                have c14b0 : decide (x35_2 < (t407.length : Int)) = true := decide_eq_true c14
                clear c14
                by_cases c15 : 0 ≤ x35_2
                · rw [if_pos c15] at H
                  have c15b0 : decide (0 ≤ x35_2) = true := decide_eq_true c15
                  clear c15
                  by_cases c16 : x35_2 < (t407.length : Int)
                  · rw [if_pos c16] at H
                    have c16b0 : decide (x35_2 < (t407.length : Int)) = true := decide_eq_true c16
                    clear c16
                    replace H := Option.bind_eq_some_iff.mp H
                    obtain ⟨t412, A170, H⟩ := H
                    replace H : (impl_classSum.l2 k2 l0 t403 x6_2 (rd_L1 t407 x35_2) t412 t407 (t407.length : Int) x35_2 l0 (l0.length : Int) 0) = some r := H
                    have A17 := Aside0.mk A170
                    clear A170
                    have H' := Aside0.mk H
                    clear H
                    have p411 : 0 ≤ (x35_2 : Int) := of_decide_eq_true (by first | (with_reducible assumption) | assumption)
                    have q411 : x35_2 < (t407.length : Int) := of_decide_eq_true (by first | (with_reducible assumption) | assumption)
                    obtain ⟨ad411, A411_0, c411_0, e411, hx411_0, hl411_0, hi411_0⟩ := at_L1 (Kd.N_reads' HO_33.out).2.2 x35_2 p411 q411
                    cases e411
                    obtain ⟨ce411, hce411, hMe411, hcc411⟩ := Kd.N_get HO_33.out [] x35_2 p411 (by first | exact q411 | exact of_decide_eq_true (by first | (with_reducible assumption) | assumption) | (have e_ := (Kd.N_reads' HO_33.out).1; omega))
                    obtain ⟨ua411_0, uc411_0, rfl, ul411_0, ge411_0⟩ := Kd.FK_slice_open hMe411
                    have hv411_0 := hcc411 0 _ rfl
                    rw [Nat.add_zero, show ((Kd.slice 3 (Kd.int .i64))).sz = 1 from rfl, Nat.mul_one] at hv411_0
                    replace hv411_0 := Option.some.inj (hv411_0.symm.trans hx411_0)
                    injection hv411_0 with hva_ hvn_ hvc_
                    rw [hva_] at ge411_0
                    rw [hvc_] at ul411_0
                    have HL411_0 := Aside0.mk (show Kd.V (Kd.int .i64) 3 _ w.heap.size _ _ (rd_L1 t407 x35_2) from Kd.V_mk ul411_0 ge411_0)
                    clear hva_ hvn_ hvc_ ge411_0 ul411_0
                    clear hcc411 hce411
                    have HR411_0 := Aside0.mk hi411_0
                    have HC411_0 := Aside0.mk hl411_0
                    clear hi411_0 hl411_0
                    replace p411 := eq_true p411
                    replace q411 := eq_true q411
                    go_wp2_with (first | ((with_reducible refine gate_callee (f := 59) rfl ?_); refine goesL_ (some 40) rfl rfl Try.func59 (by kernel_rfl) rfl #[.slice A411_0 (rd_L1 t407 x35_2).length c411_0] rfl xm ?_; (with_reducible refine (impl_ClassSize.calls k2 _ _ (rd_L1 t407 x35_2) t412 _ ?side1 ?side2 A17.out).mono ?_); (case side1 => repeat (first | exact (by repeat (first | (with_reducible exact HR411_0.out) | (with_reducible refine Kd.C_alloc ?_ _) | (with_reducible refine Kd.C_drewN ?_ _) | (with_reducible refine Kd.C_drew ?_) | exact HR411_0.out)) | (with_reducible refine Kd.C_alloc ?_ _) | (with_reducible refine Kd.C_drewN ?_ _) | (with_reducible refine Kd.C_drew ?_))); (case side2 => exact HC411_0.out); rintro e w18 ⟨rfl, hb⟩; refine ⟨_, rfl, ?_⟩; have n0_ := Aside0.mk (Kd.N_below (xN HO_33.out) hb); have n1_ := Aside0.mk (Kd.V_below (xV HL411_0.out) hb); have n2_ := Aside0.mk (Kd.C_below (by repeat (first | (with_reducible exact HR411_0.out) | (with_reducible refine Kd.C_alloc ?_ _) | (with_reducible refine Kd.C_drewN ?_ _) | (with_reducible refine Kd.C_drew ?_) | exact HR411_0.out)) hb); have n3_ := Aside0.mk (below_step (xb HB.out) hb); clear HO_33; clear HL411_0; clear HR411_0; clear HB; have HO_33 := n0_; have HL411_0 := n1_; have HR411_0 := n2_; have HB := n3_; clear n0_ n1_ n2_ n3_; (try clear hb); (try clear hb2); (try clear hk); (try clear hi)))
                    go_loopg [9, 43] k2 (fun kq v9 v43 w' => ∃ (x9_3 : Int) (x43_3 : Int), v9 = .int .i64 x9_3 ∧ v43 = .int .i64 x43_3 ∧ Aside0 (impl_classSum.l2 kq l0 t403 x6_2 (rd_L1 t407 x35_2) x9_3 t407 (t407.length : Int) x35_2 l0 (l0.length : Int) x43_3 = some r) ∧ Aside0 (kq ≤ k2) ∧ Aside0 (Kd.N (Kd.slice 3 (Kd.int .i64)) 22 w' w.heap.size (fun _ => True) (.slice (some ad411) t407.length co13) t407) ∧ Aside0 (Kd.C (Kd.int .i64) w' A411_0 (rd_L1 t407 x35_2).length (rd_L1 t407 x35_2)) ∧ Aside0 (Below w.heap.size w w'))
                    case atStart => exact ⟨(t412), (0), (by first | rfl | (simp; done) | (simp [*]; done)), (by first | rfl | (simp; done) | (simp [*]; done)), H', ⟨Nat.le_refl _⟩, ⟨by (with_reducible repeat (first | apply Kd.N_alloc | apply Kd.N_drewN | apply Kd.N_drew)); first | exact HO_33.out | exact Kd.N_mono HO_33.out xi⟩, ⟨by repeat (first | (with_reducible exact HR411_0.out) | (with_reducible refine Kd.C_alloc ?_ _) | (with_reducible refine Kd.C_drewN ?_ _) | (with_reducible refine Kd.C_drew ?_) | exact HR411_0.out)⟩, ⟨by repeat (first | (with_reducible first | exact HB.out | apply below_alloc | apply pw_below_drewN | apply below_drew1) | exact HB.out)⟩⟩
                    case round =>
                      clear H'
                      try clear c1
                      try clear c2
                      try clear c2b0
                      try clear c2b1
                      try clear p2
                      try clear c3
                      try clear c4
                      try clear c4b0
                      try clear p4
                      try clear q4
                      try clear hx4
                      try clear qi4
                      try clear c5
                      try clear c5b0
                      try clear c6
                      try clear c6b0
                      try clear p6
                      try clear c8
                      try clear c8b0
                      try clear c8b1
                      try clear c10
                      try clear c14
                      try clear c14b0
                      try clear c15
                      try clear c15b0
                      try clear c16
                      try clear c16b0
                      try clear hx402_0
                      try clear hx404_0
                      try clear hx411_0
                      try clear p2
                      try clear p4
                      try clear p402
                      try clear p404
                      try clear p411
                      try clear p6
                      try clear q4
                      try clear q402
                      try clear q404
                      try clear q411
                      obtain ⟨x9_3, x43_3, rfl, rfl, HA, HK3, HO_33, HR411_0, HB⟩ := hrel
                      cases gk with
                      | zero => exact absurd HA.out (by simp [impl_classSum.l2])
                      | succ k3 =>
                        have H := HA.out
                        clear HA
                        simp only [impl_classSum.l2] at H
                        by_cases c19 : x43_3 < (l0.length : Int)
                        · rw [if_pos c19] at H
                          have c19b0 : decide (x43_3 < (l0.length : Int)) = true := decide_eq_true c19
                          clear c19
                          by_cases c20 : 0 ≤ x43_3
                          · rw [if_pos c20] at H
                            have c20b0 : decide (0 ≤ x43_3) = true := decide_eq_true c20
                            clear c20
                            by_cases c21 : x43_3 < (l0.length : Int)
                            · rw [if_pos c21] at H
                              have c21b0 : decide (x43_3 < (l0.length : Int)) = true := decide_eq_true c21
                              clear c21
                              replace H := Option.bind_eq_some_iff.mp H
                              obtain ⟨t414, A220, H⟩ := H
                              replace H : (impl_classSum.l2 k3 l0 t403 x6_2 (rd_L1 t407 x35_2) (wrap64 (x9_3 * t414)) t407 (t407.length : Int) x35_2 l0 (l0.length : Int) (wrap64 (x43_3 + 1))) = some r := H
                              have A22 := Aside0.mk A220
                              clear A220
                              have H' := Aside0.mk H
                              clear H
                              have p413 : 0 ≤ (x43_3 : Int) := of_decide_eq_true (by first | (with_reducible assumption) | assumption)
                              have q413 : x43_3 < (l0.length : Int) := of_decide_eq_true (by first | (with_reducible assumption) | assumption)
                              obtain ⟨ad413, A413_0, c413_0, e413, hx413_0, hl413_0, hi413_0⟩ := at_L1 HR0.out x43_3 p413 q413
                              obtain rfl : ad402 = ad413 := (by injection e413)
                              (try replace hx413_0 := (HB.out.cell (World.block_lt_of_cell? w _ hx413_0)).trans hx413_0)
                              have HR413_0 := Aside0.mk hi413_0
                              have HC413_0 := Aside0.mk hl413_0
                              clear hi413_0 hl413_0
                              replace p413 := eq_true p413
                              replace q413 := eq_true q413
                              go_wp2_with (first | ((with_reducible refine gate_callee (f := 21) rfl ?_); refine goesL_ (some 50) rfl rfl Try.func21 (by kernel_rfl) rfl #[.slice A413_0 (rd_L1 l0 x43_3).length c413_0, .slice A411_0 (rd_L1 t407 x35_2).length c411_0] rfl xm ?_; (with_reducible refine (impl_CharacterOf.calls k3 _ _ (rd_L1 l0 x43_3) _ _ (rd_L1 t407 x35_2) t414 _ ?side1 ?side2 ?side3 ?side4 A22.out).mono ?_); (case side1 => first | exact xc (Kd.C_below HR413_0.out HB.out) | exact xc HR413_0.out); (case side2 => exact HC413_0.out); (case side3 => first | exact xc (Kd.C_below HR411_0.out HB.out) | exact xc HR411_0.out); (case side4 => exact HC411_0.out); rintro e w23 ⟨rfl, hb⟩; refine ⟨_, rfl, ?_⟩; have n0_ := Aside0.mk (Kd.N_below (xN HO_33.out) hb); have n1_ := Aside0.mk (Kd.C_below (by repeat (first | (with_reducible exact HR411_0.out) | (with_reducible refine Kd.C_alloc ?_ _) | (with_reducible refine Kd.C_drewN ?_ _) | (with_reducible refine Kd.C_drew ?_) | exact HR411_0.out)) hb); have n2_ := Aside0.mk (below_step (xb HB.out) hb); clear HO_33; clear HR411_0; clear HB; have HO_33 := n0_; have HR411_0 := n1_; have HB := n2_; clear n0_ n1_ n2_; (try clear hb); (try clear hb2); (try clear hk); (try clear hi)))
                              go_roundg k3
                              case measure => have := HK1.out; have := HK2.out; have := HK3.out; omega
                              case rel => exact ⟨(wrap64 (x9_3 * t414)), (wrap64 (x43_3 + 1)), (by first | rfl | (simp; done) | (simp [*]; done)), (by first | rfl | (simp; done) | (simp [*]; done)), H', ⟨by have := HK1.out; have := HK2.out; have := HK3.out; omega⟩, ⟨by (with_reducible repeat (first | apply Kd.N_alloc | apply Kd.N_drewN | apply Kd.N_drew)); first | exact HO_33.out | exact Kd.N_mono HO_33.out xi⟩, ⟨by repeat (first | (with_reducible exact HR411_0.out) | (with_reducible refine Kd.C_alloc ?_ _) | (with_reducible refine Kd.C_drewN ?_ _) | (with_reducible refine Kd.C_drew ?_) | exact HR411_0.out)⟩, ⟨by repeat (first | (with_reducible first | exact HB.out | apply below_alloc | apply pw_below_drewN | apply below_drew1) | exact HB.out)⟩⟩
                            · rw [if_neg c21] at H
                              exact absurd H (by simp)
                          · rw [if_neg c20] at H
                            exact absurd H (by simp)
                        · rw [if_neg c19] at H
                          have c19b0 : decide (x43_3 < (l0.length : Int)) = false := decide_eq_false c19
                          clear c19
                          have H' := Aside0.mk H
                          clear H
                          go_wp2
                          go_roundg k3
                          case measure => have := HK1.out; have := HK2.out; have := HK3.out; omega
                          case rel => exact ⟨(wrap64 (x6_2 + x9_3)), (wrap64 (x35_2 + 1)), (by first | rfl | (simp; done) | (simp [*]; done)), (by first | rfl | (simp; done) | (simp [*]; done)), H', ⟨by have := HK1.out; have := HK2.out; have := HK3.out; omega⟩, ⟨by (with_reducible repeat (first | apply Kd.N_alloc | apply Kd.N_drewN | apply Kd.N_drew)); first | exact HO_33.out | exact Kd.N_mono HO_33.out xi⟩, ⟨by repeat (first | (with_reducible first | exact HB.out | apply below_alloc | apply pw_below_drewN | apply below_drew1) | exact HB.out)⟩⟩
                  · rw [if_neg c16] at H
                    exact absurd H (by simp)
                · rw [if_neg c15] at H
                  exact absurd H (by simp)
              · rw [if_neg c14] at H
                have c14b0 : decide (x35_2 < (t407.length : Int)) = false := decide_eq_false c14
                clear c14
                replace H := Option.bind_eq_some_iff.mp H
                obtain ⟨t410, A240, H⟩ := H
                replace H : (if t410 = 0 then (none) else (some (wrap64 (Int.tdiv x6_2 t410)))) = some r := H
                have A24 := Aside0.mk A240
                clear A240
                by_cases c25 : t410 = 0
                · rw [if_pos c25] at H
                  exact absurd H (by simp)
                · rw [if_neg c25] at H
                  have c25b0 : (t410 == 0) = false := beq_eq_false_iff_ne.mpr c25
                  have c25b1 : (t410 != 0) = true := bne_iff_ne.mpr c25
                  obtain rfl := Option.some.inj H
                  go_wp2_with (first | ((with_reducible refine gate_callee (f := 60) rfl ?_); refine goesL_ (some 59) rfl rfl Try.func60 (by kernel_rfl) rfl #[.int .i64 t403] rfl xm ?_; (with_reducible refine (impl_factorial.calls k2 t403 t410 _ A24.out).mono ?_); rintro e w' ⟨rfl, ⟨nd, rfl⟩⟩; refine ⟨_, rfl, ?_⟩))
                  go_ret
                  exact ⟨by first | rfl | (simp [errW_none, errW_some] <;> rfl) | (simp [*, errW_none, errW_some] <;> rfl), by repeat (first | (with_reducible first | exact HB.out | apply below_alloc | apply pw_below_drewN | apply below_drew1) | exact HB.out)⟩
  · rw [if_neg c2] at H
    exact absurd H (by simp)

/-! ### impl_PairingOf: function 25 -/
def impl_PairingOf.f (k : Nat) (l0 : List Int) (l1 : List Int) : Option (Int) := (impl_classSum.f k (([l0, l1] : List (List Int)))).bind fun t418 => (some t418)
theorem impl_PairingOf.mono : ∀ a0 a1 k, LeO (impl_PairingOf.f k a0 a1) (impl_PairingOf.f (k + 1) a0 a1) := by
  intro a0 a1 k
  unfold impl_PairingOf.f
  repeat' first
      | (with_reducible exact impl_classSum.mono _ _)
      | (with_reducible exact LeO.refl _)
      | (with_reducible exact LeO.none _)
      | (with_reducible refine LeO.ite ?_ ?_)
      | (with_reducible refine LeO.bind ?_ (fun _ => ?_))
      | exact impl_classSum.mono _ _
      | exact LeO.none _
      | refine LeO.ite ?_ ?_
      | refine LeO.bind ?_ (fun _ => ?_)
set_option maxHeartbeats 8000000 in
set_option maxRecDepth 100000 in
theorem impl_PairingOf.calls (k : Nat) (P0_ : Nat → Prop) (A0 : Option Addr) (c0 : Nat) (l0 : List Int) (P1_ : Nat → Prop) (A1 : Option Addr) (c1 : Nat) (l1 : List Int) (r : Int) (w : World) (hs0 : Kd.V (Kd.int .i64) 3 w w.heap.size (fun k_ => P0_ k_) (.slice A0 l0.length c0) l0) (hs1 : Kd.V (Kd.int .i64) 3 w w.heap.size (fun k_ => P1_ k_) (.slice A1 l1.length c1) l1) (h : impl_PairingOf.f k l0 l1 = some r) :
    Calls Try.prog 25 #[.slice A0 l0.length c0, .slice A1 l1.length c1] w fun e w' => e = .returned (.int .i64 r) ∧ Below w.heap.size w w' := by
  have HO0 := Aside0.mk (show Kd.V (Kd.int .i64) 3 w w.heap.size (fun k_ => ((P0_ k_ ∨ P1_ k_) ∨ w.heap.size ≤ k_)) (.slice A0 l0.length c0) l0 from Kd.V_mono hs0 (fun k_ hk => .inl (.inl hk)))
  have HO1 := Aside0.mk (show Kd.V (Kd.int .i64) 3 w w.heap.size (fun k_ => ((P0_ k_ ∨ P1_ k_) ∨ w.heap.size ≤ k_)) (.slice A1 l1.length c1) l1 from Kd.V_mono hs1 (fun k_ hk => .inl (.inr hk)))
  have HB := Aside0.mk (Below.refl w.heap.size w)
  have H : ((impl_classSum.f k (([l0, l1] : List (List Int)))).bind fun t418 => (some t418)) = some r := h
  clear h
  obtain ⟨y415, hy415⟩ : ∃ y_ : List (List Int), y_ = (([l0, l1] : List (List Int))) := ⟨_, rfl⟩
  replace H : ((impl_classSum.f k y415).bind fun t418 => (some t418)) = some r := by first | (rw [hy415]; with_reducible exact H) | (have H2_ := (Option.bind_some _ _).symm.trans H; rw [hy415]; with_reducible exact H2_) | (have H2_ := (Option.bind_some _ _).symm.trans H; with_reducible exact H2_) | with_reducible exact H | (rw [hy415]; exact H) | exact H
  have Ny415 := Aside0.mk hy415
  clear hy415
  replace H := Option.bind_eq_some_iff.mp H
  obtain ⟨t418, A30, H⟩ := H
  replace H : (some t418) = some r := H
  have A3 := Aside0.mk A30
  clear A30
  obtain rfl := Option.some.inj H
  go_enter Try.func25, Try.ntmps25
  go_wp2_with (first | ((with_reducible refine gate_dst (N := 7) rfl ?_); refine Kd.N_lit (Kd.slice 3 (Kd.int .i64)) _ 22 ?hg (N' := 7) ?hd (xs := ([l0, l1] : List (List Int))) (inner := [.slice A0 l0.length c0, .slice A1 l1.length c1]) (ok := (fun k_ => ((P0_ k_ ∨ P1_ k_) ∨ w.heap.size ≤ k_))) (okp := (fun k_ => ((P0_ k_ ∨ P1_ k_) ∨ w.heap.size ≤ k_))) ?hr ?hp (fun _ hk => hk) ((show ∀ k_, w.heap.size ≤ k_ → (fun k_ => ((P0_ k_ ∨ P1_ k_) ∨ w.heap.size ≤ k_)) k_ from fun k_ hk => (.inr (Nat.le_trans (below_size (xb HB.out)) hk))) _ (Nat.le_refl _)) (Below.refl _ _) (Nat.le_refl _) (by simp) ?_; (case hd => rfl); (case hg => rfl); (case hr => first | (go_simp; done) | (go_simp; rfl)); (case hp => exact (Reps.one (show Kd.FK (Kd.slice 3 (Kd.int .i64)) _ _ l0 [.slice A0 l0.length c0] from (Kd.FK_slice_mk (Kd.V_reads' (Kd.V_mono (ok' := (fun k_ => ((P0_ k_ ∨ P1_ k_) ∨ w.heap.size ≤ k_))) (HO0.out) (fun k_ hk => hk))).2.1 (Kd.V_F (Kd.V_mono (ok' := (fun k_ => ((P0_ k_ ∨ P1_ k_) ∨ w.heap.size ≤ k_))) (HO0.out) (fun k_ hk => hk))))) (Reps.one (show Kd.FK (Kd.slice 3 (Kd.int .i64)) _ _ l1 [.slice A1 l1.length c1] from (Kd.FK_slice_mk (Kd.V_reads' (Kd.V_mono (ok' := (fun k_ => ((P0_ k_ ∨ P1_ k_) ∨ w.heap.size ≤ k_))) (HO1.out) (fun k_ hk => hk))).2.1 (Kd.V_F (Kd.V_mono (ok' := (fun k_ => ((P0_ k_ ∨ P1_ k_) ∨ w.heap.size ≤ k_))) (HO1.out) (fun k_ hk => hk))))) (Reps.none _ _)))); intro v416 w4 ho5 hb hg_ hnew_; clear hg_ hnew_; (first | rw [← Ny415.out] at ho5 | (simp only [Int.reduceToNat] at ho5; rw [← Ny415.out] at ho5)); have n0_ := Aside0.mk (Kd.V_elder' (xV HO0.out) (by first | exact Kd.N_base ho5 | exact Kd.S_base ho5 | exact Kd.R_base ho5) hb); have n1_ := Aside0.mk (Kd.V_elder' (xV HO1.out) (by first | exact Kd.N_base ho5 | exact Kd.S_base ho5 | exact Kd.R_base ho5) hb); have n2_ := Aside0.mk (Kd.N_lower ho5 (below_size (xb HB.out))); have n3_ := Aside0.mk (below_step (xb HB.out) hb); clear HO0; clear HO1; clear HB; have HO0 := n0_; have HO1 := n1_; have HO417 := n2_; have HB := n3_; clear n0_ n1_ n2_ n3_; clear hb ho5; obtain ⟨Ao6, co6, eo6⟩ := Kd.N_slice HO417.out; subst eo6) | ((with_reducible refine gate_callee (f := 44) rfl ?_); refine goesL_ (some 8) rfl rfl Try.func44 (by kernel_rfl) rfl #[.slice Ao6 y415.length co6] rfl xm ?_; (with_reducible refine (impl_classSum.calls k _ _ y415 t418 _ ?side1 ?side2 A3.out).mono ?_); (case side1 => repeat (first | exact (Kd.N_reads' HO417.out).2.2 | (with_reducible refine Kd.C_alloc ?_ _) | (with_reducible refine Kd.C_drewN ?_ _) | (with_reducible refine Kd.C_drew ?_))); (case side2 => exact (Kd.N_reads' HO417.out).2.1); rintro e w7 ⟨rfl, hb⟩; refine ⟨_, rfl, ?_⟩; have n0_ := Aside0.mk (Kd.V_below (xV HO0.out) hb); have n1_ := Aside0.mk (Kd.V_below (xV HO1.out) hb); have n2_ := Aside0.mk (Kd.N_below (xN HO417.out) hb); have n3_ := Aside0.mk (below_step (xb HB.out) hb); clear HO0; clear HO1; clear HO417; clear HB; have HO0 := n0_; have HO1 := n1_; have HO417 := n2_; have HB := n3_; clear n0_ n1_ n2_ n3_; (try clear hb); (try clear hb2); (try clear hk); (try clear hi)))
  go_ret
  exact ⟨by first | rfl | (simp [errW_none, errW_some] <;> rfl) | (simp [*, errW_none, errW_some] <;> rfl), by repeat (first | (with_reducible first | exact HB.out | apply below_alloc | apply pw_below_drewN | apply below_drew1) | exact HB.out)⟩

/-! ### laws_FnExactPairingOf: function 8 -/
def laws_FnExactPairingOf.f (k : Nat) (l0 : List Int) (l1 : List Int) : Option (Bool) := if (l0.length : Int) > 1048576 then (some true) else (if (l1.length : Int) > 1048576 then (some true) else ((laws_toIntS.f k l0).bind fun t419 => ((laws_toIntS.f k l1).bind fun t422 => ((spec_PairingOf.f k t419 t422).bind fun t425 => ((laws_toIntS.f k l0).bind fun t426 => ((laws_toIntS.f k l1).bind fun t429 => ((impl_PairingOf.f k t426 t429).bind fun t432 => (if t432 = t425 then ((laws_toIntS.f k l0).bind fun t433 => ((laws_eqIntS.f k t426 t433).bind fun t436 => (if t436 = true then ((laws_toIntS.f k l1).bind fun t437 => ((laws_eqIntS.f k t429 t437).bind fun t440 => (if t440 = true then (some true) else (some false)))) else (some false)))) else (some false)))))))))
theorem laws_FnExactPairingOf.mono : ∀ a0 a1 k, LeO (laws_FnExactPairingOf.f k a0 a1) (laws_FnExactPairingOf.f (k + 1) a0 a1) := by
  intro a0 a1 k
  unfold laws_FnExactPairingOf.f
  repeat' first
      | (with_reducible exact impl_PairingOf.mono _ _ _)
      | (with_reducible exact laws_eqIntS.mono _ _ _)
      | (with_reducible exact laws_toIntS.mono _ _)
      | (with_reducible exact spec_PairingOf.mono _ _ _)
      | (with_reducible exact LeO.refl _)
      | (with_reducible exact LeO.none _)
      | (with_reducible refine LeO.ite ?_ ?_)
      | (with_reducible refine LeO.bind ?_ (fun _ => ?_))
      | exact impl_PairingOf.mono _ _ _
      | exact laws_eqIntS.mono _ _ _
      | exact laws_toIntS.mono _ _
      | exact spec_PairingOf.mono _ _ _
      | exact LeO.none _
      | refine LeO.ite ?_ ?_
      | refine LeO.bind ?_ (fun _ => ?_)
set_option maxHeartbeats 8000000 in
set_option maxRecDepth 100000 in
theorem laws_FnExactPairingOf.calls (k : Nat) (A0 : Option Addr) (c0 : Nat) (l0 : List Int) (A1 : Option Addr) (c1 : Nat) (l1 : List Int) (r : Bool) (w : World) (hr0 : Kd.C (Kd.int .i64) w A0 l0.length l0) (hc0 : l0.length ≤ c0) (hr1 : Kd.C (Kd.int .i64) w A1 l1.length l1) (hc1 : l1.length ≤ c1) (h : laws_FnExactPairingOf.f k l0 l1 = some r) :
    Calls Try.prog 8 #[.slice A0 l0.length c0, .slice A1 l1.length c1] w fun e w' => e = .returned (.bool r) ∧ Below w.heap.size w w' := by
  have HR0 := Aside0.mk hr0
  have HC0 := Aside0.mk hc0
  clear hr0 hc0
  have HR1 := Aside0.mk hr1
  have HC1 := Aside0.mk hc1
  clear hr1 hc1
  have HB := Aside0.mk (Below.refl w.heap.size w)
  have H : (if (l0.length : Int) > 1048576 then (some true) else (if (l1.length : Int) > 1048576 then (some true) else ((laws_toIntS.f k l0).bind fun t419 => ((laws_toIntS.f k l1).bind fun t422 => ((spec_PairingOf.f k t419 t422).bind fun t425 => ((laws_toIntS.f k l0).bind fun t426 => ((laws_toIntS.f k l1).bind fun t429 => ((impl_PairingOf.f k t426 t429).bind fun t432 => (if t432 = t425 then ((laws_toIntS.f k l0).bind fun t433 => ((laws_eqIntS.f k t426 t433).bind fun t436 => (if t436 = true then ((laws_toIntS.f k l1).bind fun t437 => ((laws_eqIntS.f k t429 t437).bind fun t440 => (if t440 = true then (some true) else (some false)))) else (some false)))) else (some false)))))))))) = some r := h
  clear h
  by_cases c3 : (l0.length : Int) > 1048576
  · rw [if_pos c3] at H
    have c3b0 : decide (1048576 < (l0.length : Int)) = true := decide_eq_true c3
    have c3b1 : decide (1048576 < l0.length) = true := decide_eq_true (by omega)
    clear c3
    obtain rfl := Option.some.inj H
    go_enter Try.func8, Try.ntmps8
    go_wp2
    go_ret
    exact ⟨by first | rfl | (simp [errW_none, errW_some] <;> rfl) | (simp [*, errW_none, errW_some] <;> rfl), by repeat (first | (with_reducible first | exact HB.out | apply below_alloc | apply pw_below_drewN | apply below_drew1) | exact HB.out)⟩
  · rw [if_neg c3] at H
    have c3b0 : decide (1048576 < (l0.length : Int)) = false := decide_eq_false c3
    have c3b1 : decide (1048576 < l0.length) = false := decide_eq_false (by omega)
    clear c3
    by_cases c4 : (l1.length : Int) > 1048576
    · rw [if_pos c4] at H
      have c4b0 : decide (1048576 < (l1.length : Int)) = true := decide_eq_true c4
      have c4b1 : decide (1048576 < l1.length) = true := decide_eq_true (by omega)
      clear c4
      obtain rfl := Option.some.inj H
      go_enter Try.func8, Try.ntmps8
      go_wp2
      go_ret
      exact ⟨by first | rfl | (simp [errW_none, errW_some] <;> rfl) | (simp [*, errW_none, errW_some] <;> rfl), by repeat (first | (with_reducible first | exact HB.out | apply below_alloc | apply pw_below_drewN | apply below_drew1) | exact HB.out)⟩
    · rw [if_neg c4] at H
      have c4b0 : decide (1048576 < (l1.length : Int)) = false := decide_eq_false c4
      have c4b1 : decide (1048576 < l1.length) = false := decide_eq_false (by omega)
      clear c4
      replace H := Option.bind_eq_some_iff.mp H
      obtain ⟨t419, A50, H⟩ := H
      replace H : ((laws_toIntS.f k l1).bind fun t422 => ((spec_PairingOf.f k t419 t422).bind fun t425 => ((laws_toIntS.f k l0).bind fun t426 => ((laws_toIntS.f k l1).bind fun t429 => ((impl_PairingOf.f k t426 t429).bind fun t432 => (if t432 = t425 then ((laws_toIntS.f k l0).bind fun t433 => ((laws_eqIntS.f k t426 t433).bind fun t436 => (if t436 = true then ((laws_toIntS.f k l1).bind fun t437 => ((laws_eqIntS.f k t429 t437).bind fun t440 => (if t440 = true then (some true) else (some false)))) else (some false)))) else (some false))))))) = some r := H
      have A5 := Aside0.mk A50
      clear A50
      replace H := Option.bind_eq_some_iff.mp H
      obtain ⟨t422, A60, H⟩ := H
      replace H : ((spec_PairingOf.f k t419 t422).bind fun t425 => ((laws_toIntS.f k l0).bind fun t426 => ((laws_toIntS.f k l1).bind fun t429 => ((impl_PairingOf.f k t426 t429).bind fun t432 => (if t432 = t425 then ((laws_toIntS.f k l0).bind fun t433 => ((laws_eqIntS.f k t426 t433).bind fun t436 => (if t436 = true then ((laws_toIntS.f k l1).bind fun t437 => ((laws_eqIntS.f k t429 t437).bind fun t440 => (if t440 = true then (some true) else (some false)))) else (some false)))) else (some false)))))) = some r := H
      have A6 := Aside0.mk A60
      clear A60
      replace H := Option.bind_eq_some_iff.mp H
      obtain ⟨t425, A70, H⟩ := H
      replace H : ((laws_toIntS.f k l0).bind fun t426 => ((laws_toIntS.f k l1).bind fun t429 => ((impl_PairingOf.f k t426 t429).bind fun t432 => (if t432 = t425 then ((laws_toIntS.f k l0).bind fun t433 => ((laws_eqIntS.f k t426 t433).bind fun t436 => (if t436 = true then ((laws_toIntS.f k l1).bind fun t437 => ((laws_eqIntS.f k t429 t437).bind fun t440 => (if t440 = true then (some true) else (some false)))) else (some false)))) else (some false))))) = some r := H
      have A7 := Aside0.mk A70
      clear A70
      replace H := Option.bind_eq_some_iff.mp H
      obtain ⟨t426, A80, H⟩ := H
      replace H : ((laws_toIntS.f k l1).bind fun t429 => ((impl_PairingOf.f k t426 t429).bind fun t432 => (if t432 = t425 then ((laws_toIntS.f k l0).bind fun t433 => ((laws_eqIntS.f k t426 t433).bind fun t436 => (if t436 = true then ((laws_toIntS.f k l1).bind fun t437 => ((laws_eqIntS.f k t429 t437).bind fun t440 => (if t440 = true then (some true) else (some false)))) else (some false)))) else (some false)))) = some r := H
      have A8 := Aside0.mk A80
      clear A80
      replace H := Option.bind_eq_some_iff.mp H
      obtain ⟨t429, A90, H⟩ := H
      replace H : ((impl_PairingOf.f k t426 t429).bind fun t432 => (if t432 = t425 then ((laws_toIntS.f k l0).bind fun t433 => ((laws_eqIntS.f k t426 t433).bind fun t436 => (if t436 = true then ((laws_toIntS.f k l1).bind fun t437 => ((laws_eqIntS.f k t429 t437).bind fun t440 => (if t440 = true then (some true) else (some false)))) else (some false)))) else (some false))) = some r := H
      have A9 := Aside0.mk A90
      clear A90
      replace H := Option.bind_eq_some_iff.mp H
      obtain ⟨t432, A100, H⟩ := H
      replace H : (if t432 = t425 then ((laws_toIntS.f k l0).bind fun t433 => ((laws_eqIntS.f k t426 t433).bind fun t436 => (if t436 = true then ((laws_toIntS.f k l1).bind fun t437 => ((laws_eqIntS.f k t429 t437).bind fun t440 => (if t440 = true then (some true) else (some false)))) else (some false)))) else (some false)) = some r := H
      have A10 := Aside0.mk A100
      clear A100
      by_cases c11 : t432 = t425
      · rw [if_pos c11] at H
        have c11b0 : (t432 == t425) = true := beq_iff_eq.mpr c11
        have c11b1 : (t432 != t425) = false := bne_eq_false_iff_eq.mpr c11
        clear c11
        replace H := Option.bind_eq_some_iff.mp H
        obtain ⟨t433, A120, H⟩ := H
        replace H : ((laws_eqIntS.f k t426 t433).bind fun t436 => (if t436 = true then ((laws_toIntS.f k l1).bind fun t437 => ((laws_eqIntS.f k t429 t437).bind fun t440 => (if t440 = true then (some true) else (some false)))) else (some false))) = some r := H
        have A12 := Aside0.mk A120
        clear A120
        replace H := Option.bind_eq_some_iff.mp H
        obtain ⟨t436, A130, H⟩ := H
        replace H : (if t436 = true then ((laws_toIntS.f k l1).bind fun t437 => ((laws_eqIntS.f k t429 t437).bind fun t440 => (if t440 = true then (some true) else (some false)))) else (some false)) = some r := H
        have A13 := Aside0.mk A130
        clear A130
        by_cases c14 : t436 = true
        · subst c14
          have H1 : ((laws_toIntS.f k l1).bind fun t437 => ((laws_eqIntS.f k t429 t437).bind fun t440 => (if t440 = true then (some true) else (some false)))) = some r := by rw [if_pos rfl] at H; exact H
          clear H
          have H := H1
          clear H1
          replace H := Option.bind_eq_some_iff.mp H
          obtain ⟨t437, A150, H⟩ := H
          replace H : ((laws_eqIntS.f k t429 t437).bind fun t440 => (if t440 = true then (some true) else (some false))) = some r := H
          have A15 := Aside0.mk A150
          clear A150
          replace H := Option.bind_eq_some_iff.mp H
          obtain ⟨t440, A160, H⟩ := H
          replace H : (if t440 = true then (some true) else (some false)) = some r := H
          have A16 := Aside0.mk A160
          clear A160
          by_cases c17 : t440 = true
          · subst c17
            have H1 : (some true) = some r := by rw [if_pos rfl] at H; exact H
            clear H
            have H := H1
            clear H1
            obtain rfl := Option.some.inj H
            go_enter Try.func8, Try.ntmps8
            go_wp2_with (first | ((with_reducible refine gate_callee (f := 11) rfl ?_); refine goesL_ (some 16) rfl rfl Try.func11 (by kernel_rfl) rfl #[.slice A0 l0.length c0] rfl xm ?_; (with_reducible refine (laws_toIntS.calls k _ _ l0 t419 _ ?side1 ?side2 A5.out).mono ?_); (case side1 => exact xc HR0.out); (case side2 => exact HC0.out); rintro e w18 ⟨v420, rfl, ho0, hb⟩; refine ⟨_, rfl, ?_⟩; have n0_ := Aside0.mk (Kd.R_lower ho0 (below_size (xb HB.out))); have n1_ := Aside0.mk (below_step (xb HB.out) hb); clear HB; have HO421 := n0_; have HB := n1_; clear n0_ n1_; (try clear hb); (try clear hb2); (try clear hk); (try clear hi); (try clear ho0)) | ((with_reducible refine gate_callee (f := 11) rfl ?_); refine goesL_ (some 18) rfl rfl Try.func11 (by kernel_rfl) rfl #[.slice A1 l1.length c1] rfl xm ?_; (with_reducible refine (laws_toIntS.calls k _ _ l1 t422 _ ?side1 ?side2 A6.out).mono ?_); (case side1 => first | exact xc (Kd.C_below HR1.out HB.out) | exact xc HR1.out); (case side2 => exact HC1.out); rintro e w19 ⟨v423, rfl, ho0, hb⟩; refine ⟨_, rfl, ?_⟩; have n0_ := Aside0.mk (Kd.R_elder' (xR HO421.out) (Kd.R_base ho0) hb); have n1_ := Aside0.mk (Kd.R_lower (Kd.R_new' ho0 (Kd.R_lt (xR HO421.out))) (below_size (xb HB.out))); have n2_ := Aside0.mk (below_step (xb HB.out) hb); clear HO421; clear HB; have HO421 := n0_; have HO424 := n1_; have HB := n2_; clear n0_ n1_ n2_; (try clear hb); (try clear hb2); (try clear hk); (try clear hi); (try clear ho0); obtain ⟨Ao20, co20, eo20⟩ := Kd.R_slice HO421.out; subst eo20; obtain ⟨Ao21, co21, eo21⟩ := Kd.R_slice HO424.out; subst eo21) | ((with_reducible refine gate_callee (f := 24) rfl ?_); refine goesL_ (some 19) rfl rfl Try.func24 (by kernel_rfl) rfl #[.slice Ao20 t419.length co20, .slice Ao21 t422.length co21] rfl xm ?_; (with_reducible refine (spec_PairingOf.calls k _ _ t419 _ _ t422 t425 _ ?side1 ?side2 ?side3 ?side4 A7.out).mono ?_); (case side1 => repeat (first | exact (Kd.R_reads' HO421.out).2.2 | (with_reducible refine Kd.C_alloc ?_ _) | (with_reducible refine Kd.C_drewN ?_ _) | (with_reducible refine Kd.C_drew ?_))); (case side2 => exact (Kd.R_reads' HO421.out).2.1); (case side3 => repeat (first | exact (Kd.R_reads' HO424.out).2.2 | (with_reducible refine Kd.C_alloc ?_ _) | (with_reducible refine Kd.C_drewN ?_ _) | (with_reducible refine Kd.C_drew ?_))); (case side4 => exact (Kd.R_reads' HO424.out).2.1); rintro e w22 ⟨rfl, hb⟩; refine ⟨_, rfl, ?_⟩; have n0_ := Aside0.mk (Kd.R_below (xR HO421.out) hb); have n1_ := Aside0.mk (Kd.R_below (xR HO424.out) hb); have n2_ := Aside0.mk (below_step (xb HB.out) hb); clear HO421; clear HO424; clear HB; have HO421 := n0_; have HO424 := n1_; have HB := n2_; clear n0_ n1_ n2_; (try clear hb); (try clear hb2); (try clear hk); (try clear hi)) | ((with_reducible refine gate_callee (f := 11) rfl ?_); refine goesL_ (some 21) rfl rfl Try.func11 (by kernel_rfl) rfl #[.slice A0 l0.length c0] rfl xm ?_; (with_reducible refine (laws_toIntS.calls k _ _ l0 t426 _ ?side1 ?side2 A8.out).mono ?_); (case side1 => first | exact xc (Kd.C_below HR0.out HB.out) | exact xc HR0.out); (case side2 => exact HC0.out); rintro e w23 ⟨v427, rfl, ho0, hb⟩; refine ⟨_, rfl, ?_⟩; have n0_ := Aside0.mk (Kd.R_elder' (xR HO421.out) (Kd.R_base ho0) hb); have n1_ := Aside0.mk (Kd.R_elder' (xR HO424.out) (Kd.R_base ho0) hb); have n2_ := Aside0.mk (Kd.R_lower (Kd.R_new' (Kd.R_new' ho0 (Kd.R_lt (xR HO421.out))) (Kd.R_lt (xR HO424.out))) (below_size (xb HB.out))); have n3_ := Aside0.mk (below_step (xb HB.out) hb); clear HO421; clear HO424; clear HB; have HO421 := n0_; have HO424 := n1_; have HO428 := n2_; have HB := n3_; clear n0_ n1_ n2_ n3_; (try clear hb); (try clear hb2); (try clear hk); (try clear hi); (try clear ho0)) | ((with_reducible refine gate_callee (f := 11) rfl ?_); refine goesL_ (some 23) rfl rfl Try.func11 (by kernel_rfl) rfl #[.slice A1 l1.length c1] rfl xm ?_; (with_reducible refine (laws_toIntS.calls k _ _ l1 t429 _ ?side1 ?side2 A9.out).mono ?_); (case side1 => first | exact xc (Kd.C_below HR1.out HB.out) | exact xc HR1.out); (case side2 => exact HC1.out); rintro e w24 ⟨v430, rfl, ho0, hb⟩; refine ⟨_, rfl, ?_⟩; have n0_ := Aside0.mk (Kd.R_elder' (xR HO421.out) (Kd.R_base ho0) hb); have n1_ := Aside0.mk (Kd.R_elder' (xR HO424.out) (Kd.R_base ho0) hb); have n2_ := Aside0.mk (Kd.R_elder' (xR HO428.out) (Kd.R_base ho0) hb); have n3_ := Aside0.mk (Kd.R_lower (Kd.R_new' (Kd.R_new' (Kd.R_new' ho0 (Kd.R_lt (xR HO421.out))) (Kd.R_lt (xR HO424.out))) (Kd.R_lt (xR HO428.out))) (below_size (xb HB.out))); have n4_ := Aside0.mk (below_step (xb HB.out) hb); clear HO421; clear HO424; clear HO428; clear HB; have HO421 := n0_; have HO424 := n1_; have HO428 := n2_; have HO431 := n3_; have HB := n4_; clear n0_ n1_ n2_ n3_ n4_; (try clear hb); (try clear hb2); (try clear hk); (try clear hi); (try clear ho0); obtain ⟨Ao25, co25, eo25⟩ := Kd.R_slice HO428.out; subst eo25; obtain ⟨Ao26, co26, eo26⟩ := Kd.R_slice HO431.out; subst eo26) | ((with_reducible refine gate_callee (f := 25) rfl ?_); refine goesL_ (some 26) rfl rfl Try.func25 (by kernel_rfl) rfl #[.slice Ao25 t426.length co25, .slice Ao26 t429.length co26] rfl xm ?_; (with_reducible refine (impl_PairingOf.calls k (fun k_ => some k_ = (.slice Ao25 t426.length co25 : Value).ownBlock) _ _ t426 (fun k_ => some k_ = (.slice Ao26 t429.length co26 : Value).ownBlock) _ _ t429 t432 _ ?side1 ?side2 A10.out).mono ?_); (case side1 => exact Kd.R_V (Kd.R_tight rfl (HO428.out))); (case side2 => exact Kd.R_V (Kd.R_tight rfl (HO431.out))); rintro e w27 ⟨rfl, hb⟩; refine ⟨_, rfl, ?_⟩; have n0_ := Aside0.mk (Kd.R_below (xR HO421.out) hb); have n1_ := Aside0.mk (Kd.R_below (xR HO424.out) hb); have n2_ := Aside0.mk (Kd.R_below (xR HO428.out) hb); have n3_ := Aside0.mk (Kd.R_below (xR HO431.out) hb); have n4_ := Aside0.mk (below_step (xb HB.out) hb); clear HO421; clear HO424; clear HO428; clear HO431; clear HB; have HO421 := n0_; have HO424 := n1_; have HO428 := n2_; have HO431 := n3_; have HB := n4_; clear n0_ n1_ n2_ n3_ n4_; (try clear hb); (try clear hb2); (try clear hk); (try clear hi)) | ((with_reducible refine gate_callee (f := 11) rfl ?_); refine goesL_ (some 32) rfl rfl Try.func11 (by kernel_rfl) rfl #[.slice A0 l0.length c0] rfl xm ?_; (with_reducible refine (laws_toIntS.calls k _ _ l0 t433 _ ?side1 ?side2 A12.out).mono ?_); (case side1 => first | exact xc (Kd.C_below HR0.out HB.out) | exact xc HR0.out); (case side2 => exact HC0.out); rintro e w28 ⟨v434, rfl, ho0, hb⟩; refine ⟨_, rfl, ?_⟩; have n0_ := Aside0.mk (Kd.R_elder' (xR HO421.out) (Kd.R_base ho0) hb); have n1_ := Aside0.mk (Kd.R_elder' (xR HO424.out) (Kd.R_base ho0) hb); have n2_ := Aside0.mk (Kd.R_elder' (xR HO428.out) (Kd.R_base ho0) hb); have n3_ := Aside0.mk (Kd.R_elder' (xR HO431.out) (Kd.R_base ho0) hb); have n4_ := Aside0.mk (Kd.R_lower (Kd.R_new' (Kd.R_new' (Kd.R_new' (Kd.R_new' ho0 (Kd.R_lt (xR HO421.out))) (Kd.R_lt (xR HO424.out))) (Kd.R_lt (xR HO428.out))) (Kd.R_lt (xR HO431.out))) (below_size (xb HB.out))); have n5_ := Aside0.mk (below_step (xb HB.out) hb); clear HO421; clear HO424; clear HO428; clear HO431; clear HB; have HO421 := n0_; have HO424 := n1_; have HO428 := n2_; have HO431 := n3_; have HO435 := n4_; have HB := n5_; clear n0_ n1_ n2_ n3_ n4_ n5_; (try clear hb); (try clear hb2); (try clear hk); (try clear hi); (try clear ho0); obtain ⟨Ao29, co29, eo29⟩ := Kd.R_slice HO435.out; subst eo29) | ((with_reducible refine gate_callee (f := 13) rfl ?_); refine goesL_ (some 33) rfl rfl Try.func13 (by kernel_rfl) rfl #[.slice Ao25 t426.length co25, .slice Ao29 t433.length co29] rfl xm ?_; (with_reducible refine (laws_eqIntS.calls k _ _ t426 _ _ t433 true _ ?side1 ?side2 ?side3 ?side4 A13.out).mono ?_); (case side1 => repeat (first | exact (Kd.R_reads' HO428.out).2.2 | (with_reducible refine Kd.C_alloc ?_ _) | (with_reducible refine Kd.C_drewN ?_ _) | (with_reducible refine Kd.C_drew ?_))); (case side2 => exact (Kd.R_reads' HO428.out).2.1); (case side3 => repeat (first | exact (Kd.R_reads' HO435.out).2.2 | (with_reducible refine Kd.C_alloc ?_ _) | (with_reducible refine Kd.C_drewN ?_ _) | (with_reducible refine Kd.C_drew ?_))); (case side4 => exact (Kd.R_reads' HO435.out).2.1); rintro e w' ⟨rfl, ⟨nd, rfl⟩⟩; refine ⟨_, rfl, ?_⟩) | ((with_reducible refine gate_callee (f := 11) rfl ?_); refine goesL_ (some 37) rfl rfl Try.func11 (by kernel_rfl) rfl #[.slice A1 l1.length c1] rfl xm ?_; (with_reducible refine (laws_toIntS.calls k _ _ l1 t437 _ ?side1 ?side2 A15.out).mono ?_); (case side1 => exact xc (Kd.C_below HR1.out (xb HB.out))); (case side2 => exact HC1.out); rintro e w30 ⟨v438, rfl, ho0, hb⟩; refine ⟨_, rfl, ?_⟩; have n0_ := Aside0.mk (Kd.R_elder' (xR HO421.out) (Kd.R_base ho0) hb); have n1_ := Aside0.mk (Kd.R_elder' (xR HO424.out) (Kd.R_base ho0) hb); have n2_ := Aside0.mk (Kd.R_elder' (xR HO428.out) (Kd.R_base ho0) hb); have n3_ := Aside0.mk (Kd.R_elder' (xR HO431.out) (Kd.R_base ho0) hb); have n4_ := Aside0.mk (Kd.R_elder' (xR HO435.out) (Kd.R_base ho0) hb); have n5_ := Aside0.mk (Kd.R_lower (Kd.R_new' (Kd.R_new' (Kd.R_new' (Kd.R_new' (Kd.R_new' ho0 (Kd.R_lt (xR HO421.out))) (Kd.R_lt (xR HO424.out))) (Kd.R_lt (xR HO428.out))) (Kd.R_lt (xR HO431.out))) (Kd.R_lt (xR HO435.out))) (below_size (xb HB.out))); have n6_ := Aside0.mk (below_step (xb HB.out) hb); clear HO421; clear HO424; clear HO428; clear HO431; clear HO435; clear HB; have HO421 := n0_; have HO424 := n1_; have HO428 := n2_; have HO431 := n3_; have HO435 := n4_; have HO439 := n5_; have HB := n6_; clear n0_ n1_ n2_ n3_ n4_ n5_ n6_; (try clear hb); (try clear hb2); (try clear hk); (try clear hi); (try clear ho0); obtain ⟨Ao31, co31, eo31⟩ := Kd.R_slice HO439.out; subst eo31) | ((with_reducible refine gate_callee (f := 13) rfl ?_); refine goesL_ (some 38) rfl rfl Try.func13 (by kernel_rfl) rfl #[.slice Ao26 t429.length co26, .slice Ao31 t437.length co31] rfl xm ?_; (with_reducible refine (laws_eqIntS.calls k _ _ t429 _ _ t437 true _ ?side1 ?side2 ?side3 ?side4 A16.out).mono ?_); (case side1 => repeat (first | exact (Kd.R_reads' HO431.out).2.2 | (with_reducible refine Kd.C_alloc ?_ _) | (with_reducible refine Kd.C_drewN ?_ _) | (with_reducible refine Kd.C_drew ?_))); (case side2 => exact (Kd.R_reads' HO431.out).2.1); (case side3 => repeat (first | exact (Kd.R_reads' HO439.out).2.2 | (with_reducible refine Kd.C_alloc ?_ _) | (with_reducible refine Kd.C_drewN ?_ _) | (with_reducible refine Kd.C_drew ?_))); (case side4 => exact (Kd.R_reads' HO439.out).2.1); rintro e w' ⟨rfl, ⟨nd, rfl⟩⟩; refine ⟨_, rfl, ?_⟩))
            go_ret
            exact ⟨by first | rfl | (simp [errW_none, errW_some] <;> rfl) | (simp [*, errW_none, errW_some] <;> rfl), by repeat (first | (with_reducible first | exact HB.out | apply below_alloc | apply pw_below_drewN | apply below_drew1) | exact HB.out)⟩
          · replace c17 := Bool.eq_false_iff.mpr c17
            subst c17
            have H1 : (some false) = some r := by rw [if_neg (show ¬ (false = true) by decide)] at H; exact H
            clear H
            have H := H1
            clear H1
            obtain rfl := Option.some.inj H
            go_enter Try.func8, Try.ntmps8
            go_wp2_with (first | ((with_reducible refine gate_callee (f := 11) rfl ?_); refine goesL_ (some 16) rfl rfl Try.func11 (by kernel_rfl) rfl #[.slice A0 l0.length c0] rfl xm ?_; (with_reducible refine (laws_toIntS.calls k _ _ l0 t419 _ ?side1 ?side2 A5.out).mono ?_); (case side1 => exact xc HR0.out); (case side2 => exact HC0.out); rintro e w32 ⟨v420, rfl, ho0, hb⟩; refine ⟨_, rfl, ?_⟩; have n0_ := Aside0.mk (Kd.R_lower ho0 (below_size (xb HB.out))); have n1_ := Aside0.mk (below_step (xb HB.out) hb); clear HB; have HO421 := n0_; have HB := n1_; clear n0_ n1_; (try clear hb); (try clear hb2); (try clear hk); (try clear hi); (try clear ho0)) | ((with_reducible refine gate_callee (f := 11) rfl ?_); refine goesL_ (some 18) rfl rfl Try.func11 (by kernel_rfl) rfl #[.slice A1 l1.length c1] rfl xm ?_; (with_reducible refine (laws_toIntS.calls k _ _ l1 t422 _ ?side1 ?side2 A6.out).mono ?_); (case side1 => first | exact xc (Kd.C_below HR1.out HB.out) | exact xc HR1.out); (case side2 => exact HC1.out); rintro e w33 ⟨v423, rfl, ho0, hb⟩; refine ⟨_, rfl, ?_⟩; have n0_ := Aside0.mk (Kd.R_elder' (xR HO421.out) (Kd.R_base ho0) hb); have n1_ := Aside0.mk (Kd.R_lower (Kd.R_new' ho0 (Kd.R_lt (xR HO421.out))) (below_size (xb HB.out))); have n2_ := Aside0.mk (below_step (xb HB.out) hb); clear HO421; clear HB; have HO421 := n0_; have HO424 := n1_; have HB := n2_; clear n0_ n1_ n2_; (try clear hb); (try clear hb2); (try clear hk); (try clear hi); (try clear ho0); obtain ⟨Ao34, co34, eo34⟩ := Kd.R_slice HO421.out; subst eo34; obtain ⟨Ao35, co35, eo35⟩ := Kd.R_slice HO424.out; subst eo35) | ((with_reducible refine gate_callee (f := 24) rfl ?_); refine goesL_ (some 19) rfl rfl Try.func24 (by kernel_rfl) rfl #[.slice Ao34 t419.length co34, .slice Ao35 t422.length co35] rfl xm ?_; (with_reducible refine (spec_PairingOf.calls k _ _ t419 _ _ t422 t425 _ ?side1 ?side2 ?side3 ?side4 A7.out).mono ?_); (case side1 => repeat (first | exact (Kd.R_reads' HO421.out).2.2 | (with_reducible refine Kd.C_alloc ?_ _) | (with_reducible refine Kd.C_drewN ?_ _) | (with_reducible refine Kd.C_drew ?_))); (case side2 => exact (Kd.R_reads' HO421.out).2.1); (case side3 => repeat (first | exact (Kd.R_reads' HO424.out).2.2 | (with_reducible refine Kd.C_alloc ?_ _) | (with_reducible refine Kd.C_drewN ?_ _) | (with_reducible refine Kd.C_drew ?_))); (case side4 => exact (Kd.R_reads' HO424.out).2.1); rintro e w36 ⟨rfl, hb⟩; refine ⟨_, rfl, ?_⟩; have n0_ := Aside0.mk (Kd.R_below (xR HO421.out) hb); have n1_ := Aside0.mk (Kd.R_below (xR HO424.out) hb); have n2_ := Aside0.mk (below_step (xb HB.out) hb); clear HO421; clear HO424; clear HB; have HO421 := n0_; have HO424 := n1_; have HB := n2_; clear n0_ n1_ n2_; (try clear hb); (try clear hb2); (try clear hk); (try clear hi)) | ((with_reducible refine gate_callee (f := 11) rfl ?_); refine goesL_ (some 21) rfl rfl Try.func11 (by kernel_rfl) rfl #[.slice A0 l0.length c0] rfl xm ?_; (with_reducible refine (laws_toIntS.calls k _ _ l0 t426 _ ?side1 ?side2 A8.out).mono ?_); (case side1 => first | exact xc (Kd.C_below HR0.out HB.out) | exact xc HR0.out); (case side2 => exact HC0.out); rintro e w37 ⟨v427, rfl, ho0, hb⟩; refine ⟨_, rfl, ?_⟩; have n0_ := Aside0.mk (Kd.R_elder' (xR HO421.out) (Kd.R_base ho0) hb); have n1_ := Aside0.mk (Kd.R_elder' (xR HO424.out) (Kd.R_base ho0) hb); have n2_ := Aside0.mk (Kd.R_lower (Kd.R_new' (Kd.R_new' ho0 (Kd.R_lt (xR HO421.out))) (Kd.R_lt (xR HO424.out))) (below_size (xb HB.out))); have n3_ := Aside0.mk (below_step (xb HB.out) hb); clear HO421; clear HO424; clear HB; have HO421 := n0_; have HO424 := n1_; have HO428 := n2_; have HB := n3_; clear n0_ n1_ n2_ n3_; (try clear hb); (try clear hb2); (try clear hk); (try clear hi); (try clear ho0)) | ((with_reducible refine gate_callee (f := 11) rfl ?_); refine goesL_ (some 23) rfl rfl Try.func11 (by kernel_rfl) rfl #[.slice A1 l1.length c1] rfl xm ?_; (with_reducible refine (laws_toIntS.calls k _ _ l1 t429 _ ?side1 ?side2 A9.out).mono ?_); (case side1 => first | exact xc (Kd.C_below HR1.out HB.out) | exact xc HR1.out); (case side2 => exact HC1.out); rintro e w38 ⟨v430, rfl, ho0, hb⟩; refine ⟨_, rfl, ?_⟩; have n0_ := Aside0.mk (Kd.R_elder' (xR HO421.out) (Kd.R_base ho0) hb); have n1_ := Aside0.mk (Kd.R_elder' (xR HO424.out) (Kd.R_base ho0) hb); have n2_ := Aside0.mk (Kd.R_elder' (xR HO428.out) (Kd.R_base ho0) hb); have n3_ := Aside0.mk (Kd.R_lower (Kd.R_new' (Kd.R_new' (Kd.R_new' ho0 (Kd.R_lt (xR HO421.out))) (Kd.R_lt (xR HO424.out))) (Kd.R_lt (xR HO428.out))) (below_size (xb HB.out))); have n4_ := Aside0.mk (below_step (xb HB.out) hb); clear HO421; clear HO424; clear HO428; clear HB; have HO421 := n0_; have HO424 := n1_; have HO428 := n2_; have HO431 := n3_; have HB := n4_; clear n0_ n1_ n2_ n3_ n4_; (try clear hb); (try clear hb2); (try clear hk); (try clear hi); (try clear ho0); obtain ⟨Ao39, co39, eo39⟩ := Kd.R_slice HO428.out; subst eo39; obtain ⟨Ao40, co40, eo40⟩ := Kd.R_slice HO431.out; subst eo40) | ((with_reducible refine gate_callee (f := 25) rfl ?_); refine goesL_ (some 26) rfl rfl Try.func25 (by kernel_rfl) rfl #[.slice Ao39 t426.length co39, .slice Ao40 t429.length co40] rfl xm ?_; (with_reducible refine (impl_PairingOf.calls k (fun k_ => some k_ = (.slice Ao39 t426.length co39 : Value).ownBlock) _ _ t426 (fun k_ => some k_ = (.slice Ao40 t429.length co40 : Value).ownBlock) _ _ t429 t432 _ ?side1 ?side2 A10.out).mono ?_); (case side1 => exact Kd.R_V (Kd.R_tight rfl (HO428.out))); (case side2 => exact Kd.R_V (Kd.R_tight rfl (HO431.out))); rintro e w41 ⟨rfl, hb⟩; refine ⟨_, rfl, ?_⟩; have n0_ := Aside0.mk (Kd.R_below (xR HO421.out) hb); have n1_ := Aside0.mk (Kd.R_below (xR HO424.out) hb); have n2_ := Aside0.mk (Kd.R_below (xR HO428.out) hb); have n3_ := Aside0.mk (Kd.R_below (xR HO431.out) hb); have n4_ := Aside0.mk (below_step (xb HB.out) hb); clear HO421; clear HO424; clear HO428; clear HO431; clear HB; have HO421 := n0_; have HO424 := n1_; have HO428 := n2_; have HO431 := n3_; have HB := n4_; clear n0_ n1_ n2_ n3_ n4_; (try clear hb); (try clear hb2); (try clear hk); (try clear hi)) | ((with_reducible refine gate_callee (f := 11) rfl ?_); refine goesL_ (some 32) rfl rfl Try.func11 (by kernel_rfl) rfl #[.slice A0 l0.length c0] rfl xm ?_; (with_reducible refine (laws_toIntS.calls k _ _ l0 t433 _ ?side1 ?side2 A12.out).mono ?_); (case side1 => first | exact xc (Kd.C_below HR0.out HB.out) | exact xc HR0.out); (case side2 => exact HC0.out); rintro e w42 ⟨v434, rfl, ho0, hb⟩; refine ⟨_, rfl, ?_⟩; have n0_ := Aside0.mk (Kd.R_elder' (xR HO421.out) (Kd.R_base ho0) hb); have n1_ := Aside0.mk (Kd.R_elder' (xR HO424.out) (Kd.R_base ho0) hb); have n2_ := Aside0.mk (Kd.R_elder' (xR HO428.out) (Kd.R_base ho0) hb); have n3_ := Aside0.mk (Kd.R_elder' (xR HO431.out) (Kd.R_base ho0) hb); have n4_ := Aside0.mk (Kd.R_lower (Kd.R_new' (Kd.R_new' (Kd.R_new' (Kd.R_new' ho0 (Kd.R_lt (xR HO421.out))) (Kd.R_lt (xR HO424.out))) (Kd.R_lt (xR HO428.out))) (Kd.R_lt (xR HO431.out))) (below_size (xb HB.out))); have n5_ := Aside0.mk (below_step (xb HB.out) hb); clear HO421; clear HO424; clear HO428; clear HO431; clear HB; have HO421 := n0_; have HO424 := n1_; have HO428 := n2_; have HO431 := n3_; have HO435 := n4_; have HB := n5_; clear n0_ n1_ n2_ n3_ n4_ n5_; (try clear hb); (try clear hb2); (try clear hk); (try clear hi); (try clear ho0); obtain ⟨Ao43, co43, eo43⟩ := Kd.R_slice HO435.out; subst eo43) | ((with_reducible refine gate_callee (f := 13) rfl ?_); refine goesL_ (some 33) rfl rfl Try.func13 (by kernel_rfl) rfl #[.slice Ao39 t426.length co39, .slice Ao43 t433.length co43] rfl xm ?_; (with_reducible refine (laws_eqIntS.calls k _ _ t426 _ _ t433 true _ ?side1 ?side2 ?side3 ?side4 A13.out).mono ?_); (case side1 => repeat (first | exact (Kd.R_reads' HO428.out).2.2 | (with_reducible refine Kd.C_alloc ?_ _) | (with_reducible refine Kd.C_drewN ?_ _) | (with_reducible refine Kd.C_drew ?_))); (case side2 => exact (Kd.R_reads' HO428.out).2.1); (case side3 => repeat (first | exact (Kd.R_reads' HO435.out).2.2 | (with_reducible refine Kd.C_alloc ?_ _) | (with_reducible refine Kd.C_drewN ?_ _) | (with_reducible refine Kd.C_drew ?_))); (case side4 => exact (Kd.R_reads' HO435.out).2.1); rintro e w' ⟨rfl, ⟨nd, rfl⟩⟩; refine ⟨_, rfl, ?_⟩) | ((with_reducible refine gate_callee (f := 11) rfl ?_); refine goesL_ (some 37) rfl rfl Try.func11 (by kernel_rfl) rfl #[.slice A1 l1.length c1] rfl xm ?_; (with_reducible refine (laws_toIntS.calls k _ _ l1 t437 _ ?side1 ?side2 A15.out).mono ?_); (case side1 => exact xc (Kd.C_below HR1.out (xb HB.out))); (case side2 => exact HC1.out); rintro e w44 ⟨v438, rfl, ho0, hb⟩; refine ⟨_, rfl, ?_⟩; have n0_ := Aside0.mk (Kd.R_elder' (xR HO421.out) (Kd.R_base ho0) hb); have n1_ := Aside0.mk (Kd.R_elder' (xR HO424.out) (Kd.R_base ho0) hb); have n2_ := Aside0.mk (Kd.R_elder' (xR HO428.out) (Kd.R_base ho0) hb); have n3_ := Aside0.mk (Kd.R_elder' (xR HO431.out) (Kd.R_base ho0) hb); have n4_ := Aside0.mk (Kd.R_elder' (xR HO435.out) (Kd.R_base ho0) hb); have n5_ := Aside0.mk (Kd.R_lower (Kd.R_new' (Kd.R_new' (Kd.R_new' (Kd.R_new' (Kd.R_new' ho0 (Kd.R_lt (xR HO421.out))) (Kd.R_lt (xR HO424.out))) (Kd.R_lt (xR HO428.out))) (Kd.R_lt (xR HO431.out))) (Kd.R_lt (xR HO435.out))) (below_size (xb HB.out))); have n6_ := Aside0.mk (below_step (xb HB.out) hb); clear HO421; clear HO424; clear HO428; clear HO431; clear HO435; clear HB; have HO421 := n0_; have HO424 := n1_; have HO428 := n2_; have HO431 := n3_; have HO435 := n4_; have HO439 := n5_; have HB := n6_; clear n0_ n1_ n2_ n3_ n4_ n5_ n6_; (try clear hb); (try clear hb2); (try clear hk); (try clear hi); (try clear ho0); obtain ⟨Ao45, co45, eo45⟩ := Kd.R_slice HO439.out; subst eo45) | ((with_reducible refine gate_callee (f := 13) rfl ?_); refine goesL_ (some 38) rfl rfl Try.func13 (by kernel_rfl) rfl #[.slice Ao40 t429.length co40, .slice Ao45 t437.length co45] rfl xm ?_; (with_reducible refine (laws_eqIntS.calls k _ _ t429 _ _ t437 false _ ?side1 ?side2 ?side3 ?side4 A16.out).mono ?_); (case side1 => repeat (first | exact (Kd.R_reads' HO431.out).2.2 | (with_reducible refine Kd.C_alloc ?_ _) | (with_reducible refine Kd.C_drewN ?_ _) | (with_reducible refine Kd.C_drew ?_))); (case side2 => exact (Kd.R_reads' HO431.out).2.1); (case side3 => repeat (first | exact (Kd.R_reads' HO439.out).2.2 | (with_reducible refine Kd.C_alloc ?_ _) | (with_reducible refine Kd.C_drewN ?_ _) | (with_reducible refine Kd.C_drew ?_))); (case side4 => exact (Kd.R_reads' HO439.out).2.1); rintro e w' ⟨rfl, ⟨nd, rfl⟩⟩; refine ⟨_, rfl, ?_⟩))
            go_ret
            exact ⟨by first | rfl | (simp [errW_none, errW_some] <;> rfl) | (simp [*, errW_none, errW_some] <;> rfl), by repeat (first | (with_reducible first | exact HB.out | apply below_alloc | apply pw_below_drewN | apply below_drew1) | exact HB.out)⟩
        · replace c14 := Bool.eq_false_iff.mpr c14
          subst c14
          have H1 : (some false) = some r := by rw [if_neg (show ¬ (false = true) by decide)] at H; exact H
          clear H
          have H := H1
          clear H1
          obtain rfl := Option.some.inj H
          go_enter Try.func8, Try.ntmps8
          go_wp2_with (first | ((with_reducible refine gate_callee (f := 11) rfl ?_); refine goesL_ (some 16) rfl rfl Try.func11 (by kernel_rfl) rfl #[.slice A0 l0.length c0] rfl xm ?_; (with_reducible refine (laws_toIntS.calls k _ _ l0 t419 _ ?side1 ?side2 A5.out).mono ?_); (case side1 => exact xc HR0.out); (case side2 => exact HC0.out); rintro e w46 ⟨v420, rfl, ho0, hb⟩; refine ⟨_, rfl, ?_⟩; have n0_ := Aside0.mk (Kd.R_lower ho0 (below_size (xb HB.out))); have n1_ := Aside0.mk (below_step (xb HB.out) hb); clear HB; have HO421 := n0_; have HB := n1_; clear n0_ n1_; (try clear hb); (try clear hb2); (try clear hk); (try clear hi); (try clear ho0)) | ((with_reducible refine gate_callee (f := 11) rfl ?_); refine goesL_ (some 18) rfl rfl Try.func11 (by kernel_rfl) rfl #[.slice A1 l1.length c1] rfl xm ?_; (with_reducible refine (laws_toIntS.calls k _ _ l1 t422 _ ?side1 ?side2 A6.out).mono ?_); (case side1 => first | exact xc (Kd.C_below HR1.out HB.out) | exact xc HR1.out); (case side2 => exact HC1.out); rintro e w47 ⟨v423, rfl, ho0, hb⟩; refine ⟨_, rfl, ?_⟩; have n0_ := Aside0.mk (Kd.R_elder' (xR HO421.out) (Kd.R_base ho0) hb); have n1_ := Aside0.mk (Kd.R_lower (Kd.R_new' ho0 (Kd.R_lt (xR HO421.out))) (below_size (xb HB.out))); have n2_ := Aside0.mk (below_step (xb HB.out) hb); clear HO421; clear HB; have HO421 := n0_; have HO424 := n1_; have HB := n2_; clear n0_ n1_ n2_; (try clear hb); (try clear hb2); (try clear hk); (try clear hi); (try clear ho0); obtain ⟨Ao48, co48, eo48⟩ := Kd.R_slice HO421.out; subst eo48; obtain ⟨Ao49, co49, eo49⟩ := Kd.R_slice HO424.out; subst eo49) | ((with_reducible refine gate_callee (f := 24) rfl ?_); refine goesL_ (some 19) rfl rfl Try.func24 (by kernel_rfl) rfl #[.slice Ao48 t419.length co48, .slice Ao49 t422.length co49] rfl xm ?_; (with_reducible refine (spec_PairingOf.calls k _ _ t419 _ _ t422 t425 _ ?side1 ?side2 ?side3 ?side4 A7.out).mono ?_); (case side1 => repeat (first | exact (Kd.R_reads' HO421.out).2.2 | (with_reducible refine Kd.C_alloc ?_ _) | (with_reducible refine Kd.C_drewN ?_ _) | (with_reducible refine Kd.C_drew ?_))); (case side2 => exact (Kd.R_reads' HO421.out).2.1); (case side3 => repeat (first | exact (Kd.R_reads' HO424.out).2.2 | (with_reducible refine Kd.C_alloc ?_ _) | (with_reducible refine Kd.C_drewN ?_ _) | (with_reducible refine Kd.C_drew ?_))); (case side4 => exact (Kd.R_reads' HO424.out).2.1); rintro e w50 ⟨rfl, hb⟩; refine ⟨_, rfl, ?_⟩; have n0_ := Aside0.mk (Kd.R_below (xR HO421.out) hb); have n1_ := Aside0.mk (Kd.R_below (xR HO424.out) hb); have n2_ := Aside0.mk (below_step (xb HB.out) hb); clear HO421; clear HO424; clear HB; have HO421 := n0_; have HO424 := n1_; have HB := n2_; clear n0_ n1_ n2_; (try clear hb); (try clear hb2); (try clear hk); (try clear hi)) | ((with_reducible refine gate_callee (f := 11) rfl ?_); refine goesL_ (some 21) rfl rfl Try.func11 (by kernel_rfl) rfl #[.slice A0 l0.length c0] rfl xm ?_; (with_reducible refine (laws_toIntS.calls k _ _ l0 t426 _ ?side1 ?side2 A8.out).mono ?_); (case side1 => first | exact xc (Kd.C_below HR0.out HB.out) | exact xc HR0.out); (case side2 => exact HC0.out); rintro e w51 ⟨v427, rfl, ho0, hb⟩; refine ⟨_, rfl, ?_⟩; have n0_ := Aside0.mk (Kd.R_elder' (xR HO421.out) (Kd.R_base ho0) hb); have n1_ := Aside0.mk (Kd.R_elder' (xR HO424.out) (Kd.R_base ho0) hb); have n2_ := Aside0.mk (Kd.R_lower (Kd.R_new' (Kd.R_new' ho0 (Kd.R_lt (xR HO421.out))) (Kd.R_lt (xR HO424.out))) (below_size (xb HB.out))); have n3_ := Aside0.mk (below_step (xb HB.out) hb); clear HO421; clear HO424; clear HB; have HO421 := n0_; have HO424 := n1_; have HO428 := n2_; have HB := n3_; clear n0_ n1_ n2_ n3_; (try clear hb); (try clear hb2); (try clear hk); (try clear hi); (try clear ho0)) | ((with_reducible refine gate_callee (f := 11) rfl ?_); refine goesL_ (some 23) rfl rfl Try.func11 (by kernel_rfl) rfl #[.slice A1 l1.length c1] rfl xm ?_; (with_reducible refine (laws_toIntS.calls k _ _ l1 t429 _ ?side1 ?side2 A9.out).mono ?_); (case side1 => first | exact xc (Kd.C_below HR1.out HB.out) | exact xc HR1.out); (case side2 => exact HC1.out); rintro e w52 ⟨v430, rfl, ho0, hb⟩; refine ⟨_, rfl, ?_⟩; have n0_ := Aside0.mk (Kd.R_elder' (xR HO421.out) (Kd.R_base ho0) hb); have n1_ := Aside0.mk (Kd.R_elder' (xR HO424.out) (Kd.R_base ho0) hb); have n2_ := Aside0.mk (Kd.R_elder' (xR HO428.out) (Kd.R_base ho0) hb); have n3_ := Aside0.mk (Kd.R_lower (Kd.R_new' (Kd.R_new' (Kd.R_new' ho0 (Kd.R_lt (xR HO421.out))) (Kd.R_lt (xR HO424.out))) (Kd.R_lt (xR HO428.out))) (below_size (xb HB.out))); have n4_ := Aside0.mk (below_step (xb HB.out) hb); clear HO421; clear HO424; clear HO428; clear HB; have HO421 := n0_; have HO424 := n1_; have HO428 := n2_; have HO431 := n3_; have HB := n4_; clear n0_ n1_ n2_ n3_ n4_; (try clear hb); (try clear hb2); (try clear hk); (try clear hi); (try clear ho0); obtain ⟨Ao53, co53, eo53⟩ := Kd.R_slice HO428.out; subst eo53; obtain ⟨Ao54, co54, eo54⟩ := Kd.R_slice HO431.out; subst eo54) | ((with_reducible refine gate_callee (f := 25) rfl ?_); refine goesL_ (some 26) rfl rfl Try.func25 (by kernel_rfl) rfl #[.slice Ao53 t426.length co53, .slice Ao54 t429.length co54] rfl xm ?_; (with_reducible refine (impl_PairingOf.calls k (fun k_ => some k_ = (.slice Ao53 t426.length co53 : Value).ownBlock) _ _ t426 (fun k_ => some k_ = (.slice Ao54 t429.length co54 : Value).ownBlock) _ _ t429 t432 _ ?side1 ?side2 A10.out).mono ?_); (case side1 => exact Kd.R_V (Kd.R_tight rfl (HO428.out))); (case side2 => exact Kd.R_V (Kd.R_tight rfl (HO431.out))); rintro e w55 ⟨rfl, hb⟩; refine ⟨_, rfl, ?_⟩; have n0_ := Aside0.mk (Kd.R_below (xR HO421.out) hb); have n1_ := Aside0.mk (Kd.R_below (xR HO424.out) hb); have n2_ := Aside0.mk (Kd.R_below (xR HO428.out) hb); have n3_ := Aside0.mk (Kd.R_below (xR HO431.out) hb); have n4_ := Aside0.mk (below_step (xb HB.out) hb); clear HO421; clear HO424; clear HO428; clear HO431; clear HB; have HO421 := n0_; have HO424 := n1_; have HO428 := n2_; have HO431 := n3_; have HB := n4_; clear n0_ n1_ n2_ n3_ n4_; (try clear hb); (try clear hb2); (try clear hk); (try clear hi)) | ((with_reducible refine gate_callee (f := 11) rfl ?_); refine goesL_ (some 32) rfl rfl Try.func11 (by kernel_rfl) rfl #[.slice A0 l0.length c0] rfl xm ?_; (with_reducible refine (laws_toIntS.calls k _ _ l0 t433 _ ?side1 ?side2 A12.out).mono ?_); (case side1 => first | exact xc (Kd.C_below HR0.out HB.out) | exact xc HR0.out); (case side2 => exact HC0.out); rintro e w56 ⟨v434, rfl, ho0, hb⟩; refine ⟨_, rfl, ?_⟩; have n0_ := Aside0.mk (Kd.R_elder' (xR HO421.out) (Kd.R_base ho0) hb); have n1_ := Aside0.mk (Kd.R_elder' (xR HO424.out) (Kd.R_base ho0) hb); have n2_ := Aside0.mk (Kd.R_elder' (xR HO428.out) (Kd.R_base ho0) hb); have n3_ := Aside0.mk (Kd.R_elder' (xR HO431.out) (Kd.R_base ho0) hb); have n4_ := Aside0.mk (Kd.R_lower (Kd.R_new' (Kd.R_new' (Kd.R_new' (Kd.R_new' ho0 (Kd.R_lt (xR HO421.out))) (Kd.R_lt (xR HO424.out))) (Kd.R_lt (xR HO428.out))) (Kd.R_lt (xR HO431.out))) (below_size (xb HB.out))); have n5_ := Aside0.mk (below_step (xb HB.out) hb); clear HO421; clear HO424; clear HO428; clear HO431; clear HB; have HO421 := n0_; have HO424 := n1_; have HO428 := n2_; have HO431 := n3_; have HO435 := n4_; have HB := n5_; clear n0_ n1_ n2_ n3_ n4_ n5_; (try clear hb); (try clear hb2); (try clear hk); (try clear hi); (try clear ho0); obtain ⟨Ao57, co57, eo57⟩ := Kd.R_slice HO435.out; subst eo57) | ((with_reducible refine gate_callee (f := 13) rfl ?_); refine goesL_ (some 33) rfl rfl Try.func13 (by kernel_rfl) rfl #[.slice Ao53 t426.length co53, .slice Ao57 t433.length co57] rfl xm ?_; (with_reducible refine (laws_eqIntS.calls k _ _ t426 _ _ t433 false _ ?side1 ?side2 ?side3 ?side4 A13.out).mono ?_); (case side1 => repeat (first | exact (Kd.R_reads' HO428.out).2.2 | (with_reducible refine Kd.C_alloc ?_ _) | (with_reducible refine Kd.C_drewN ?_ _) | (with_reducible refine Kd.C_drew ?_))); (case side2 => exact (Kd.R_reads' HO428.out).2.1); (case side3 => repeat (first | exact (Kd.R_reads' HO435.out).2.2 | (with_reducible refine Kd.C_alloc ?_ _) | (with_reducible refine Kd.C_drewN ?_ _) | (with_reducible refine Kd.C_drew ?_))); (case side4 => exact (Kd.R_reads' HO435.out).2.1); rintro e w' ⟨rfl, ⟨nd, rfl⟩⟩; refine ⟨_, rfl, ?_⟩))
          go_ret
          exact ⟨by first | rfl | (simp [errW_none, errW_some] <;> rfl) | (simp [*, errW_none, errW_some] <;> rfl), by repeat (first | (with_reducible first | exact HB.out | apply below_alloc | apply pw_below_drewN | apply below_drew1) | exact HB.out)⟩
      · rw [if_neg c11] at H
        have c11b0 : (t432 == t425) = false := beq_eq_false_iff_ne.mpr c11
        have c11b1 : (t432 != t425) = true := bne_iff_ne.mpr c11
        obtain rfl := Option.some.inj H
        go_enter Try.func8, Try.ntmps8
        go_wp2_with (first | ((with_reducible refine gate_callee (f := 11) rfl ?_); refine goesL_ (some 16) rfl rfl Try.func11 (by kernel_rfl) rfl #[.slice A0 l0.length c0] rfl xm ?_; (with_reducible refine (laws_toIntS.calls k _ _ l0 t419 _ ?side1 ?side2 A5.out).mono ?_); (case side1 => exact xc HR0.out); (case side2 => exact HC0.out); rintro e w58 ⟨v420, rfl, ho0, hb⟩; refine ⟨_, rfl, ?_⟩; have n0_ := Aside0.mk (Kd.R_lower ho0 (below_size (xb HB.out))); have n1_ := Aside0.mk (below_step (xb HB.out) hb); clear HB; have HO421 := n0_; have HB := n1_; clear n0_ n1_; (try clear hb); (try clear hb2); (try clear hk); (try clear hi); (try clear ho0)) | ((with_reducible refine gate_callee (f := 11) rfl ?_); refine goesL_ (some 18) rfl rfl Try.func11 (by kernel_rfl) rfl #[.slice A1 l1.length c1] rfl xm ?_; (with_reducible refine (laws_toIntS.calls k _ _ l1 t422 _ ?side1 ?side2 A6.out).mono ?_); (case side1 => first | exact xc (Kd.C_below HR1.out HB.out) | exact xc HR1.out); (case side2 => exact HC1.out); rintro e w59 ⟨v423, rfl, ho0, hb⟩; refine ⟨_, rfl, ?_⟩; have n0_ := Aside0.mk (Kd.R_elder' (xR HO421.out) (Kd.R_base ho0) hb); have n1_ := Aside0.mk (Kd.R_lower (Kd.R_new' ho0 (Kd.R_lt (xR HO421.out))) (below_size (xb HB.out))); have n2_ := Aside0.mk (below_step (xb HB.out) hb); clear HO421; clear HB; have HO421 := n0_; have HO424 := n1_; have HB := n2_; clear n0_ n1_ n2_; (try clear hb); (try clear hb2); (try clear hk); (try clear hi); (try clear ho0); obtain ⟨Ao60, co60, eo60⟩ := Kd.R_slice HO421.out; subst eo60; obtain ⟨Ao61, co61, eo61⟩ := Kd.R_slice HO424.out; subst eo61) | ((with_reducible refine gate_callee (f := 24) rfl ?_); refine goesL_ (some 19) rfl rfl Try.func24 (by kernel_rfl) rfl #[.slice Ao60 t419.length co60, .slice Ao61 t422.length co61] rfl xm ?_; (with_reducible refine (spec_PairingOf.calls k _ _ t419 _ _ t422 t425 _ ?side1 ?side2 ?side3 ?side4 A7.out).mono ?_); (case side1 => repeat (first | exact (Kd.R_reads' HO421.out).2.2 | (with_reducible refine Kd.C_alloc ?_ _) | (with_reducible refine Kd.C_drewN ?_ _) | (with_reducible refine Kd.C_drew ?_))); (case side2 => exact (Kd.R_reads' HO421.out).2.1); (case side3 => repeat (first | exact (Kd.R_reads' HO424.out).2.2 | (with_reducible refine Kd.C_alloc ?_ _) | (with_reducible refine Kd.C_drewN ?_ _) | (with_reducible refine Kd.C_drew ?_))); (case side4 => exact (Kd.R_reads' HO424.out).2.1); rintro e w62 ⟨rfl, hb⟩; refine ⟨_, rfl, ?_⟩; have n0_ := Aside0.mk (Kd.R_below (xR HO421.out) hb); have n1_ := Aside0.mk (Kd.R_below (xR HO424.out) hb); have n2_ := Aside0.mk (below_step (xb HB.out) hb); clear HO421; clear HO424; clear HB; have HO421 := n0_; have HO424 := n1_; have HB := n2_; clear n0_ n1_ n2_; (try clear hb); (try clear hb2); (try clear hk); (try clear hi)) | ((with_reducible refine gate_callee (f := 11) rfl ?_); refine goesL_ (some 21) rfl rfl Try.func11 (by kernel_rfl) rfl #[.slice A0 l0.length c0] rfl xm ?_; (with_reducible refine (laws_toIntS.calls k _ _ l0 t426 _ ?side1 ?side2 A8.out).mono ?_); (case side1 => first | exact xc (Kd.C_below HR0.out HB.out) | exact xc HR0.out); (case side2 => exact HC0.out); rintro e w63 ⟨v427, rfl, ho0, hb⟩; refine ⟨_, rfl, ?_⟩; have n0_ := Aside0.mk (Kd.R_elder' (xR HO421.out) (Kd.R_base ho0) hb); have n1_ := Aside0.mk (Kd.R_elder' (xR HO424.out) (Kd.R_base ho0) hb); have n2_ := Aside0.mk (Kd.R_lower (Kd.R_new' (Kd.R_new' ho0 (Kd.R_lt (xR HO421.out))) (Kd.R_lt (xR HO424.out))) (below_size (xb HB.out))); have n3_ := Aside0.mk (below_step (xb HB.out) hb); clear HO421; clear HO424; clear HB; have HO421 := n0_; have HO424 := n1_; have HO428 := n2_; have HB := n3_; clear n0_ n1_ n2_ n3_; (try clear hb); (try clear hb2); (try clear hk); (try clear hi); (try clear ho0)) | ((with_reducible refine gate_callee (f := 11) rfl ?_); refine goesL_ (some 23) rfl rfl Try.func11 (by kernel_rfl) rfl #[.slice A1 l1.length c1] rfl xm ?_; (with_reducible refine (laws_toIntS.calls k _ _ l1 t429 _ ?side1 ?side2 A9.out).mono ?_); (case side1 => first | exact xc (Kd.C_below HR1.out HB.out) | exact xc HR1.out); (case side2 => exact HC1.out); rintro e w64 ⟨v430, rfl, ho0, hb⟩; refine ⟨_, rfl, ?_⟩; have n0_ := Aside0.mk (Kd.R_elder' (xR HO421.out) (Kd.R_base ho0) hb); have n1_ := Aside0.mk (Kd.R_elder' (xR HO424.out) (Kd.R_base ho0) hb); have n2_ := Aside0.mk (Kd.R_elder' (xR HO428.out) (Kd.R_base ho0) hb); have n3_ := Aside0.mk (Kd.R_lower (Kd.R_new' (Kd.R_new' (Kd.R_new' ho0 (Kd.R_lt (xR HO421.out))) (Kd.R_lt (xR HO424.out))) (Kd.R_lt (xR HO428.out))) (below_size (xb HB.out))); have n4_ := Aside0.mk (below_step (xb HB.out) hb); clear HO421; clear HO424; clear HO428; clear HB; have HO421 := n0_; have HO424 := n1_; have HO428 := n2_; have HO431 := n3_; have HB := n4_; clear n0_ n1_ n2_ n3_ n4_; (try clear hb); (try clear hb2); (try clear hk); (try clear hi); (try clear ho0); obtain ⟨Ao65, co65, eo65⟩ := Kd.R_slice HO428.out; subst eo65; obtain ⟨Ao66, co66, eo66⟩ := Kd.R_slice HO431.out; subst eo66) | ((with_reducible refine gate_callee (f := 25) rfl ?_); refine goesL_ (some 26) rfl rfl Try.func25 (by kernel_rfl) rfl #[.slice Ao65 t426.length co65, .slice Ao66 t429.length co66] rfl xm ?_; (with_reducible refine (impl_PairingOf.calls k (fun k_ => some k_ = (.slice Ao65 t426.length co65 : Value).ownBlock) _ _ t426 (fun k_ => some k_ = (.slice Ao66 t429.length co66 : Value).ownBlock) _ _ t429 t432 _ ?side1 ?side2 A10.out).mono ?_); (case side1 => exact Kd.R_V (Kd.R_tight rfl (HO428.out))); (case side2 => exact Kd.R_V (Kd.R_tight rfl (HO431.out))); rintro e w67 ⟨rfl, hb⟩; refine ⟨_, rfl, ?_⟩; have n0_ := Aside0.mk (Kd.R_below (xR HO421.out) hb); have n1_ := Aside0.mk (Kd.R_below (xR HO424.out) hb); have n2_ := Aside0.mk (Kd.R_below (xR HO428.out) hb); have n3_ := Aside0.mk (Kd.R_below (xR HO431.out) hb); have n4_ := Aside0.mk (below_step (xb HB.out) hb); clear HO421; clear HO424; clear HO428; clear HO431; clear HB; have HO421 := n0_; have HO424 := n1_; have HO428 := n2_; have HO431 := n3_; have HB := n4_; clear n0_ n1_ n2_ n3_ n4_; (try clear hb); (try clear hb2); (try clear hk); (try clear hi)))
        go_ret
        exact ⟨by first | rfl | (simp [errW_none, errW_some] <;> rfl) | (simp [*, errW_none, errW_some] <;> rfl), by repeat (first | (with_reducible first | exact HB.out | apply below_alloc | apply pw_below_drewN | apply below_drew1) | exact HB.out)⟩

/-- THE ONE PURE STATEMENT of laws_FnExactPairingOf: yours. -/
def laws_FnExactPairingOf.Pure : Prop := ∀ (l0 : List Int) (l1 : List Int), l0.length ≤ maxLen → l0.length * 8 ≤ 140737488351232 → (∀ x ∈ l0, (Lit.int .i64 x).wf = true) → l1.length ≤ maxLen → l1.length * 8 ≤ 140737488351232 → (∀ x ∈ l1, (Lit.int .i64 x).wf = true) → ∃ k, laws_FnExactPairingOf.f k l0 l1 = some true
theorem laws_FnExactPairingOf.walk (P : laws_FnExactPairingOf.Pure) (a0 : Option Addr) (len0 cap0 : Nat) (z0 : List Int) (a1 : Option Addr) (len1 cap1 : Nat) (z1 : List Int) (w : World) (w0 : (a0 = none ∧ len0 = 0 ∧ cap0 = 0 ∧ z0 = []) ∨ ∃ x, a0 = some x ∧ len0 ≤ cap0 ∧ cap0 ≤ maxLen ∧ z0.length = cap0 ∧ (∀ i, i < z0.length → w.cell? (x.add i) = some (.int .i64 (z0.getD i 0))) ∧ ∀ n ∈ z0, (Lit.int .i64 n).wf = true) (y0 : len0 * 8 ≤ 140737488351232) (w1 : (a1 = none ∧ len1 = 0 ∧ cap1 = 0 ∧ z1 = []) ∨ ∃ x, a1 = some x ∧ len1 ≤ cap1 ∧ cap1 ≤ maxLen ∧ z1.length = cap1 ∧ (∀ i, i < z1.length → w.cell? (x.add i) = some (.int .i64 (z1.getD i 0))) ∧ ∀ n ∈ z1, (Lit.int .i64 n).wf = true) (y1 : len1 * 8 ≤ 140737488351232) :
    Calls Try.prog 8 #[.slice a0 len0 cap0, .slice a1 len1 cap1] w fun e w' => e = .returned (.bool true) ∧ Below w.heap.size w w' := by
  obtain ⟨l0, rfl, hr0, hm0, hw0, hc0⟩ := ReadsInt.ofRowC w0
  obtain ⟨l1, rfl, hr1, hm1, hw1, hc1⟩ := ReadsInt.ofRowC w1
  obtain ⟨k, h⟩ := P l0 l1 hm0 y0 hw0 hm1 y1 hw1
  refine (laws_FnExactPairingOf.calls k _ _ l0 _ _ l1 true w (Kd.C_of_reads (d := (0 : Int)) (h1 := fun _ => rfl) hr0) hc0 (Kd.C_of_reads (d := (0 : Int)) (h1 := fun _ => rfl) hr1) hc1 h).mono ?_
  rintro e w' ⟨rfl, hd⟩
  exact ⟨rfl, hd⟩

end Go.Proofs.Ytojjokhfmgomcaa.PFnExactPairingOf
