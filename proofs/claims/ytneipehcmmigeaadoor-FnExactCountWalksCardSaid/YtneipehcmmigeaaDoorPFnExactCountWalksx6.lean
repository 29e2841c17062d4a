-- Written by a program of this session (wip/print/xprint.py).
import Derived.Test.YtneipehcmmigeaaDoorPFnExactCountWalksx0
import Derived.Test.YtneipehcmmigeaaDoorPFnExactCountWalksx1
import Derived.Test.YtneipehcmmigeaaDoorPFnExactCountWalksx2
import Derived.Test.YtneipehcmmigeaaDoorPFnExactCountWalksx3
import Derived.Test.YtneipehcmmigeaaDoorPFnExactCountWalksx4
import Derived.Test.YtneipehcmmigeaaDoorPFnExactCountWalksx5
namespace Go.Proofs.YtneipehcmmigeaaDoor.PFnExactCountWalks
open Go.RowKit Go.Proofs.YtneipehcmmigeaaDoorW.PrintWords Go.Proofs.YtneipehcmmigeaaDoorW.PrintLast Go.Proofs.YtneipehcmmigeaaDoorW.PrintMore
attribute [local go_sem] max2_int min2_int max_two min_two max_three min_three max_four min_four   -- for this text's walks alone
set_option linter.unusedVariables false
set_option linter.unusedSimpArgs false

/-! ### spec_l28Step: function 33 -/
mutual
def spec_l28Step.l0 : Nat → List (S33) → Bool → List (S33) → Int → Option ((List (S33)))
  | 0, _, _, _, _ => none
  | k + 1, x0, x1, x5, x6 => if x6 < (x0.length : Int) then (spec_l28Step.l1 k x0 x1 x5 x6 0) else (some x5)
def spec_l28Step.l1 : Nat → List (S33) → Bool → List (S33) → Int → Int → Option ((List (S33)))
  | 0, _, _, _, _, _ => none
  | k + 1, x0, x1, x5, x6, x7 => if 0 ≤ x6 then (if x6 < (x0.length : Int) then (if x7 ≤ (((rd_T33 x0 x6).f0).length : Int) then ((spec_RemoveBox.f k ((rd_T33 x0 x6).f0) x7).bind fun bt162 => (if x1 = true then ((spec_AddBox.f k ((rd_T33 x0 x6).f0) x7).bind fun bt167 => (if bt167.2 = true then ((spec_l28Put.f k x5 bt167.1 ((rd_T33 x0 x6).f1)).bind fun t172 => (spec_l28Step.l1 k x0 x1 t172 x6 (wrap64 (x7 + 1)))) else (spec_l28Step.l1 k x0 x1 x5 x6 (wrap64 (x7 + 1))))) else (if bt162.2 = true then ((spec_l28Put.f k x5 bt162.1 ((rd_T33 x0 x6).f1)).bind fun t176 => (spec_l28Step.l1 k x0 x1 t176 x6 (wrap64 (x7 + 1)))) else (spec_l28Step.l1 k x0 x1 x5 x6 (wrap64 (x7 + 1)))))) else (spec_l28Step.l0 k x0 x1 x5 (wrap64 (x6 + 1)))) else (none)) else (none)
end
def spec_l28Step.f (k : Nat) (l0 : List (S33)) (a1 : Bool) : Option ((List (S33))) := spec_l28Step.l0 k l0 a1 (([] : List (S33))) 0
theorem spec_l28Step.mono_l : ∀ k, (∀ y0 y1 y2 y3, LeO (spec_l28Step.l0 k y0 y1 y2 y3) (spec_l28Step.l0 (k + 1) y0 y1 y2 y3)) ∧ (∀ y0 y1 y2 y3 y4, LeO (spec_l28Step.l1 k y0 y1 y2 y3 y4) (spec_l28Step.l1 (k + 1) y0 y1 y2 y3 y4))
  | 0 => ⟨fun _ _ _ _ r h => by simp [spec_l28Step.l0] at h, fun _ _ _ _ _ r h => by simp [spec_l28Step.l1] at h⟩
  | k + 1 => by
    obtain ⟨ih0, ih1⟩ := spec_l28Step.mono_l k
    refine ⟨?_, ?_⟩
    · intro y0 y1 y2 y3
      unfold spec_l28Step.l0
      repeat' first
      | (with_reducible exact ih0 _ _ _ _)
      | (with_reducible exact ih1 _ _ _ _ _)
      | (with_reducible exact spec_AddBox.mono _ _ _)
      | (with_reducible exact spec_RemoveBox.mono _ _ _)
      | (with_reducible exact spec_l28Put.mono _ _ _ _)
      | (with_reducible exact LeO.refl _)
      | (with_reducible exact LeO.none _)
      | (with_reducible refine LeO.ite ?_ ?_)
      | (with_reducible refine LeO.bind ?_ (fun _ => ?_))
      | exact ih0 _ _ _ _
      | exact ih1 _ _ _ _ _
      | exact spec_AddBox.mono _ _ _
      | exact spec_RemoveBox.mono _ _ _
      | exact spec_l28Put.mono _ _ _ _
      | exact LeO.none _
      | refine LeO.ite ?_ ?_
      | refine LeO.bind ?_ (fun _ => ?_)
    · intro y0 y1 y2 y3 y4
      unfold spec_l28Step.l1
      repeat' first
      | (with_reducible exact ih0 _ _ _ _)
      | (with_reducible exact ih1 _ _ _ _ _)
      | (with_reducible exact spec_AddBox.mono _ _ _)
      | (with_reducible exact spec_RemoveBox.mono _ _ _)
      | (with_reducible exact spec_l28Put.mono _ _ _ _)
      | (with_reducible exact LeO.refl _)
      | (with_reducible exact LeO.none _)
      | (with_reducible refine LeO.ite ?_ ?_)
      | (with_reducible refine LeO.bind ?_ (fun _ => ?_))
      | exact ih0 _ _ _ _
      | exact ih1 _ _ _ _ _
      | exact spec_AddBox.mono _ _ _
      | exact spec_RemoveBox.mono _ _ _
      | exact spec_l28Put.mono _ _ _ _
      | exact LeO.none _
      | refine LeO.ite ?_ ?_
      | refine LeO.bind ?_ (fun _ => ?_)
theorem spec_l28Step.mono : ∀ a0 a1 k, LeO (spec_l28Step.f k a0 a1) (spec_l28Step.f (k + 1) a0 a1) := by
  intro a0 a1 k
  obtain ⟨ih0, ih1⟩ := spec_l28Step.mono_l k
  unfold spec_l28Step.f
  repeat' first
      | (with_reducible exact ih0 _ _ _ _)
      | (with_reducible exact ih1 _ _ _ _ _)
      | (with_reducible exact spec_AddBox.mono _ _ _)
      | (with_reducible exact spec_RemoveBox.mono _ _ _)
      | (with_reducible exact spec_l28Put.mono _ _ _ _)
      | (with_reducible exact LeO.refl _)
      | (with_reducible exact LeO.none _)
      | (with_reducible refine LeO.ite ?_ ?_)
      | (with_reducible refine LeO.bind ?_ (fun _ => ?_))
      | exact ih0 _ _ _ _
      | exact ih1 _ _ _ _ _
      | exact spec_AddBox.mono _ _ _
      | exact spec_RemoveBox.mono _ _ _
      | exact spec_l28Put.mono _ _ _ _
      | exact LeO.none _
      | refine LeO.ite ?_ ?_
      | refine LeO.bind ?_ (fun _ => ?_)
set_option maxHeartbeats 8000000 in
set_option maxRecDepth 100000 in
theorem spec_l28Step.calls (k : Nat) (A0 : Option Addr) (c0 : Nat) (l0 : List (S33)) (a1 : Bool) (r : List (S33)) (w : World) (hr0 : Kd.C k33 w A0 l0.length l0) (hc0 : l0.length ≤ c0) (h : spec_l28Step.f k l0 a1 = some r) :
    Calls Tryd.prog 33 #[.slice A0 l0.length c0, .bool a1] w fun e w' => ∃ v0_ : Value, e = .returned (v0_) ∧ Kd.N k33 33 w' w.heap.size (fun k_ => (w.heap.size ≤ k_)) v0_ r ∧ Below w.heap.size w w' := by
  have HR0 := Aside0.mk hr0
  have HC0 := Aside0.mk hc0
  clear hr0 hc0
  have HB := Aside0.mk (Below.refl w.heap.size w)
  have H : (spec_l28Step.l0 k l0 a1 (([] : List (S33))) 0) = some r := h
  clear h
  obtain ⟨y157, hy157⟩ : ∃ y_ : List (S33), y_ = (([] : List (S33))) := ⟨_, rfl⟩
  replace H : (spec_l28Step.l0 k l0 a1 y157 0) = some r := by first | (rw [hy157]; with_reducible exact H) | (have H2_ := (Option.bind_some _ _).symm.trans H; rw [hy157]; with_reducible exact H2_) | (have H2_ := (Option.bind_some _ _).symm.trans H; with_reducible exact H2_) | with_reducible exact H | (rw [hy157]; exact H) | exact H
  have Ny157 := Aside0.mk hy157
  clear hy157
  have H' := Aside0.mk H
  clear H
  go_enter Tryd.func33, Tryd.ntmps33
  go_wp2_with (first | ((with_reducible refine gate_dst (N := 10) rfl ?_); refine Kd.N_lit k33 _ 33 ?hg (N' := 10) ?hd (xs := ([] : List (S33))) (inner := []) (ok := (fun k_ => (w.heap.size ≤ k_))) (okp := (fun k_ => (w.heap.size ≤ k_))) ?hr ?hp (fun _ hk => hk) ((show ∀ k_, w.heap.size ≤ k_ → (fun k_ => (w.heap.size ≤ k_)) k_ from fun k_ hk => (Nat.le_trans (below_size (xb HB.out)) hk)) _ (Nat.le_refl _)) (Below.refl _ _) (Nat.le_refl _) (by simp) ?_; (case hd => rfl); (case hg => rfl); (case hr => first | (go_simp; done) | (go_simp; rfl)); (case hp => exact (Reps.none _ _)); intro v158 w3 ho4 hb hg_ hnew_; clear hg_ hnew_; (first | rw [← Ny157.out] at ho4 | (simp only [Int.reduceToNat] at ho4; rw [← Ny157.out] at ho4)); have n0_ := Aside0.mk (Kd.N_lower ho4 (below_size (xb HB.out))); have n1_ := Aside0.mk (below_step (xb HB.out) hb); clear HB; have HO159 := n0_; have HB := n1_; clear n0_ n1_; clear hb ho4))
  go_loopg [5, 6] k (fun kq v5 v6 w' => ∃ (x5_1 : List (S33)) (x6_1 : Int), v6 = .int .i64 x6_1 ∧ Aside0 (spec_l28Step.l0 kq l0 a1 x5_1 x6_1 = some r) ∧ Aside0 (kq ≤ k) ∧ Aside0 (Kd.N k33 33 w' w.heap.size (fun k_ => (w.heap.size ≤ k_)) v5 x5_1) ∧ Aside0 (Below w.heap.size w w'))
  case atStart => exact ⟨(y157), (0), (by first | rfl | (simp; done) | (simp [*]; done)), H', ⟨Nat.le_refl _⟩, ⟨by (with_reducible repeat (first | apply Kd.N_alloc | apply Kd.N_drewN | apply Kd.N_drew)); first | exact HO159.out | exact Kd.N_mono HO159.out xi⟩, ⟨by repeat (first | (with_reducible first | exact HB.out | apply below_alloc | apply pw_below_drewN | apply below_drew1) | exact HB.out)⟩⟩
  case round =>
    clear H'
    try clear p2
    try clear c3
    obtain ⟨x5_1, x6_1, rfl, HA, HK1, HO_5, HB⟩ := hrel
    cases gk with
    | zero => exact absurd HA.out (by simp [spec_l28Step.l0])
    | succ k1 =>
      have H := HA.out
      clear HA
      simp only [spec_l28Step.l0] at H
      by_cases c5 : x6_1 < (l0.length : Int)
      · rw [if_pos c5] at H
        have c5b0 : decide (x6_1 < (l0.length : Int)) = true := decide_eq_true c5
        clear c5
        have H' := Aside0.mk H
        clear H
        go_wp2
        go_loopg [5, 7] k1 (fun kq v5 v7 w' => ∃ (x5_2 : List (S33)) (x7_2 : Int), v7 = .int .i64 x7_2 ∧ Aside0 (spec_l28Step.l1 kq l0 a1 x5_2 x6_1 x7_2 = some r) ∧ Aside0 (kq ≤ k1) ∧ Aside0 (Kd.N k33 33 w' w.heap.size (fun k_ => (w.heap.size ≤ k_)) v5 x5_2) ∧ Aside0 (Below w.heap.size w w'))
        case atStart => exact ⟨(x5_1), (0), (by first | rfl | (simp; done) | (simp [*]; done)), H', ⟨Nat.le_refl _⟩, ⟨by (with_reducible repeat (first | apply Kd.N_alloc | apply Kd.N_drewN | apply Kd.N_drew)); first | exact HO_5.out | exact Kd.N_mono HO_5.out xi⟩, ⟨by repeat (first | (with_reducible first | exact HB.out | apply below_alloc | apply pw_below_drewN | apply below_drew1) | exact HB.out)⟩⟩
        case round =>
          clear H'
          try clear p2
          try clear c3
          try clear c5
          try clear c5b0
          try clear p2
          obtain ⟨x5_2, x7_2, rfl, HA, HK2, HO_5, HB⟩ := hrel
          cases gk with
          | zero => exact absurd HA.out (by simp [spec_l28Step.l1])
          | succ k2 =>
            have H := HA.out
            clear HA
            simp only [spec_l28Step.l1] at H
            by_cases c6 : 0 ≤ x6_1
            · rw [if_pos c6] at H
              have c6b0 : decide (0 ≤ x6_1) = true := decide_eq_true c6
              clear c6
              by_cases c7 : x6_1 < (l0.length : Int)
              · rw [if_pos c7] at H
                have c7b0 : decide (x6_1 < (l0.length : Int)) = true := decide_eq_true c7
                clear c7
                by_cases c8 : x7_2 ≤ (((rd_T33 l0 x6_1).f0).length : Int)
                · rw [if_pos c8] at H
                  have c8b0 : decide (x7_2 ≤ (((rd_T33 l0 x6_1).f0).length : Int)) = true := decide_eq_true c8
                  clear c8
                  replace H := Option.bind_eq_some_iff.mp H
                  obtain ⟨⟨t162, t163⟩, A90, H⟩ := H
                  replace H : (if a1 = true then ((spec_AddBox.f k2 ((rd_T33 l0 x6_1).f0) x7_2).bind fun bt167 => (if bt167.2 = true then ((spec_l28Put.f k2 x5_2 bt167.1 ((rd_T33 l0 x6_1).f1)).bind fun t172 => (spec_l28Step.l1 k2 l0 a1 t172 x6_1 (wrap64 (x7_2 + 1)))) else (spec_l28Step.l1 k2 l0 a1 x5_2 x6_1 (wrap64 (x7_2 + 1))))) else (if t163 = true then ((spec_l28Put.f k2 x5_2 t162 ((rd_T33 l0 x6_1).f1)).bind fun t176 => (spec_l28Step.l1 k2 l0 a1 t176 x6_1 (wrap64 (x7_2 + 1)))) else (spec_l28Step.l1 k2 l0 a1 x5_2 x6_1 (wrap64 (x7_2 + 1))))) = some r := H
                  have A9 := Aside0.mk A90
                  clear A90
                  by_cases c10 : a1 = true
                  · subst c10
                    have H1 : ((spec_AddBox.f k2 ((rd_T33 l0 x6_1).f0) x7_2).bind fun bt167 => (if bt167.2 = true then ((spec_l28Put.f k2 x5_2 bt167.1 ((rd_T33 l0 x6_1).f1)).bind fun t172 => (spec_l28Step.l1 k2 l0 true t172 x6_1 (wrap64 (x7_2 + 1)))) else (spec_l28Step.l1 k2 l0 true x5_2 x6_1 (wrap64 (x7_2 + 1))))) = some r := by rw [if_pos rfl] at H; exact H
                    clear H
                    have H := H1
                    clear H1
                    replace H := Option.bind_eq_some_iff.mp H
                    obtain ⟨⟨t167, t168⟩, A110, H⟩ := H
                    replace H : (if t168 = true then ((spec_l28Put.f k2 x5_2 t167 ((rd_T33 l0 x6_1).f1)).bind fun t172 => (spec_l28Step.l1 k2 l0 true t172 x6_1 (wrap64 (x7_2 + 1)))) else (spec_l28Step.l1 k2 l0 true x5_2 x6_1 (wrap64 (x7_2 + 1)))) = some r := H
                    have A11 := Aside0.mk A110
                    clear A110
                    by_cases c12 : t168 = true
                    · subst c12
                      have H1 : ((spec_l28Put.f k2 x5_2 t167 ((rd_T33 l0 x6_1).f1)).bind fun t172 => (spec_l28Step.l1 k2 l0 true t172 x6_1 (wrap64 (x7_2 + 1)))) = some r := by rw [if_pos rfl] at H; exact H
                      clear H
                      have H := H1
                      clear H1
                      replace H := Option.bind_eq_some_iff.mp H
                      obtain ⟨t172, A130, H⟩ := H
                      replace H : (spec_l28Step.l1 k2 l0 true t172 x6_1 (wrap64 (x7_2 + 1))) = some r := H
                      have A13 := Aside0.mk A130
                      clear A130
                      have H' := Aside0.mk H
                      clear H
                      have p160 : 0 ≤ (x6_1 : Int) := of_decide_eq_true (by first | (with_reducible assumption) | assumption)
                      have q160 : x6_1 < (l0.length : Int) := of_decide_eq_true (by first | (with_reducible assumption) | assumption)
                      obtain ⟨ad160, A160_0, c160_0, e160, hx160_0, hx160_1, hl160_0, hi160_0⟩ := at_T33 HR0.out x6_1 p160 q160
                      cases e160
                      (try replace hx160_0 := (HB.out.cell (World.block_lt_of_cell? w _ hx160_0)).trans hx160_0)
                      (try replace hx160_1 := (HB.out.cell (World.block_lt_of_cell? w _ hx160_1)).trans hx160_1)
                      have HR160_0 := Aside0.mk hi160_0
                      have HC160_0 := Aside0.mk hl160_0
                      clear hi160_0 hl160_0
                      replace p160 := eq_true p160
                      replace q160 := eq_true q160
                      have p161 : 0 ≤ (x6_1 : Int) := of_decide_eq_true (by first | (with_reducible assumption) | assumption)
                      have q161 : x6_1 < (l0.length : Int) := of_decide_eq_true (by first | (with_reducible assumption) | assumption)
                      obtain ⟨ad161, A161_0, c161_0, e161, hx161_0, hx161_1, hl161_0, hi161_0⟩ := at_T33 HR0.out x6_1 p161 q161
                      obtain rfl : ad160 = ad161 := (by injection e161)
                      (try replace hx161_0 := (HB.out.cell (World.block_lt_of_cell? w _ hx161_0)).trans hx161_0)
                      (try replace hx161_1 := (HB.out.cell (World.block_lt_of_cell? w _ hx161_1)).trans hx161_1)
                      obtain ⟨rfl, rfl⟩ : A160_0 = A161_0 ∧ c160_0 = c161_0 := by first | exact xsame hx160_0 hx161_0 | exact xsame HS0_ hx161_0 | exact xsame HS1_ hx161_0 | exact xsame HS2_ hx161_0 | exact xsame hHeld hx161_0 | exact xsame hHeld.1 hx161_0 | exact xsame hHeld.2 hx161_0 | exact xsame hHeld.2.1 hx161_0 | exact xsame hHeld.2.2 hx161_0 | exact xsame hHeld.2.2.1 hx161_0 | exact xsame hHeld.2.2.2 hx161_0 | exact xsame hHeld.2.2.2.1 hx161_0 | exact xsame hHeld.2.2.2.2 hx161_0 | exact xsame hHeld.2.2.2.2.1 hx161_0 | exact xsame hHeld.2.2.2.2.2 hx161_0
                      have HR161_0 := Aside0.mk hi161_0
                      have HC161_0 := Aside0.mk hl161_0
                      clear hi161_0 hl161_0
                      replace p161 := eq_true p161
                      replace q161 := eq_true q161
                      have ea_ := Option.some.inj (hx160_0.symm.trans hx161_0)
                      injection ea_ with ea_ en_ ec_
                      (try subst ea_)
                      (try subst ec_)
                      clear en_
                      go_wp2_with (first | ((with_reducible refine gate_callee (f := 54) rfl ?_); refine goesL_ (some 34) rfl rfl Tryd.func54 (by kernel_rfl) rfl #[.slice A160_0 ((rd_T33 l0 x6_1).f0).length c160_0, .int .i64 x7_2] rfl xm ?_; (with_reducible refine (spec_RemoveBox.calls k2 _ _ ((rd_T33 l0 x6_1).f0) x7_2 t162 t163 _ ?side1 ?side2 A9.out).mono ?_); (case side1 => first | exact xc (Kd.C_below HR161_0.out HB.out) | exact xc HR161_0.out); (case side2 => exact HC161_0.out); rintro e w14 ⟨v164, rfl, ho0, hb⟩; refine ⟨_, rfl, ?_⟩; have n0_ := Aside0.mk (Kd.N_elder' (xN HO_5.out) (Kd.R_base ho0) hb); have n1_ := Aside0.mk (Kd.R_lower ho0 (below_size (xb HB.out))); have n2_ := Aside0.mk (below_step (xb HB.out) hb); clear HO_5; clear HB; have HO_5 := n0_; have HO165 := n1_; have HB := n2_; clear n0_ n1_ n2_; (try clear hb); (try clear hb2); (try clear hk); (try clear hi); (try clear ho0); have p166 : 0 ≤ (x6_1 : Int) := of_decide_eq_true (by first | (with_reducible assumption) | assumption); have q166 : x6_1 < (l0.length : Int) := of_decide_eq_true (by first | (with_reducible assumption) | assumption); obtain ⟨ad166, A166_0, c166_0, e166, hx166_0, hx166_1, hl166_0, hi166_0⟩ := at_T33 HR0.out x6_1 p166 q166; obtain rfl : ad160 = ad166 := (by injection e166); replace hx166_0 := (HB.out.cell (World.block_lt_of_cell? w _ hx166_0)).trans hx166_0; replace hx166_1 := (HB.out.cell (World.block_lt_of_cell? w _ hx166_1)).trans hx166_1; have HR166_0 := Aside0.mk hi166_0; have HC166_0 := Aside0.mk hl166_0; clear hi166_0 hl166_0; replace p166 := eq_true p166; replace q166 := eq_true q166) | ((with_reducible refine gate_callee (f := 55) rfl ?_); refine goesL_ (some 45) rfl rfl Tryd.func55 (by kernel_rfl) rfl #[.slice A166_0 ((rd_T33 l0 x6_1).f0).length c166_0, .int .i64 x7_2] rfl xm ?_; (with_reducible refine (spec_AddBox.calls k2 _ _ ((rd_T33 l0 x6_1).f0) x7_2 t167 true _ ?side1 ?side2 A11.out).mono ?_); (case side1 => first | exact xc (Kd.C_below HR166_0.out HB.out) | exact xc HR166_0.out); (case side2 => exact HC166_0.out); rintro e w15 ⟨v169, rfl, ho0, hb⟩; refine ⟨_, rfl, ?_⟩; have n0_ := Aside0.mk (Kd.N_elder' (xN HO_5.out) (Kd.R_base ho0) hb); have n1_ := Aside0.mk (Kd.R_elder' (xR HO165.out) (Kd.R_base ho0) hb); have n2_ := Aside0.mk (Kd.R_lower (Kd.R_new' ho0 (Kd.R_lt (xR HO165.out))) (below_size (xb HB.out))); have n3_ := Aside0.mk (below_step (xb HB.out) hb); clear HO_5; clear HO165; clear HB; have HO_5 := n0_; have HO165 := n1_; have HO170 := n2_; have HB := n3_; clear n0_ n1_ n2_ n3_; (try clear hb); (try clear hb2); (try clear hk); (try clear hi); (try clear ho0); have p171 : 0 ≤ (x6_1 : Int) := of_decide_eq_true (by first | (with_reducible assumption) | assumption); have q171 : x6_1 < (l0.length : Int) := of_decide_eq_true (by first | (with_reducible assumption) | assumption); obtain ⟨ad171, A171_0, c171_0, e171, hx171_0, hx171_1, hl171_0, hi171_0⟩ := at_T33 HR0.out x6_1 p171 q171; obtain rfl : ad160 = ad171 := (by injection e171); replace hx171_0 := (HB.out.cell (World.block_lt_of_cell? w _ hx171_0)).trans hx171_0; replace hx171_1 := (HB.out.cell (World.block_lt_of_cell? w _ hx171_1)).trans hx171_1; have HR171_0 := Aside0.mk hi171_0; have HC171_0 := Aside0.mk hl171_0; clear hi171_0 hl171_0; replace p171 := eq_true p171; replace q171 := eq_true q171; obtain ⟨Ao16, co16, eo16⟩ := Kd.N_slice HO_5.out; subst eo16; obtain ⟨Ao17, co17, eo17⟩ := Kd.R_slice HO170.out; subst eo17) | ((with_reducible refine gate_callee (f := 56) rfl ?_); refine goesL_ (some 56) rfl rfl Tryd.func56 (by kernel_rfl) rfl #[.slice Ao16 x5_2.length co16, .slice Ao17 t167.length co17, .int .i64 ((rd_T33 l0 x6_1).f1)] rfl xm ?_; (with_reducible refine (spec_l28Put.calls k2 (fun k_ => (w.heap.size ≤ k_)) Ao16 co16 x5_2 _ _ t167 ((rd_T33 l0 x6_1).f1) t172 w _ ?side1 ?side2 ?side3 ?side4 ?side5 A13.out).mono ?_); (case side1 => repeat (first | (with_reducible first | exact HB.out | apply below_alloc | apply pw_below_drewN | apply below_drew1) | exact HB.out)); (case side2 => exact Kd.N_mono HO_5.out (fun _ hk => by first | exact hk | exact hk.1 | exact hk.1.1)); (case side3 => exact (Kd.R_reads' HO170.out).2.2); (case side4 => exact (Kd.R_reads' HO170.out).2.1); (case side5 => exact fun j hj => Nat.le_trans (below_size (xb HB.out)) hj); rintro e w18 ⟨v173, rfl, ho0, hb⟩; refine ⟨_, rfl, ?_⟩; clear HO165; clear HO170; clear HO_5; clear HB; have HO174 := Aside0.mk ho0; have HB := Aside0.mk hb; clear ho0 hb))
                      go_roundg k2
                      case measure => have := HK1.out; have := HK2.out; omega
                      case rel => exact ⟨(t172), (wrap64 (x7_2 + 1)), (by first | rfl | (simp; done) | (simp [*]; done)), H', ⟨by have := HK1.out; have := HK2.out; omega⟩, ⟨by (with_reducible repeat (first | apply Kd.N_alloc | apply Kd.N_drewN | apply Kd.N_drew)); exact Kd.N_mono HO174.out (fun _ hk => by first | exact hk | exact hk.1 | exact hk.1.1)⟩, ⟨by repeat (first | (with_reducible first | exact HB.out | apply below_alloc | apply pw_below_drewN | apply below_drew1) | exact HB.out)⟩⟩
                    · replace c12 := Bool.eq_false_iff.mpr c12
                      subst c12
                      have H1 : (spec_l28Step.l1 k2 l0 true x5_2 x6_1 (wrap64 (x7_2 + 1))) = some r := by rw [if_neg (show ¬ (false = true) by decide)] at H; exact H
                      clear H
                      have H := H1
                      clear H1
                      have H' := Aside0.mk H
                      clear H
                      have p160 : 0 ≤ (x6_1 : Int) := of_decide_eq_true (by first | (with_reducible assumption) | assumption)
                      have q160 : x6_1 < (l0.length : Int) := of_decide_eq_true (by first | (with_reducible assumption) | assumption)
                      obtain ⟨ad160, A160_0, c160_0, e160, hx160_0, hx160_1, hl160_0, hi160_0⟩ := at_T33 HR0.out x6_1 p160 q160
                      cases e160
                      (try replace hx160_0 := (HB.out.cell (World.block_lt_of_cell? w _ hx160_0)).trans hx160_0)
                      (try replace hx160_1 := (HB.out.cell (World.block_lt_of_cell? w _ hx160_1)).trans hx160_1)
                      have HR160_0 := Aside0.mk hi160_0
                      have HC160_0 := Aside0.mk hl160_0
                      clear hi160_0 hl160_0
                      replace p160 := eq_true p160
                      replace q160 := eq_true q160
                      have p161 : 0 ≤ (x6_1 : Int) := of_decide_eq_true (by first | (with_reducible assumption) | assumption)
                      have q161 : x6_1 < (l0.length : Int) := of_decide_eq_true (by first | (with_reducible assumption) | assumption)
                      obtain ⟨ad161, A161_0, c161_0, e161, hx161_0, hx161_1, hl161_0, hi161_0⟩ := at_T33 HR0.out x6_1 p161 q161
                      obtain rfl : ad160 = ad161 := (by injection e161)
                      (try replace hx161_0 := (HB.out.cell (World.block_lt_of_cell? w _ hx161_0)).trans hx161_0)
                      (try replace hx161_1 := (HB.out.cell (World.block_lt_of_cell? w _ hx161_1)).trans hx161_1)
                      obtain ⟨rfl, rfl⟩ : A160_0 = A161_0 ∧ c160_0 = c161_0 := by first | exact xsame hx160_0 hx161_0 | exact xsame HS0_ hx161_0 | exact xsame HS1_ hx161_0 | exact xsame HS2_ hx161_0 | exact xsame hHeld hx161_0 | exact xsame hHeld.1 hx161_0 | exact xsame hHeld.2 hx161_0 | exact xsame hHeld.2.1 hx161_0 | exact xsame hHeld.2.2 hx161_0 | exact xsame hHeld.2.2.1 hx161_0 | exact xsame hHeld.2.2.2 hx161_0 | exact xsame hHeld.2.2.2.1 hx161_0 | exact xsame hHeld.2.2.2.2 hx161_0 | exact xsame hHeld.2.2.2.2.1 hx161_0 | exact xsame hHeld.2.2.2.2.2 hx161_0
                      have HR161_0 := Aside0.mk hi161_0
                      have HC161_0 := Aside0.mk hl161_0
                      clear hi161_0 hl161_0
                      replace p161 := eq_true p161
                      replace q161 := eq_true q161
                      have ea_ := Option.some.inj (hx160_0.symm.trans hx161_0)
                      injection ea_ with ea_ en_ ec_
                      (try subst ea_)
                      (try subst ec_)
                      clear en_
                      go_wp2_with (first | ((with_reducible refine gate_callee (f := 54) rfl ?_); refine goesL_ (some 34) rfl rfl Tryd.func54 (by kernel_rfl) rfl #[.slice A160_0 ((rd_T33 l0 x6_1).f0).length c160_0, .int .i64 x7_2] rfl xm ?_; (with_reducible refine (spec_RemoveBox.calls k2 _ _ ((rd_T33 l0 x6_1).f0) x7_2 t162 t163 _ ?side1 ?side2 A9.out).mono ?_); (case side1 => first | exact xc (Kd.C_below HR161_0.out HB.out) | exact xc HR161_0.out); (case side2 => exact HC161_0.out); rintro e w19 ⟨v164, rfl, ho0, hb⟩; refine ⟨_, rfl, ?_⟩; have n0_ := Aside0.mk (Kd.N_elder' (xN HO_5.out) (Kd.R_base ho0) hb); have n1_ := Aside0.mk (Kd.R_lower ho0 (below_size (xb HB.out))); have n2_ := Aside0.mk (below_step (xb HB.out) hb); clear HO_5; clear HB; have HO_5 := n0_; have HO165 := n1_; have HB := n2_; clear n0_ n1_ n2_; (try clear hb); (try clear hb2); (try clear hk); (try clear hi); (try clear ho0); have p166 : 0 ≤ (x6_1 : Int) := of_decide_eq_true (by first | (with_reducible assumption) | assumption); have q166 : x6_1 < (l0.length : Int) := of_decide_eq_true (by first | (with_reducible assumption) | assumption); obtain ⟨ad166, A166_0, c166_0, e166, hx166_0, hx166_1, hl166_0, hi166_0⟩ := at_T33 HR0.out x6_1 p166 q166; obtain rfl : ad160 = ad166 := (by injection e166); replace hx166_0 := (HB.out.cell (World.block_lt_of_cell? w _ hx166_0)).trans hx166_0; replace hx166_1 := (HB.out.cell (World.block_lt_of_cell? w _ hx166_1)).trans hx166_1; have HR166_0 := Aside0.mk hi166_0; have HC166_0 := Aside0.mk hl166_0; clear hi166_0 hl166_0; replace p166 := eq_true p166; replace q166 := eq_true q166) | ((with_reducible refine gate_callee (f := 55) rfl ?_); refine goesL_ (some 45) rfl rfl Tryd.func55 (by kernel_rfl) rfl #[.slice A166_0 ((rd_T33 l0 x6_1).f0).length c166_0, .int .i64 x7_2] rfl xm ?_; (with_reducible refine (spec_AddBox.calls k2 _ _ ((rd_T33 l0 x6_1).f0) x7_2 t167 false _ ?side1 ?side2 A11.out).mono ?_); (case side1 => first | exact xc (Kd.C_below HR166_0.out HB.out) | exact xc HR166_0.out); (case side2 => exact HC166_0.out); rintro e w20 ⟨v169, rfl, ho0, hb⟩; refine ⟨_, rfl, ?_⟩; have n0_ := Aside0.mk (Kd.N_elder' (xN HO_5.out) (Kd.R_base ho0) hb); have n1_ := Aside0.mk (Kd.R_elder' (xR HO165.out) (Kd.R_base ho0) hb); have n2_ := Aside0.mk (Kd.R_lower (Kd.R_new' ho0 (Kd.R_lt (xR HO165.out))) (below_size (xb HB.out))); have n3_ := Aside0.mk (below_step (xb HB.out) hb); clear HO_5; clear HO165; clear HB; have HO_5 := n0_; have HO165 := n1_; have HO170 := n2_; have HB := n3_; clear n0_ n1_ n2_ n3_; (try clear hb); (try clear hb2); (try clear hk); (try clear hi); (try clear ho0)))
                      go_roundg k2
                      case measure => have := HK1.out; have := HK2.out; omega
                      case rel => exact ⟨(x5_2), (wrap64 (x7_2 + 1)), (by first | rfl | (simp; done) | (simp [*]; done)), H', ⟨by have := HK1.out; have := HK2.out; omega⟩, ⟨by (with_reducible repeat (first | apply Kd.N_alloc | apply Kd.N_drewN | apply Kd.N_drew)); exact Kd.N_mono HO_5.out (fun _ hk => by first | exact hk | exact hk.1 | exact hk.1.1)⟩, ⟨by repeat (first | (with_reducible first | exact HB.out | apply below_alloc | apply pw_below_drewN | apply below_drew1) | exact HB.out)⟩⟩
                  · replace c10 := Bool.eq_false_iff.mpr c10
                    subst c10
                    have H1 : (if t163 = true then ((spec_l28Put.f k2 x5_2 t162 ((rd_T33 l0 x6_1).f1)).bind fun t176 => (spec_l28Step.l1 k2 l0 false t176 x6_1 (wrap64 (x7_2 + 1)))) else (spec_l28Step.l1 k2 l0 false x5_2 x6_1 (wrap64 (x7_2 + 1)))) = some r := by rw [if_neg (show ¬ (false = true) by decide)] at H; exact H
                    clear H
                    have H := H1
                    clear H1
                    by_cases c21 : t163 = true
                    · subst c21
                      have H1 : ((spec_l28Put.f k2 x5_2 t162 ((rd_T33 l0 x6_1).f1)).bind fun t176 => (spec_l28Step.l1 k2 l0 false t176 x6_1 (wrap64 (x7_2 + 1)))) = some r := by rw [if_pos rfl] at H; exact H
                      clear H
                      have H := H1
                      clear H1
                      replace H := Option.bind_eq_some_iff.mp H
                      obtain ⟨t176, A220, H⟩ := H
                      replace H : (spec_l28Step.l1 k2 l0 false t176 x6_1 (wrap64 (x7_2 + 1))) = some r := H
                      have A22 := Aside0.mk A220
                      clear A220
                      have H' := Aside0.mk H
                      clear H
                      have p160 : 0 ≤ (x6_1 : Int) := of_decide_eq_true (by first | (with_reducible assumption) | assumption)
                      have q160 : x6_1 < (l0.length : Int) := of_decide_eq_true (by first | (with_reducible assumption) | assumption)
                      obtain ⟨ad160, A160_0, c160_0, e160, hx160_0, hx160_1, hl160_0, hi160_0⟩ := at_T33 HR0.out x6_1 p160 q160
                      cases e160
                      (try replace hx160_0 := (HB.out.cell (World.block_lt_of_cell? w _ hx160_0)).trans hx160_0)
                      (try replace hx160_1 := (HB.out.cell (World.block_lt_of_cell? w _ hx160_1)).trans hx160_1)
                      have HR160_0 := Aside0.mk hi160_0
                      have HC160_0 := Aside0.mk hl160_0
                      clear hi160_0 hl160_0
                      replace p160 := eq_true p160
                      replace q160 := eq_true q160
                      have p161 : 0 ≤ (x6_1 : Int) := of_decide_eq_true (by first | (with_reducible assumption) | assumption)
                      have q161 : x6_1 < (l0.length : Int) := of_decide_eq_true (by first | (with_reducible assumption) | assumption)
                      obtain ⟨ad161, A161_0, c161_0, e161, hx161_0, hx161_1, hl161_0, hi161_0⟩ := at_T33 HR0.out x6_1 p161 q161
                      obtain rfl : ad160 = ad161 := (by injection e161)
                      (try replace hx161_0 := (HB.out.cell (World.block_lt_of_cell? w _ hx161_0)).trans hx161_0)
                      (try replace hx161_1 := (HB.out.cell (World.block_lt_of_cell? w _ hx161_1)).trans hx161_1)
                      obtain ⟨rfl, rfl⟩ : A160_0 = A161_0 ∧ c160_0 = c161_0 := by first | exact xsame hx160_0 hx161_0 | exact xsame HS0_ hx161_0 | exact xsame HS1_ hx161_0 | exact xsame HS2_ hx161_0 | exact xsame hHeld hx161_0 | exact xsame hHeld.1 hx161_0 | exact xsame hHeld.2 hx161_0 | exact xsame hHeld.2.1 hx161_0 | exact xsame hHeld.2.2 hx161_0 | exact xsame hHeld.2.2.1 hx161_0 | exact xsame hHeld.2.2.2 hx161_0 | exact xsame hHeld.2.2.2.1 hx161_0 | exact xsame hHeld.2.2.2.2 hx161_0 | exact xsame hHeld.2.2.2.2.1 hx161_0 | exact xsame hHeld.2.2.2.2.2 hx161_0
                      have HR161_0 := Aside0.mk hi161_0
                      have HC161_0 := Aside0.mk hl161_0
                      clear hi161_0 hl161_0
                      replace p161 := eq_true p161
                      replace q161 := eq_true q161
                      have ea_ := Option.some.inj (hx160_0.symm.trans hx161_0)
                      injection ea_ with ea_ en_ ec_
                      (try subst ea_)
                      (try subst ec_)
                      clear en_
                      go_wp2_with (first | ((with_reducible refine gate_callee (f := 54) rfl ?_); refine goesL_ (some 34) rfl rfl Tryd.func54 (by kernel_rfl) rfl #[.slice A160_0 ((rd_T33 l0 x6_1).f0).length c160_0, .int .i64 x7_2] rfl xm ?_; (with_reducible refine (spec_RemoveBox.calls k2 _ _ ((rd_T33 l0 x6_1).f0) x7_2 t162 true _ ?side1 ?side2 A9.out).mono ?_); (case side1 => first | exact xc (Kd.C_below HR161_0.out HB.out) | exact xc HR161_0.out); (case side2 => exact HC161_0.out); rintro e w23 ⟨v164, rfl, ho0, hb⟩; refine ⟨_, rfl, ?_⟩; have n0_ := Aside0.mk (Kd.N_elder' (xN HO_5.out) (Kd.R_base ho0) hb); have n1_ := Aside0.mk (Kd.R_lower ho0 (below_size (xb HB.out))); have n2_ := Aside0.mk (below_step (xb HB.out) hb); clear HO_5; clear HB; have HO_5 := n0_; have HO165 := n1_; have HB := n2_; clear n0_ n1_ n2_; (try clear hb); (try clear hb2); (try clear hk); (try clear hi); (try clear ho0); have p175 : 0 ≤ (x6_1 : Int) := of_decide_eq_true (by first | (with_reducible assumption) | assumption); have q175 : x6_1 < (l0.length : Int) := of_decide_eq_true (by first | (with_reducible assumption) | assumption); obtain ⟨ad175, A175_0, c175_0, e175, hx175_0, hx175_1, hl175_0, hi175_0⟩ := at_T33 HR0.out x6_1 p175 q175; obtain rfl : ad160 = ad175 := (by injection e175); replace hx175_0 := (HB.out.cell (World.block_lt_of_cell? w _ hx175_0)).trans hx175_0; replace hx175_1 := (HB.out.cell (World.block_lt_of_cell? w _ hx175_1)).trans hx175_1; have HR175_0 := Aside0.mk hi175_0; have HC175_0 := Aside0.mk hl175_0; clear hi175_0 hl175_0; replace p175 := eq_true p175; replace q175 := eq_true q175; obtain ⟨Ao24, co24, eo24⟩ := Kd.N_slice HO_5.out; subst eo24; obtain ⟨Ao25, co25, eo25⟩ := Kd.R_slice HO165.out; subst eo25) | ((with_reducible refine gate_callee (f := 56) rfl ?_); refine goesL_ (some 56) rfl rfl Tryd.func56 (by kernel_rfl) rfl #[.slice Ao24 x5_2.length co24, .slice Ao25 t162.length co25, .int .i64 ((rd_T33 l0 x6_1).f1)] rfl xm ?_; (with_reducible refine (spec_l28Put.calls k2 (fun k_ => (w.heap.size ≤ k_)) Ao24 co24 x5_2 _ _ t162 ((rd_T33 l0 x6_1).f1) t176 w _ ?side1 ?side2 ?side3 ?side4 ?side5 A22.out).mono ?_); (case side1 => repeat (first | (with_reducible first | exact HB.out | apply below_alloc | apply pw_below_drewN | apply below_drew1) | exact HB.out)); (case side2 => exact Kd.N_mono HO_5.out (fun _ hk => by first | exact hk | exact hk.1 | exact hk.1.1)); (case side3 => exact (Kd.R_reads' HO165.out).2.2); (case side4 => exact (Kd.R_reads' HO165.out).2.1); (case side5 => exact fun j hj => Nat.le_trans (below_size (xb HB.out)) hj); rintro e w26 ⟨v177, rfl, ho0, hb⟩; refine ⟨_, rfl, ?_⟩; clear HO165; clear HO_5; clear HB; have HO178 := Aside0.mk ho0; have HB := Aside0.mk hb; clear ho0 hb))
                      go_roundg k2
                      case measure => have := HK1.out; have := HK2.out; omega
                      case rel => exact ⟨(t176), (wrap64 (x7_2 + 1)), (by first | rfl | (simp; done) | (simp [*]; done)), H', ⟨by have := HK1.out; have := HK2.out; omega⟩, ⟨by (with_reducible repeat (first | apply Kd.N_alloc | apply Kd.N_drewN | apply Kd.N_drew)); exact Kd.N_mono HO178.out (fun _ hk => by first | exact hk | exact hk.1 | exact hk.1.1)⟩, ⟨by repeat (first | (with_reducible first | exact HB.out | apply below_alloc | apply pw_below_drewN | apply below_drew1) | exact HB.out)⟩⟩
                    · replace c21 := Bool.eq_false_iff.mpr c21
                      subst c21
                      have H1 : (spec_l28Step.l1 k2 l0 false x5_2 x6_1 (wrap64 (x7_2 + 1))) = some r := by rw [if_neg (show ¬ (false = true) by decide)] at H; exact H
                      clear H
                      have H := H1
                      clear H1
                      have H' := Aside0.mk H
                      clear H
                      have p160 : 0 ≤ (x6_1 : Int) := of_decide_eq_true (by first | (with_reducible assumption) | assumption)
                      have q160 : x6_1 < (l0.length : Int) := of_decide_eq_true (by first | (with_reducible assumption) | assumption)
                      obtain ⟨ad160, A160_0, c160_0, e160, hx160_0, hx160_1, hl160_0, hi160_0⟩ := at_T33 HR0.out x6_1 p160 q160
                      cases e160
                      (try replace hx160_0 := (HB.out.cell (World.block_lt_of_cell? w _ hx160_0)).trans hx160_0)
                      (try replace hx160_1 := (HB.out.cell (World.block_lt_of_cell? w _ hx160_1)).trans hx160_1)
                      have HR160_0 := Aside0.mk hi160_0
                      have HC160_0 := Aside0.mk hl160_0
                      clear hi160_0 hl160_0
                      replace p160 := eq_true p160
                      replace q160 := eq_true q160
                      have p161 : 0 ≤ (x6_1 : Int) := of_decide_eq_true (by first | (with_reducible assumption) | assumption)
                      have q161 : x6_1 < (l0.length : Int) := of_decide_eq_true (by first | (with_reducible assumption) | assumption)
                      obtain ⟨ad161, A161_0, c161_0, e161, hx161_0, hx161_1, hl161_0, hi161_0⟩ := at_T33 HR0.out x6_1 p161 q161
                      obtain rfl : ad160 = ad161 := (by injection e161)
                      (try replace hx161_0 := (HB.out.cell (World.block_lt_of_cell? w _ hx161_0)).trans hx161_0)
                      (try replace hx161_1 := (HB.out.cell (World.block_lt_of_cell? w _ hx161_1)).trans hx161_1)
                      obtain ⟨rfl, rfl⟩ : A160_0 = A161_0 ∧ c160_0 = c161_0 := by first | exact xsame hx160_0 hx161_0 | exact xsame HS0_ hx161_0 | exact xsame HS1_ hx161_0 | exact xsame HS2_ hx161_0 | exact xsame hHeld hx161_0 | exact xsame hHeld.1 hx161_0 | exact xsame hHeld.2 hx161_0 | exact xsame hHeld.2.1 hx161_0 | exact xsame hHeld.2.2 hx161_0 | exact xsame hHeld.2.2.1 hx161_0 | exact xsame hHeld.2.2.2 hx161_0 | exact xsame hHeld.2.2.2.1 hx161_0 | exact xsame hHeld.2.2.2.2 hx161_0 | exact xsame hHeld.2.2.2.2.1 hx161_0 | exact xsame hHeld.2.2.2.2.2 hx161_0
                      have HR161_0 := Aside0.mk hi161_0
                      have HC161_0 := Aside0.mk hl161_0
                      clear hi161_0 hl161_0
                      replace p161 := eq_true p161
                      replace q161 := eq_true q161
                      have ea_ := Option.some.inj (hx160_0.symm.trans hx161_0)
                      injection ea_ with ea_ en_ ec_
                      (try subst ea_)
                      (try subst ec_)
                      clear en_
                      go_wp2_with (first | ((with_reducible refine gate_callee (f := 54) rfl ?_); refine goesL_ (some 34) rfl rfl Tryd.func54 (by kernel_rfl) rfl #[.slice A160_0 ((rd_T33 l0 x6_1).f0).length c160_0, .int .i64 x7_2] rfl xm ?_; (with_reducible refine (spec_RemoveBox.calls k2 _ _ ((rd_T33 l0 x6_1).f0) x7_2 t162 false _ ?side1 ?side2 A9.out).mono ?_); (case side1 => first | exact xc (Kd.C_below HR161_0.out HB.out) | exact xc HR161_0.out); (case side2 => exact HC161_0.out); rintro e w27 ⟨v164, rfl, ho0, hb⟩; refine ⟨_, rfl, ?_⟩; have n0_ := Aside0.mk (Kd.N_elder' (xN HO_5.out) (Kd.R_base ho0) hb); have n1_ := Aside0.mk (Kd.R_lower ho0 (below_size (xb HB.out))); have n2_ := Aside0.mk (below_step (xb HB.out) hb); clear HO_5; clear HB; have HO_5 := n0_; have HO165 := n1_; have HB := n2_; clear n0_ n1_ n2_; (try clear hb); (try clear hb2); (try clear hk); (try clear hi); (try clear ho0)))
                      go_roundg k2
                      case measure => have := HK1.out; have := HK2.out; omega
                      case rel => exact ⟨(x5_2), (wrap64 (x7_2 + 1)), (by first | rfl | (simp; done) | (simp [*]; done)), H', ⟨by have := HK1.out; have := HK2.out; omega⟩, ⟨by (with_reducible repeat (first | apply Kd.N_alloc | apply Kd.N_drewN | apply Kd.N_drew)); exact Kd.N_mono HO_5.out (fun _ hk => by first | exact hk | exact hk.1 | exact hk.1.1)⟩, ⟨by repeat (first | (with_reducible first | exact HB.out | apply below_alloc | apply pw_below_drewN | apply below_drew1) | exact HB.out)⟩⟩
                · rw [if_neg c8] at H
                  have c8b0 : decide (x7_2 ≤ (((rd_T33 l0 x6_1).f0).length : Int)) = false := decide_eq_false c8
                  clear c8
                  have H' := Aside0.mk H
                  clear H
                  have p160 : 0 ≤ (x6_1 : Int) := of_decide_eq_true (by first | (with_reducible assumption) | assumption)
                  have q160 : x6_1 < (l0.length : Int) := of_decide_eq_true (by first | (with_reducible assumption) | assumption)
                  obtain ⟨ad160, A160_0, c160_0, e160, hx160_0, hx160_1, hl160_0, hi160_0⟩ := at_T33 HR0.out x6_1 p160 q160
                  cases e160
                  (try replace hx160_0 := (HB.out.cell (World.block_lt_of_cell? w _ hx160_0)).trans hx160_0)
                  (try replace hx160_1 := (HB.out.cell (World.block_lt_of_cell? w _ hx160_1)).trans hx160_1)
                  have HR160_0 := Aside0.mk hi160_0
                  have HC160_0 := Aside0.mk hl160_0
                  clear hi160_0 hl160_0
                  replace p160 := eq_true p160
                  replace q160 := eq_true q160
                  go_wp2
                  go_roundg k2
                  case measure => have := HK1.out; have := HK2.out; omega
                  case rel => exact ⟨(x5_2), (wrap64 (x6_1 + 1)), (by first | rfl | (simp; done) | (simp [*]; done)), H', ⟨by have := HK1.out; have := HK2.out; omega⟩, ⟨by (with_reducible repeat (first | apply Kd.N_alloc | apply Kd.N_drewN | apply Kd.N_drew)); first | exact HO_5.out | exact Kd.N_mono HO_5.out xi⟩, ⟨by repeat (first | (with_reducible first | exact HB.out | apply below_alloc | apply pw_below_drewN | apply below_drew1) | exact HB.out)⟩⟩
              · rw [if_neg c7] at H
                exact absurd H (by simp)
            · rw [if_neg c6] at H
              exact absurd H (by simp)
      · rw [if_neg c5] at H
        have c5b0 : decide (x6_1 < (l0.length : Int)) = false := decide_eq_false c5
        clear c5
        obtain rfl := Option.some.inj H
        go_wp2
        go_ret
        exact ⟨_, by first | rfl | (simp [errW_none, errW_some] <;> rfl) | (simp [*, errW_none, errW_some] <;> rfl), by (with_reducible repeat (first | apply Kd.N_alloc | apply Kd.N_drewN | apply Kd.N_drew)); first | exact HO_5.out | exact Kd.N_mono HO_5.out xi, by repeat (first | (with_reducible first | exact HB.out | apply below_alloc | apply pw_below_drewN | apply below_drew1) | exact HB.out)⟩

/-! ### spec_WalkTerms: function 13 -/
mutual
def spec_WalkTerms.j0 : Nat → List Int → ByteArray → Bool → Option ((List (S33)) × Bool)
  | 0, _, _, _ => none
  | k + 1, x0, x1, x17 => if x17 = true then (some ((([] : List (S33))), false)) else ((some (([] : List Int) : List Int)).bind fun y184 => (if y184.length + x0.length < 17592186044416 then ((spec_l2Size.f k x0).bind fun t193 => (spec_WalkTerms.l0 k x1 (([(⟨(y184 ++ x0), 1⟩ : S33)] : List (S33))) t193 0)) else (none)))
def spec_WalkTerms.l0 : Nat → ByteArray → List (S33) → Int → Int → Option ((List (S33)) × Bool)
  | 0, _, _, _, _ => none
  | k + 1, x1, x6, x7, x8 => if x8 < (x1.size : Int) then (if 0 ≤ x8 then ((spec_l1Bit.f ((bt x1 x8) == 117)).bind fun t194 => (if (wrap64 ((wrap64 (x7 + (wrap64 (2 * t194)))) - 1)) > 9 then (some ((([] : List (S33))), false)) else ((spec_l28Step.f k x6 ((bt x1 x8) == 117)).bind fun t198 => (spec_WalkTerms.l0 k x1 t198 (wrap64 ((wrap64 (x7 + (wrap64 (2 * t194)))) - 1)) (wrap64 (x8 + 1)))))) else (none)) else (some (x6, true))
end
def spec_WalkTerms.f (k : Nat) (l0 : List Int) (a1 : ByteArray) : Option ((List (S33)) × Bool) := (spec_IsPartition.f k l0).bind fun t179 => (if t179 = true then ((spec_IsWalk.f k a1).bind fun t180 => (spec_WalkTerms.j0 k l0 a1 (!t180))) else (spec_WalkTerms.j0 k l0 a1 true))
theorem spec_WalkTerms.mono_l : ∀ k, (∀ y0 y1 y2, LeO (spec_WalkTerms.j0 k y0 y1 y2) (spec_WalkTerms.j0 (k + 1) y0 y1 y2)) ∧ (∀ y0 y1 y2 y3, LeO (spec_WalkTerms.l0 k y0 y1 y2 y3) (spec_WalkTerms.l0 (k + 1) y0 y1 y2 y3))
  | 0 => ⟨fun _ _ _ r h => by simp [spec_WalkTerms.j0] at h, fun _ _ _ _ r h => by simp [spec_WalkTerms.l0] at h⟩
  | k + 1 => by
    obtain ⟨ih0, ih1⟩ := spec_WalkTerms.mono_l k
    refine ⟨?_, ?_⟩
    · intro y0 y1 y2
      unfold spec_WalkTerms.j0
      repeat' first
      | (with_reducible exact ih0 _ _ _)
      | (with_reducible exact ih1 _ _ _ _)
      | (with_reducible exact spec_IsPartition.mono _ _)
      | (with_reducible exact spec_IsWalk.mono _ _)
      | (with_reducible exact spec_l28Step.mono _ _ _)
      | (with_reducible exact spec_l2Size.mono _ _)
      | (with_reducible exact LeO.refl _)
      | (with_reducible exact LeO.none _)
      | (with_reducible refine LeO.ite ?_ ?_)
      | (with_reducible refine LeO.bind ?_ (fun _ => ?_))
      | exact ih0 _ _ _
      | exact ih1 _ _ _ _
      | exact spec_IsPartition.mono _ _
      | exact spec_IsWalk.mono _ _
      | exact spec_l28Step.mono _ _ _
      | exact spec_l2Size.mono _ _
      | exact LeO.none _
      | refine LeO.ite ?_ ?_
      | refine LeO.bind ?_ (fun _ => ?_)
    · intro y0 y1 y2 y3
      unfold spec_WalkTerms.l0
      repeat' first
      | (with_reducible exact ih0 _ _ _)
      | (with_reducible exact ih1 _ _ _ _)
      | (with_reducible exact spec_IsPartition.mono _ _)
      | (with_reducible exact spec_IsWalk.mono _ _)
      | (with_reducible exact spec_l28Step.mono _ _ _)
      | (with_reducible exact spec_l2Size.mono _ _)
      | (with_reducible exact LeO.refl _)
      | (with_reducible exact LeO.none _)
      | (with_reducible refine LeO.ite ?_ ?_)
      | (with_reducible refine LeO.bind ?_ (fun _ => ?_))
      | exact ih0 _ _ _
      | exact ih1 _ _ _ _
      | exact spec_IsPartition.mono _ _
      | exact spec_IsWalk.mono _ _
      | exact spec_l28Step.mono _ _ _
      | exact spec_l2Size.mono _ _
      | exact LeO.none _
      | refine LeO.ite ?_ ?_
      | refine LeO.bind ?_ (fun _ => ?_)
theorem spec_WalkTerms.mono : ∀ a0 a1 k, LeO (spec_WalkTerms.f k a0 a1) (spec_WalkTerms.f (k + 1) a0 a1) := by
  intro a0 a1 k
  obtain ⟨ih0, ih1⟩ := spec_WalkTerms.mono_l k
  unfold spec_WalkTerms.f
  repeat' first
      | (with_reducible exact ih0 _ _ _)
      | (with_reducible exact ih1 _ _ _ _)
      | (with_reducible exact spec_IsPartition.mono _ _)
      | (with_reducible exact spec_IsWalk.mono _ _)
      | (with_reducible exact spec_l28Step.mono _ _ _)
      | (with_reducible exact spec_l2Size.mono _ _)
      | (with_reducible exact LeO.refl _)
      | (with_reducible exact LeO.none _)
      | (with_reducible refine LeO.ite ?_ ?_)
      | (with_reducible refine LeO.bind ?_ (fun _ => ?_))
      | exact ih0 _ _ _
      | exact ih1 _ _ _ _
      | exact spec_IsPartition.mono _ _
      | exact spec_IsWalk.mono _ _
      | exact spec_l28Step.mono _ _ _
      | exact spec_l2Size.mono _ _
      | exact LeO.none _
      | refine LeO.ite ?_ ?_
      | refine LeO.bind ?_ (fun _ => ?_)
set_option maxHeartbeats 8000000 in
set_option maxRecDepth 100000 in
theorem spec_WalkTerms.calls (k : Nat) (A0 : Option Addr) (c0 : Nat) (l0 : List Int) (a1 : ByteArray) (r1 : List (S33)) (r2 : Bool) (w : World) (hr0 : Kd.C (Kd.int .i64) w A0 l0.length l0) (hc0 : l0.length ≤ c0) (h : spec_WalkTerms.f k l0 a1 = some (r1, r2)) :
    Calls Tryd.prog 13 #[.slice A0 l0.length c0, .string a1] w fun e w' => ∃ v0_ : Value, e = .returned (.tuple #[v0_, .bool r2]) ∧ Kd.N k33 33 w' w.heap.size (fun k_ => (w.heap.size ≤ k_)) v0_ r1 ∧ Below w.heap.size w w' := by
  have hu33 := Tryd.underlying33
  have HR0 := Aside0.mk hr0
  have HC0 := Aside0.mk hc0
  clear hr0 hc0
  have HB := Aside0.mk (Below.refl w.heap.size w)
  have H : ((spec_IsPartition.f k l0).bind fun t179 => (if t179 = true then ((spec_IsWalk.f k a1).bind fun t180 => (spec_WalkTerms.j0 k l0 a1 (!t180))) else (spec_WalkTerms.j0 k l0 a1 true))) = some (r1, r2) := h
  clear h
  have HC3 := Aside0.mk H
  clear H
  go_enter Tryd.func13, Tryd.ntmps13
  go_upto_region 1 with (fail)
  go_cut [17] (fun v17 wc => ∃ (kq : Nat) (x17_2 : Bool), v17 = .bool x17_2 ∧ Aside0 (spec_WalkTerms.j0 kq l0 a1 x17_2 = some (r1, r2)) ∧ Aside0 (kq ≤ k) ∧ Aside0 (Below w.heap.size w wc))
  case first =>
    have H := HC3.out
    clear HC3
    replace H := Option.bind_eq_some_iff.mp H
    obtain ⟨t179, A40, H⟩ := H
    replace H : (if t179 = true then ((spec_IsWalk.f k a1).bind fun t180 => (spec_WalkTerms.j0 k l0 a1 (!t180))) else (spec_WalkTerms.j0 k l0 a1 true)) = some (r1, r2) := H
    have A4 := Aside0.mk A40
    clear A40
    by_cases c5 : t179 = true
    · subst c5
      have H1 : ((spec_IsWalk.f k a1).bind fun t180 => (spec_WalkTerms.j0 k l0 a1 (!t180))) = some (r1, r2) := by rw [if_pos rfl] at H; exact H
      clear H
      have H := H1
      clear H1
      replace H := Option.bind_eq_some_iff.mp H
      obtain ⟨t180, A60, H⟩ := H
      replace H : (spec_WalkTerms.j0 k l0 a1 (!t180)) = some (r1, r2) := H
      have A6 := Aside0.mk A60
      clear A60
      have H' := Aside0.mk H
      clear H
      go_wp2_with (first | ((with_reducible refine gate_callee (f := 30) rfl ?_); refine goesL_ (some 11) rfl rfl Tryd.func30 (by kernel_rfl) rfl #[.slice A0 l0.length c0] rfl xm ?_; (with_reducible refine (spec_IsPartition.calls k _ _ l0 true _ ?side1 ?side2 A4.out).mono ?_); (case side1 => first | exact xc (Kd.C_below HR0.out HB.out) | exact xc HR0.out); (case side2 => exact HC0.out); rintro e w7 ⟨rfl, hb⟩; refine ⟨_, rfl, ?_⟩; have n0_ := Aside0.mk (below_step (xb HB.out) hb); clear HB; have HB := n0_; clear n0_; (try clear hb); (try clear hb2); (try clear hk); (try clear hi)) | (go_at_call 31; (with_reducible refine (spec_IsWalk.calls k a1 t180 _ A6.out).mono ?_); rintro e w' ⟨rfl, ⟨nd, rfl⟩⟩))
      go_meet
      case rel => exact ⟨_, (!t180), (by first | rfl | (simp; done) | (simp [*]; done)), H', ⟨by first | omega | exact Nat.le_refl _⟩, ⟨by repeat (first | (with_reducible first | exact HB.out | apply below_alloc | apply pw_below_drewN | apply below_drew1) | exact HB.out)⟩⟩
    · replace c5 := Bool.eq_false_iff.mpr c5
      subst c5
      have H1 : (spec_WalkTerms.j0 k l0 a1 true) = some (r1, r2) := by rw [if_neg (show ¬ (false = true) by decide)] at H; exact H
      clear H
      have H := H1
      clear H1
      have H' := Aside0.mk H
      clear H
      go_wp2_with (first | ((with_reducible refine gate_callee (f := 30) rfl ?_); refine goesL_ (some 11) rfl rfl Tryd.func30 (by kernel_rfl) rfl #[.slice A0 l0.length c0] rfl xm ?_; (with_reducible refine (spec_IsPartition.calls k _ _ l0 false _ ?side1 ?side2 A4.out).mono ?_); (case side1 => first | exact xc (Kd.C_below HR0.out HB.out) | exact xc HR0.out); (case side2 => exact HC0.out); rintro e w8 ⟨rfl, hb⟩; refine ⟨_, rfl, ?_⟩; have n0_ := Aside0.mk (below_step (xb HB.out) hb); clear HB; have HB := n0_; clear n0_; (try clear hb); (try clear hb2); (try clear hk); (try clear hi)))
      go_meet
      case rel => exact ⟨_, (true), (by first | rfl | (simp; done) | (simp [*]; done)), H', ⟨by first | omega | exact Nat.le_refl _⟩, ⟨by repeat (first | (with_reducible first | exact HB.out | apply below_alloc | apply pw_below_drewN | apply below_drew1) | exact HB.out)⟩⟩
  case rest =>
    clear HC3
    try clear c1
    try clear p2
    try clear c3
    try clear c5
    obtain ⟨kq, x17_2, rfl, HA, HJ2, HB⟩ := hcut
    cases kq with
    | zero => exact absurd HA.out (by simp [spec_WalkTerms.j0])
    | succ kj2 =>
      have H := HA.out
      clear HA
      simp only [spec_WalkTerms.j0] at H
      by_cases c9 : x17_2 = true
      · subst c9
        have H1 : (some ((([] : List (S33))), false)) = some (r1, r2) := by rw [if_pos rfl] at H; exact H
        clear H
        have H := H1
        clear H1
        obtain ⟨y181, hy181⟩ : ∃ y_ : List (S33), y_ = (([] : List (S33))) := ⟨_, rfl⟩
        replace H : (some (y181, false)) = some (r1, r2) := by first | (rw [hy181]; with_reducible exact H) | (have H2_ := (Option.bind_some _ _).symm.trans H; rw [hy181]; with_reducible exact H2_) | (have H2_ := (Option.bind_some _ _).symm.trans H; with_reducible exact H2_) | with_reducible exact H | (rw [hy181]; exact H) | exact H
        have Ny181 := Aside0.mk hy181
        clear hy181
        simp only [Option.some.injEq, Prod.mk.injEq] at H
        obtain ⟨rfl, rfl⟩ := H
        go_wp2_with (first | ((with_reducible refine gate_dst (N := 18) rfl ?_); refine Kd.N_lit k33 _ 33 ?hg (N' := 18) ?hd (xs := ([] : List (S33))) (inner := []) (ok := (fun k_ => (w.heap.size ≤ k_))) (okp := (fun k_ => (w.heap.size ≤ k_))) ?hr ?hp (fun _ hk => hk) ((show ∀ k_, wc.heap.size ≤ k_ → (fun k_ => (w.heap.size ≤ k_)) k_ from fun k_ hk => (Nat.le_trans (below_size (xb HB.out)) hk)) _ (Nat.le_refl _)) (Below.refl _ _) (Nat.le_refl _) (by simp) ?_; (case hd => rfl); (case hg => rfl); (case hr => first | (go_simp; done) | (go_simp; rfl)); (case hp => exact (Reps.none _ _)); intro v182 w10 ho11 hb hg_ hnew_; clear hg_ hnew_; (first | rw [← Ny181.out] at ho11 | (simp only [Int.reduceToNat] at ho11; rw [← Ny181.out] at ho11)); have n0_ := Aside0.mk (Kd.N_lower ho11 (below_size (xb HB.out))); have n1_ := Aside0.mk (below_step (xb HB.out) hb); clear HB; have HO183 := n0_; have HB := n1_; clear n0_ n1_; clear hb ho11))
        go_ret2
        exact ⟨_, by first | rfl | (simp [errW_none, errW_some] <;> rfl) | (simp [*, errW_none, errW_some] <;> rfl), by (with_reducible repeat (first | apply Kd.N_alloc | apply Kd.N_drewN | apply Kd.N_drew)); first | exact HO183.out | exact Kd.N_mono HO183.out xi, by repeat (first | (with_reducible first | exact HB.out | apply below_alloc | apply pw_below_drewN | apply below_drew1) | exact HB.out)⟩
      · replace c9 := Bool.eq_false_iff.mpr c9
        subst c9
        have H1 : ((some (([] : List Int) : List Int)).bind fun y184 => (if y184.length + l0.length < 17592186044416 then ((spec_l2Size.f kj2 l0).bind fun t193 => (spec_WalkTerms.l0 kj2 a1 (([(⟨(y184 ++ l0), 1⟩ : S33)] : List (S33))) t193 0)) else (none))) = some (r1, r2) := by rw [if_neg (show ¬ (false = true) by decide)] at H; exact H
        clear H
        have H := H1
        clear H1
        obtain ⟨y184, hy184⟩ : ∃ y_ : List Int, y_ = (([] : List Int)) := ⟨_, rfl⟩
        replace H : (if y184.length + l0.length < 17592186044416 then ((spec_l2Size.f kj2 l0).bind fun t193 => (spec_WalkTerms.l0 kj2 a1 (([(⟨(y184 ++ l0), 1⟩ : S33)] : List (S33))) t193 0)) else (none)) = some (r1, r2) := by first | (rw [hy184]; with_reducible exact H) | (have H2_ := (Option.bind_some _ _).symm.trans H; rw [hy184]; with_reducible exact H2_) | (have H2_ := (Option.bind_some _ _).symm.trans H; with_reducible exact H2_) | with_reducible exact H | (rw [hy184]; exact H) | exact H
        have Ny184 := Aside0.mk hy184
        clear hy184
        by_cases c12 : y184.length + l0.length < 17592186044416
        · rw [if_pos c12] at H
          have LMc12 := Aside0.mk c12
          clear c12
          obtain ⟨y187, hy187⟩ : ∃ y_ : List Int, y_ = (y184 ++ l0) := ⟨_, rfl⟩
          replace H : ((spec_l2Size.f kj2 l0).bind fun t193 => (spec_WalkTerms.l0 kj2 a1 (([(⟨y187, 1⟩ : S33)] : List (S33))) t193 0)) = some (r1, r2) := by first | (rw [hy187]; with_reducible exact H) | (have H2_ := (Option.bind_some _ _).symm.trans H; rw [hy187]; with_reducible exact H2_) | (have H2_ := (Option.bind_some _ _).symm.trans H; with_reducible exact H2_) | with_reducible exact H | (rw [hy187]; exact H) | exact H
          have Ny187 := Aside0.mk hy187
          clear hy187
          obtain ⟨y190, hy190⟩ : ∃ y_ : List (S33), y_ = (([(⟨y187, 1⟩ : S33)] : List (S33))) := ⟨_, rfl⟩
          replace H : ((spec_l2Size.f kj2 l0).bind fun t193 => (spec_WalkTerms.l0 kj2 a1 y190 t193 0)) = some (r1, r2) := by first | (rw [hy190]; with_reducible exact H) | (have H2_ := (Option.bind_some _ _).symm.trans H; rw [hy190]; with_reducible exact H2_) | (have H2_ := (Option.bind_some _ _).symm.trans H; with_reducible exact H2_) | with_reducible exact H | (rw [hy190]; exact H) | exact H
          have Ny190 := Aside0.mk hy190
          clear hy190
          replace H := Option.bind_eq_some_iff.mp H
          obtain ⟨t193, A130, H⟩ := H
          replace H : (spec_WalkTerms.l0 kj2 a1 y190 t193 0) = some (r1, r2) := H
          have A13 := Aside0.mk A130
          clear A130
          have H' := Aside0.mk H
          clear H
          go_wp2_with (first | ((with_reducible refine gate_dst (N := 19) rfl ?_); refine Kd.R_lit (Kd.int .i64) _ 3 ?hg (N := 19) ?hd (xs := ([] : List Int)) (inner := []) (ok := fun _ => True) (okp := fun _ => True) ?hr ?hp (fun _ hk => hk) trivial (Below.refl _ _) (Nat.le_refl _) (by simp) ?_; (case hd => rfl); (case hg => rfl); (case hr => first | (go_simp; done) | (go_simp; rfl)); (case hp => exact (Reps.none _ _)); intro v185 w14 ho15 hb hg_ hnew_; clear hg_ hnew_; (first | rw [← Ny184.out] at ho15 | (simp only [Int.reduceToNat] at ho15; rw [← Ny184.out] at ho15)); have n0_ := Aside0.mk (Kd.R_lower (Kd.R_newM (M := fun k_ => (w.heap.size ≤ k_)) ho15 (below_size (xb HB.out)) (fun k_ h_ => h_)) (below_size (xb HB.out))); have n1_ := Aside0.mk (below_step (xb HB.out) hb); clear HB; have HO186 := n0_; have HB := n1_; clear n0_ n1_; clear hb ho15) | ((with_reducible refine gate_builtin (b := .append) (xs := #[.tmp 19, .tmp 20]) rfl ?_); at_builtin; refine Kd.R_append_rows (Kd.int .i64) (w0 := w) w.heap.size rfl (.tmp 19) (.tmp 20) 22 3 (.int .i64 0) 8 rfl Tryd.underlying22 info3 rfl (by decide) (by omega) v185 y184 l0 _ _ _ (fun k_ => (w.heap.size ≤ k_)) (fun _ => False) rfl rfl ?aO ?aR (fun _ _ h => h) (fun _ h => h.elim) ?aF ?aB ?aS ?aL ?_; (case aR => first | exact xc (Kd.C_below HR0.out HB.out) | exact xc HR0.out); (case aB => exact (xb HB.out)); (case aF => exact (fun k_ hk => (Nat.le_trans (below_size (xb HB.out)) hk))); (case aO => exact (by (with_reducible repeat (first | apply Kd.R_alloc | apply Kd.R_drewN | apply Kd.R_drew)); exact Kd.R_mono HO186.out (fun _ hk => hk.1))); (case aS => exact (below_size (xb HB.out))); (case aL => have := LMc12.out; omega); intro v188 w16 ho hb hg hat; rw [← Ny187.out] at ho; have n0_ := Aside0.mk (hb); have n1_ := Aside0.mk (ho); clear HB; clear HO186; have HB := n0_; have HO189 := n1_; clear n0_ n1_; clear ho hb hg hat; obtain ⟨Ao17, co17, eo17⟩ := Kd.R_slice HO189.out; subst eo17) | ((with_reducible refine gate_dst (N := 23) rfl ?_); refine Kd.N_lit k33 _ 33 ?hg (N' := 23) ?hd (xs := ([(⟨y187, 1⟩ : S33)] : List (S33))) (inner := [.slice Ao17 y187.length co17, .int .i64 1]) (ok := (fun k_ => (w.heap.size ≤ k_))) (okp := (fun k_ => (w.heap.size ≤ k_))) ?hr ?hp (fun _ hk => hk) ((show ∀ k_, w16.heap.size ≤ k_ → (fun k_ => (w.heap.size ≤ k_)) k_ from fun k_ hk => (Nat.le_trans (below_size (xb HB.out)) hk)) _ (Nat.le_refl _)) (Below.refl _ _) (Nat.le_refl _) (by simp) ?_; (case hd => rfl); (case hg => rfl); (case hr => first | (go_simp; done) | (go_simp; rfl)); (case hp => exact (Reps.c2 (show Kd.FK k33 _ _ (⟨y187, 1⟩ : S33) [.slice Ao17 y187.length co17, .int .i64 1] from (k33_mkF _ _ (⟨y187, 1⟩ : S33) (Kd.R_reads' (Kd.R_mono (ok' := (fun k_ => (w.heap.size ≤ k_))) (HO189.out) (fun k_ hk => hk))).2.1 (Kd.R_F (Kd.R_mono (ok' := (fun k_ => (w.heap.size ≤ k_))) (HO189.out) (fun k_ hk => hk))))) (Reps.none _ _))); intro v191 w18 ho19 hb hg_ hnew_; clear hg_ hnew_; (first | rw [← Ny190.out] at ho19 | (simp only [Int.reduceToNat] at ho19; rw [← Ny190.out] at ho19)); have n0_ := Aside0.mk (Kd.N_lower ho19 (below_size (xb HB.out))); have n1_ := Aside0.mk (below_step (xb HB.out) hb); clear HB; clear HO189; have HO192 := n0_; have HB := n1_; clear n0_ n1_; clear hb ho19) | ((with_reducible refine gate_callee (f := 21) rfl ?_); refine goesL_ (some 25) rfl rfl Tryd.func21 (by kernel_rfl) rfl #[.slice A0 l0.length c0] rfl xm ?_; (with_reducible refine (spec_l2Size.calls kj2 _ _ l0 t193 _ ?side1 ?side2 A13.out).mono ?_); (case side1 => first | exact xc (Kd.C_below HR0.out HB.out) | exact xc HR0.out); (case side2 => exact HC0.out); rintro e w' ⟨rfl, ⟨nd, rfl⟩⟩; refine ⟨_, rfl, ?_⟩))
          go_loopg [6, 7, 8] kj2 (fun kq v6 v7 v8 w' => ∃ (x6_2 : List (S33)) (x7_2 : Int) (x8_2 : Int), v7 = .int .i64 x7_2 ∧ v8 = .int .i64 x8_2 ∧ Aside0 (spec_WalkTerms.l0 kq a1 x6_2 x7_2 x8_2 = some (r1, r2)) ∧ Aside0 (kq ≤ kj2) ∧ Aside0 (Kd.N k33 33 w' w.heap.size (fun k_ => (w.heap.size ≤ k_)) v6 x6_2) ∧ Aside0 (Below w.heap.size w w'))
          case atStart => exact ⟨(y190), (t193), (0), (by first | rfl | (simp; done) | (simp [*]; done)), (by first | rfl | (simp; done) | (simp [*]; done)), H', ⟨Nat.le_refl _⟩, ⟨by (with_reducible repeat (first | apply Kd.N_alloc | apply Kd.N_drewN | apply Kd.N_drew)); first | exact HO192.out | exact Kd.N_mono HO192.out xi⟩, ⟨by repeat (first | (with_reducible first | exact HB.out | apply below_alloc | apply pw_below_drewN | apply below_drew1) | exact HB.out)⟩⟩
          case round =>
            clear H'
            try clear c1
            try clear c2
            try clear p2
            try clear c3
            try clear c5
            try clear c9
            try clear c12
            try clear c13
            try clear p2
            obtain ⟨x6_2, x7_2, x8_2, rfl, rfl, HA, HK2, HO_6, HB⟩ := hrel
            cases gk with
            | zero => exact absurd HA.out (by simp [spec_WalkTerms.l0])
            | succ k2 =>
              have H := HA.out
              clear HA
              simp only [spec_WalkTerms.l0] at H
              by_cases c20 : x8_2 < (a1.size : Int)
              · rw [if_pos c20] at H
                have c20b0 : decide (x8_2 < (a1.size : Int)) = true := decide_eq_true c20
                clear c20
                by_cases c21 : 0 ≤ x8_2
                · rw [if_pos c21] at H
                  have c21b0 : decide (0 ≤ x8_2) = true := decide_eq_true c21
                  clear c21
                  replace H := Option.bind_eq_some_iff.mp H
                  obtain ⟨t194, A230, H⟩ := H
                  replace H : (if (wrap64 ((wrap64 (x7_2 + (wrap64 (2 * t194)))) - 1)) > 9 then (some ((([] : List (S33))), false)) else ((spec_l28Step.f k2 x6_2 ((bt a1 x8_2) == 117)).bind fun t198 => (spec_WalkTerms.l0 k2 a1 t198 (wrap64 ((wrap64 (x7_2 + (wrap64 (2 * t194)))) - 1)) (wrap64 (x8_2 + 1))))) = some (r1, r2) := H
                  have A23 := Aside0.mk A230
                  clear A230
                  by_cases c24 : (wrap64 ((wrap64 (x7_2 + (wrap64 (2 * t194)))) - 1)) > 9
                  · rw [if_pos c24] at H
                    have c24b0 : decide (9 < (wrap64 ((wrap64 (x7_2 + (wrap64 (2 * t194)))) - 1))) = true := decide_eq_true c24
                    clear c24
                    obtain ⟨y195, hy195⟩ : ∃ y_ : List (S33), y_ = (([] : List (S33))) := ⟨_, rfl⟩
                    replace H : (some (y195, false)) = some (r1, r2) := by first | (rw [hy195]; with_reducible exact H) | (have H2_ := (Option.bind_some _ _).symm.trans H; rw [hy195]; with_reducible exact H2_) | (have H2_ := (Option.bind_some _ _).symm.trans H; with_reducible exact H2_) | with_reducible exact H | (rw [hy195]; exact H) | exact H
                    have Ny195 := Aside0.mk hy195
                    clear hy195
                    simp only [Option.some.injEq, Prod.mk.injEq] at H
                    obtain ⟨rfl, rfl⟩ := H
                    have p22 : 0 ≤ (x8_2 : Int) := of_decide_eq_true (by first | (with_reducible assumption) | assumption)
                    have q22 : x8_2 < (a1.size : Int) := of_decide_eq_true (by first | (with_reducible assumption) | assumption)
                    have hx22 := bt_at a1 x8_2
                    replace p22 := eq_true p22
                    replace q22 := eq_true q22
                    go_wp2_with (first | ((with_reducible refine gate_callee (f := 32) rfl ?_); refine goesL_ (some 38) rfl rfl Tryd.func32 (by kernel_rfl) rfl #[.bool ((bt a1 x8_2) == 117)] rfl xm ?_; (with_reducible refine (spec_l1Bit.calls ((bt a1 x8_2) == 117) t194 _ A23.out).mono ?_); rintro e w' ⟨rfl, ⟨nd, rfl⟩⟩; refine ⟨_, rfl, ?_⟩) | ((with_reducible refine gate_dst (N := 44) rfl ?_); refine Kd.N_lit k33 _ 33 ?hg (N' := 44) ?hd (xs := ([] : List (S33))) (inner := []) (ok := (fun k_ => (w.heap.size ≤ k_) ∧ some k_ ≠ (u6 : Value).ownBlock)) (okp := (fun k_ => (w.heap.size ≤ k_) ∧ some k_ ≠ (u6 : Value).ownBlock)) ?hr ?hp (fun _ hk => hk) ((show ∀ k_, wr.heap.size ≤ k_ → (fun k_ => (w.heap.size ≤ k_) ∧ some k_ ≠ (u6 : Value).ownBlock) k_ from fun k_ hk => ⟨(Nat.le_trans (below_size (xb HB.out)) hk), Kd.fresh' (Kd.N_lt (xN HO_6.out)) k_ hk⟩) _ (Nat.le_refl _)) (Below.refl _ _) (Nat.le_refl _) (by simp) ?_; (case hd => rfl); (case hg => rfl); (case hr => first | (go_simp; done) | (go_simp; rfl)); (case hp => exact (Reps.none _ _)); intro v196 w25 ho26 hb hg_ hnew_; clear hg_ hnew_; (first | rw [← Ny195.out] at ho26 | (simp only [Int.reduceToNat] at ho26; rw [← Ny195.out] at ho26)); have n0_ := Aside0.mk (Kd.N_elder' (xN HO_6.out) (by first | exact Kd.N_base ho26 | exact Kd.S_base ho26 | exact Kd.R_base ho26) hb); have n1_ := Aside0.mk (Kd.N_lower ho26 (below_size (xb HB.out))); have n2_ := Aside0.mk (below_step (xb HB.out) hb); clear HO_6; clear HB; have HO_6 := n0_; have HO197 := n1_; have HB := n2_; clear n0_ n1_ n2_; clear hb ho26))
                    go_ret2
                    exact ⟨_, by first | rfl | (simp [errW_none, errW_some] <;> rfl) | (simp [*, errW_none, errW_some] <;> rfl), by (with_reducible repeat (first | apply Kd.N_alloc | apply Kd.N_drewN | apply Kd.N_drew)); exact Kd.N_mono HO197.out (fun _ hk => hk.1), by repeat (first | (with_reducible first | exact HB.out | apply below_alloc | apply pw_below_drewN | apply below_drew1) | exact HB.out)⟩
                  · rw [if_neg c24] at H
                    have c24b0 : decide (9 < (wrap64 ((wrap64 (x7_2 + (wrap64 (2 * t194)))) - 1))) = false := decide_eq_false c24
                    clear c24
                    replace H := Option.bind_eq_some_iff.mp H
                    obtain ⟨t198, A270, H⟩ := H
                    replace H : (spec_WalkTerms.l0 k2 a1 t198 (wrap64 ((wrap64 (x7_2 + (wrap64 (2 * t194)))) - 1)) (wrap64 (x8_2 + 1))) = some (r1, r2) := H
                    have A27 := Aside0.mk A270
                    clear A270
                    have H' := Aside0.mk H
                    clear H
                    have p22 : 0 ≤ (x8_2 : Int) := of_decide_eq_true (by first | (with_reducible assumption) | assumption)
                    have q22 : x8_2 < (a1.size : Int) := of_decide_eq_true (by first | (with_reducible assumption) | assumption)
                    have hx22 := bt_at a1 x8_2
                    replace p22 := eq_true p22
                    replace q22 := eq_true q22
                    go_wp2_with (first | ((with_reducible refine gate_callee (f := 32) rfl ?_); refine goesL_ (some 38) rfl rfl Tryd.func32 (by kernel_rfl) rfl #[.bool ((bt a1 x8_2) == 117)] rfl xm ?_; (with_reducible refine (spec_l1Bit.calls ((bt a1 x8_2) == 117) t194 _ A23.out).mono ?_); rintro e w' ⟨rfl, ⟨nd, rfl⟩⟩; refine ⟨_, rfl, ?_⟩; obtain ⟨Ao28, co28, eo28⟩ := Kd.N_slice HO_6.out; subst eo28) | ((with_reducible refine gate_callee (f := 33) rfl ?_); refine goesL_ (some 47) rfl rfl Tryd.func33 (by kernel_rfl) rfl #[.slice Ao28 x6_2.length co28, .bool ((bt a1 x8_2) == 117)] rfl xm ?_; (with_reducible refine (spec_l28Step.calls k2 _ _ x6_2 ((bt a1 x8_2) == 117) t198 _ ?side1 ?side2 A27.out).mono ?_); (case side1 => repeat (first | exact (Kd.N_reads' HO_6.out).2.2 | (with_reducible refine Kd.C_alloc ?_ _) | (with_reducible refine Kd.C_drewN ?_ _) | (with_reducible refine Kd.C_drew ?_))); (case side2 => exact (Kd.N_reads' HO_6.out).2.1); rintro e w29 ⟨v199, rfl, ho0, hb⟩; refine ⟨_, rfl, ?_⟩; have n0_ := Aside0.mk (Kd.N_elder' (xN HO_6.out) (by first | exact Kd.N_base ho0 | exact Kd.S_base ho0 | exact Kd.R_base ho0) hb); have n1_ := Aside0.mk (Kd.N_lower (Kd.N_mono (ok' := fun k_ => (w.heap.size ≤ k_) ∧ some k_ ≠ (.slice Ao28 x6_2.length co28 : Value).ownBlock) ho0 (fun k_ hk_ => ⟨(Nat.le_trans (below_size (xb HB.out)) hk_), (Kd.fresh' (Kd.N_lt (xN HO_6.out)) k_ hk_)⟩)) (below_size (xb HB.out))); have n2_ := Aside0.mk (below_step (xb HB.out) hb); clear HO_6; clear HB; have HO_6 := n0_; have HO200 := n1_; have HB := n2_; clear n0_ n1_ n2_; (try clear hb); (try clear hb2); (try clear hk); (try clear hi); (try clear ho0)))
                    go_roundg k2
                    case measure => have := HJ2.out; have := HK2.out; omega
                    case rel => exact ⟨(t198), (wrap64 ((wrap64 (x7_2 + (wrap64 (2 * t194)))) - 1)), (wrap64 (x8_2 + 1)), (by first | rfl | (simp; done) | (simp [*]; done)), (by first | rfl | (simp; done) | (simp [*]; done)), H', ⟨by have := HJ2.out; have := HK2.out; omega⟩, ⟨by (with_reducible repeat (first | apply Kd.N_alloc | apply Kd.N_drewN | apply Kd.N_drew)); exact Kd.N_mono HO200.out (fun _ hk => hk.1)⟩, ⟨by repeat (first | (with_reducible first | exact HB.out | apply below_alloc | apply pw_below_drewN | apply below_drew1) | exact HB.out)⟩⟩
                · rw [if_neg c21] at H
                  exact absurd H (by simp)
              · rw [if_neg c20] at H
                have c20b0 : decide (x8_2 < (a1.size : Int)) = false := decide_eq_false c20
                clear c20
                simp only [Option.some.injEq, Prod.mk.injEq] at H
                obtain ⟨rfl, rfl⟩ := H
                go_wp2
                go_ret2
                exact ⟨_, by first | rfl | (simp [errW_none, errW_some] <;> rfl) | (simp [*, errW_none, errW_some] <;> rfl), by (with_reducible repeat (first | apply Kd.N_alloc | apply Kd.N_drewN | apply Kd.N_drew)); first | exact HO_6.out | exact Kd.N_mono HO_6.out xi, by repeat (first | (with_reducible first | exact HB.out | apply below_alloc | apply pw_below_drewN | apply below_drew1) | exact HB.out)⟩
        · rw [if_neg c12] at H
          exact absurd H (by simp)

/-! ### spec_CountWalks: function 5 -/
def spec_CountWalks.l0 : Nat → List Int → List (S33) → Int → Option (Int)
  | 0, _, _, _ => none
  | k + 1, x1, x7, x9 => if x9 < (x7.length : Int) then (if 0 ≤ x9 then ((spec_l2Same.f k ((rd_T33 x7 x9).f0) x1).bind fun t206 => (if t206 = true then (some ((rd_T33 x7 x9).f1)) else (spec_CountWalks.l0 k x1 x7 (wrap64 (x9 + 1))))) else (none)) else (some 0)
def spec_CountWalks.f (k : Nat) (l0 : List Int) (l1 : List Int) (a2 : ByteArray) : Option (Int) := (spec_WalkTerms.f k l0 a2).bind fun bt201 => (spec_CountWalks.l0 k l1 bt201.1 0)
theorem spec_CountWalks.mono_l : ∀ k, (∀ y0 y1 y2, LeO (spec_CountWalks.l0 k y0 y1 y2) (spec_CountWalks.l0 (k + 1) y0 y1 y2))
  | 0 => fun _ _ _ r h => by simp [spec_CountWalks.l0] at h
  | k + 1 => by
    have ih0 := spec_CountWalks.mono_l k
    · intro y0 y1 y2
      unfold spec_CountWalks.l0
      repeat' first
      | (with_reducible exact ih0 _ _ _)
      | (with_reducible exact spec_WalkTerms.mono _ _ _)
      | (with_reducible exact spec_l2Same.mono _ _ _)
      | (with_reducible exact LeO.refl _)
      | (with_reducible exact LeO.none _)
      | (with_reducible refine LeO.ite ?_ ?_)
      | (with_reducible refine LeO.bind ?_ (fun _ => ?_))
      | exact ih0 _ _ _
      | exact spec_WalkTerms.mono _ _ _
      | exact spec_l2Same.mono _ _ _
      | exact LeO.none _
      | refine LeO.ite ?_ ?_
      | refine LeO.bind ?_ (fun _ => ?_)
theorem spec_CountWalks.mono : ∀ a0 a1 a2 k, LeO (spec_CountWalks.f k a0 a1 a2) (spec_CountWalks.f (k + 1) a0 a1 a2) := by
  intro a0 a1 a2 k
  have ih0 := spec_CountWalks.mono_l k
  unfold spec_CountWalks.f
  repeat' first
      | (with_reducible exact ih0 _ _ _)
      | (with_reducible exact spec_WalkTerms.mono _ _ _)
      | (with_reducible exact spec_l2Same.mono _ _ _)
      | (with_reducible exact LeO.refl _)
      | (with_reducible exact LeO.none _)
      | (with_reducible refine LeO.ite ?_ ?_)
      | (with_reducible refine LeO.bind ?_ (fun _ => ?_))
      | exact ih0 _ _ _
      | exact spec_WalkTerms.mono _ _ _
      | exact spec_l2Same.mono _ _ _
      | exact LeO.none _
      | refine LeO.ite ?_ ?_
      | refine LeO.bind ?_ (fun _ => ?_)
set_option maxHeartbeats 8000000 in
set_option maxRecDepth 100000 in
theorem spec_CountWalks.calls (k : Nat) (A0 : Option Addr) (c0 : Nat) (l0 : List Int) (A1 : Option Addr) (c1 : Nat) (l1 : List Int) (a2 : ByteArray) (r : Int) (w : World) (hr0 : Kd.C (Kd.int .i64) w A0 l0.length l0) (hc0 : l0.length ≤ c0) (hr1 : Kd.C (Kd.int .i64) w A1 l1.length l1) (hc1 : l1.length ≤ c1) (h : spec_CountWalks.f k l0 l1 a2 = some r) :
    Calls Tryd.prog 5 #[.slice A0 l0.length c0, .slice A1 l1.length c1, .string a2] w fun e w' => e = .returned (.int .i64 r) ∧ Below w.heap.size w w' := by
  have HR0 := Aside0.mk hr0
  have HC0 := Aside0.mk hc0
  clear hr0 hc0
  have HR1 := Aside0.mk hr1
  have HC1 := Aside0.mk hc1
  clear hr1 hc1
  have HB := Aside0.mk (Below.refl w.heap.size w)
  have H : ((spec_WalkTerms.f k l0 a2).bind fun bt201 => (spec_CountWalks.l0 k l1 bt201.1 0)) = some r := h
  clear h
  replace H := Option.bind_eq_some_iff.mp H
  obtain ⟨⟨t201, t204⟩, A40, H⟩ := H
  replace H : (spec_CountWalks.l0 k l1 t201 0) = some r := H
  have A4 := Aside0.mk A40
  clear A40
  have H' := Aside0.mk H
  clear H
  go_enter Tryd.func5, Tryd.ntmps5
  go_wp2_with (first | ((with_reducible refine gate_callee (f := 13) rfl ?_); refine goesL_ (some 13) rfl rfl Tryd.func13 (by kernel_rfl) rfl #[.slice A0 l0.length c0, .string a2] rfl xm ?_; (with_reducible refine (spec_WalkTerms.calls k _ _ l0 a2 t201 t204 _ ?side1 ?side2 A4.out).mono ?_); (case side1 => exact xc HR0.out); (case side2 => exact HC0.out); rintro e w5 ⟨v202, rfl, ho0, hb⟩; refine ⟨_, rfl, ?_⟩; have n0_ := Aside0.mk (Kd.N_lower (Kd.N_mono (ok' := fun k_ => True) ho0 (fun k_ hk_ => trivial)) (below_size (xb HB.out))); have n1_ := Aside0.mk (below_step (xb HB.out) hb); clear HB; have HO203 := n0_; have HB := n1_; clear n0_ n1_; (try clear hb); (try clear hb2); (try clear hk); (try clear hi); (try clear ho0)))
  go_loopg [9] k (fun kq v9 w' => ∃ (x9_1 : Int), v9 = .int .i64 x9_1 ∧ Aside0 (spec_CountWalks.l0 kq l1 t201 x9_1 = some r) ∧ Aside0 (kq ≤ k) ∧ Aside0 (Kd.N k33 33 w' w.heap.size (fun _ => True) v202 t201) ∧ Aside0 (Below w.heap.size w w'))
  case atStart => exact ⟨(0), (by first | rfl | (simp; done) | (simp [*]; done)), H', ⟨Nat.le_refl _⟩, ⟨by (with_reducible repeat (first | apply Kd.N_alloc | apply Kd.N_drewN | apply Kd.N_drew)); first | exact HO203.out | exact Kd.N_mono HO203.out xi⟩, ⟨by repeat (first | (with_reducible first | exact HB.out | apply below_alloc | apply pw_below_drewN | apply below_drew1) | exact HB.out)⟩⟩
  case round =>
    clear H'
    try clear c1
    try clear p2
    try clear c5
    obtain ⟨x9_1, rfl, HA, HK1, HO_7, HB⟩ := hrel
    cases gk with
    | zero => exact absurd HA.out (by simp [spec_CountWalks.l0])
    | succ k1 =>
      have H := HA.out
      clear HA
      simp only [spec_CountWalks.l0] at H
      by_cases c6 : x9_1 < (t201.length : Int)
      · rw [if_pos c6] at H
        have c6b0 : decide (x9_1 < (t201.length : Int)) = true := decide_eq_true c6
        clear c6
        by_cases c7 : 0 ≤ x9_1
        · rw [if_pos c7] at H
          have c7b0 : decide (0 ≤ x9_1) = true := decide_eq_true c7
          clear c7
          replace H := Option.bind_eq_some_iff.mp H
          obtain ⟨t206, A80, H⟩ := H
          replace H : (if t206 = true then (some ((rd_T33 t201 x9_1).f1)) else (spec_CountWalks.l0 k1 l1 t201 (wrap64 (x9_1 + 1)))) = some r := H
          have A8 := Aside0.mk A80
          clear A80
          by_cases c9 : t206 = true
          · subst c9
            have H1 : (some ((rd_T33 t201 x9_1).f1)) = some r := by rw [if_pos rfl] at H; exact H
            clear H
            have H := H1
            clear H1
            obtain rfl := Option.some.inj H
            obtain ⟨Ao10, co10, eo10⟩ := Kd.N_slice HO_7.out
            subst eo10
            have p205 : 0 ≤ (x9_1 : Int) := of_decide_eq_true (by first | (with_reducible assumption) | assumption)
            have q205 : x9_1 < (t201.length : Int) := of_decide_eq_true (by first | (with_reducible assumption) | assumption)
            obtain ⟨ad205, A205_0, c205_0, e205, hx205_0, hx205_1, hl205_0, hi205_0⟩ := at_T33 (Kd.N_reads' HO_7.out).2.2 x9_1 p205 q205
            cases e205
            obtain ⟨ce205, hce205, hMe205, hcc205⟩ := Kd.N_get HO_7.out z33 x9_1 p205 (by first | exact q205 | exact of_decide_eq_true (by first | (with_reducible assumption) | assumption) | (have e_ := (Kd.N_reads' HO_7.out).1; omega))
            obtain ⟨ua205_0, uc205_0, rfl, ul205_0, ge205_0⟩ := k33_openF hMe205
            have hv205_0 := hcc205 0 _ rfl
            rw [Nat.add_zero] at hv205_0
            replace hv205_0 := Option.some.inj (hv205_0.symm.trans hx205_0)
            injection hv205_0 with hva_ hvn_ hvc_
            rw [hva_] at ge205_0
            rw [hvc_] at ul205_0
            have HL205_0 := Aside0.mk (show Kd.V (Kd.int .i64) 3 _ w.heap.size _ _ ((rd_T33 t201 x9_1).f0) from Kd.V_mk ul205_0 ge205_0)
            clear hva_ hvn_ hvc_ ge205_0 ul205_0
            clear hcc205 hce205
            have HR205_0 := Aside0.mk hi205_0
            have HC205_0 := Aside0.mk hl205_0
            clear hi205_0 hl205_0
            replace p205 := eq_true p205
            replace q205 := eq_true q205
            go_wp2_with (first | ((with_reducible refine gate_callee (f := 14) rfl ?_); refine goesL_ (some 28) rfl rfl Tryd.func14 (by kernel_rfl) rfl #[.slice A205_0 ((rd_T33 t201 x9_1).f0).length c205_0, .slice A1 l1.length c1] rfl xm ?_; (with_reducible refine (spec_l2Same.calls k1 _ _ ((rd_T33 t201 x9_1).f0) _ _ l1 true _ ?side1 ?side2 ?side3 ?side4 A8.out).mono ?_); (case side1 => repeat (first | exact (by repeat (first | (with_reducible exact HR205_0.out) | (with_reducible refine Kd.C_alloc ?_ _) | (with_reducible refine Kd.C_drewN ?_ _) | (with_reducible refine Kd.C_drew ?_) | exact HR205_0.out)) | (with_reducible refine Kd.C_alloc ?_ _) | (with_reducible refine Kd.C_drewN ?_ _) | (with_reducible refine Kd.C_drew ?_))); (case side2 => exact HC205_0.out); (case side3 => first | exact xc (Kd.C_below HR1.out HB.out) | exact xc HR1.out); (case side4 => exact HC1.out); rintro e w' ⟨rfl, ⟨nd, rfl⟩⟩; refine ⟨_, rfl, ?_⟩; have p207 : 0 ≤ (x9_1 : Int) := of_decide_eq_true (by first | (with_reducible assumption) | assumption); have q207 : x9_1 < (t201.length : Int) := of_decide_eq_true (by first | (with_reducible assumption) | assumption); obtain ⟨ad207, A207_0, c207_0, e207, hx207_0, hx207_1, hl207_0, hi207_0⟩ := at_T33 (Kd.N_reads' HO_7.out).2.2 x9_1 p207 q207; obtain rfl : ad205 = ad207 := (by injection e207); obtain ⟨ce207, hce207, hMe207, hcc207⟩ := Kd.N_get HO_7.out z33 x9_1 p207 (by first | exact q207 | exact of_decide_eq_true (by first | (with_reducible assumption) | assumption) | (have e_ := (Kd.N_reads' HO_7.out).1; omega)); obtain ⟨ua207_0, uc207_0, rfl, ul207_0, ge207_0⟩ := k33_openF hMe207; have hv207_0 := hcc207 0 _ rfl; rw [Nat.add_zero] at hv207_0; replace hv207_0 := Option.some.inj (hv207_0.symm.trans hx207_0); injection hv207_0 with hva_ hvn_ hvc_; rw [hva_] at ge207_0; rw [hvc_] at ul207_0; have HL207_0 := Aside0.mk (show Kd.V (Kd.int .i64) 3 _ w.heap.size _ _ ((rd_T33 t201 x9_1).f0) from Kd.V_mk ul207_0 ge207_0); clear hva_ hvn_ hvc_ ge207_0 ul207_0; clear hcc207 hce207; have HR207_0 := Aside0.mk hi207_0; have HC207_0 := Aside0.mk hl207_0; clear hi207_0 hl207_0; replace p207 := eq_true p207; replace q207 := eq_true q207; have ea_ := Option.some.inj (hx205_0.symm.trans hx207_0); injection ea_ with ea_ en_ ec_; subst ea_; subst ec_; clear en_))
            go_ret
            exact ⟨by first | rfl | (simp [errW_none, errW_some] <;> rfl) | (simp [*, errW_none, errW_some] <;> rfl), by repeat (first | (with_reducible first | exact HB.out | apply below_alloc | apply pw_below_drewN | apply below_drew1) | exact HB.out)⟩
          · replace c9 := Bool.eq_false_iff.mpr c9
            subst c9
            have H1 : (spec_CountWalks.l0 k1 l1 t201 (wrap64 (x9_1 + 1))) = some r := by rw [if_neg (show ¬ (false = true) by decide)] at H; exact H
            clear H
            have H := H1
            clear H1
            have H' := Aside0.mk H
            clear H
            obtain ⟨Ao11, co11, eo11⟩ := Kd.N_slice HO_7.out
            subst eo11
            have p205 : 0 ≤ (x9_1 : Int) := of_decide_eq_true (by first | (with_reducible assumption) | assumption)
            have q205 : x9_1 < (t201.length : Int) := of_decide_eq_true (by first | (with_reducible assumption) | assumption)
            obtain ⟨ad205, A205_0, c205_0, e205, hx205_0, hx205_1, hl205_0, hi205_0⟩ := at_T33 (Kd.N_reads' HO_7.out).2.2 x9_1 p205 q205
            cases e205
            obtain ⟨ce205, hce205, hMe205, hcc205⟩ := Kd.N_get HO_7.out z33 x9_1 p205 (by first | exact q205 | exact of_decide_eq_true (by first | (with_reducible assumption) | assumption) | (have e_ := (Kd.N_reads' HO_7.out).1; omega))
            obtain ⟨ua205_0, uc205_0, rfl, ul205_0, ge205_0⟩ := k33_openF hMe205
            have hv205_0 := hcc205 0 _ rfl
            rw [Nat.add_zero] at hv205_0
            replace hv205_0 := Option.some.inj (hv205_0.symm.trans hx205_0)
            injection hv205_0 with hva_ hvn_ hvc_
            rw [hva_] at ge205_0
            rw [hvc_] at ul205_0
            have HL205_0 := Aside0.mk (show Kd.V (Kd.int .i64) 3 _ w.heap.size _ _ ((rd_T33 t201 x9_1).f0) from Kd.V_mk ul205_0 ge205_0)
            clear hva_ hvn_ hvc_ ge205_0 ul205_0
            clear hcc205 hce205
            have HR205_0 := Aside0.mk hi205_0
            have HC205_0 := Aside0.mk hl205_0
            clear hi205_0 hl205_0
            replace p205 := eq_true p205
            replace q205 := eq_true q205
            go_wp2_with (first | ((with_reducible refine gate_callee (f := 14) rfl ?_); refine goesL_ (some 28) rfl rfl Tryd.func14 (by kernel_rfl) rfl #[.slice A205_0 ((rd_T33 t201 x9_1).f0).length c205_0, .slice A1 l1.length c1] rfl xm ?_; (with_reducible refine (spec_l2Same.calls k1 _ _ ((rd_T33 t201 x9_1).f0) _ _ l1 false _ ?side1 ?side2 ?side3 ?side4 A8.out).mono ?_); (case side1 => repeat (first | exact (by repeat (first | (with_reducible exact HR205_0.out) | (with_reducible refine Kd.C_alloc ?_ _) | (with_reducible refine Kd.C_drewN ?_ _) | (with_reducible refine Kd.C_drew ?_) | exact HR205_0.out)) | (with_reducible refine Kd.C_alloc ?_ _) | (with_reducible refine Kd.C_drewN ?_ _) | (with_reducible refine Kd.C_drew ?_))); (case side2 => exact HC205_0.out); (case side3 => first | exact xc (Kd.C_below HR1.out HB.out) | exact xc HR1.out); (case side4 => exact HC1.out); rintro e w' ⟨rfl, ⟨nd, rfl⟩⟩; refine ⟨_, rfl, ?_⟩))
            go_roundg k1
            case measure => have := HK1.out; omega
            case rel => exact ⟨(wrap64 (x9_1 + 1)), (by first | rfl | (simp; done) | (simp [*]; done)), H', ⟨by have := HK1.out; omega⟩, ⟨by (with_reducible repeat (first | apply Kd.N_alloc | apply Kd.N_drewN | apply Kd.N_drew)); first | exact HO_7.out | exact Kd.N_mono HO_7.out xi⟩, ⟨by repeat (first | (with_reducible first | exact HB.out | apply below_alloc | apply pw_below_drewN | apply below_drew1) | exact HB.out)⟩⟩
        · rw [if_neg c7] at H
          exact absurd H (by simp)
      · rw [if_neg c6] at H
        have c6b0 : decide (x9_1 < (t201.length : Int)) = false := decide_eq_false c6
        clear c6
        obtain rfl := Option.some.inj H
        obtain ⟨Ao12, co12, eo12⟩ := Kd.N_slice HO_7.out
        subst eo12
        go_wp2
        go_ret
        exact ⟨by first | rfl | (simp [errW_none, errW_some] <;> rfl) | (simp [*, errW_none, errW_some] <;> rfl), by repeat (first | (with_reducible first | exact HB.out | apply below_alloc | apply pw_below_drewN | apply below_drew1) | exact HB.out)⟩

end Go.Proofs.YtneipehcmmigeaaDoor.PFnExactCountWalks
