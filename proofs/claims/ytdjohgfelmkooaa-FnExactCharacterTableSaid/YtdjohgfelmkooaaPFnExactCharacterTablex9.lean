-- Written by a program of this session (wip/print/xprint.py).
import Derived.Test.YtdjohgfelmkooaaPFnExactCharacterTablex0
import Derived.Test.YtdjohgfelmkooaaPFnExactCharacterTablex8
namespace Go.Proofs.Ytdjohgfelmkooaa.PFnExactCharacterTable
open Go.RowKit Go.Proofs.YtdjohgfelmkooaaW.PrintWords Go.Proofs.YtdjohgfelmkooaaW.PrintLast Go.Proofs.YtdjohgfelmkooaaW.PrintMore
attribute [local go_sem] max2_int min2_int max_two min_two max_three min_three max_four min_four   -- for this text's walks alone
set_option linter.unusedVariables false
set_option linter.unusedSimpArgs false

/-! ### spec_l22Character: function 46 -/
mutual
def spec_l22Character.l0 : Nat → List Int → Int → List (S63) → Int → Option (Int)
  | 0, _, _, _, _ => none
  | k + 1, x1, x5, x6, x7 => if x7 < (x6.length : Int) then (if 0 ≤ x7 then (if 1 ≤ (x1.length : Int) then ((spec_l22Character.f k ((rd_T63 x6 x7).f1) (x1.drop 1)).bind fun t259 => ((spec_RibbonHeight.f k ((rd_T63 x6 x7).f0) ((rd_T63 x6 x7).f1)).bind fun t261 => (if (Int.tmod t261 2) = 1 then (spec_l22Character.l0 k x1 (wrap64 (x5 + (wrap64 (-t259)))) x6 (wrap64 (x7 + 1))) else (spec_l22Character.l0 k x1 (wrap64 (x5 + t259)) x6 (wrap64 (x7 + 1)))))) else (none)) else (none)) else (some x5)
def spec_l22Character.f : Nat → List Int → List Int → Option (Int)
  | 0, _, _ => none
  | k + 1, l0, l1 => if (l1.length : Int) = 0 then (some 1) else (if 0 < (l1.length : Int) then ((spec_RibbonsInside.f k l0 (rd l1 0)).bind fun t254 => (spec_l22Character.l0 k l1 0 t254 0)) else (none))
end
theorem spec_l22Character.mono_l : ∀ k, (∀ y0 y1, LeO (spec_l22Character.f k y0 y1) (spec_l22Character.f (k + 1) y0 y1)) ∧ (∀ y0 y1 y2 y3, LeO (spec_l22Character.l0 k y0 y1 y2 y3) (spec_l22Character.l0 (k + 1) y0 y1 y2 y3))
  | 0 => ⟨fun _ _ r h => by simp [spec_l22Character.f] at h, fun _ _ _ _ r h => by simp [spec_l22Character.l0] at h⟩
  | k + 1 => by
    obtain ⟨ih0, ih1⟩ := spec_l22Character.mono_l k
    refine ⟨?_, ?_⟩
    · intro y0 y1
      unfold spec_l22Character.f
      repeat' first
      | (with_reducible exact ih0 _ _)
      | (with_reducible exact ih1 _ _ _ _)
      | (with_reducible exact spec_RibbonHeight.mono _ _ _)
      | (with_reducible exact spec_RibbonsInside.mono _ _ _)
      | (with_reducible exact LeO.refl _)
      | (with_reducible exact LeO.none _)
      | (with_reducible refine LeO.ite ?_ ?_)
      | (with_reducible refine LeO.bind ?_ (fun _ => ?_))
      | exact ih0 _ _
      | exact ih1 _ _ _ _
      | exact spec_RibbonHeight.mono _ _ _
      | exact spec_RibbonsInside.mono _ _ _
      | exact LeO.none _
      | refine LeO.ite ?_ ?_
      | refine LeO.bind ?_ (fun _ => ?_)
    · intro y0 y1 y2 y3
      unfold spec_l22Character.l0
      repeat' first
      | (with_reducible exact ih0 _ _)
      | (with_reducible exact ih1 _ _ _ _)
      | (with_reducible exact spec_RibbonHeight.mono _ _ _)
      | (with_reducible exact spec_RibbonsInside.mono _ _ _)
      | (with_reducible exact LeO.refl _)
      | (with_reducible exact LeO.none _)
      | (with_reducible refine LeO.ite ?_ ?_)
      | (with_reducible refine LeO.bind ?_ (fun _ => ?_))
      | exact ih0 _ _
      | exact ih1 _ _ _ _
      | exact spec_RibbonHeight.mono _ _ _
      | exact spec_RibbonsInside.mono _ _ _
      | exact LeO.none _
      | refine LeO.ite ?_ ?_
      | refine LeO.bind ?_ (fun _ => ?_)
theorem spec_l22Character.mono : ∀ a0 a1 k, LeO (spec_l22Character.f k a0 a1) (spec_l22Character.f (k + 1) a0 a1) := by
  intro a0 a1 k
  obtain ⟨ih0, ih1⟩ := spec_l22Character.mono_l k
  exact ih0 a0 a1
def spec_l22Character.T8 : Bool × List (List Nat × List Nat) := (true, [([], []), ([], []), ([0, 1], [0, 1]), ([2], [2]), ([3], [3]), ([], []), ([5], [5]), ([4, 6], [4, 6]), ([7, 7, 0, 1, 2, 3, 4, 5, 6, 7], [7])])
def spec_l22Character.B8 : List Nat := [0, 0, 3, 7, 15, 0, 32, 127, 255]
theorem spec_l22Character.tab8 : rtab .any (opsOf Try.f46 8) = spec_l22Character.T8 := by kernel_rfl
theorem spec_l22Character.bits8 : waitsOk spec_l22Character.T8.2 spec_l22Character.B8 = true := by kernel_rfl
set_option maxHeartbeats 8000000 in
set_option maxRecDepth 100000 in
theorem spec_l22Character.calls (k : Nat) : ∀ (A0 : Option Addr) (c0 : Nat) (l0 : List Int) (A1 : Option Addr) (c1 : Nat) (l1 : List Int) (r : Int) (w : World) (hr0 : Kd.C (Kd.int .i64) w A0 l0.length l0) (hc0 : l0.length ≤ c0) (hr1 : Kd.C (Kd.int .i64) w A1 l1.length l1) (hc1 : l1.length ≤ c1) (h : spec_l22Character.f k l0 l1 = some r),
    Calls Try.prog 46 #[.slice A0 l0.length c0, .slice A1 l1.length c1] w fun e w' => e = .returned (.int .i64 r) ∧ Below w.heap.size w w' := by
  induction k using Nat.strongRecOn with
  | _ k ih =>
  intro A0 c0 l0 A1 c1 l1 r w hr0 hc0 hr1 hc1 h
  cases k with
  | zero => exact absurd h (by simp [spec_l22Character.f])
  | succ k =>
  simp only [spec_l22Character.f] at h
  have hu63 := Try.underlying63
  have HR0 := Aside0.mk hr0
  have HC0 := Aside0.mk hc0
  clear hr0 hc0
  have HR1 := Aside0.mk hr1
  have HC1 := Aside0.mk hc1
  clear hr1 hc1
  have HB := Aside0.mk (Below.refl w.heap.size w)
  have H : (if (l1.length : Int) = 0 then (some 1) else (if 0 < (l1.length : Int) then ((spec_RibbonsInside.f k l0 (rd l1 0)).bind fun t254 => (spec_l22Character.l0 k l1 0 t254 0)) else (none))) = some r := h
  clear h
  by_cases c3 : (l1.length : Int) = 0
  · rw [if_pos c3] at H
    have c3b0 : ((l1.length : Int) == 0) = true := beq_iff_eq.mpr c3
    have c3b1 : ((l1.length : Int) != 0) = false := bne_eq_false_iff_eq.mpr c3
    clear c3
    obtain rfl := Option.some.inj H
    go_enter Try.func46, Try.ntmps46
    go_wp2
    go_ret
    exact ⟨by first | rfl | (simp [errW_none, errW_some] <;> rfl) | (simp [*, errW_none, errW_some] <;> rfl), by repeat (first | (with_reducible first | exact HB.out | apply below_alloc | apply pw_below_drewN | apply below_drew1) | exact HB.out)⟩
  · rw [if_neg c3] at H
    have c3b0 : ((l1.length : Int) == 0) = false := beq_eq_false_iff_ne.mpr c3
    have c3b1 : ((l1.length : Int) != 0) = true := bne_iff_ne.mpr c3
    have c3b2 : ¬ (l1 = []) := fun h_ => c3 (by rw [h_]; rfl)
    by_cases c4 : 0 < (l1.length : Int)
    · rw [if_pos c4] at H
      have c4b0 : decide (0 < (l1.length : Int)) = true := decide_eq_true c4
      have c4b1 : decide (0 < l1.length) = true := decide_eq_true (by omega)
      clear c4
      replace H := Option.bind_eq_some_iff.mp H
      obtain ⟨t254, A50, H⟩ := H
      replace H : (spec_l22Character.l0 k l1 0 t254 0) = some r := H
      have A5 := Aside0.mk A50
      clear A50
      have H' := Aside0.mk H
      clear H
      have p253 : 0 ≤ (0 : Int) := (by omega)
      have q253 : 0 < (l1.length : Int) := of_decide_eq_true (by first | (with_reducible assumption) | assumption)
      obtain ⟨ad253, e253, hx253_0⟩ := Kd.at_int HR1.out 0 p253 q253
      cases e253
      have qi253 : (0 < l1.length) = True := eq_true (by omega)
      (try rw [show ((0 : Int)).toNat = 0 from rfl] at hx253_0)
      (try rw [Addr.add_zero'] at hx253_0)
      replace p253 := eq_true p253
      replace q253 := eq_true q253
      go_enter Try.func46, Try.ntmps46
      go_wp2_with (first | ((with_reducible refine gate_callee (f := 69) rfl ?_); refine goesL_ (some 16) rfl rfl Try.func69 (by kernel_rfl) rfl #[.slice A0 l0.length c0, .int .i64 (rd l1 0)] rfl xm ?_; (with_reducible refine (spec_RibbonsInside.calls k _ _ l0 (rd l1 0) t254 _ ?side1 ?side2 A5.out).mono ?_); (case side1 => exact xc HR0.out); (case side2 => exact HC0.out); rintro e w6 ⟨v255, rfl, ho0, hb⟩; refine ⟨_, rfl, ?_⟩; have n0_ := Aside0.mk (Kd.N_lower (Kd.N_mono (ok' := fun k_ => True) ho0 (fun k_ hk_ => trivial)) (below_size (xb HB.out))); have n1_ := Aside0.mk (below_step (xb HB.out) hb); clear HB; have HO256 := n0_; have HB := n1_; clear n0_ n1_; (try clear hb); (try clear hb2); (try clear hk); (try clear hi); (try clear ho0)))
      go_loopg [5, 7] k (fun kq v5 v7 w' => ∃ (x5_1 : Int) (x7_1 : Int), v5 = .int .i64 x5_1 ∧ v7 = .int .i64 x7_1 ∧ Aside0 (spec_l22Character.l0 kq l1 x5_1 t254 x7_1 = some r) ∧ Aside0 (kq ≤ k) ∧ Aside0 (Kd.N k63 63 w' w.heap.size (fun _ => True) v255 t254) ∧ Aside0 (Below w.heap.size w w'))
      case atStart => exact ⟨(0), (0), (by first | rfl | (simp; done) | (simp [*]; done)), (by first | rfl | (simp; done) | (simp [*]; done)), H', ⟨Nat.le_refl _⟩, ⟨by (with_reducible repeat (first | apply Kd.N_alloc | apply Kd.N_drewN | apply Kd.N_drew)); first | exact HO256.out | exact Kd.N_mono HO256.out xi⟩, ⟨by repeat (first | (with_reducible first | exact HB.out | apply below_alloc | apply pw_below_drewN | apply below_drew1) | exact HB.out)⟩⟩
      case round =>
        clear H'
        try clear c1
        try clear p2
        try clear q2
        try clear hx2
        try clear qi2
        try clear c3
        try clear c3b0
        try clear c3b1
        try clear c3b2
        try clear c4
        try clear c4b0
        try clear c4b1
        try clear c6
        try clear hx253_0
        try clear p253
        try clear q253
        obtain ⟨x5_1, x7_1, rfl, rfl, HA, HK1, HO_6, HB⟩ := hrel
        cases gk with
        | zero => exact absurd HA.out (by simp [spec_l22Character.l0])
        | succ k1 =>
          have H := HA.out
          clear HA
          simp only [spec_l22Character.l0] at H
          by_cases c7 : x7_1 < (t254.length : Int)
          · rw [if_pos c7] at H
            have c7b0 : decide (x7_1 < (t254.length : Int)) = true := decide_eq_true c7
            clear c7
            by_cases c8 : 0 ≤ x7_1
            · rw [if_pos c8] at H
              have c8b0 : decide (0 ≤ x7_1) = true := decide_eq_true c8
              clear c8
              by_cases c9 : 1 ≤ (l1.length : Int)
              · rw [if_pos c9] at H
                have c9b0 := eq_true c9
                have c9b1 : decide (1 ≤ (l1.length : Int)) = true := decide_eq_true c9
                clear c9
                replace H := Option.bind_eq_some_iff.mp H
                obtain ⟨t259, A100, H⟩ := H
                replace H : ((spec_RibbonHeight.f k1 ((rd_T63 t254 x7_1).f0) ((rd_T63 t254 x7_1).f1)).bind fun t261 => (if (Int.tmod t261 2) = 1 then (spec_l22Character.l0 k1 l1 (wrap64 (x5_1 + (wrap64 (-t259)))) t254 (wrap64 (x7_1 + 1))) else (spec_l22Character.l0 k1 l1 (wrap64 (x5_1 + t259)) t254 (wrap64 (x7_1 + 1))))) = some r := H
                have A10 := Aside0.mk A100
                clear A100
                replace H := Option.bind_eq_some_iff.mp H
                obtain ⟨t261, A110, H⟩ := H
                replace H : (if (Int.tmod t261 2) = 1 then (spec_l22Character.l0 k1 l1 (wrap64 (x5_1 + (wrap64 (-t259)))) t254 (wrap64 (x7_1 + 1))) else (spec_l22Character.l0 k1 l1 (wrap64 (x5_1 + t259)) t254 (wrap64 (x7_1 + 1)))) = some r := H
                have A11 := Aside0.mk A110
                clear A110
                by_cases c12 : (Int.tmod t261 2) = 1
                · rw [if_pos c12] at H
                  have c12b0 : ((Int.tmod t261 2) == 1) = true := beq_iff_eq.mpr c12
                  have c12b1 : ((Int.tmod t261 2) != 1) = false := bne_eq_false_iff_eq.mpr c12
                  clear c12
                  have H' := Aside0.mk H
                  clear H
                  obtain ⟨Ao13, co13, eo13⟩ := Kd.N_slice HO_6.out
                  subst eo13
                  try go_wp2
                  have n0_ := Aside0.mk (Kd.N_drew HO_6.out)
                  have n1_ := Aside0.mk (below_drew1 HB.out)
                  clear HO_6
                  clear HB
                  have HO_6 := n0_
                  have HB := n1_
                  clear n0_ n1_
                  have p257 : 0 ≤ (x7_1 : Int) := of_decide_eq_true (by first | (with_reducible assumption) | assumption)
                  have q257 : x7_1 < (t254.length : Int) := of_decide_eq_true (by first | (with_reducible assumption) | assumption)
                  obtain ⟨ad257, A257_0, c257_0, A257_1, c257_1, e257, hx257_0, hx257_1, hl257_0, hi257_0, hl257_1, hi257_1⟩ := at_T63 (Kd.N_reads' HO_6.out).2.2 x7_1 p257 q257
                  cases e257
                  obtain ⟨ce257, hce257, hMe257, hcc257⟩ := Kd.N_get HO_6.out z63 x7_1 p257 (by first | exact q257 | exact of_decide_eq_true (by first | (with_reducible assumption) | assumption) | (have e_ := (Kd.N_reads' HO_6.out).1; omega))
                  obtain ⟨ua257_0, uc257_0, ua257_1, uc257_1, rfl, ul257_0, ge257_0, ul257_1, ge257_1⟩ := k63_openF hMe257
                  have hv257_0 := hcc257 0 _ rfl
                  rw [Nat.add_zero] at hv257_0
                  replace hv257_0 := Option.some.inj (hv257_0.symm.trans hx257_0)
                  injection hv257_0 with hva_ hvn_ hvc_
                  rw [hva_] at ge257_0
                  rw [hvc_] at ul257_0
                  have HL257_0 := Aside0.mk (show Kd.V (Kd.int .i64) 3 _ w.heap.size _ _ ((rd_T63 t254 x7_1).f0) from Kd.V_mk ul257_0 ge257_0)
                  clear hva_ hvn_ hvc_ ge257_0 ul257_0
                  have hv257_1 := hcc257 1 _ rfl
                  rw [add_field _ _ 1 (by omega)] at hv257_1
                  replace hv257_1 := Option.some.inj (hv257_1.symm.trans hx257_1)
                  injection hv257_1 with hva_ hvn_ hvc_
                  rw [hva_] at ge257_1
                  rw [hvc_] at ul257_1
                  have HL257_1 := Aside0.mk (show Kd.V (Kd.int .i64) 3 _ w.heap.size _ _ ((rd_T63 t254 x7_1).f1) from Kd.V_mk ul257_1 ge257_1)
                  clear hva_ hvn_ hvc_ ge257_1 ul257_1
                  clear hcc257 hce257
                  have HR257_0 := Aside0.mk hi257_0
                  have HC257_0 := Aside0.mk hl257_0
                  clear hi257_0 hl257_0
                  have HR257_1 := Aside0.mk hi257_1
                  have HC257_1 := Aside0.mk hl257_1
                  clear hi257_1 hl257_1
                  replace p257 := eq_true p257
                  replace q257 := eq_true q257
                  obtain ⟨i015, hi015, _, hsz15, _⟩ := info_parts info3
                  obtain ⟨A15, hcut15, hA15, hC15⟩ := print_drop_of (P := Try.prog) (Value.int .i64) 0 22 3 .i64 Try.underlying22 hi015 hsz15 (some ad253) c1 l1 1 (by omega) (of_decide_eq_true (by first | (with_reducible assumption) | assumption)) HC1.out
                  have HR258 := Aside0.mk (Kd.C_of_reads (h1 := fun _ => rfl) (hA15 _ (Kd.reads_of_C HR1.out)))
                  have HC258 := Aside0.mk hC15
                  clear hA15 hC15 hi015 hsz15
                  refine start_ (n := 9) (S := fun w' => w'.cell? (ad257.add ((x7_1).toNat * 2)) = some (.slice A257_0 ((rd_T63 t254 x7_1).f0).length c257_0) ∧ w'.cell? ⟨(ad257.add ((x7_1).toNat * 2)).block, (ad257.add ((x7_1).toNat * 2)).off + 1, none⟩ = some (.slice A257_1 ((rd_T63 t254 x7_1).f1).length c257_1)) (ds := []) #[false, false, false, false, false, false, false, false, false] (by kernel_rfl) rfl rfl ⟨hx257_0, hx257_1⟩ (fun hHeld => ?_); refine with_tabW spec_l22Character.tab8 spec_l22Character.bits8 (fun HT_ HW_ => ?_)
                  generalize wr.drew = w14 at HO_6 HB HL257_0 HL257_1 HR257_0 HR257_1 HR258 hx257_0 hx257_1 hHeld ⊢
                  refine pure_ (i := 0) (N := some 23) (v := ?_) (a' := ?_) #[true, false, false, false, false, false, false, false, false] rfl rfl (any_of HT_.out (by kernel_rfl)) (fun _ _ _ h => h) (Or.inl ⟨by rfl, ?_⟩) ?_ ?_
                  rotate_left
                  · intro w'
                    go_simp
                    with_reducible rfl
                  rotate_left
                  · simp only [Act.put, List.setIfInBounds_toArray, List.set_cons_zero, List.set_cons_succ, i64_w, i32_w]
                    rfl
                  refine pure_ (i := 1) (N := some 24) (v := ?_) (a' := ?_) #[true, true, false, false, false, false, false, false, false] rfl rfl (any_of HT_.out (by kernel_rfl)) (fun _ _ _ h => h) (Or.inl ⟨by rfl, ?_⟩) ?_ ?_
                  rotate_left
                  · intro w'
                    go_simp
                    with_reducible rfl
                  rotate_left
                  · simp only [Act.put, List.setIfInBounds_toArray, List.set_cons_zero, List.set_cons_succ, i64_w, i32_w]
                    rfl
                  refine pure_ (i := 2) (N := some 25) (v := ?_) (a' := ?_) #[true, true, true, false, false, false, false, false, false] rfl rfl (any_of HT_.out (by kernel_rfl)) (fun _ _ _ h => h) (Or.inl ⟨by rfl, ?_⟩) ?_ ?_
                  rotate_left
                  · intro w'
                    go_simp
                    with_reducible rfl
                  rotate_left
                  · simp only [Act.put, List.setIfInBounds_toArray, List.set_cons_zero, List.set_cons_succ, i64_w, i32_w]
                    rfl
                  refine pure_ (i := 3) (N := some 26) (v := ?_) (a' := ?_) #[true, true, true, true, false, false, false, false, false] rfl rfl (any_of HT_.out (by kernel_rfl)) (fun _ _ _ h => h) (Or.inl ⟨by rfl, ?_⟩) ?_ ?_
                  rotate_left
                  · intro w'
                    go_simp
                    with_reducible rfl
                  rotate_left
                  · simp only [Act.put, List.setIfInBounds_toArray, List.set_cons_zero, List.set_cons_succ, i64_w, i32_w]
                    rfl
                  refine pure_ (i := 5) (N := some 28) (v := ?_) (a' := ?_) #[true, true, true, true, false, true, false, false, false] rfl rfl (any_of HT_.out (by kernel_rfl)) (fun _ _ _ h => h) (Or.inl ⟨by rfl, ?_⟩) ?_ ?_
                  rotate_left
                  · intro w'
                    go_simp
                    with_reducible rfl
                  rotate_left
                  · simp only [Act.put, List.setIfInBounds_toArray, List.set_cons_zero, List.set_cons_succ, i64_w, i32_w]
                    rfl
                  refine pure_ (i := 6) (N := some 29) (v := ?_) (a' := ?_) #[true, true, true, true, false, true, true, false, false] rfl rfl (any_of HT_.out (by kernel_rfl)) (fun _ _ _ h => h) (Or.inl ⟨by rfl, ?_⟩) ?_ ?_
                  rotate_left
                  · intro w'
                    go_simp
                    with_reducible rfl
                  rotate_left
                  · simp only [Act.put, List.setIfInBounds_toArray, List.set_cons_zero, List.set_cons_succ, i64_w, i32_w]
                    rfl
                  refine take_ (i := 4) (N := some 27) (v := ?_) (a' := ?_) #[true, true, true, true, true, true, true, false, false] rfl rfl (take_ofW HT_.out HW_.out (by kernel_rfl)) (fun _ _ _ h => h) (Or.inl ⟨by rfl, ?_⟩) hHeld ?_ ?_
                  rotate_left
                  · rintro w' ⟨s0, s1⟩
                    go_simp
                    with_reducible rfl
                  rotate_left
                  · simp only [Act.put, List.setIfInBounds_toArray, List.set_cons_zero, List.set_cons_succ, i64_w, i32_w]
                    rfl
                  refine one_ (i := 7) (N := some 30) #[true, true, true, true, true, true, true, true, false] rfl rfl (one_of HT_.out (by kernel_rfl)) (by decide) (fun K hK => ?_)
                  refine goes_ Try.func46 (by kernel_rfl) rfl #[.slice A257_1 ((rd_T63 t254 x7_1).f1).length c257_1, .slice A15 (l1.drop 1).length (c1 - 1)] (by rfl) rfl rfl (by (try simp only [List.map_toArray, List.map_cons, List.map_nil]); first | done | (rw [show (l1.drop 1).length = (l1.length - 1) from List.length_drop] <;> rfl) | rfl | (simp only [List.length_drop, List.length_take]; rfl)) ?_
                  with_reducible refine (ih k1 (by have := HK1.out; omega) _ _ ((rd_T63 t254 x7_1).f1) _ _ (l1.drop 1) t259 _ ?side1 ?side2 ?side3 ?side4 A10.out).mono ?_
                  (case side1 => repeat (first | exact (by repeat (first | (with_reducible exact HR257_1.out) | (with_reducible refine Kd.C_alloc ?_ _) | (with_reducible refine Kd.C_drewN ?_ _) | (with_reducible refine Kd.C_drew ?_) | exact HR257_1.out)) | (with_reducible refine Kd.C_alloc ?_ _) | (with_reducible refine Kd.C_drewN ?_ _) | (with_reducible refine Kd.C_drew ?_)))
                  (case side2 => exact HC257_1.out)
                  (case side3 => first | exact xc (Kd.C_below HR258.out HB.out) | exact xc HR258.out)
                  (case side4 => exact HC258.out)
                  rintro e w16 ⟨rfl, hb⟩
                  have HS0_ := (hb.cell (World.block_lt_of_cell? _ _ (hHeld.1))).trans (hHeld.1)
                  have HS1_ := (hb.cell (World.block_lt_of_cell? _ _ (hHeld.2))).trans (hHeld.2)
                  refine ⟨_, rfl, ?_⟩
                  have n0_ := Aside0.mk (Kd.N_below (xN HO_6.out) hb)
                  have n1_ := Aside0.mk (Kd.V_below (xV HL257_0.out) hb)
                  have n2_ := Aside0.mk (Kd.V_below (xV HL257_1.out) hb)
                  have n3_ := Aside0.mk (Kd.C_below (by repeat (first | (with_reducible exact HR257_0.out) | (with_reducible refine Kd.C_alloc ?_ _) | (with_reducible refine Kd.C_drewN ?_ _) | (with_reducible refine Kd.C_drew ?_) | exact HR257_0.out)) hb)
                  have n4_ := Aside0.mk (Kd.C_below (by repeat (first | (with_reducible exact HR257_1.out) | (with_reducible refine Kd.C_alloc ?_ _) | (with_reducible refine Kd.C_drewN ?_ _) | (with_reducible refine Kd.C_drew ?_) | exact HR257_1.out)) hb)
                  have n5_ := Aside0.mk (below_step (xb HB.out) hb)
                  clear HO_6
                  clear HL257_0
                  clear HL257_1
                  clear HR257_0
                  clear HR257_1
                  clear HB
                  have HO_6 := n0_
                  have HL257_0 := n1_
                  have HL257_1 := n2_
                  have HR257_0 := n3_
                  have HR257_1 := n4_
                  have HB := n5_
                  clear n0_ n1_ n2_ n3_ n4_ n5_
                  (try clear hb)
                  (try clear hb2)
                  (try clear hk)
                  (try clear hi)
                  refine hK.out _ _ ⟨HS0_, HS1_⟩ (fun hHeld => ?_)
                  clear hK K
                  refine norm_ (a' := ?_) ?_ ?_
                  rotate_left
                  · show Act.put _ (some 30) _ = _
                    simp only [Act.put, List.setIfInBounds_toArray, List.set_cons_zero, List.set_cons_succ, i64_w, i32_w]
                    rfl
                  refine pure_ (i := 8) (N := some 8) (v := ?_) (a' := ?_) #[true, true, true, true, true, true, true, true, true] rfl rfl (any_of HT_.out (by kernel_rfl)) (fun _ _ _ h => h) (Or.inl ⟨by rfl, ?_⟩) ?_ ?_
                  rotate_left
                  · intro w'
                    go_simp
                    with_reducible rfl
                  rotate_left
                  · simp only [Act.put, List.setIfInBounds_toArray, List.set_cons_zero, List.set_cons_succ, i64_w, i32_w]
                    rfl
                  refine done_ (done_of HT_.out (by kernel_rfl)) ?_
                  have p260 : 0 ≤ (x7_1 : Int) := of_decide_eq_true (by first | (with_reducible assumption) | assumption)
                  have q260 : x7_1 < (t254.length : Int) := of_decide_eq_true (by first | (with_reducible assumption) | assumption)
                  obtain ⟨ad260, A260_0, c260_0, A260_1, c260_1, e260, hx260_0, hx260_1, hl260_0, hi260_0, hl260_1, hi260_1⟩ := at_T63 (Kd.N_reads' HO_6.out).2.2 x7_1 p260 q260
                  obtain rfl : ad257 = ad260 := (by injection e260)
                  obtain ⟨rfl, rfl⟩ : A257_0 = A260_0 ∧ c257_0 = c260_0 := by first | exact xsame hx257_0 hx260_0 | exact xsame HS0_ hx260_0 | exact xsame HS1_ hx260_0 | exact xsame HS2_ hx260_0 | exact xsame hHeld hx260_0 | exact xsame hHeld.1 hx260_0 | exact xsame hHeld.2 hx260_0 | exact xsame hHeld.2.1 hx260_0 | exact xsame hHeld.2.2 hx260_0 | exact xsame hHeld.2.2.1 hx260_0 | exact xsame hHeld.2.2.2 hx260_0 | exact xsame hHeld.2.2.2.1 hx260_0 | exact xsame hHeld.2.2.2.2 hx260_0 | exact xsame hHeld.2.2.2.2.1 hx260_0 | exact xsame hHeld.2.2.2.2.2 hx260_0
                  obtain ⟨rfl, rfl⟩ : A257_1 = A260_1 ∧ c257_1 = c260_1 := by first | exact xsame hx257_1 hx260_1 | exact xsame HS0_ hx260_1 | exact xsame HS1_ hx260_1 | exact xsame HS2_ hx260_1 | exact xsame hHeld hx260_1 | exact xsame hHeld.1 hx260_1 | exact xsame hHeld.2 hx260_1 | exact xsame hHeld.2.1 hx260_1 | exact xsame hHeld.2.2 hx260_1 | exact xsame hHeld.2.2.1 hx260_1 | exact xsame hHeld.2.2.2 hx260_1 | exact xsame hHeld.2.2.2.1 hx260_1 | exact xsame hHeld.2.2.2.2 hx260_1 | exact xsame hHeld.2.2.2.2.1 hx260_1 | exact xsame hHeld.2.2.2.2.2 hx260_1
                  obtain ⟨ce260, hce260, hMe260, hcc260⟩ := Kd.N_get HO_6.out z63 x7_1 p260 (by first | exact q260 | exact of_decide_eq_true (by first | (with_reducible assumption) | assumption) | (have e_ := (Kd.N_reads' HO_6.out).1; omega))
                  obtain ⟨ua260_0, uc260_0, ua260_1, uc260_1, rfl, ul260_0, ge260_0, ul260_1, ge260_1⟩ := k63_openF hMe260
                  have hv260_0 := hcc260 0 _ rfl
                  rw [Nat.add_zero] at hv260_0
                  replace hv260_0 := Option.some.inj (hv260_0.symm.trans hx260_0)
                  injection hv260_0 with hva_ hvn_ hvc_
                  rw [hva_] at ge260_0
                  rw [hvc_] at ul260_0
                  have HL260_0 := Aside0.mk (show Kd.V (Kd.int .i64) 3 _ w.heap.size _ _ ((rd_T63 t254 x7_1).f0) from Kd.V_mk ul260_0 ge260_0)
                  clear hva_ hvn_ hvc_ ge260_0 ul260_0
                  have hv260_1 := hcc260 1 _ rfl
                  rw [add_field _ _ 1 (by omega)] at hv260_1
                  replace hv260_1 := Option.some.inj (hv260_1.symm.trans hx260_1)
                  injection hv260_1 with hva_ hvn_ hvc_
                  rw [hva_] at ge260_1
                  rw [hvc_] at ul260_1
                  have HL260_1 := Aside0.mk (show Kd.V (Kd.int .i64) 3 _ w.heap.size _ _ ((rd_T63 t254 x7_1).f1) from Kd.V_mk ul260_1 ge260_1)
                  clear hva_ hvn_ hvc_ ge260_1 ul260_1
                  clear hcc260 hce260
                  have HR260_0 := Aside0.mk hi260_0
                  have HC260_0 := Aside0.mk hl260_0
                  clear hi260_0 hl260_0
                  have HR260_1 := Aside0.mk hi260_1
                  have HC260_1 := Aside0.mk hl260_1
                  clear hi260_1 hl260_1
                  replace p260 := eq_true p260
                  replace q260 := eq_true q260
                  try go_wp2_with (first | ((with_reducible refine gate_callee (f := 70) rfl ?_); refine goesL_ (some 35) rfl rfl Try.func70 (by kernel_rfl) rfl #[.agg #[.slice A257_0 ((rd_T63 t254 x7_1).f0).length c257_0, .slice A257_1 ((rd_T63 t254 x7_1).f1).length c257_1]] rfl xm ?_; (with_reducible refine (spec_RibbonHeight.calls k1 _ _ ((rd_T63 t254 x7_1).f0) _ _ ((rd_T63 t254 x7_1).f1) t261 _ ?side1 ?side2 ?side3 ?side4 A11.out).mono ?_); (case side1 => repeat (first | exact (by repeat (first | (with_reducible exact HR260_0.out) | (with_reducible refine Kd.C_alloc ?_ _) | (with_reducible refine Kd.C_drewN ?_ _) | (with_reducible refine Kd.C_drew ?_) | exact HR260_0.out)) | (with_reducible refine Kd.C_alloc ?_ _) | (with_reducible refine Kd.C_drewN ?_ _) | (with_reducible refine Kd.C_drew ?_))); (case side2 => exact HC260_0.out); (case side3 => repeat (first | exact (by repeat (first | (with_reducible exact HR260_1.out) | (with_reducible refine Kd.C_alloc ?_ _) | (with_reducible refine Kd.C_drewN ?_ _) | (with_reducible refine Kd.C_drew ?_) | exact HR260_1.out)) | (with_reducible refine Kd.C_alloc ?_ _) | (with_reducible refine Kd.C_drewN ?_ _) | (with_reducible refine Kd.C_drew ?_))); (case side4 => exact HC260_1.out); rintro e w17 ⟨rfl, hb⟩; refine ⟨_, rfl, ?_⟩; have n0_ := Aside0.mk (Kd.N_below (xN HO_6.out) hb); have n1_ := Aside0.mk (Kd.V_below (xV HL257_0.out) hb); have n2_ := Aside0.mk (Kd.V_below (xV HL257_1.out) hb); have n3_ := Aside0.mk (Kd.V_below (xV HL260_0.out) hb); have n4_ := Aside0.mk (Kd.V_below (xV HL260_1.out) hb); have n5_ := Aside0.mk (Kd.C_below (by repeat (first | (with_reducible exact HR257_0.out) | (with_reducible refine Kd.C_alloc ?_ _) | (with_reducible refine Kd.C_drewN ?_ _) | (with_reducible refine Kd.C_drew ?_) | exact HR257_0.out)) hb); have n6_ := Aside0.mk (Kd.C_below (by repeat (first | (with_reducible exact HR257_1.out) | (with_reducible refine Kd.C_alloc ?_ _) | (with_reducible refine Kd.C_drewN ?_ _) | (with_reducible refine Kd.C_drew ?_) | exact HR257_1.out)) hb); have n7_ := Aside0.mk (Kd.C_below (by repeat (first | (with_reducible exact HR260_0.out) | (with_reducible refine Kd.C_alloc ?_ _) | (with_reducible refine Kd.C_drewN ?_ _) | (with_reducible refine Kd.C_drew ?_) | exact HR260_0.out)) hb); have n8_ := Aside0.mk (Kd.C_below (by repeat (first | (with_reducible exact HR260_1.out) | (with_reducible refine Kd.C_alloc ?_ _) | (with_reducible refine Kd.C_drewN ?_ _) | (with_reducible refine Kd.C_drew ?_) | exact HR260_1.out)) hb); have n9_ := Aside0.mk (below_step (xb HB.out) hb); clear HO_6; clear HL257_0; clear HL257_1; clear HL260_0; clear HL260_1; clear HR257_0; clear HR257_1; clear HR260_0; clear HR260_1; clear HB; have HO_6 := n0_; have HL257_0 := n1_; have HL257_1 := n2_; have HL260_0 := n3_; have HL260_1 := n4_; have HR257_0 := n5_; have HR257_1 := n6_; have HR260_0 := n7_; have HR260_1 := n8_; have HB := n9_; clear n0_ n1_ n2_ n3_ n4_ n5_ n6_ n7_ n8_ n9_; (try clear hb); (try clear hb2); (try clear hk); (try clear hi)))
                  go_roundg k1
                  case measure => have := HK1.out; omega
                  case rel => exact ⟨(wrap64 (x5_1 + (wrap64 (-t259)))), (wrap64 (x7_1 + 1)), (by first | rfl | (simp; done) | (simp [*]; done)), (by first | rfl | (simp; done) | (simp [*]; done)), H', ⟨by have := HK1.out; omega⟩, ⟨by (with_reducible repeat (first | apply Kd.N_alloc | apply Kd.N_drewN | apply Kd.N_drew)); first | exact HO_6.out | exact Kd.N_mono HO_6.out xi⟩, ⟨by repeat (first | (with_reducible first | exact HB.out | apply below_alloc | apply pw_below_drewN | apply below_drew1) | exact HB.out)⟩⟩
                · rw [if_neg c12] at H
                  have c12b0 : ((Int.tmod t261 2) == 1) = false := beq_eq_false_iff_ne.mpr c12
                  have c12b1 : ((Int.tmod t261 2) != 1) = true := bne_iff_ne.mpr c12
                  have H' := Aside0.mk H
                  clear H
                  obtain ⟨Ao18, co18, eo18⟩ := Kd.N_slice HO_6.out
                  subst eo18
                  try go_wp2
                  have n0_ := Aside0.mk (Kd.N_drew HO_6.out)
                  have n1_ := Aside0.mk (below_drew1 HB.out)
                  clear HO_6
                  clear HB
                  have HO_6 := n0_
                  have HB := n1_
                  clear n0_ n1_
                  have p257 : 0 ≤ (x7_1 : Int) := of_decide_eq_true (by first | (with_reducible assumption) | assumption)
                  have q257 : x7_1 < (t254.length : Int) := of_decide_eq_true (by first | (with_reducible assumption) | assumption)
                  obtain ⟨ad257, A257_0, c257_0, A257_1, c257_1, e257, hx257_0, hx257_1, hl257_0, hi257_0, hl257_1, hi257_1⟩ := at_T63 (Kd.N_reads' HO_6.out).2.2 x7_1 p257 q257
                  cases e257
                  obtain ⟨ce257, hce257, hMe257, hcc257⟩ := Kd.N_get HO_6.out z63 x7_1 p257 (by first | exact q257 | exact of_decide_eq_true (by first | (with_reducible assumption) | assumption) | (have e_ := (Kd.N_reads' HO_6.out).1; omega))
                  obtain ⟨ua257_0, uc257_0, ua257_1, uc257_1, rfl, ul257_0, ge257_0, ul257_1, ge257_1⟩ := k63_openF hMe257
                  have hv257_0 := hcc257 0 _ rfl
                  rw [Nat.add_zero] at hv257_0
                  replace hv257_0 := Option.some.inj (hv257_0.symm.trans hx257_0)
                  injection hv257_0 with hva_ hvn_ hvc_
                  rw [hva_] at ge257_0
                  rw [hvc_] at ul257_0
                  have HL257_0 := Aside0.mk (show Kd.V (Kd.int .i64) 3 _ w.heap.size _ _ ((rd_T63 t254 x7_1).f0) from Kd.V_mk ul257_0 ge257_0)
                  clear hva_ hvn_ hvc_ ge257_0 ul257_0
                  have hv257_1 := hcc257 1 _ rfl
                  rw [add_field _ _ 1 (by omega)] at hv257_1
                  replace hv257_1 := Option.some.inj (hv257_1.symm.trans hx257_1)
                  injection hv257_1 with hva_ hvn_ hvc_
                  rw [hva_] at ge257_1
                  rw [hvc_] at ul257_1
                  have HL257_1 := Aside0.mk (show Kd.V (Kd.int .i64) 3 _ w.heap.size _ _ ((rd_T63 t254 x7_1).f1) from Kd.V_mk ul257_1 ge257_1)
                  clear hva_ hvn_ hvc_ ge257_1 ul257_1
                  clear hcc257 hce257
                  have HR257_0 := Aside0.mk hi257_0
                  have HC257_0 := Aside0.mk hl257_0
                  clear hi257_0 hl257_0
                  have HR257_1 := Aside0.mk hi257_1
                  have HC257_1 := Aside0.mk hl257_1
                  clear hi257_1 hl257_1
                  replace p257 := eq_true p257
                  replace q257 := eq_true q257
                  obtain ⟨i020, hi020, _, hsz20, _⟩ := info_parts info3
                  obtain ⟨A20, hcut20, hA20, hC20⟩ := print_drop_of (P := Try.prog) (Value.int .i64) 0 22 3 .i64 Try.underlying22 hi020 hsz20 (some ad253) c1 l1 1 (by omega) (of_decide_eq_true (by first | (with_reducible assumption) | assumption)) HC1.out
                  have HR258 := Aside0.mk (Kd.C_of_reads (h1 := fun _ => rfl) (hA20 _ (Kd.reads_of_C HR1.out)))
                  have HC258 := Aside0.mk hC20
                  clear hA20 hC20 hi020 hsz20
                  refine start_ (n := 9) (S := fun w' => w'.cell? (ad257.add ((x7_1).toNat * 2)) = some (.slice A257_0 ((rd_T63 t254 x7_1).f0).length c257_0) ∧ w'.cell? ⟨(ad257.add ((x7_1).toNat * 2)).block, (ad257.add ((x7_1).toNat * 2)).off + 1, none⟩ = some (.slice A257_1 ((rd_T63 t254 x7_1).f1).length c257_1)) (ds := []) #[false, false, false, false, false, false, false, false, false] (by kernel_rfl) rfl rfl ⟨hx257_0, hx257_1⟩ (fun hHeld => ?_); refine with_tabW spec_l22Character.tab8 spec_l22Character.bits8 (fun HT_ HW_ => ?_)
                  generalize wr.drew = w19 at HO_6 HB HL257_0 HL257_1 HR257_0 HR257_1 HR258 hx257_0 hx257_1 hHeld ⊢
                  refine pure_ (i := 0) (N := some 23) (v := ?_) (a' := ?_) #[true, false, false, false, false, false, false, false, false] rfl rfl (any_of HT_.out (by kernel_rfl)) (fun _ _ _ h => h) (Or.inl ⟨by rfl, ?_⟩) ?_ ?_
                  rotate_left
                  · intro w'
                    go_simp
                    with_reducible rfl
                  rotate_left
                  · simp only [Act.put, List.setIfInBounds_toArray, List.set_cons_zero, List.set_cons_succ, i64_w, i32_w]
                    rfl
                  refine pure_ (i := 1) (N := some 24) (v := ?_) (a' := ?_) #[true, true, false, false, false, false, false, false, false] rfl rfl (any_of HT_.out (by kernel_rfl)) (fun _ _ _ h => h) (Or.inl ⟨by rfl, ?_⟩) ?_ ?_
                  rotate_left
                  · intro w'
                    go_simp
                    with_reducible rfl
                  rotate_left
                  · simp only [Act.put, List.setIfInBounds_toArray, List.set_cons_zero, List.set_cons_succ, i64_w, i32_w]
                    rfl
                  refine pure_ (i := 2) (N := some 25) (v := ?_) (a' := ?_) #[true, true, true, false, false, false, false, false, false] rfl rfl (any_of HT_.out (by kernel_rfl)) (fun _ _ _ h => h) (Or.inl ⟨by rfl, ?_⟩) ?_ ?_
                  rotate_left
                  · intro w'
                    go_simp
                    with_reducible rfl
                  rotate_left
                  · simp only [Act.put, List.setIfInBounds_toArray, List.set_cons_zero, List.set_cons_succ, i64_w, i32_w]
                    rfl
                  refine pure_ (i := 3) (N := some 26) (v := ?_) (a' := ?_) #[true, true, true, true, false, false, false, false, false] rfl rfl (any_of HT_.out (by kernel_rfl)) (fun _ _ _ h => h) (Or.inl ⟨by rfl, ?_⟩) ?_ ?_
                  rotate_left
                  · intro w'
                    go_simp
                    with_reducible rfl
                  rotate_left
                  · simp only [Act.put, List.setIfInBounds_toArray, List.set_cons_zero, List.set_cons_succ, i64_w, i32_w]
                    rfl
                  refine pure_ (i := 5) (N := some 28) (v := ?_) (a' := ?_) #[true, true, true, true, false, true, false, false, false] rfl rfl (any_of HT_.out (by kernel_rfl)) (fun _ _ _ h => h) (Or.inl ⟨by rfl, ?_⟩) ?_ ?_
                  rotate_left
                  · intro w'
                    go_simp
                    with_reducible rfl
                  rotate_left
                  · simp only [Act.put, List.setIfInBounds_toArray, List.set_cons_zero, List.set_cons_succ, i64_w, i32_w]
                    rfl
                  refine pure_ (i := 6) (N := some 29) (v := ?_) (a' := ?_) #[true, true, true, true, false, true, true, false, false] rfl rfl (any_of HT_.out (by kernel_rfl)) (fun _ _ _ h => h) (Or.inl ⟨by rfl, ?_⟩) ?_ ?_
                  rotate_left
                  · intro w'
                    go_simp
                    with_reducible rfl
                  rotate_left
                  · simp only [Act.put, List.setIfInBounds_toArray, List.set_cons_zero, List.set_cons_succ, i64_w, i32_w]
                    rfl
                  refine take_ (i := 4) (N := some 27) (v := ?_) (a' := ?_) #[true, true, true, true, true, true, true, false, false] rfl rfl (take_ofW HT_.out HW_.out (by kernel_rfl)) (fun _ _ _ h => h) (Or.inl ⟨by rfl, ?_⟩) hHeld ?_ ?_
                  rotate_left
                  · rintro w' ⟨s0, s1⟩
                    go_simp
                    with_reducible rfl
                  rotate_left
                  · simp only [Act.put, List.setIfInBounds_toArray, List.set_cons_zero, List.set_cons_succ, i64_w, i32_w]
                    rfl
                  refine one_ (i := 7) (N := some 30) #[true, true, true, true, true, true, true, true, false] rfl rfl (one_of HT_.out (by kernel_rfl)) (by decide) (fun K hK => ?_)
                  refine goes_ Try.func46 (by kernel_rfl) rfl #[.slice A257_1 ((rd_T63 t254 x7_1).f1).length c257_1, .slice A20 (l1.drop 1).length (c1 - 1)] (by rfl) rfl rfl (by (try simp only [List.map_toArray, List.map_cons, List.map_nil]); first | done | (rw [show (l1.drop 1).length = (l1.length - 1) from List.length_drop] <;> rfl) | rfl | (simp only [List.length_drop, List.length_take]; rfl)) ?_
                  with_reducible refine (ih k1 (by have := HK1.out; omega) _ _ ((rd_T63 t254 x7_1).f1) _ _ (l1.drop 1) t259 _ ?side1 ?side2 ?side3 ?side4 A10.out).mono ?_
                  (case side1 => repeat (first | exact (by repeat (first | (with_reducible exact HR257_1.out) | (with_reducible refine Kd.C_alloc ?_ _) | (with_reducible refine Kd.C_drewN ?_ _) | (with_reducible refine Kd.C_drew ?_) | exact HR257_1.out)) | (with_reducible refine Kd.C_alloc ?_ _) | (with_reducible refine Kd.C_drewN ?_ _) | (with_reducible refine Kd.C_drew ?_)))
                  (case side2 => exact HC257_1.out)
                  (case side3 => first | exact xc (Kd.C_below HR258.out HB.out) | exact xc HR258.out)
                  (case side4 => exact HC258.out)
                  rintro e w21 ⟨rfl, hb⟩
                  have HS0_ := (hb.cell (World.block_lt_of_cell? _ _ (hHeld.1))).trans (hHeld.1)
                  have HS1_ := (hb.cell (World.block_lt_of_cell? _ _ (hHeld.2))).trans (hHeld.2)
                  refine ⟨_, rfl, ?_⟩
                  have n0_ := Aside0.mk (Kd.N_below (xN HO_6.out) hb)
                  have n1_ := Aside0.mk (Kd.V_below (xV HL257_0.out) hb)
                  have n2_ := Aside0.mk (Kd.V_below (xV HL257_1.out) hb)
                  have n3_ := Aside0.mk (Kd.C_below (by repeat (first | (with_reducible exact HR257_0.out) | (with_reducible refine Kd.C_alloc ?_ _) | (with_reducible refine Kd.C_drewN ?_ _) | (with_reducible refine Kd.C_drew ?_) | exact HR257_0.out)) hb)
                  have n4_ := Aside0.mk (Kd.C_below (by repeat (first | (with_reducible exact HR257_1.out) | (with_reducible refine Kd.C_alloc ?_ _) | (with_reducible refine Kd.C_drewN ?_ _) | (with_reducible refine Kd.C_drew ?_) | exact HR257_1.out)) hb)
                  have n5_ := Aside0.mk (below_step (xb HB.out) hb)
                  clear HO_6
                  clear HL257_0
                  clear HL257_1
                  clear HR257_0
                  clear HR257_1
                  clear HB
                  have HO_6 := n0_
                  have HL257_0 := n1_
                  have HL257_1 := n2_
                  have HR257_0 := n3_
                  have HR257_1 := n4_
                  have HB := n5_
                  clear n0_ n1_ n2_ n3_ n4_ n5_
                  (try clear hb)
                  (try clear hb2)
                  (try clear hk)
                  (try clear hi)
                  refine hK.out _ _ ⟨HS0_, HS1_⟩ (fun hHeld => ?_)
                  clear hK K
                  refine norm_ (a' := ?_) ?_ ?_
                  rotate_left
                  · show Act.put _ (some 30) _ = _
                    simp only [Act.put, List.setIfInBounds_toArray, List.set_cons_zero, List.set_cons_succ, i64_w, i32_w]
                    rfl
                  refine pure_ (i := 8) (N := some 8) (v := ?_) (a' := ?_) #[true, true, true, true, true, true, true, true, true] rfl rfl (any_of HT_.out (by kernel_rfl)) (fun _ _ _ h => h) (Or.inl ⟨by rfl, ?_⟩) ?_ ?_
                  rotate_left
                  · intro w'
                    go_simp
                    with_reducible rfl
                  rotate_left
                  · simp only [Act.put, List.setIfInBounds_toArray, List.set_cons_zero, List.set_cons_succ, i64_w, i32_w]
                    rfl
                  refine done_ (done_of HT_.out (by kernel_rfl)) ?_
                  have p260 : 0 ≤ (x7_1 : Int) := of_decide_eq_true (by first | (with_reducible assumption) | assumption)
                  have q260 : x7_1 < (t254.length : Int) := of_decide_eq_true (by first | (with_reducible assumption) | assumption)
                  obtain ⟨ad260, A260_0, c260_0, A260_1, c260_1, e260, hx260_0, hx260_1, hl260_0, hi260_0, hl260_1, hi260_1⟩ := at_T63 (Kd.N_reads' HO_6.out).2.2 x7_1 p260 q260
                  obtain rfl : ad257 = ad260 := (by injection e260)
                  obtain ⟨rfl, rfl⟩ : A257_0 = A260_0 ∧ c257_0 = c260_0 := by first | exact xsame hx257_0 hx260_0 | exact xsame HS0_ hx260_0 | exact xsame HS1_ hx260_0 | exact xsame HS2_ hx260_0 | exact xsame hHeld hx260_0 | exact xsame hHeld.1 hx260_0 | exact xsame hHeld.2 hx260_0 | exact xsame hHeld.2.1 hx260_0 | exact xsame hHeld.2.2 hx260_0 | exact xsame hHeld.2.2.1 hx260_0 | exact xsame hHeld.2.2.2 hx260_0 | exact xsame hHeld.2.2.2.1 hx260_0 | exact xsame hHeld.2.2.2.2 hx260_0 | exact xsame hHeld.2.2.2.2.1 hx260_0 | exact xsame hHeld.2.2.2.2.2 hx260_0
                  obtain ⟨rfl, rfl⟩ : A257_1 = A260_1 ∧ c257_1 = c260_1 := by first | exact xsame hx257_1 hx260_1 | exact xsame HS0_ hx260_1 | exact xsame HS1_ hx260_1 | exact xsame HS2_ hx260_1 | exact xsame hHeld hx260_1 | exact xsame hHeld.1 hx260_1 | exact xsame hHeld.2 hx260_1 | exact xsame hHeld.2.1 hx260_1 | exact xsame hHeld.2.2 hx260_1 | exact xsame hHeld.2.2.1 hx260_1 | exact xsame hHeld.2.2.2 hx260_1 | exact xsame hHeld.2.2.2.1 hx260_1 | exact xsame hHeld.2.2.2.2 hx260_1 | exact xsame hHeld.2.2.2.2.1 hx260_1 | exact xsame hHeld.2.2.2.2.2 hx260_1
                  obtain ⟨ce260, hce260, hMe260, hcc260⟩ := Kd.N_get HO_6.out z63 x7_1 p260 (by first | exact q260 | exact of_decide_eq_true (by first | (with_reducible assumption) | assumption) | (have e_ := (Kd.N_reads' HO_6.out).1; omega))
                  obtain ⟨ua260_0, uc260_0, ua260_1, uc260_1, rfl, ul260_0, ge260_0, ul260_1, ge260_1⟩ := k63_openF hMe260
                  have hv260_0 := hcc260 0 _ rfl
                  rw [Nat.add_zero] at hv260_0
                  replace hv260_0 := Option.some.inj (hv260_0.symm.trans hx260_0)
                  injection hv260_0 with hva_ hvn_ hvc_
                  rw [hva_] at ge260_0
                  rw [hvc_] at ul260_0
                  have HL260_0 := Aside0.mk (show Kd.V (Kd.int .i64) 3 _ w.heap.size _ _ ((rd_T63 t254 x7_1).f0) from Kd.V_mk ul260_0 ge260_0)
                  clear hva_ hvn_ hvc_ ge260_0 ul260_0
                  have hv260_1 := hcc260 1 _ rfl
                  rw [add_field _ _ 1 (by omega)] at hv260_1
                  replace hv260_1 := Option.some.inj (hv260_1.symm.trans hx260_1)
                  injection hv260_1 with hva_ hvn_ hvc_
                  rw [hva_] at ge260_1
                  rw [hvc_] at ul260_1
                  have HL260_1 := Aside0.mk (show Kd.V (Kd.int .i64) 3 _ w.heap.size _ _ ((rd_T63 t254 x7_1).f1) from Kd.V_mk ul260_1 ge260_1)
                  clear hva_ hvn_ hvc_ ge260_1 ul260_1
                  clear hcc260 hce260
                  have HR260_0 := Aside0.mk hi260_0
                  have HC260_0 := Aside0.mk hl260_0
                  clear hi260_0 hl260_0
                  have HR260_1 := Aside0.mk hi260_1
                  have HC260_1 := Aside0.mk hl260_1
                  clear hi260_1 hl260_1
                  replace p260 := eq_true p260
                  replace q260 := eq_true q260
                  try go_wp2_with (first | ((with_reducible refine gate_callee (f := 70) rfl ?_); refine goesL_ (some 35) rfl rfl Try.func70 (by kernel_rfl) rfl #[.agg #[.slice A257_0 ((rd_T63 t254 x7_1).f0).length c257_0, .slice A257_1 ((rd_T63 t254 x7_1).f1).length c257_1]] rfl xm ?_; (with_reducible refine (spec_RibbonHeight.calls k1 _ _ ((rd_T63 t254 x7_1).f0) _ _ ((rd_T63 t254 x7_1).f1) t261 _ ?side1 ?side2 ?side3 ?side4 A11.out).mono ?_); (case side1 => repeat (first | exact (by repeat (first | (with_reducible exact HR260_0.out) | (with_reducible refine Kd.C_alloc ?_ _) | (with_reducible refine Kd.C_drewN ?_ _) | (with_reducible refine Kd.C_drew ?_) | exact HR260_0.out)) | (with_reducible refine Kd.C_alloc ?_ _) | (with_reducible refine Kd.C_drewN ?_ _) | (with_reducible refine Kd.C_drew ?_))); (case side2 => exact HC260_0.out); (case side3 => repeat (first | exact (by repeat (first | (with_reducible exact HR260_1.out) | (with_reducible refine Kd.C_alloc ?_ _) | (with_reducible refine Kd.C_drewN ?_ _) | (with_reducible refine Kd.C_drew ?_) | exact HR260_1.out)) | (with_reducible refine Kd.C_alloc ?_ _) | (with_reducible refine Kd.C_drewN ?_ _) | (with_reducible refine Kd.C_drew ?_))); (case side4 => exact HC260_1.out); rintro e w22 ⟨rfl, hb⟩; refine ⟨_, rfl, ?_⟩; have n0_ := Aside0.mk (Kd.N_below (xN HO_6.out) hb); have n1_ := Aside0.mk (Kd.V_below (xV HL257_0.out) hb); have n2_ := Aside0.mk (Kd.V_below (xV HL257_1.out) hb); have n3_ := Aside0.mk (Kd.V_below (xV HL260_0.out) hb); have n4_ := Aside0.mk (Kd.V_below (xV HL260_1.out) hb); have n5_ := Aside0.mk (Kd.C_below (by repeat (first | (with_reducible exact HR257_0.out) | (with_reducible refine Kd.C_alloc ?_ _) | (with_reducible refine Kd.C_drewN ?_ _) | (with_reducible refine Kd.C_drew ?_) | exact HR257_0.out)) hb); have n6_ := Aside0.mk (Kd.C_below (by repeat (first | (with_reducible exact HR257_1.out) | (with_reducible refine Kd.C_alloc ?_ _) | (with_reducible refine Kd.C_drewN ?_ _) | (with_reducible refine Kd.C_drew ?_) | exact HR257_1.out)) hb); have n7_ := Aside0.mk (Kd.C_below (by repeat (first | (with_reducible exact HR260_0.out) | (with_reducible refine Kd.C_alloc ?_ _) | (with_reducible refine Kd.C_drewN ?_ _) | (with_reducible refine Kd.C_drew ?_) | exact HR260_0.out)) hb); have n8_ := Aside0.mk (Kd.C_below (by repeat (first | (with_reducible exact HR260_1.out) | (with_reducible refine Kd.C_alloc ?_ _) | (with_reducible refine Kd.C_drewN ?_ _) | (with_reducible refine Kd.C_drew ?_) | exact HR260_1.out)) hb); have n9_ := Aside0.mk (below_step (xb HB.out) hb); clear HO_6; clear HL257_0; clear HL257_1; clear HL260_0; clear HL260_1; clear HR257_0; clear HR257_1; clear HR260_0; clear HR260_1; clear HB; have HO_6 := n0_; have HL257_0 := n1_; have HL257_1 := n2_; have HL260_0 := n3_; have HL260_1 := n4_; have HR257_0 := n5_; have HR257_1 := n6_; have HR260_0 := n7_; have HR260_1 := n8_; have HB := n9_; clear n0_ n1_ n2_ n3_ n4_ n5_ n6_ n7_ n8_ n9_; (try clear hb); (try clear hb2); (try clear hk); (try clear hi)))
                  go_roundg k1
                  case measure => have := HK1.out; omega
                  case rel => exact ⟨(wrap64 (x5_1 + t259)), (wrap64 (x7_1 + 1)), (by first | rfl | (simp; done) | (simp [*]; done)), (by first | rfl | (simp; done) | (simp [*]; done)), H', ⟨by have := HK1.out; omega⟩, ⟨by (with_reducible repeat (first | apply Kd.N_alloc | apply Kd.N_drewN | apply Kd.N_drew)); first | exact HO_6.out | exact Kd.N_mono HO_6.out xi⟩, ⟨by repeat (first | (with_reducible first | exact HB.out | apply below_alloc | apply pw_below_drewN | apply below_drew1) | exact HB.out)⟩⟩
              · rw [if_neg c9] at H
                exact absurd H (by simp)
            · rw [if_neg c8] at H
              exact absurd H (by simp)
          · rw [if_neg c7] at H
            have c7b0 : decide (x7_1 < (t254.length : Int)) = false := decide_eq_false c7
            clear c7
            obtain rfl := Option.some.inj H
            obtain ⟨Ao23, co23, eo23⟩ := Kd.N_slice HO_6.out
            subst eo23
            go_wp2
            go_ret
            exact ⟨by first | rfl | (simp [errW_none, errW_some] <;> rfl) | (simp [*, errW_none, errW_some] <;> rfl), by repeat (first | (with_reducible first | exact HB.out | apply below_alloc | apply pw_below_drewN | apply below_drew1) | exact HB.out)⟩
    · rw [if_neg c4] at H
      exact absurd H (by simp)

end Go.Proofs.Ytdjohgfelmkooaa.PFnExactCharacterTable
