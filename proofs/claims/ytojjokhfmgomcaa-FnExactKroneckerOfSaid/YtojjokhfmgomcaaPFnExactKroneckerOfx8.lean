-- Written by a program of this session (wip/print/xprint.py).
import Derived.Test.YtojjokhfmgomcaaPFnExactKroneckerOfx0
import Derived.Test.YtojjokhfmgomcaaPFnExactKroneckerOfx1
import Derived.Test.YtojjokhfmgomcaaPFnExactKroneckerOfx2
import Derived.Test.YtojjokhfmgomcaaPFnExactKroneckerOfx7
namespace Go.Proofs.Ytojjokhfmgomcaa.PFnExactKroneckerOf
open Go.RowKit Go.Proofs.YtojjokhfmgomcaaW.PrintWords Go.Proofs.YtojjokhfmgomcaaW.PrintLast Go.Proofs.YtojjokhfmgomcaaW.PrintMore
attribute [local go_sem] max2_int min2_int max_two min_two max_three min_three max_four min_four   -- for this text's walks alone
set_option linter.unusedVariables false
set_option linter.unusedSimpArgs false

/-! ### spec_l22Character: function 33 -/
mutual
def spec_l22Character.l0 : Nat → List Int → Int → List (S40) → Int → Option (Int)
  | 0, _, _, _, _ => none
  | k + 1, x1, x5, x6, x7 => if x7 < (x6.length : Int) then (if 0 ≤ x7 then (if 1 ≤ (x1.length : Int) then ((spec_l22Character.f k ((rd_T40 x6 x7).f1) (x1.drop 1)).bind fun t257 => ((spec_RibbonHeight.f k ((rd_T40 x6 x7).f0) ((rd_T40 x6 x7).f1)).bind fun t259 => (if (Int.tmod t259 2) = 1 then (spec_l22Character.l0 k x1 (wrap64 (x5 + (wrap64 (-t257)))) x6 (wrap64 (x7 + 1))) else (spec_l22Character.l0 k x1 (wrap64 (x5 + t257)) x6 (wrap64 (x7 + 1)))))) else (none)) else (none)) else (some x5)
def spec_l22Character.f : Nat → List Int → List Int → Option (Int)
  | 0, _, _ => none
  | k + 1, l0, l1 => if (l1.length : Int) = 0 then (some 1) else (if 0 < (l1.length : Int) then ((spec_RibbonsInside.f k l0 (rd l1 0)).bind fun t252 => (spec_l22Character.l0 k l1 0 t252 0)) else (none))
end
theorem spec_l22Character.mono_l : ∀ k, (∀ y0 y1, LeO (spec_l22Character.f k y0 y1) (spec_l22Character.f (k + 1) y0 y1)) ∧ (∀ y0 y1 y2 y3, LeO (spec_l22Character.l0 k y0 y1 y2 y3) (spec_l22Character.l0 (k + 1) y0 y1 y2 y3))
  | 0 => ⟨fun _ _ r h => by simp [spec_l22Character.f] at h, fun _ _ _ _ r h => by simp [spec_l22Character.l0] at h⟩
  | k + 1 => by
    obtain ⟨ih0, ih1⟩ := spec_l22Character.mono_l k
    refine ⟨?_, ?_⟩
    · intro y0 y1
      unfold spec_l22Character.f
      repeat' first
      | (with_reducible exact ih0 _ _)
      | (with_reducible exact ih1 _ _ _ _)
      | (with_reducible exact spec_RibbonHeight.mono _ _ _)
      | (with_reducible exact spec_RibbonsInside.mono _ _ _)
      | (with_reducible exact LeO.refl _)
      | (with_reducible exact LeO.none _)
      | (with_reducible refine LeO.ite ?_ ?_)
      | (with_reducible refine LeO.bind ?_ (fun _ => ?_))
      | exact ih0 _ _
      | exact ih1 _ _ _ _
      | exact spec_RibbonHeight.mono _ _ _
      | exact spec_RibbonsInside.mono _ _ _
      | exact LeO.none _
      | refine LeO.ite ?_ ?_
      | refine LeO.bind ?_ (fun _ => ?_)
    · intro y0 y1 y2 y3
      unfold spec_l22Character.l0
      repeat' first
      | (with_reducible exact ih0 _ _)
      | (with_reducible exact ih1 _ _ _ _)
      | (with_reducible exact spec_RibbonHeight.mono _ _ _)
      | (with_reducible exact spec_RibbonsInside.mono _ _ _)
      | (with_reducible exact LeO.refl _)
      | (with_reducible exact LeO.none _)
      | (with_reducible refine LeO.ite ?_ ?_)
      | (with_reducible refine LeO.bind ?_ (fun _ => ?_))
      | exact ih0 _ _
      | exact ih1 _ _ _ _
      | exact spec_RibbonHeight.mono _ _ _
      | exact spec_RibbonsInside.mono _ _ _
      | exact LeO.none _
      | refine LeO.ite ?_ ?_
      | refine LeO.bind ?_ (fun _ => ?_)
theorem spec_l22Character.mono : ∀ a0 a1 k, LeO (spec_l22Character.f k a0 a1) (spec_l22Character.f (k + 1) a0 a1) := by
  intro a0 a1 k
  obtain ⟨ih0, ih1⟩ := spec_l22Character.mono_l k
  exact ih0 a0 a1
def spec_l22Character.T8 : Bool × List (List Nat × List Nat) := (true, [([], []), ([], []), ([0, 1], [0, 1]), ([2], [2]), ([3], [3]), ([], []), ([5], [5]), ([4, 6], [4, 6]), ([7, 7, 0, 1, 2, 3, 4, 5, 6, 7], [7])])
def spec_l22Character.B8 : List Nat := [0, 0, 3, 7, 15, 0, 32, 127, 255]
theorem spec_l22Character.tab8 : rtab .any (opsOf Try.f33 8) = spec_l22Character.T8 := by kernel_rfl
theorem spec_l22Character.bits8 : waitsOk spec_l22Character.T8.2 spec_l22Character.B8 = true := by kernel_rfl
set_option maxHeartbeats 8000000 in
set_option maxRecDepth 100000 in
theorem spec_l22Character.calls (k : Nat) : ∀ (A0 : Option Addr) (c0 : Nat) (l0 : List Int) (A1 : Option Addr) (c1 : Nat) (l1 : List Int) (r : Int) (w : World) (hr0 : Kd.C (Kd.int .i64) w A0 l0.length l0) (hc0 : l0.length ≤ c0) (hr1 : Kd.C (Kd.int .i64) w A1 l1.length l1) (hc1 : l1.length ≤ c1) (h : spec_l22Character.f k l0 l1 = some r),
    Calls Try.prog 33 #[.slice A0 l0.length c0, .slice A1 l1.length c1] w fun e w' => e = .returned (.int .i64 r) ∧ Below w.heap.size w w' := by
  induction k using Nat.strongRecOn with
  | _ k ih =>
  intro A0 c0 l0 A1 c1 l1 r w hr0 hc0 hr1 hc1 h
  cases k with
  | zero => exact absurd h (by simp [spec_l22Character.f])
  | succ k =>
  simp only [spec_l22Character.f] at h
  have hu40 := Try.underlying40
  have HR0 := Aside0.mk hr0
  have HC0 := Aside0.mk hc0
  clear hr0 hc0
  have HR1 := Aside0.mk hr1
  have HC1 := Aside0.mk hc1
  clear hr1 hc1
  have HB := Aside0.mk (Below.refl w.heap.size w)
  have H : (if (l1.length : Int) = 0 then (some 1) else (if 0 < (l1.length : Int) then ((spec_RibbonsInside.f k l0 (rd l1 0)).bind fun t252 => (spec_l22Character.l0 k l1 0 t252 0)) else (none))) = some r := h
  clear h
  by_cases c3 : (l1.length : Int) = 0
  · rw [if_pos c3] at H
    have c3b0 : ((l1.length : Int) == 0) = true := beq_iff_eq.mpr c3
    have c3b1 : ((l1.length : Int) != 0) = false := bne_eq_false_iff_eq.mpr c3
    clear c3
    obtain rfl := Option.some.inj H
    go_enter Try.func33, Try.ntmps33
    go_wp2
    go_ret
    exact ⟨by first | rfl | (simp [errW_none, errW_some] <;> rfl) | (simp [*, errW_none, errW_some] <;> rfl), by repeat (first | (with_reducible first | exact HB.out | apply below_alloc | apply pw_below_drewN | apply below_drew1) | exact HB.out)⟩
  · rw [if_neg c3] at H
    have c3b0 : ((l1.length : Int) == 0) = false := beq_eq_false_iff_ne.mpr c3
    have c3b1 : ((l1.length : Int) != 0) = true := bne_iff_ne.mpr c3
    have c3b2 : ¬ (l1 = []) := fun h_ => c3 (by rw [h_]; rfl)
    by_cases c4 : 0 < (l1.length : Int)
    · rw [if_pos c4] at H
      have c4b0 : decide (0 < (l1.length : Int)) = true := decide_eq_true c4
      have c4b1 : decide (0 < l1.length) = true := decide_eq_true (by omega)
      clear c4
      replace H := Option.bind_eq_some_iff.mp H
      obtain ⟨t252, A50, H⟩ := H
      replace H : (spec_l22Character.l0 k l1 0 t252 0) = some r := H
      have A5 := Aside0.mk A50
      clear A50
      have H' := Aside0.mk H
      clear H
      have p251 : 0 ≤ (0 : Int) := (by omega)
      have q251 : 0 < (l1.length : Int) := of_decide_eq_true (by first | (with_reducible assumption) | assumption)
      obtain ⟨ad251, e251, hx251_0⟩ := Kd.at_int HR1.out 0 p251 q251
      cases e251
      have qi251 : (0 < l1.length) = True := eq_true (by omega)
      (try rw [show ((0 : Int)).toNat = 0 from rfl] at hx251_0)
      (try rw [Addr.add_zero'] at hx251_0)
      replace p251 := eq_true p251
      replace q251 := eq_true q251
      go_enter Try.func33, Try.ntmps33
      go_wp2_with (first | ((with_reducible refine gate_callee (f := 47) rfl ?_); refine goesL_ (some 16) rfl rfl Try.func47 (by kernel_rfl) rfl #[.slice A0 l0.length c0, .int .i64 (rd l1 0)] rfl xm ?_; (with_reducible refine (spec_RibbonsInside.calls k _ _ l0 (rd l1 0) t252 _ ?side1 ?side2 A5.out).mono ?_); (case side1 => exact xc HR0.out); (case side2 => exact HC0.out); rintro e w6 ⟨v253, rfl, ho0, hb⟩; refine ⟨_, rfl, ?_⟩; have n0_ := Aside0.mk (Kd.N_lower (Kd.N_mono (ok' := fun k_ => True) ho0 (fun k_ hk_ => trivial)) (below_size (xb HB.out))); have n1_ := Aside0.mk (below_step (xb HB.out) hb); clear HB; have HO254 := n0_; have HB := n1_; clear n0_ n1_; (try clear hb); (try clear hb2); (try clear hk); (try clear hi); (try clear ho0)))
      go_loopg [5, 7] k (fun kq v5 v7 w' => ∃ (x5_1 : Int) (x7_1 : Int), v5 = .int .i64 x5_1 ∧ v7 = .int .i64 x7_1 ∧ Aside0 (spec_l22Character.l0 kq l1 x5_1 t252 x7_1 = some r) ∧ Aside0 (kq ≤ k) ∧ Aside0 (Kd.N k40 40 w' w.heap.size (fun _ => True) v253 t252) ∧ Aside0 (Below w.heap.size w w'))
      case atStart => exact ⟨(0), (0), (by first | rfl | (simp; done) | (simp [*]; done)), (by first | rfl | (simp; done) | (simp [*]; done)), H', ⟨Nat.le_refl _⟩, ⟨by (with_reducible repeat (first | apply Kd.N_alloc | apply Kd.N_drewN | apply Kd.N_drew)); first | exact HO254.out | exact Kd.N_mono HO254.out xi⟩, ⟨by repeat (first | (with_reducible first | exact HB.out | apply below_alloc | apply pw_below_drewN | apply below_drew1) | exact HB.out)⟩⟩
      case round =>
        clear H'
        try clear c1
        try clear p2
        try clear q2
        try clear hx2
        try clear qi2
        try clear c3
        try clear c3b0
        try clear c3b1
        try clear c3b2
        try clear c4
        try clear c4b0
        try clear c4b1
        try clear hx251_0
        try clear p251
        try clear q251
        obtain ⟨x5_1, x7_1, rfl, rfl, HA, HK1, HO_6, HB⟩ := hrel
        cases gk with
        | zero => exact absurd HA.out (by simp [spec_l22Character.l0])
        | succ k1 =>
          have H := HA.out
          clear HA
          simp only [spec_l22Character.l0] at H
          by_cases c7 : x7_1 < (t252.length : Int)
          · rw [if_pos c7] at H
            have c7b0 : decide (x7_1 < (t252.length : Int)) = true := decide_eq_true c7
            clear c7
            by_cases c8 : 0 ≤ x7_1
            · rw [if_pos c8] at H
              have c8b0 : decide (0 ≤ x7_1) = true := decide_eq_true c8
              clear c8
              by_cases c9 : 1 ≤ (l1.length : Int)
              · rw [if_pos c9] at H
                have c9b0 := eq_true c9
                have c9b1 : decide (1 ≤ (l1.length : Int)) = true := decide_eq_true c9
                clear c9
                replace H := Option.bind_eq_some_iff.mp H
                obtain ⟨t257, A100, H⟩ := H
                replace H : ((spec_RibbonHeight.f k1 ((rd_T40 t252 x7_1).f0) ((rd_T40 t252 x7_1).f1)).bind fun t259 => (if (Int.tmod t259 2) = 1 then (spec_l22Character.l0 k1 l1 (wrap64 (x5_1 + (wrap64 (-t257)))) t252 (wrap64 (x7_1 + 1))) else (spec_l22Character.l0 k1 l1 (wrap64 (x5_1 + t257)) t252 (wrap64 (x7_1 + 1))))) = some r := H
                have A10 := Aside0.mk A100
                clear A100
                replace H := Option.bind_eq_some_iff.mp H
                obtain ⟨t259, A110, H⟩ := H
                replace H : (if (Int.tmod t259 2) = 1 then (spec_l22Character.l0 k1 l1 (wrap64 (x5_1 + (wrap64 (-t257)))) t252 (wrap64 (x7_1 + 1))) else (spec_l22Character.l0 k1 l1 (wrap64 (x5_1 + t257)) t252 (wrap64 (x7_1 + 1)))) = some r := H
                have A11 := Aside0.mk A110
                clear A110
                by_cases c12 : (Int.tmod t259 2) = 1
                · rw [if_pos c12] at H
                  have c12b0 : ((Int.tmod t259 2) == 1) = true := beq_iff_eq.mpr c12
                  have c12b1 : ((Int.tmod t259 2) != 1) = false := bne_eq_false_iff_eq.mpr c12
                  clear c12
                  have H' := Aside0.mk H
                  clear H
                  obtain ⟨Ao13, co13, eo13⟩ := Kd.N_slice HO_6.out
                  subst eo13
                  try go_wp2
                  have n0_ := Aside0.mk (Kd.N_drew HO_6.out)
                  have n1_ := Aside0.mk (below_drew1 HB.out)
                  clear HO_6
                  clear HB
                  have HO_6 := n0_
                  have HB := n1_
                  clear n0_ n1_
                  have p255 : 0 ≤ (x7_1 : Int) := of_decide_eq_true (by first | (with_reducible assumption) | assumption)
                  have q255 : x7_1 < (t252.length : Int) := of_decide_eq_true (by first | (with_reducible assumption) | assumption)
                  obtain ⟨ad255, A255_0, c255_0, A255_1, c255_1, e255, hx255_0, hx255_1, hl255_0, hi255_0, hl255_1, hi255_1⟩ := at_T40 (Kd.N_reads' HO_6.out).2.2 x7_1 p255 q255
                  cases e255
                  obtain ⟨ce255, hce255, hMe255, hcc255⟩ := Kd.N_get HO_6.out z40 x7_1 p255 (by first | exact q255 | exact of_decide_eq_true (by first | (with_reducible assumption) | assumption) | (have e_ := (Kd.N_reads' HO_6.out).1; omega))
                  obtain ⟨ua255_0, uc255_0, ua255_1, uc255_1, rfl, ul255_0, ge255_0, ul255_1, ge255_1⟩ := k40_openF hMe255
                  have hv255_0 := hcc255 0 _ rfl
                  rw [Nat.add_zero] at hv255_0
                  replace hv255_0 := Option.some.inj (hv255_0.symm.trans hx255_0)
                  injection hv255_0 with hva_ hvn_ hvc_
                  rw [hva_] at ge255_0
                  rw [hvc_] at ul255_0
                  have HL255_0 := Aside0.mk (show Kd.V (Kd.int .i64) 3 _ w.heap.size _ _ ((rd_T40 t252 x7_1).f0) from Kd.V_mk ul255_0 ge255_0)
                  clear hva_ hvn_ hvc_ ge255_0 ul255_0
                  have hv255_1 := hcc255 1 _ rfl
                  rw [add_field _ _ 1 (by omega)] at hv255_1
                  replace hv255_1 := Option.some.inj (hv255_1.symm.trans hx255_1)
                  injection hv255_1 with hva_ hvn_ hvc_
                  rw [hva_] at ge255_1
                  rw [hvc_] at ul255_1
                  have HL255_1 := Aside0.mk (show Kd.V (Kd.int .i64) 3 _ w.heap.size _ _ ((rd_T40 t252 x7_1).f1) from Kd.V_mk ul255_1 ge255_1)
                  clear hva_ hvn_ hvc_ ge255_1 ul255_1
                  clear hcc255 hce255
                  have HR255_0 := Aside0.mk hi255_0
                  have HC255_0 := Aside0.mk hl255_0
                  clear hi255_0 hl255_0
                  have HR255_1 := Aside0.mk hi255_1
                  have HC255_1 := Aside0.mk hl255_1
                  clear hi255_1 hl255_1
                  replace p255 := eq_true p255
                  replace q255 := eq_true q255
                  obtain ⟨i015, hi015, _, hsz15, _⟩ := info_parts info3
                  obtain ⟨A15, hcut15, hA15, hC15⟩ := print_drop_of (P := Try.prog) (Value.int .i64) 0 22 3 .i64 Try.underlying22 hi015 hsz15 (some ad251) c1 l1 1 (by omega) (of_decide_eq_true (by first | (with_reducible assumption) | assumption)) HC1.out
                  have HR256 := Aside0.mk (Kd.C_of_reads (h1 := fun _ => rfl) (hA15 _ (Kd.reads_of_C HR1.out)))
                  have HC256 := Aside0.mk hC15
                  clear hA15 hC15 hi015 hsz15
                  refine start_ (n := 9) (S := fun w' => w'.cell? (ad255.add ((x7_1).toNat * 2)) = some (.slice A255_0 ((rd_T40 t252 x7_1).f0).length c255_0) ∧ w'.cell? ⟨(ad255.add ((x7_1).toNat * 2)).block, (ad255.add ((x7_1).toNat * 2)).off + 1, none⟩ = some (.slice A255_1 ((rd_T40 t252 x7_1).f1).length c255_1)) (ds := []) #[false, false, false, false, false, false, false, false, false] (by kernel_rfl) rfl rfl ⟨hx255_0, hx255_1⟩ (fun hHeld => ?_); refine with_tabW spec_l22Character.tab8 spec_l22Character.bits8 (fun HT_ HW_ => ?_)
                  generalize wr.drew = w14 at HO_6 HB HL255_0 HL255_1 HR255_0 HR255_1 HR256 hx255_0 hx255_1 hHeld ⊢
                  refine pure_ (i := 0) (N := some 23) (v := ?_) (a' := ?_) #[true, false, false, false, false, false, false, false, false] rfl rfl (any_of HT_.out (by kernel_rfl)) (fun _ _ _ h => h) (Or.inl ⟨by rfl, ?_⟩) ?_ ?_
                  rotate_left
                  · intro w'
                    go_simp
                    with_reducible rfl
                  rotate_left
                  · simp only [Act.put, List.setIfInBounds_toArray, List.set_cons_zero, List.set_cons_succ, i64_w, i32_w]
                    rfl
                  refine pure_ (i := 1) (N := some 24) (v := ?_) (a' := ?_) #[true, true, false, false, false, false, false, false, false] rfl rfl (any_of HT_.out (by kernel_rfl)) (fun _ _ _ h => h) (Or.inl ⟨by rfl, ?_⟩) ?_ ?_
                  rotate_left
                  · intro w'
                    go_simp
                    with_reducible rfl
                  rotate_left
                  · simp only [Act.put, List.setIfInBounds_toArray, List.set_cons_zero, List.set_cons_succ, i64_w, i32_w]
                    rfl
                  refine pure_ (i := 2) (N := some 25) (v := ?_) (a' := ?_) #[true, true, true, false, false, false, false, false, false] rfl rfl (any_of HT_.out (by kernel_rfl)) (fun _ _ _ h => h) (Or.inl ⟨by rfl, ?_⟩) ?_ ?_
                  rotate_left
                  · intro w'
                    go_simp
                    with_reducible rfl
                  rotate_left
                  · simp only [Act.put, List.setIfInBounds_toArray, List.set_cons_zero, List.set_cons_succ, i64_w, i32_w]
                    rfl
                  refine pure_ (i := 3) (N := some 26) (v := ?_) (a' := ?_) #[true, true, true, true, false, false, false, false, false] rfl rfl (any_of HT_.out (by kernel_rfl)) (fun _ _ _ h => h) (Or.inl ⟨by rfl, ?_⟩) ?_ ?_
                  rotate_left
                  · intro w'
                    go_simp
                    with_reducible rfl
                  rotate_left
                  · simp only [Act.put, List.setIfInBounds_toArray, List.set_cons_zero, List.set_cons_succ, i64_w, i32_w]
                    rfl
                  refine pure_ (i := 5) (N := some 28) (v := ?_) (a' := ?_) #[true, true, true, true, false, true, false, false, false] rfl rfl (any_of HT_.out (by kernel_rfl)) (fun _ _ _ h => h) (Or.inl ⟨by rfl, ?_⟩) ?_ ?_
                  rotate_left
                  · intro w'
                    go_simp
                    with_reducible rfl
                  rotate_left
                  · simp only [Act.put, List.setIfInBounds_toArray, List.set_cons_zero, List.set_cons_succ, i64_w, i32_w]
                    rfl
                  refine pure_ (i := 6) (N := some 29) (v := ?_) (a' := ?_) #[true, true, true, true, false, true, true, false, false] rfl rfl (any_of HT_.out (by kernel_rfl)) (fun _ _ _ h => h) (Or.inl ⟨by rfl, ?_⟩) ?_ ?_
                  rotate_left
                  · intro w'
                    go_simp
                    with_reducible rfl
                  rotate_left
                  · simp only [Act.put, List.setIfInBounds_toArray, List.set_cons_zero, List.set_cons_succ, i64_w, i32_w]
                    rfl
                  refine take_ (i := 4) (N := some 27) (v := ?_) (a' := ?_) #[true, true, true, true, true, true, true, false, false] rfl rfl (take_ofW HT_.out HW_.out (by kernel_rfl)) (fun _ _ _ h => h) (Or.inl ⟨by rfl, ?_⟩) hHeld ?_ ?_
                  rotate_left
                  · rintro w' ⟨s0, s1⟩
                    go_simp
                    with_reducible rfl
                  rotate_left
                  · simp only [Act.put, List.setIfInBounds_toArray, List.set_cons_zero, List.set_cons_succ, i64_w, i32_w]
                    rfl
                  refine one_ (i := 7) (N := some 30) #[true, true, true, true, true, true, true, true, false] rfl rfl (one_of HT_.out (by kernel_rfl)) (by decide) (fun K hK => ?_)
                  refine goes_ Try.func33 (by kernel_rfl) rfl #[.slice A255_1 ((rd_T40 t252 x7_1).f1).length c255_1, .slice A15 (l1.drop 1).length (c1 - 1)] (by rfl) rfl rfl (by (try simp only [List.map_toArray, List.map_cons, List.map_nil]); first | done | (rw [show (l1.drop 1).length = (l1.length - 1) from List.length_drop] <;> rfl) | rfl | (simp only [List.length_drop, List.length_take]; rfl)) ?_
                  with_reducible refine (ih k1 (by have := HK1.out; omega) _ _ ((rd_T40 t252 x7_1).f1) _ _ (l1.drop 1) t257 _ ?side1 ?side2 ?side3 ?side4 A10.out).mono ?_
                  (case side1 => repeat (first | exact (by repeat (first | (with_reducible exact HR255_1.out) | (with_reducible refine Kd.C_alloc ?_ _) | (with_reducible refine Kd.C_drewN ?_ _) | (with_reducible refine Kd.C_drew ?_) | exact HR255_1.out)) | (with_reducible refine Kd.C_alloc ?_ _) | (with_reducible refine Kd.C_drewN ?_ _) | (with_reducible refine Kd.C_drew ?_)))
                  (case side2 => exact HC255_1.out)
                  (case side3 => first | exact xc (Kd.C_below HR256.out HB.out) | exact xc HR256.out)
                  (case side4 => exact HC256.out)
                  rintro e w16 ⟨rfl, hb⟩
                  have HS0_ := (hb.cell (World.block_lt_of_cell? _ _ (hHeld.1))).trans (hHeld.1)
                  have HS1_ := (hb.cell (World.block_lt_of_cell? _ _ (hHeld.2))).trans (hHeld.2)
                  refine ⟨_, rfl, ?_⟩
                  have n0_ := Aside0.mk (Kd.N_below (xN HO_6.out) hb)
                  have n1_ := Aside0.mk (Kd.V_below (xV HL255_0.out) hb)
                  have n2_ := Aside0.mk (Kd.V_below (xV HL255_1.out) hb)
                  have n3_ := Aside0.mk (Kd.C_below (by repeat (first | (with_reducible exact HR255_0.out) | (with_reducible refine Kd.C_alloc ?_ _) | (with_reducible refine Kd.C_drewN ?_ _) | (with_reducible refine Kd.C_drew ?_) | exact HR255_0.out)) hb)
                  have n4_ := Aside0.mk (Kd.C_below (by repeat (first | (with_reducible exact HR255_1.out) | (with_reducible refine Kd.C_alloc ?_ _) | (with_reducible refine Kd.C_drewN ?_ _) | (with_reducible refine Kd.C_drew ?_) | exact HR255_1.out)) hb)
                  have n5_ := Aside0.mk (below_step (xb HB.out) hb)
                  clear HO_6
                  clear HL255_0
                  clear HL255_1
                  clear HR255_0
                  clear HR255_1
                  clear HB
                  have HO_6 := n0_
                  have HL255_0 := n1_
                  have HL255_1 := n2_
                  have HR255_0 := n3_
                  have HR255_1 := n4_
                  have HB := n5_
                  clear n0_ n1_ n2_ n3_ n4_ n5_
                  (try clear hb)
                  (try clear hb2)
                  (try clear hk)
                  (try clear hi)
                  refine hK.out _ _ ⟨HS0_, HS1_⟩ (fun hHeld => ?_)
                  clear hK K
                  refine norm_ (a' := ?_) ?_ ?_
                  rotate_left
                  · show Act.put _ (some 30) _ = _
                    simp only [Act.put, List.setIfInBounds_toArray, List.set_cons_zero, List.set_cons_succ, i64_w, i32_w]
                    rfl
                  refine pure_ (i := 8) (N := some 8) (v := ?_) (a' := ?_) #[true, true, true, true, true, true, true, true, true] rfl rfl (any_of HT_.out (by kernel_rfl)) (fun _ _ _ h => h) (Or.inl ⟨by rfl, ?_⟩) ?_ ?_
                  rotate_left
                  · intro w'
                    go_simp
                    with_reducible rfl
                  rotate_left
                  · simp only [Act.put, List.setIfInBounds_toArray, List.set_cons_zero, List.set_cons_succ, i64_w, i32_w]
                    rfl
                  refine done_ (done_of HT_.out (by kernel_rfl)) ?_
                  have p258 : 0 ≤ (x7_1 : Int) := of_decide_eq_true (by first | (with_reducible assumption) | assumption)
                  have q258 : x7_1 < (t252.length : Int) := of_decide_eq_true (by first | (with_reducible assumption) | assumption)
                  obtain ⟨ad258, A258_0, c258_0, A258_1, c258_1, e258, hx258_0, hx258_1, hl258_0, hi258_0, hl258_1, hi258_1⟩ := at_T40 (Kd.N_reads' HO_6.out).2.2 x7_1 p258 q258
                  obtain rfl : ad255 = ad258 := (by injection e258)
                  obtain ⟨rfl, rfl⟩ : A255_0 = A258_0 ∧ c255_0 = c258_0 := by first | exact xsame hx255_0 hx258_0 | exact xsame HS0_ hx258_0 | exact xsame HS1_ hx258_0 | exact xsame HS2_ hx258_0 | exact xsame hHeld hx258_0 | exact xsame hHeld.1 hx258_0 | exact xsame hHeld.2 hx258_0 | exact xsame hHeld.2.1 hx258_0 | exact xsame hHeld.2.2 hx258_0 | exact xsame hHeld.2.2.1 hx258_0 | exact xsame hHeld.2.2.2 hx258_0 | exact xsame hHeld.2.2.2.1 hx258_0 | exact xsame hHeld.2.2.2.2 hx258_0 | exact xsame hHeld.2.2.2.2.1 hx258_0 | exact xsame hHeld.2.2.2.2.2 hx258_0
                  obtain ⟨rfl, rfl⟩ : A255_1 = A258_1 ∧ c255_1 = c258_1 := by first | exact xsame hx255_1 hx258_1 | exact xsame HS0_ hx258_1 | exact xsame HS1_ hx258_1 | exact xsame HS2_ hx258_1 | exact xsame hHeld hx258_1 | exact xsame hHeld.1 hx258_1 | exact xsame hHeld.2 hx258_1 | exact xsame hHeld.2.1 hx258_1 | exact xsame hHeld.2.2 hx258_1 | exact xsame hHeld.2.2.1 hx258_1 | exact xsame hHeld.2.2.2 hx258_1 | exact xsame hHeld.2.2.2.1 hx258_1 | exact xsame hHeld.2.2.2.2 hx258_1 | exact xsame hHeld.2.2.2.2.1 hx258_1 | exact xsame hHeld.2.2.2.2.2 hx258_1
                  obtain ⟨ce258, hce258, hMe258, hcc258⟩ := Kd.N_get HO_6.out z40 x7_1 p258 (by first | exact q258 | exact of_decide_eq_true (by first | (with_reducible assumption) | assumption) | (have e_ := (Kd.N_reads' HO_6.out).1; omega))
                  obtain ⟨ua258_0, uc258_0, ua258_1, uc258_1, rfl, ul258_0, ge258_0, ul258_1, ge258_1⟩ := k40_openF hMe258
                  have hv258_0 := hcc258 0 _ rfl
                  rw [Nat.add_zero] at hv258_0
                  replace hv258_0 := Option.some.inj (hv258_0.symm.trans hx258_0)
                  injection hv258_0 with hva_ hvn_ hvc_
                  rw [hva_] at ge258_0
                  rw [hvc_] at ul258_0
                  have HL258_0 := Aside0.mk (show Kd.V (Kd.int .i64) 3 _ w.heap.size _ _ ((rd_T40 t252 x7_1).f0) from Kd.V_mk ul258_0 ge258_0)
                  clear hva_ hvn_ hvc_ ge258_0 ul258_0
                  have hv258_1 := hcc258 1 _ rfl
                  rw [add_field _ _ 1 (by omega)] at hv258_1
                  replace hv258_1 := Option.some.inj (hv258_1.symm.trans hx258_1)
                  injection hv258_1 with hva_ hvn_ hvc_
                  rw [hva_] at ge258_1
                  rw [hvc_] at ul258_1
                  have HL258_1 := Aside0.mk (show Kd.V (Kd.int .i64) 3 _ w.heap.size _ _ ((rd_T40 t252 x7_1).f1) from Kd.V_mk ul258_1 ge258_1)
                  clear hva_ hvn_ hvc_ ge258_1 ul258_1
                  clear hcc258 hce258
                  have HR258_0 := Aside0.mk hi258_0
                  have HC258_0 := Aside0.mk hl258_0
                  clear hi258_0 hl258_0
                  have HR258_1 := Aside0.mk hi258_1
                  have HC258_1 := Aside0.mk hl258_1
                  clear hi258_1 hl258_1
                  replace p258 := eq_true p258
                  replace q258 := eq_true q258
                  try go_wp2_with (first | ((with_reducible refine gate_callee (f := 51) rfl ?_); refine goesL_ (some 35) rfl rfl Try.func51 (by kernel_rfl) rfl #[.agg #[.slice A255_0 ((rd_T40 t252 x7_1).f0).length c255_0, .slice A255_1 ((rd_T40 t252 x7_1).f1).length c255_1]] rfl xm ?_; (with_reducible refine (spec_RibbonHeight.calls k1 _ _ ((rd_T40 t252 x7_1).f0) _ _ ((rd_T40 t252 x7_1).f1) t259 _ ?side1 ?side2 ?side3 ?side4 A11.out).mono ?_); (case side1 => repeat (first | exact (by repeat (first | (with_reducible exact HR258_0.out) | (with_reducible refine Kd.C_alloc ?_ _) | (with_reducible refine Kd.C_drewN ?_ _) | (with_reducible refine Kd.C_drew ?_) | exact HR258_0.out)) | (with_reducible refine Kd.C_alloc ?_ _) | (with_reducible refine Kd.C_drewN ?_ _) | (with_reducible refine Kd.C_drew ?_))); (case side2 => exact HC258_0.out); (case side3 => repeat (first | exact (by repeat (first | (with_reducible exact HR258_1.out) | (with_reducible refine Kd.C_alloc ?_ _) | (with_reducible refine Kd.C_drewN ?_ _) | (with_reducible refine Kd.C_drew ?_) | exact HR258_1.out)) | (with_reducible refine Kd.C_alloc ?_ _) | (with_reducible refine Kd.C_drewN ?_ _) | (with_reducible refine Kd.C_drew ?_))); (case side4 => exact HC258_1.out); rintro e w17 ⟨rfl, hb⟩; refine ⟨_, rfl, ?_⟩; have n0_ := Aside0.mk (Kd.N_below (xN HO_6.out) hb); have n1_ := Aside0.mk (Kd.V_below (xV HL255_0.out) hb); have n2_ := Aside0.mk (Kd.V_below (xV HL255_1.out) hb); have n3_ := Aside0.mk (Kd.V_below (xV HL258_0.out) hb); have n4_ := Aside0.mk (Kd.V_below (xV HL258_1.out) hb); have n5_ := Aside0.mk (Kd.C_below (by repeat (first | (with_reducible exact HR255_0.out) | (with_reducible refine Kd.C_alloc ?_ _) | (with_reducible refine Kd.C_drewN ?_ _) | (with_reducible refine Kd.C_drew ?_) | exact HR255_0.out)) hb); have n6_ := Aside0.mk (Kd.C_below (by repeat (first | (with_reducible exact HR255_1.out) | (with_reducible refine Kd.C_alloc ?_ _) | (with_reducible refine Kd.C_drewN ?_ _) | (with_reducible refine Kd.C_drew ?_) | exact HR255_1.out)) hb); have n7_ := Aside0.mk (Kd.C_below (by repeat (first | (with_reducible exact HR258_0.out) | (with_reducible refine Kd.C_alloc ?_ _) | (with_reducible refine Kd.C_drewN ?_ _) | (with_reducible refine Kd.C_drew ?_) | exact HR258_0.out)) hb); have n8_ := Aside0.mk (Kd.C_below (by repeat (first | (with_reducible exact HR258_1.out) | (with_reducible refine Kd.C_alloc ?_ _) | (with_reducible refine Kd.C_drewN ?_ _) | (with_reducible refine Kd.C_drew ?_) | exact HR258_1.out)) hb); have n9_ := Aside0.mk (below_step (xb HB.out) hb); clear HO_6; clear HL255_0; clear HL255_1; clear HL258_0; clear HL258_1; clear HR255_0; clear HR255_1; clear HR258_0; clear HR258_1; clear HB; have HO_6 := n0_; have HL255_0 := n1_; have HL255_1 := n2_; have HL258_0 := n3_; have HL258_1 := n4_; have HR255_0 := n5_; have HR255_1 := n6_; have HR258_0 := n7_; have HR258_1 := n8_; have HB := n9_; clear n0_ n1_ n2_ n3_ n4_ n5_ n6_ n7_ n8_ n9_; (try clear hb); (try clear hb2); (try clear hk); (try clear hi)))
                  go_roundg k1
                  case measure => have := HK1.out; omega
                  case rel => exact ⟨(wrap64 (x5_1 + (wrap64 (-t257)))), (wrap64 (x7_1 + 1)), (by first | rfl | (simp; done) | (simp [*]; done)), (by first | rfl | (simp; done) | (simp [*]; done)), H', ⟨by have := HK1.out; omega⟩, ⟨by (with_reducible repeat (first | apply Kd.N_alloc | apply Kd.N_drewN | apply Kd.N_drew)); first | exact HO_6.out | exact Kd.N_mono HO_6.out xi⟩, ⟨by repeat (first | (with_reducible first | exact HB.out | apply below_alloc | apply pw_below_drewN | apply below_drew1) | exact HB.out)⟩⟩
                · rw [if_neg c12] at H
                  have c12b0 : ((Int.tmod t259 2) == 1) = false := beq_eq_false_iff_ne.mpr c12
                  have c12b1 : ((Int.tmod t259 2) != 1) = true := bne_iff_ne.mpr c12
                  have H' := Aside0.mk H
                  clear H
                  obtain ⟨Ao18, co18, eo18⟩ := Kd.N_slice HO_6.out
                  subst eo18
                  try go_wp2
                  have n0_ := Aside0.mk (Kd.N_drew HO_6.out)
                  have n1_ := Aside0.mk (below_drew1 HB.out)
                  clear HO_6
                  clear HB
                  have HO_6 := n0_
                  have HB := n1_
                  clear n0_ n1_
                  have p255 : 0 ≤ (x7_1 : Int) := of_decide_eq_true (by first | (with_reducible assumption) | assumption)
                  have q255 : x7_1 < (t252.length : Int) := of_decide_eq_true (by first | (with_reducible assumption) | assumption)
                  obtain ⟨ad255, A255_0, c255_0, A255_1, c255_1, e255, hx255_0, hx255_1, hl255_0, hi255_0, hl255_1, hi255_1⟩ := at_T40 (Kd.N_reads' HO_6.out).2.2 x7_1 p255 q255
                  cases e255
                  obtain ⟨ce255, hce255, hMe255, hcc255⟩ := Kd.N_get HO_6.out z40 x7_1 p255 (by first | exact q255 | exact of_decide_eq_true (by first | (with_reducible assumption) | assumption) | (have e_ := (Kd.N_reads' HO_6.out).1; omega))
                  obtain ⟨ua255_0, uc255_0, ua255_1, uc255_1, rfl, ul255_0, ge255_0, ul255_1, ge255_1⟩ := k40_openF hMe255
                  have hv255_0 := hcc255 0 _ rfl
                  rw [Nat.add_zero] at hv255_0
                  replace hv255_0 := Option.some.inj (hv255_0.symm.trans hx255_0)
                  injection hv255_0 with hva_ hvn_ hvc_
                  rw [hva_] at ge255_0
                  rw [hvc_] at ul255_0
                  have HL255_0 := Aside0.mk (show Kd.V (Kd.int .i64) 3 _ w.heap.size _ _ ((rd_T40 t252 x7_1).f0) from Kd.V_mk ul255_0 ge255_0)
                  clear hva_ hvn_ hvc_ ge255_0 ul255_0
                  have hv255_1 := hcc255 1 _ rfl
                  rw [add_field _ _ 1 (by omega)] at hv255_1
                  replace hv255_1 := Option.some.inj (hv255_1.symm.trans hx255_1)
                  injection hv255_1 with hva_ hvn_ hvc_
                  rw [hva_] at ge255_1
                  rw [hvc_] at ul255_1
                  have HL255_1 := Aside0.mk (show Kd.V (Kd.int .i64) 3 _ w.heap.size _ _ ((rd_T40 t252 x7_1).f1) from Kd.V_mk ul255_1 ge255_1)
                  clear hva_ hvn_ hvc_ ge255_1 ul255_1
                  clear hcc255 hce255
                  have HR255_0 := Aside0.mk hi255_0
                  have HC255_0 := Aside0.mk hl255_0
                  clear hi255_0 hl255_0
                  have HR255_1 := Aside0.mk hi255_1
                  have HC255_1 := Aside0.mk hl255_1
                  clear hi255_1 hl255_1
                  replace p255 := eq_true p255
                  replace q255 := eq_true q255
                  obtain ⟨i020, hi020, _, hsz20, _⟩ := info_parts info3
                  obtain ⟨A20, hcut20, hA20, hC20⟩ := print_drop_of (P := Try.prog) (Value.int .i64) 0 22 3 .i64 Try.underlying22 hi020 hsz20 (some ad251) c1 l1 1 (by omega) (of_decide_eq_true (by first | (with_reducible assumption) | assumption)) HC1.out
                  have HR256 := Aside0.mk (Kd.C_of_reads (h1 := fun _ => rfl) (hA20 _ (Kd.reads_of_C HR1.out)))
                  have HC256 := Aside0.mk hC20
                  clear hA20 hC20 hi020 hsz20
                  refine start_ (n := 9) (S := fun w' => w'.cell? (ad255.add ((x7_1).toNat * 2)) = some (.slice A255_0 ((rd_T40 t252 x7_1).f0).length c255_0) ∧ w'.cell? ⟨(ad255.add ((x7_1).toNat * 2)).block, (ad255.add ((x7_1).toNat * 2)).off + 1, none⟩ = some (.slice A255_1 ((rd_T40 t252 x7_1).f1).length c255_1)) (ds := []) #[false, false, false, false, false, false, false, false, false] (by kernel_rfl) rfl rfl ⟨hx255_0, hx255_1⟩ (fun hHeld => ?_); refine with_tabW spec_l22Character.tab8 spec_l22Character.bits8 (fun HT_ HW_ => ?_)
                  generalize wr.drew = w19 at HO_6 HB HL255_0 HL255_1 HR255_0 HR255_1 HR256 hx255_0 hx255_1 hHeld ⊢
                  refine pure_ (i := 0) (N := some 23) (v := ?_) (a' := ?_) #[true, false, false, false, false, false, false, false, false] rfl rfl (any_of HT_.out (by kernel_rfl)) (fun _ _ _ h => h) (Or.inl ⟨by rfl, ?_⟩) ?_ ?_
                  rotate_left
                  · intro w'
                    go_simp
                    with_reducible rfl
                  rotate_left
                  · simp only [Act.put, List.setIfInBounds_toArray, List.set_cons_zero, List.set_cons_succ, i64_w, i32_w]
                    rfl
                  refine pure_ (i := 1) (N := some 24) (v := ?_) (a' := ?_) #[true, true, false, false, false, false, false, false, false] rfl rfl (any_of HT_.out (by kernel_rfl)) (fun _ _ _ h => h) (Or.inl ⟨by rfl, ?_⟩) ?_ ?_
                  rotate_left
                  · intro w'
                    go_simp
                    with_reducible rfl
                  rotate_left
                  · simp only [Act.put, List.setIfInBounds_toArray, List.set_cons_zero, List.set_cons_succ, i64_w, i32_w]
                    rfl
                  refine pure_ (i := 2) (N := some 25) (v := ?_) (a' := ?_) #[true, true, true, false, false, false, false, false, false] rfl rfl (any_of HT_.out (by kernel_rfl)) (fun _ _ _ h => h) (Or.inl ⟨by rfl, ?_⟩) ?_ ?_
                  rotate_left
                  · intro w'
                    go_simp
                    with_reducible rfl
                  rotate_left
                  · simp only [Act.put, List.setIfInBounds_toArray, List.set_cons_zero, List.set_cons_succ, i64_w, i32_w]
                    rfl
                  refine pure_ (i := 3) (N := some 26) (v := ?_) (a' := ?_) #[true, true, true, true, false, false, false, false, false] rfl rfl (any_of HT_.out (by kernel_rfl)) (fun _ _ _ h => h) (Or.inl ⟨by rfl, ?_⟩) ?_ ?_
                  rotate_left
                  · intro w'
                    go_simp
                    with_reducible rfl
                  rotate_left
                  · simp only [Act.put, List.setIfInBounds_toArray, List.set_cons_zero, List.set_cons_succ, i64_w, i32_w]
                    rfl
                  refine pure_ (i := 5) (N := some 28) (v := ?_) (a' := ?_) #[true, true, true, true, false, true, false, false, false] rfl rfl (any_of HT_.out (by kernel_rfl)) (fun _ _ _ h => h) (Or.inl ⟨by rfl, ?_⟩) ?_ ?_
                  rotate_left
                  · intro w'
                    go_simp
                    with_reducible rfl
                  rotate_left
                  · simp only [Act.put, List.setIfInBounds_toArray, List.set_cons_zero, List.set_cons_succ, i64_w, i32_w]
                    rfl
                  refine pure_ (i := 6) (N := some 29) (v := ?_) (a' := ?_) #[true, true, true, true, false, true, true, false, false] rfl rfl (any_of HT_.out (by kernel_rfl)) (fun _ _ _ h => h) (Or.inl ⟨by rfl, ?_⟩) ?_ ?_
                  rotate_left
                  · intro w'
                    go_simp
                    with_reducible rfl
                  rotate_left
                  · simp only [Act.put, List.setIfInBounds_toArray, List.set_cons_zero, List.set_cons_succ, i64_w, i32_w]
                    rfl
                  refine take_ (i := 4) (N := some 27) (v := ?_) (a' := ?_) #[true, true, true, true, true, true, true, false, false] rfl rfl (take_ofW HT_.out HW_.out (by kernel_rfl)) (fun _ _ _ h => h) (Or.inl ⟨by rfl, ?_⟩) hHeld ?_ ?_
                  rotate_left
                  · rintro w' ⟨s0, s1⟩
                    go_simp
                    with_reducible rfl
                  rotate_left
                  · simp only [Act.put, List.setIfInBounds_toArray, List.set_cons_zero, List.set_cons_succ, i64_w, i32_w]
                    rfl
                  refine one_ (i := 7) (N := some 30) #[true, true, true, true, true, true, true, true, false] rfl rfl (one_of HT_.out (by kernel_rfl)) (by decide) (fun K hK => ?_)
                  refine goes_ Try.func33 (by kernel_rfl) rfl #[.slice A255_1 ((rd_T40 t252 x7_1).f1).length c255_1, .slice A20 (l1.drop 1).length (c1 - 1)] (by rfl) rfl rfl (by (try simp only [List.map_toArray, List.map_cons, List.map_nil]); first | done | (rw [show (l1.drop 1).length = (l1.length - 1) from List.length_drop] <;> rfl) | rfl | (simp only [List.length_drop, List.length_take]; rfl)) ?_
                  with_reducible refine (ih k1 (by have := HK1.out; omega) _ _ ((rd_T40 t252 x7_1).f1) _ _ (l1.drop 1) t257 _ ?side1 ?side2 ?side3 ?side4 A10.out).mono ?_
                  (case side1 => repeat (first | exact (by repeat (first | (with_reducible exact HR255_1.out) | (with_reducible refine Kd.C_alloc ?_ _) | (with_reducible refine Kd.C_drewN ?_ _) | (with_reducible refine Kd.C_drew ?_) | exact HR255_1.out)) | (with_reducible refine Kd.C_alloc ?_ _) | (with_reducible refine Kd.C_drewN ?_ _) | (with_reducible refine Kd.C_drew ?_)))
                  (case side2 => exact HC255_1.out)
                  (case side3 => first | exact xc (Kd.C_below HR256.out HB.out) | exact xc HR256.out)
                  (case side4 => exact HC256.out)
                  rintro e w21 ⟨rfl, hb⟩
                  have HS0_ := (hb.cell (World.block_lt_of_cell? _ _ (hHeld.1))).trans (hHeld.1)
                  have HS1_ := (hb.cell (World.block_lt_of_cell? _ _ (hHeld.2))).trans (hHeld.2)
                  refine ⟨_, rfl, ?_⟩
                  have n0_ := Aside0.mk (Kd.N_below (xN HO_6.out) hb)
                  have n1_ := Aside0.mk (Kd.V_below (xV HL255_0.out) hb)
                  have n2_ := Aside0.mk (Kd.V_below (xV HL255_1.out) hb)
                  have n3_ := Aside0.mk (Kd.C_below (by repeat (first | (with_reducible exact HR255_0.out) | (with_reducible refine Kd.C_alloc ?_ _) | (with_reducible refine Kd.C_drewN ?_ _) | (with_reducible refine Kd.C_drew ?_) | exact HR255_0.out)) hb)
                  have n4_ := Aside0.mk (Kd.C_below (by repeat (first | (with_reducible exact HR255_1.out) | (with_reducible refine Kd.C_alloc ?_ _) | (with_reducible refine Kd.C_drewN ?_ _) | (with_reducible refine Kd.C_drew ?_) | exact HR255_1.out)) hb)
                  have n5_ := Aside0.mk (below_step (xb HB.out) hb)
                  clear HO_6
                  clear HL255_0
                  clear HL255_1
                  clear HR255_0
                  clear HR255_1
                  clear HB
                  have HO_6 := n0_
                  have HL255_0 := n1_
                  have HL255_1 := n2_
                  have HR255_0 := n3_
                  have HR255_1 := n4_
                  have HB := n5_
                  clear n0_ n1_ n2_ n3_ n4_ n5_
                  (try clear hb)
                  (try clear hb2)
                  (try clear hk)
                  (try clear hi)
                  refine hK.out _ _ ⟨HS0_, HS1_⟩ (fun hHeld => ?_)
                  clear hK K
                  refine norm_ (a' := ?_) ?_ ?_
                  rotate_left
                  · show Act.put _ (some 30) _ = _
                    simp only [Act.put, List.setIfInBounds_toArray, List.set_cons_zero, List.set_cons_succ, i64_w, i32_w]
                    rfl
                  refine pure_ (i := 8) (N := some 8) (v := ?_) (a' := ?_) #[true, true, true, true, true, true, true, true, true] rfl rfl (any_of HT_.out (by kernel_rfl)) (fun _ _ _ h => h) (Or.inl ⟨by rfl, ?_⟩) ?_ ?_
                  rotate_left
                  · intro w'
                    go_simp
                    with_reducible rfl
                  rotate_left
                  · simp only [Act.put, List.setIfInBounds_toArray, List.set_cons_zero, List.set_cons_succ, i64_w, i32_w]
                    rfl
                  refine done_ (done_of HT_.out (by kernel_rfl)) ?_
                  have p258 : 0 ≤ (x7_1 : Int) := of_decide_eq_true (by first | (with_reducible assumption) | assumption)
                  have q258 : x7_1 < (t252.length : Int) := of_decide_eq_true (by first | (with_reducible assumption) | assumption)
                  obtain ⟨ad258, A258_0, c258_0, A258_1, c258_1, e258, hx258_0, hx258_1, hl258_0, hi258_0, hl258_1, hi258_1⟩ := at_T40 (Kd.N_reads' HO_6.out).2.2 x7_1 p258 q258
                  obtain rfl : ad255 = ad258 := (by injection e258)
                  obtain ⟨rfl, rfl⟩ : A255_0 = A258_0 ∧ c255_0 = c258_0 := by first | exact xsame hx255_0 hx258_0 | exact xsame HS0_ hx258_0 | exact xsame HS1_ hx258_0 | exact xsame HS2_ hx258_0 | exact xsame hHeld hx258_0 | exact xsame hHeld.1 hx258_0 | exact xsame hHeld.2 hx258_0 | exact xsame hHeld.2.1 hx258_0 | exact xsame hHeld.2.2 hx258_0 | exact xsame hHeld.2.2.1 hx258_0 | exact xsame hHeld.2.2.2 hx258_0 | exact xsame hHeld.2.2.2.1 hx258_0 | exact xsame hHeld.2.2.2.2 hx258_0 | exact xsame hHeld.2.2.2.2.1 hx258_0 | exact xsame hHeld.2.2.2.2.2 hx258_0
                  obtain ⟨rfl, rfl⟩ : A255_1 = A258_1 ∧ c255_1 = c258_1 := by first | exact xsame hx255_1 hx258_1 | exact xsame HS0_ hx258_1 | exact xsame HS1_ hx258_1 | exact xsame HS2_ hx258_1 | exact xsame hHeld hx258_1 | exact xsame hHeld.1 hx258_1 | exact xsame hHeld.2 hx258_1 | exact xsame hHeld.2.1 hx258_1 | exact xsame hHeld.2.2 hx258_1 | exact xsame hHeld.2.2.1 hx258_1 | exact xsame hHeld.2.2.2 hx258_1 | exact xsame hHeld.2.2.2.1 hx258_1 | exact xsame hHeld.2.2.2.2 hx258_1 | exact xsame hHeld.2.2.2.2.1 hx258_1 | exact xsame hHeld.2.2.2.2.2 hx258_1
                  obtain ⟨ce258, hce258, hMe258, hcc258⟩ := Kd.N_get HO_6.out z40 x7_1 p258 (by first | exact q258 | exact of_decide_eq_true (by first | (with_reducible assumption) | assumption) | (have e_ := (Kd.N_reads' HO_6.out).1; omega))
                  obtain ⟨ua258_0, uc258_0, ua258_1, uc258_1, rfl, ul258_0, ge258_0, ul258_1, ge258_1⟩ := k40_openF hMe258
                  have hv258_0 := hcc258 0 _ rfl
                  rw [Nat.add_zero] at hv258_0
                  replace hv258_0 := Option.some.inj (hv258_0.symm.trans hx258_0)
                  injection hv258_0 with hva_ hvn_ hvc_
                  rw [hva_] at ge258_0
                  rw [hvc_] at ul258_0
                  have HL258_0 := Aside0.mk (show Kd.V (Kd.int .i64) 3 _ w.heap.size _ _ ((rd_T40 t252 x7_1).f0) from Kd.V_mk ul258_0 ge258_0)
                  clear hva_ hvn_ hvc_ ge258_0 ul258_0
                  have hv258_1 := hcc258 1 _ rfl
                  rw [add_field _ _ 1 (by omega)] at hv258_1
                  replace hv258_1 := Option.some.inj (hv258_1.symm.trans hx258_1)
                  injection hv258_1 with hva_ hvn_ hvc_
                  rw [hva_] at ge258_1
                  rw [hvc_] at ul258_1
                  have HL258_1 := Aside0.mk (show Kd.V (Kd.int .i64) 3 _ w.heap.size _ _ ((rd_T40 t252 x7_1).f1) from Kd.V_mk ul258_1 ge258_1)
                  clear hva_ hvn_ hvc_ ge258_1 ul258_1
                  clear hcc258 hce258
                  have HR258_0 := Aside0.mk hi258_0
                  have HC258_0 := Aside0.mk hl258_0
                  clear hi258_0 hl258_0
                  have HR258_1 := Aside0.mk hi258_1
                  have HC258_1 := Aside0.mk hl258_1
                  clear hi258_1 hl258_1
                  replace p258 := eq_true p258
                  replace q258 := eq_true q258
                  try go_wp2_with (first | ((with_reducible refine gate_callee (f := 51) rfl ?_); refine goesL_ (some 35) rfl rfl Try.func51 (by kernel_rfl) rfl #[.agg #[.slice A255_0 ((rd_T40 t252 x7_1).f0).length c255_0, .slice A255_1 ((rd_T40 t252 x7_1).f1).length c255_1]] rfl xm ?_; (with_reducible refine (spec_RibbonHeight.calls k1 _ _ ((rd_T40 t252 x7_1).f0) _ _ ((rd_T40 t252 x7_1).f1) t259 _ ?side1 ?side2 ?side3 ?side4 A11.out).mono ?_); (case side1 => repeat (first | exact (by repeat (first | (with_reducible exact HR258_0.out) | (with_reducible refine Kd.C_alloc ?_ _) | (with_reducible refine Kd.C_drewN ?_ _) | (with_reducible refine Kd.C_drew ?_) | exact HR258_0.out)) | (with_reducible refine Kd.C_alloc ?_ _) | (with_reducible refine Kd.C_drewN ?_ _) | (with_reducible refine Kd.C_drew ?_))); (case side2 => exact HC258_0.out); (case side3 => repeat (first | exact (by repeat (first | (with_reducible exact HR258_1.out) | (with_reducible refine Kd.C_alloc ?_ _) | (with_reducible refine Kd.C_drewN ?_ _) | (with_reducible refine Kd.C_drew ?_) | exact HR258_1.out)) | (with_reducible refine Kd.C_alloc ?_ _) | (with_reducible refine Kd.C_drewN ?_ _) | (with_reducible refine Kd.C_drew ?_))); (case side4 => exact HC258_1.out); rintro e w22 ⟨rfl, hb⟩; refine ⟨_, rfl, ?_⟩; have n0_ := Aside0.mk (Kd.N_below (xN HO_6.out) hb); have n1_ := Aside0.mk (Kd.V_below (xV HL255_0.out) hb); have n2_ := Aside0.mk (Kd.V_below (xV HL255_1.out) hb); have n3_ := Aside0.mk (Kd.V_below (xV HL258_0.out) hb); have n4_ := Aside0.mk (Kd.V_below (xV HL258_1.out) hb); have n5_ := Aside0.mk (Kd.C_below (by repeat (first | (with_reducible exact HR255_0.out) | (with_reducible refine Kd.C_alloc ?_ _) | (with_reducible refine Kd.C_drewN ?_ _) | (with_reducible refine Kd.C_drew ?_) | exact HR255_0.out)) hb); have n6_ := Aside0.mk (Kd.C_below (by repeat (first | (with_reducible exact HR255_1.out) | (with_reducible refine Kd.C_alloc ?_ _) | (with_reducible refine Kd.C_drewN ?_ _) | (with_reducible refine Kd.C_drew ?_) | exact HR255_1.out)) hb); have n7_ := Aside0.mk (Kd.C_below (by repeat (first | (with_reducible exact HR258_0.out) | (with_reducible refine Kd.C_alloc ?_ _) | (with_reducible refine Kd.C_drewN ?_ _) | (with_reducible refine Kd.C_drew ?_) | exact HR258_0.out)) hb); have n8_ := Aside0.mk (Kd.C_below (by repeat (first | (with_reducible exact HR258_1.out) | (with_reducible refine Kd.C_alloc ?_ _) | (with_reducible refine Kd.C_drewN ?_ _) | (with_reducible refine Kd.C_drew ?_) | exact HR258_1.out)) hb); have n9_ := Aside0.mk (below_step (xb HB.out) hb); clear HO_6; clear HL255_0; clear HL255_1; clear HL258_0; clear HL258_1; clear HR255_0; clear HR255_1; clear HR258_0; clear HR258_1; clear HB; have HO_6 := n0_; have HL255_0 := n1_; have HL255_1 := n2_; have HL258_0 := n3_; have HL258_1 := n4_; have HR255_0 := n5_; have HR255_1 := n6_; have HR258_0 := n7_; have HR258_1 := n8_; have HB := n9_; clear n0_ n1_ n2_ n3_ n4_ n5_ n6_ n7_ n8_ n9_; (try clear hb); (try clear hb2); (try clear hk); (try clear hi)))
                  go_roundg k1
                  case measure => have := HK1.out; omega
                  case rel => exact ⟨(wrap64 (x5_1 + t257)), (wrap64 (x7_1 + 1)), (by first | rfl | (simp; done) | (simp [*]; done)), (by first | rfl | (simp; done) | (simp [*]; done)), H', ⟨by have := HK1.out; omega⟩, ⟨by (with_reducible repeat (first | apply Kd.N_alloc | apply Kd.N_drewN | apply Kd.N_drew)); first | exact HO_6.out | exact Kd.N_mono HO_6.out xi⟩, ⟨by repeat (first | (with_reducible first | exact HB.out | apply below_alloc | apply pw_below_drewN | apply below_drew1) | exact HB.out)⟩⟩
              · rw [if_neg c9] at H
                exact absurd H (by simp)
            · rw [if_neg c8] at H
              exact absurd H (by simp)
          · rw [if_neg c7] at H
            have c7b0 : decide (x7_1 < (t252.length : Int)) = false := decide_eq_false c7
            clear c7
            obtain rfl := Option.some.inj H
            obtain ⟨Ao23, co23, eo23⟩ := Kd.N_slice HO_6.out
            subst eo23
            go_wp2
            go_ret
            exact ⟨by first | rfl | (simp [errW_none, errW_some] <;> rfl) | (simp [*, errW_none, errW_some] <;> rfl), by repeat (first | (with_reducible first | exact HB.out | apply below_alloc | apply pw_below_drewN | apply below_drew1) | exact HB.out)⟩
    · rw [if_neg c4] at H
      exact absurd H (by simp)

/-! ### spec_l21Fine: function 37 -/
def spec_l21Fine.f (k : Nat) (l0 : List Int) : Option (Bool) := (spec_IsPartition.f k l0).bind fun t260 => (if t260 = true then ((spec_l2Size.f k l0).bind fun t261 => (some (decide (t261 ≤ 6)))) else (some false))
theorem spec_l21Fine.mono : ∀ a0 k, LeO (spec_l21Fine.f k a0) (spec_l21Fine.f (k + 1) a0) := by
  intro a0 k
  unfold spec_l21Fine.f
  repeat' first
      | (with_reducible exact spec_IsPartition.mono _ _)
      | (with_reducible exact spec_l2Size.mono _ _)
      | (with_reducible exact LeO.refl _)
      | (with_reducible exact LeO.none _)
      | (with_reducible refine LeO.ite ?_ ?_)
      | (with_reducible refine LeO.bind ?_ (fun _ => ?_))
      | exact spec_IsPartition.mono _ _
      | exact spec_l2Size.mono _ _
      | exact LeO.none _
      | refine LeO.ite ?_ ?_
      | refine LeO.bind ?_ (fun _ => ?_)
set_option maxHeartbeats 8000000 in
set_option maxRecDepth 100000 in
theorem spec_l21Fine.calls (k : Nat) (A0 : Option Addr) (c0 : Nat) (l0 : List Int) (r : Bool) (w : World) (hr0 : Kd.C (Kd.int .i64) w A0 l0.length l0) (hc0 : l0.length ≤ c0) (h : spec_l21Fine.f k l0 = some r) :
    Calls Try.prog 37 #[.slice A0 l0.length c0] w fun e w' => e = .returned (.bool r) ∧ Below w.heap.size w w' := by
  have HR0 := Aside0.mk hr0
  have HC0 := Aside0.mk hc0
  clear hr0 hc0
  have HB := Aside0.mk (Below.refl w.heap.size w)
  have H : ((spec_IsPartition.f k l0).bind fun t260 => (if t260 = true then ((spec_l2Size.f k l0).bind fun t261 => (some (decide (t261 ≤ 6)))) else (some false))) = some r := h
  clear h
  replace H := Option.bind_eq_some_iff.mp H
  obtain ⟨t260, A20, H⟩ := H
  replace H : (if t260 = true then ((spec_l2Size.f k l0).bind fun t261 => (some (decide (t261 ≤ 6)))) else (some false)) = some r := H
  have A2 := Aside0.mk A20
  clear A20
  by_cases c3 : t260 = true
  · subst c3
    have H1 : ((spec_l2Size.f k l0).bind fun t261 => (some (decide (t261 ≤ 6)))) = some r := by rw [if_pos rfl] at H; exact H
    clear H
    have H := H1
    clear H1
    replace H := Option.bind_eq_some_iff.mp H
    obtain ⟨t261, A40, H⟩ := H
    replace H : (some (decide (t261 ≤ 6))) = some r := H
    have A4 := Aside0.mk A40
    clear A40
    obtain rfl := Option.some.inj H
    go_enter Try.func37, Try.ntmps37
    go_wp2_with (first | ((with_reducible refine gate_callee (f := 45) rfl ?_); refine goesL_ (some 4) rfl rfl Try.func45 (by kernel_rfl) rfl #[.slice A0 l0.length c0] rfl xm ?_; (with_reducible refine (spec_IsPartition.calls k _ _ l0 true _ ?side1 ?side2 A2.out).mono ?_); (case side1 => exact xc HR0.out); (case side2 => exact HC0.out); rintro e w5 ⟨rfl, hb⟩; refine ⟨_, rfl, ?_⟩; have n0_ := Aside0.mk (below_step (xb HB.out) hb); clear HB; have HB := n0_; clear n0_; (try clear hb); (try clear hb2); (try clear hk); (try clear hi)) | (go_at_call 39; (with_reducible refine (spec_l2Size.calls k _ _ l0 t261 _ ?side1 ?side2 A4.out).mono ?_); (case side1 => first | exact xc (Kd.C_below HR0.out HB.out) | exact xc HR0.out); (case side2 => exact HC0.out); rintro e w' ⟨rfl, ⟨nd, rfl⟩⟩))
    go_ret
    exact ⟨by first | rfl | (simp [errW_none, errW_some] <;> rfl) | (simp [*, errW_none, errW_some] <;> rfl), by repeat (first | (with_reducible first | exact HB.out | apply below_alloc | apply pw_below_drewN | apply below_drew1) | exact HB.out)⟩
  · replace c3 := Bool.eq_false_iff.mpr c3
    subst c3
    have H1 : (some false) = some r := by rw [if_neg (show ¬ (false = true) by decide)] at H; exact H
    clear H
    have H := H1
    clear H1
    obtain rfl := Option.some.inj H
    go_enter Try.func37, Try.ntmps37
    go_wp2_with (first | ((with_reducible refine gate_callee (f := 45) rfl ?_); refine goesL_ (some 4) rfl rfl Try.func45 (by kernel_rfl) rfl #[.slice A0 l0.length c0] rfl xm ?_; (with_reducible refine (spec_IsPartition.calls k _ _ l0 false _ ?side1 ?side2 A2.out).mono ?_); (case side1 => exact xc HR0.out); (case side2 => exact HC0.out); rintro e w6 ⟨rfl, hb⟩; refine ⟨_, rfl, ?_⟩; have n0_ := Aside0.mk (below_step (xb HB.out) hb); clear HB; have HB := n0_; clear n0_; (try clear hb); (try clear hb2); (try clear hk); (try clear hi)))
    go_ret
    exact ⟨by first | rfl | (simp [errW_none, errW_some] <;> rfl) | (simp [*, errW_none, errW_some] <;> rfl), by repeat (first | (with_reducible first | exact HB.out | apply below_alloc | apply pw_below_drewN | apply below_drew1) | exact HB.out)⟩

/-! ### spec_l3Factorial: function 43 -/
def spec_l3Factorial.l0 : Nat → Int → Int → Int → Option (Int)
  | 0, _, _, _ => none
  | k + 1, x0, x3, x4 => if x4 ≤ x0 then (spec_l3Factorial.l0 k x0 (wrap64 (x3 * x4)) (wrap64 (x4 + 1))) else (some x3)
def spec_l3Factorial.f (k : Nat) (a0 : Int) : Option (Int) := spec_l3Factorial.l0 k a0 1 2
theorem spec_l3Factorial.mono_l : ∀ k, (∀ y0 y1 y2, LeO (spec_l3Factorial.l0 k y0 y1 y2) (spec_l3Factorial.l0 (k + 1) y0 y1 y2))
  | 0 => fun _ _ _ r h => by simp [spec_l3Factorial.l0] at h
  | k + 1 => by
    have ih0 := spec_l3Factorial.mono_l k
    · intro y0 y1 y2
      unfold spec_l3Factorial.l0
      repeat' first
      | (with_reducible exact ih0 _ _ _)
      | (with_reducible exact LeO.refl _)
      | (with_reducible exact LeO.none _)
      | (with_reducible refine LeO.ite ?_ ?_)
      | (with_reducible refine LeO.bind ?_ (fun _ => ?_))
      | exact ih0 _ _ _
      | exact LeO.none _
      | refine LeO.ite ?_ ?_
      | refine LeO.bind ?_ (fun _ => ?_)
theorem spec_l3Factorial.mono : ∀ a0 k, LeO (spec_l3Factorial.f k a0) (spec_l3Factorial.f (k + 1) a0) := by
  intro a0 k
  have ih0 := spec_l3Factorial.mono_l k
  unfold spec_l3Factorial.f
  repeat' first
      | (with_reducible exact ih0 _ _ _)
      | (with_reducible exact LeO.refl _)
      | (with_reducible exact LeO.none _)
      | (with_reducible refine LeO.ite ?_ ?_)
      | (with_reducible refine LeO.bind ?_ (fun _ => ?_))
      | exact ih0 _ _ _
      | exact LeO.none _
      | refine LeO.ite ?_ ?_
      | refine LeO.bind ?_ (fun _ => ?_)
set_option maxHeartbeats 8000000 in
set_option maxRecDepth 100000 in
theorem spec_l3Factorial.calls (k : Nat) (a0 : Int) (r : Int) (w : World) (h : spec_l3Factorial.f k a0 = some r) :
    Calls Try.prog 43 #[.int .i64 a0] w fun e w' => e = .returned (.int .i64 r) ∧ Drawn0 w w' := by
  have H : (spec_l3Factorial.l0 k a0 1 2) = some r := h
  clear h
  have H' := Aside0.mk H
  clear H
  go_enter Try.func43, Try.ntmps43
  go_wp2
  go_loopg [3, 4] k (fun kq v3 v4 w' => ∃ (x3_1 : Int) (x4_1 : Int), v3 = .int .i64 x3_1 ∧ v4 = .int .i64 x4_1 ∧ Aside0 (spec_l3Factorial.l0 kq a0 x3_1 x4_1 = some r) ∧ Aside0 (kq ≤ k) ∧ Drawn0 w w')
  case atStart => exact ⟨(1), (2), (by first | rfl | (simp; done) | (simp [*]; done)), (by first | rfl | (simp; done) | (simp [*]; done)), H', ⟨Nat.le_refl _⟩, by repeat (first | exact Drawn0.refl _ | apply Drawn0.step)⟩
  case round =>
    clear H'
    obtain ⟨x3_1, x4_1, rfl, rfl, HA, HK1, ⟨m1, rfl⟩⟩ := hrel
    cases gk with
    | zero => exact absurd HA.out (by simp [spec_l3Factorial.l0])
    | succ k1 =>
      have H := HA.out
      clear HA
      simp only [spec_l3Factorial.l0] at H
      by_cases c2 : x4_1 ≤ a0
      · rw [if_pos c2] at H
        have c2b0 : decide (x4_1 ≤ a0) = true := decide_eq_true c2
        clear c2
        have H' := Aside0.mk H
        clear H
        go_wp2
        go_roundg k1
        case measure => have := HK1.out; omega
        case rel => exact ⟨(wrap64 (x3_1 * x4_1)), (wrap64 (x4_1 + 1)), (by first | rfl | (simp; done) | (simp [*]; done)), (by first | rfl | (simp; done) | (simp [*]; done)), H', ⟨by have := HK1.out; omega⟩, by repeat (first | exact Drawn0.refl _ | apply Drawn0.step)⟩
      · rw [if_neg c2] at H
        have c2b0 : decide (x4_1 ≤ a0) = false := decide_eq_false c2
        clear c2
        obtain rfl := Option.some.inj H
        go_wp2
        go_ret
        exact ⟨by first | rfl | (simp; done) | (simp [*]; done), by repeat (first | exact Drawn0.refl _ | apply Drawn0.step)⟩

end Go.Proofs.Ytojjokhfmgomcaa.PFnExactKroneckerOf
