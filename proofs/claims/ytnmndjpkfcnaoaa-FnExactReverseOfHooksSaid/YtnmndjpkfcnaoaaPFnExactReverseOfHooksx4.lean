-- Written by a program of this session (wip/print/xprint.py).
import Derived.Test.YtnmndjpkfcnaoaaPFnExactReverseOfHooksx0
import Derived.Test.YtnmndjpkfcnaoaaPFnExactReverseOfHooksx3
namespace Go.Proofs.Ytnmndjpkfcnaoaa.PFnExactReverseOfHooks
open Go.RowKit Go.Proofs.YtnmndjpkfcnaoaaW.PrintWords Go.Proofs.YtnmndjpkfcnaoaaW.PrintLast Go.Proofs.YtnmndjpkfcnaoaaW.PrintMore
attribute [local go_sem] max2_int min2_int max_two min_two max_three min_three max_four min_four   -- for this text's walks alone
set_option linter.unusedVariables false
set_option linter.unusedSimpArgs false

/-! ### spec_HookWeight: function 19 -/
mutual
def spec_HookWeight.l0 : Nat → List Int → List (List Int) → Int → Int → Option (Int)
  | 0, _, _, _, _ => none
  | k + 1, x0, x1, x5, x6 => if x6 < (x0.length : Int) then (spec_HookWeight.l1 k x0 x1 x5 x6 0) else (some x5)
def spec_HookWeight.l1 : Nat → List Int → List (List Int) → Int → Int → Int → Option (Int)
  | 0, _, _, _, _, _ => none
  | k + 1, x0, x1, x5, x6, x7 => if 0 ≤ x6 then (if x6 < (x0.length : Int) then (if x7 < (rd x0 x6) then (if x6 < (x1.length : Int) then (if 0 ≤ x7 then (if x7 < ((rd_L1 x1 x6).length : Int) then ((spec_HookOf.f k x0 x6 x7).bind fun t128 => (spec_HookWeight.l1 k x0 x1 (wrap64 (x5 + (wrap64 ((rd (rd_L1 x1 x6) x7) * t128)))) x6 (wrap64 (x7 + 1)))) else (none)) else (none)) else (none)) else (spec_HookWeight.l0 k x0 x1 x5 (wrap64 (x6 + 1)))) else (none)) else (none)
end
def spec_HookWeight.f (k : Nat) (l0 : List Int) (l1 : List (List Int)) : Option (Int) := (spec_IsFilling.f k l0 l1).bind fun t124 => (if t124 = true then (spec_HookWeight.l0 k l0 l1 0 0) else (some (-1)))
theorem spec_HookWeight.mono_l : ∀ k, (∀ y0 y1 y2 y3, LeO (spec_HookWeight.l0 k y0 y1 y2 y3) (spec_HookWeight.l0 (k + 1) y0 y1 y2 y3)) ∧ (∀ y0 y1 y2 y3 y4, LeO (spec_HookWeight.l1 k y0 y1 y2 y3 y4) (spec_HookWeight.l1 (k + 1) y0 y1 y2 y3 y4))
  | 0 => ⟨fun _ _ _ _ r h => by simp [spec_HookWeight.l0] at h, fun _ _ _ _ _ r h => by simp [spec_HookWeight.l1] at h⟩
  | k + 1 => by
    obtain ⟨ih0, ih1⟩ := spec_HookWeight.mono_l k
    refine ⟨?_, ?_⟩
    · intro y0 y1 y2 y3
      unfold spec_HookWeight.l0
      repeat' first
      | (with_reducible exact ih0 _ _ _ _)
      | (with_reducible exact ih1 _ _ _ _ _)
      | (with_reducible exact spec_HookOf.mono _ _ _ _)
      | (with_reducible exact spec_IsFilling.mono _ _ _)
      | (with_reducible exact LeO.refl _)
      | (with_reducible exact LeO.none _)
      | (with_reducible refine LeO.ite ?_ ?_)
      | (with_reducible refine LeO.bind ?_ (fun _ => ?_))
      | exact ih0 _ _ _ _
      | exact ih1 _ _ _ _ _
      | exact spec_HookOf.mono _ _ _ _
      | exact spec_IsFilling.mono _ _ _
      | exact LeO.none _
      | refine LeO.ite ?_ ?_
      | refine LeO.bind ?_ (fun _ => ?_)
    · intro y0 y1 y2 y3 y4
      unfold spec_HookWeight.l1
      repeat' first
      | (with_reducible exact ih0 _ _ _ _)
      | (with_reducible exact ih1 _ _ _ _ _)
      | (with_reducible exact spec_HookOf.mono _ _ _ _)
      | (with_reducible exact spec_IsFilling.mono _ _ _)
      | (with_reducible exact LeO.refl _)
      | (with_reducible exact LeO.none _)
      | (with_reducible refine LeO.ite ?_ ?_)
      | (with_reducible refine LeO.bind ?_ (fun _ => ?_))
      | exact ih0 _ _ _ _
      | exact ih1 _ _ _ _ _
      | exact spec_HookOf.mono _ _ _ _
      | exact spec_IsFilling.mono _ _ _
      | exact LeO.none _
      | refine LeO.ite ?_ ?_
      | refine LeO.bind ?_ (fun _ => ?_)
theorem spec_HookWeight.mono : ∀ a0 a1 k, LeO (spec_HookWeight.f k a0 a1) (spec_HookWeight.f (k + 1) a0 a1) := by
  intro a0 a1 k
  obtain ⟨ih0, ih1⟩ := spec_HookWeight.mono_l k
  unfold spec_HookWeight.f
  repeat' first
      | (with_reducible exact ih0 _ _ _ _)
      | (with_reducible exact ih1 _ _ _ _ _)
      | (with_reducible exact spec_HookOf.mono _ _ _ _)
      | (with_reducible exact spec_IsFilling.mono _ _ _)
      | (with_reducible exact LeO.refl _)
      | (with_reducible exact LeO.none _)
      | (with_reducible refine LeO.ite ?_ ?_)
      | (with_reducible refine LeO.bind ?_ (fun _ => ?_))
      | exact ih0 _ _ _ _
      | exact ih1 _ _ _ _ _
      | exact spec_HookOf.mono _ _ _ _
      | exact spec_IsFilling.mono _ _ _
      | exact LeO.none _
      | refine LeO.ite ?_ ?_
      | refine LeO.bind ?_ (fun _ => ?_)
def spec_HookWeight.T10 : Bool × List (List Nat × List Nat) := (true, [([], []), ([], []), ([], []), ([1, 2], [1, 2]), ([3], [3]), ([], []), ([4, 5], [4, 5]), ([6], [6]), ([], []), ([], []), ([], []), ([8, 9, 10], [8, 9, 10]), ([7, 11], [7, 11]), ([0, 12], [0, 12]), ([13, 11, 0, 1, 2, 3, 4, 5, 6, 7, 8, 9, 10, 11, 12, 13], [0, 13])])
def spec_HookWeight.B10 : List Nat := [0, 0, 0, 6, 14, 0, 62, 126, 0, 0, 0, 1792, 4094, 8191, 16383]
theorem spec_HookWeight.tab10 : rtab .any (opsOf Try.f19 10) = spec_HookWeight.T10 := by kernel_rfl
theorem spec_HookWeight.bits10 : waitsOk spec_HookWeight.T10.2 spec_HookWeight.B10 = true := by kernel_rfl
set_option maxHeartbeats 8000000 in
set_option maxRecDepth 100000 in
theorem spec_HookWeight.calls (k : Nat) (A0 : Option Addr) (c0 : Nat) (l0 : List Int) (A1 : Option Addr) (c1 : Nat) (l1 : List (List Int)) (r : Int) (w : World) (hr0 : Kd.C (Kd.int .i64) w A0 l0.length l0) (hc0 : l0.length ≤ c0) (hr1 : Kd.C (Kd.slice 3 (Kd.int .i64)) w A1 l1.length l1) (hc1 : l1.length ≤ c1) (h : spec_HookWeight.f k l0 l1 = some r) :
    Calls Try.prog 19 #[.slice A0 l0.length c0, .slice A1 l1.length c1] w fun e w' => e = .returned (.int .i64 r) ∧ Below w.heap.size w w' := by
  have HR0 := Aside0.mk hr0
  have HC0 := Aside0.mk hc0
  clear hr0 hc0
  have HR1 := Aside0.mk hr1
  have HC1 := Aside0.mk hc1
  clear hr1 hc1
  have HB := Aside0.mk (Below.refl w.heap.size w)
  have H : ((spec_IsFilling.f k l0 l1).bind fun t124 => (if t124 = true then (spec_HookWeight.l0 k l0 l1 0 0) else (some (-1)))) = some r := h
  clear h
  replace H := Option.bind_eq_some_iff.mp H
  obtain ⟨t124, A30, H⟩ := H
  replace H : (if t124 = true then (spec_HookWeight.l0 k l0 l1 0 0) else (some (-1))) = some r := H
  have A3 := Aside0.mk A30
  clear A30
  by_cases c4 : t124 = true
  · subst c4
    have H1 : (spec_HookWeight.l0 k l0 l1 0 0) = some r := by rw [if_pos rfl] at H; exact H
    clear H
    have H := H1
    clear H1
    have H' := Aside0.mk H
    clear H
    go_enter Try.func19, Try.ntmps19
    go_wp2_with (first | ((with_reducible refine gate_callee (f := 22) rfl ?_); refine goesL_ (some 10) rfl rfl Try.func22 (by kernel_rfl) rfl #[.slice A0 l0.length c0, .slice A1 l1.length c1] rfl xm ?_; (with_reducible refine (spec_IsFilling.calls k _ _ l0 _ _ l1 true _ ?side1 ?side2 ?side3 ?side4 A3.out).mono ?_); (case side1 => exact xc HR0.out); (case side2 => exact HC0.out); (case side3 => exact xc HR1.out); (case side4 => exact HC1.out); rintro e w5 ⟨rfl, hb⟩; refine ⟨_, rfl, ?_⟩; have n0_ := Aside0.mk (below_step (xb HB.out) hb); clear HB; have HB := n0_; clear n0_; (try clear hb); (try clear hb2); (try clear hk); (try clear hi)))
    go_loopg [5, 6] k (fun kq v5 v6 w' => ∃ (x5_1 : Int) (x6_1 : Int), v5 = .int .i64 x5_1 ∧ v6 = .int .i64 x6_1 ∧ Aside0 (spec_HookWeight.l0 kq l0 l1 x5_1 x6_1 = some r) ∧ Aside0 (kq ≤ k) ∧ Aside0 (Below w.heap.size w w'))
    case atStart => exact ⟨(0), (0), (by first | rfl | (simp; done) | (simp [*]; done)), (by first | rfl | (simp; done) | (simp [*]; done)), H', ⟨Nat.le_refl _⟩, ⟨by repeat (first | (with_reducible first | exact HB.out | apply below_alloc | apply pw_below_drewN | apply below_drew1) | exact HB.out)⟩⟩
    case round =>
      clear H'
      try clear c1
      try clear c2
      try clear p2
      try clear c4
      obtain ⟨x5_1, x6_1, rfl, rfl, HA, HK1, HB⟩ := hrel
      cases gk with
      | zero => exact absurd HA.out (by simp [spec_HookWeight.l0])
      | succ k1 =>
        have H := HA.out
        clear HA
        simp only [spec_HookWeight.l0] at H
        by_cases c6 : x6_1 < (l0.length : Int)
        · rw [if_pos c6] at H
          have c6b0 : decide (x6_1 < (l0.length : Int)) = true := decide_eq_true c6
          clear c6
          have H' := Aside0.mk H
          clear H
          go_wp2
          go_loopg [5, 7] k1 (fun kq v5 v7 w' => ∃ (x5_2 : Int) (x7_2 : Int), v5 = .int .i64 x5_2 ∧ v7 = .int .i64 x7_2 ∧ Aside0 (spec_HookWeight.l1 kq l0 l1 x5_2 x6_1 x7_2 = some r) ∧ Aside0 (kq ≤ k1) ∧ Aside0 (Below w.heap.size w w'))
          case atStart => exact ⟨(x5_1), (0), (by first | rfl | (simp; done) | (simp [*]; done)), (by first | rfl | (simp; done) | (simp [*]; done)), H', ⟨Nat.le_refl _⟩, ⟨by repeat (first | (with_reducible first | exact HB.out | apply below_alloc | apply pw_below_drewN | apply below_drew1) | exact HB.out)⟩⟩
          case round =>
            clear H'
            try clear c1
            try clear c2
            try clear p2
            try clear c4
            try clear c6
            try clear c6b0
            try clear p2
            obtain ⟨x5_2, x7_2, rfl, rfl, HA, HK2, HB⟩ := hrel
            cases gk with
            | zero => exact absurd HA.out (by simp [spec_HookWeight.l1])
            | succ k2 =>
              have H := HA.out
              clear HA
              simp only [spec_HookWeight.l1] at H
              by_cases c7 : 0 ≤ x6_1
              · rw [if_pos c7] at H
                have c7b0 : decide (0 ≤ x6_1) = true := decide_eq_true c7
                clear c7
                by_cases c8 : x6_1 < (l0.length : Int)
                · rw [if_pos c8] at H
                  have c8b0 : decide (x6_1 < (l0.length : Int)) = true := decide_eq_true c8
                  clear c8
                  by_cases c9 : x7_2 < (rd l0 x6_1)
                  · rw [if_pos c9] at H
                    have c9b0 : decide (x7_2 < (rd l0 x6_1)) = true := decide_eq_true c9
                    clear c9
                    by_cases c10 : x6_1 < (l1.length : Int)
                    · rw [if_pos c10] at H
                      have c10b0 : decide (x6_1 < (l1.length : Int)) = true := decide_eq_true c10
                      clear c10
                      by_cases c11 : 0 ≤ x7_2
                      · rw [if_pos c11] at H
                        have c11b0 : decide (0 ≤ x7_2) = true := decide_eq_true c11
                        clear c11
                        by_cases c12 : x7_2 < ((rd_L1 l1 x6_1).length : Int)
                        · rw [if_pos c12] at H
                          have c12b0 : decide (x7_2 < ((rd_L1 l1 x6_1).length : Int)) = true := decide_eq_true c12
                          clear c12
                          replace H := Option.bind_eq_some_iff.mp H
                          obtain ⟨t128, A130, H⟩ := H
                          replace H : (spec_HookWeight.l1 k2 l0 l1 (wrap64 (x5_2 + (wrap64 ((rd (rd_L1 l1 x6_1) x7_2) * t128)))) x6_1 (wrap64 (x7_2 + 1))) = some r := H
                          have A13 := Aside0.mk A130
                          clear A130
                          have H' := Aside0.mk H
                          clear H
                          have p125 : 0 ≤ (x6_1 : Int) := of_decide_eq_true (by first | (with_reducible assumption) | assumption)
                          have q125 : x6_1 < (l0.length : Int) := of_decide_eq_true (by first | (with_reducible assumption) | assumption)
                          obtain ⟨ad125, e125, hx125_0⟩ := Kd.at_int HR0.out x6_1 p125 q125
                          cases e125
                          (try replace hx125_0 := (HB.out.cell (World.block_lt_of_cell? w _ hx125_0)).trans hx125_0)
                          replace p125 := eq_true p125
                          replace q125 := eq_true q125
                          try go_wp2
                          have n0_ := Aside0.mk (below_drew1 HB.out)
                          clear HB
                          have HB := n0_
                          clear n0_
                          have p126 : 0 ≤ (x6_1 : Int) := of_decide_eq_true (by first | (with_reducible assumption) | assumption)
                          have q126 : x6_1 < (l1.length : Int) := of_decide_eq_true (by first | (with_reducible assumption) | assumption)
                          obtain ⟨ad126, A126_0, c126_0, e126, hx126_0, hl126_0, hi126_0⟩ := at_L1 HR1.out x6_1 p126 q126
                          have hw126_0 := hx126_0
                          cases e126
                          (try replace hx126_0 := (HB.out.cell (World.block_lt_of_cell? w _ hx126_0)).trans hx126_0)
                          have HR126_0 := Aside0.mk hi126_0
                          have HC126_0 := Aside0.mk hl126_0
                          clear hi126_0 hl126_0
                          replace p126 := eq_true p126
                          replace q126 := eq_true q126
                          have p127 : 0 ≤ (x7_2 : Int) := of_decide_eq_true (by first | (with_reducible assumption) | assumption)
                          have q127 : x7_2 < ((rd_L1 l1 x6_1).length : Int) := of_decide_eq_true (by first | (with_reducible assumption) | assumption)
                          obtain ⟨ad127, e127, hx127_0⟩ := Kd.at_int HR126_0.out x7_2 p127 q127
                          have hw127_0 := hx127_0
                          cases e127
                          (try replace hx127_0 := (HB.out.cell (World.block_lt_of_cell? w _ hx127_0)).trans hx127_0)
                          replace p127 := eq_true p127
                          replace q127 := eq_true q127
                          refine start_ (n := 15) (S := fun w' => w'.cell? (ad126.add (x6_1).toNat) = some (.slice (some ad127) (rd_L1 l1 x6_1).length c126_0) ∧ w'.cell? (ad127.add (x7_2).toNat) = some (.int .i64 (rd (rd_L1 l1 x6_1) x7_2))) (ds := []) #[false, false, false, false, false, false, false, false, false, false, false, false, false, false, false] (by kernel_rfl) rfl rfl ⟨((HB.out.cell (World.block_lt_of_cell? w _ hw126_0)).trans hw126_0), ((HB.out.cell (World.block_lt_of_cell? w _ hw127_0)).trans hw127_0)⟩ (fun hHeld => ?_); refine with_tabW spec_HookWeight.tab10 spec_HookWeight.bits10 (fun HT_ HW_ => ?_)
                          generalize wr.drew = w14 at HB HR126_0 hx126_0 hx127_0 hHeld ⊢
                          refine pure_ (i := 0) (N := some 26) (v := ?_) (a' := ?_) #[true, false, false, false, false, false, false, false, false, false, false, false, false, false, false] rfl rfl (any_of HT_.out (by kernel_rfl)) (fun _ _ _ h => h) (Or.inl ⟨by rfl, ?_⟩) ?_ ?_
                          rotate_left
                          · intro w'
                            go_simp
                            with_reducible rfl
                          rotate_left
                          · simp only [Act.put, List.setIfInBounds_toArray, List.set_cons_zero, List.set_cons_succ, i64_w, i32_w]
                            rfl
                          refine pure_ (i := 1) (N := some 27) (v := ?_) (a' := ?_) #[true, true, false, false, false, false, false, false, false, false, false, false, false, false, false] rfl rfl (any_of HT_.out (by kernel_rfl)) (fun _ _ _ h => h) (Or.inl ⟨by rfl, ?_⟩) ?_ ?_
                          rotate_left
                          · intro w'
                            go_simp
                            with_reducible rfl
                          rotate_left
                          · simp only [Act.put, List.setIfInBounds_toArray, List.set_cons_zero, List.set_cons_succ, i64_w, i32_w]
                            rfl
                          refine pure_ (i := 2) (N := some 28) (v := ?_) (a' := ?_) #[true, true, true, false, false, false, false, false, false, false, false, false, false, false, false] rfl rfl (any_of HT_.out (by kernel_rfl)) (fun _ _ _ h => h) (Or.inl ⟨by rfl, ?_⟩) ?_ ?_
                          rotate_left
                          · intro w'
                            go_simp
                            with_reducible rfl
                          rotate_left
                          · simp only [Act.put, List.setIfInBounds_toArray, List.set_cons_zero, List.set_cons_succ, i64_w, i32_w]
                            rfl
                          refine pure_ (i := 3) (N := some 29) (v := ?_) (a' := ?_) #[true, true, true, true, false, false, false, false, false, false, false, false, false, false, false] rfl rfl (any_of HT_.out (by kernel_rfl)) (fun _ _ _ h => h) (Or.inl ⟨by rfl, ?_⟩) ?_ ?_
                          rotate_left
                          · intro w'
                            go_simp
                            with_reducible rfl
                          rotate_left
                          · simp only [Act.put, List.setIfInBounds_toArray, List.set_cons_zero, List.set_cons_succ, i64_w, i32_w]
                            rfl
                          refine pure_ (i := 5) (N := some 31) (v := ?_) (a' := ?_) #[true, true, true, true, false, true, false, false, false, false, false, false, false, false, false] rfl rfl (any_of HT_.out (by kernel_rfl)) (fun _ _ _ h => h) (Or.inl ⟨by rfl, ?_⟩) ?_ ?_
                          rotate_left
                          · intro w'
                            go_simp
                            with_reducible rfl
                          rotate_left
                          · simp only [Act.put, List.setIfInBounds_toArray, List.set_cons_zero, List.set_cons_succ, i64_w, i32_w]
                            rfl
                          refine pure_ (i := 8) (N := some 34) (v := ?_) (a' := ?_) #[true, true, true, true, false, true, false, false, true, false, false, false, false, false, false] rfl rfl (any_of HT_.out (by kernel_rfl)) (fun _ _ _ h => h) (Or.inl ⟨by rfl, ?_⟩) ?_ ?_
                          rotate_left
                          · intro w'
                            go_simp
                            with_reducible rfl
                          rotate_left
                          · simp only [Act.put, List.setIfInBounds_toArray, List.set_cons_zero, List.set_cons_succ, i64_w, i32_w]
                            rfl
                          refine pure_ (i := 9) (N := some 35) (v := ?_) (a' := ?_) #[true, true, true, true, false, true, false, false, true, true, false, false, false, false, false] rfl rfl (any_of HT_.out (by kernel_rfl)) (fun _ _ _ h => h) (Or.inl ⟨by rfl, ?_⟩) ?_ ?_
                          rotate_left
                          · intro w'
                            go_simp
                            with_reducible rfl
                          rotate_left
                          · simp only [Act.put, List.setIfInBounds_toArray, List.set_cons_zero, List.set_cons_succ, i64_w, i32_w]
                            rfl
                          refine pure_ (i := 10) (N := some 36) (v := ?_) (a' := ?_) #[true, true, true, true, false, true, false, false, true, true, true, false, false, false, false] rfl rfl (any_of HT_.out (by kernel_rfl)) (fun _ _ _ h => h) (Or.inl ⟨by rfl, ?_⟩) ?_ ?_
                          rotate_left
                          · intro w'
                            go_simp
                            with_reducible rfl
                          rotate_left
                          · simp only [Act.put, List.setIfInBounds_toArray, List.set_cons_zero, List.set_cons_succ, i64_w, i32_w]
                            rfl
                          refine take_ (i := 4) (N := some 30) (v := ?_) (a' := ?_) #[true, true, true, true, true, true, false, false, true, true, true, false, false, false, false] rfl rfl (take_ofW HT_.out HW_.out (by kernel_rfl)) (fun _ _ _ h => h) (Or.inl ⟨by rfl, ?_⟩) hHeld ?_ ?_
                          rotate_left
                          · rintro w' ⟨s0, s1⟩
                            go_simp
                            with_reducible rfl
                          rotate_left
                          · simp only [Act.put, List.setIfInBounds_toArray, List.set_cons_zero, List.set_cons_succ, i64_w, i32_w]
                            rfl
                          refine pure_ (i := 6) (N := some 32) (v := ?_) (a' := ?_) #[true, true, true, true, true, true, true, false, true, true, true, false, false, false, false] rfl rfl (any_of HT_.out (by kernel_rfl)) (fun _ _ _ h => h) (Or.inl ⟨by rfl, ?_⟩) ?_ ?_
                          rotate_left
                          · intro w'
                            go_simp
                            with_reducible rfl
                          rotate_left
                          · simp only [Act.put, List.setIfInBounds_toArray, List.set_cons_zero, List.set_cons_succ, i64_w, i32_w]
                            rfl
                          refine take_ (i := 7) (N := some 33) (v := ?_) (a' := ?_) #[true, true, true, true, true, true, true, true, true, true, true, false, false, false, false] rfl rfl (take_ofW HT_.out HW_.out (by kernel_rfl)) (fun _ _ _ h => h) (Or.inl ⟨by rfl, ?_⟩) hHeld ?_ ?_
                          rotate_left
                          · rintro w' ⟨s0, s1⟩
                            go_simp
                            with_reducible rfl
                          rotate_left
                          · simp only [Act.put, List.setIfInBounds_toArray, List.set_cons_zero, List.set_cons_succ, i64_w, i32_w]
                            rfl
                          refine one_ (i := 11) (N := some 37) #[true, true, true, true, true, true, true, true, true, true, true, true, false, false, false] rfl rfl (one_of HT_.out (by kernel_rfl)) (by decide) (fun K hK => ?_)
                          refine goes_ Try.func38 (by kernel_rfl) rfl #[.slice (some ad125) l0.length c0, .int .i64 x6_1, .int .i64 x7_2] (by rfl) rfl rfl xm ?_
                          with_reducible refine (spec_HookOf.calls k2 _ _ l0 x6_1 x7_2 t128 _ ?side1 ?side2 A13.out).mono ?_
                          (case side1 => first | exact xc (Kd.C_below HR0.out HB.out) | exact xc HR0.out)
                          (case side2 => exact HC0.out)
                          rintro e w15 ⟨rfl, hb⟩
                          refine ⟨_, rfl, ?_⟩
                          have n0_ := Aside0.mk (below_step (xb HB.out) hb)
                          clear HB
                          have HB := n0_
                          clear n0_
                          (try clear hb)
                          (try clear hb2)
                          (try clear hk)
                          (try clear hi)
                          refine hK.out _ _ ⟨((HB.out.cell (World.block_lt_of_cell? w _ hw126_0)).trans hw126_0), ((HB.out.cell (World.block_lt_of_cell? w _ hw127_0)).trans hw127_0)⟩ (fun hHeld => ?_)
                          clear hK K
                          refine norm_ (a' := ?_) ?_ ?_
                          rotate_left
                          · show Act.put _ (some 37) _ = _
                            simp only [Act.put, List.setIfInBounds_toArray, List.set_cons_zero, List.set_cons_succ, i64_w, i32_w]
                            rfl
                          refine pure_ (i := 12) (N := some 38) (v := ?_) (a' := ?_) #[true, true, true, true, true, true, true, true, true, true, true, true, true, false, false] rfl rfl (any_of HT_.out (by kernel_rfl)) (fun _ _ _ h => h) (Or.inl ⟨by rfl, ?_⟩) ?_ ?_
                          rotate_left
                          · intro w'
                            go_simp
                            with_reducible rfl
                          rotate_left
                          · simp only [Act.put, List.setIfInBounds_toArray, List.set_cons_zero, List.set_cons_succ, i64_w, i32_w]
                            rfl
                          refine pure_ (i := 13) (N := some 39) (v := ?_) (a' := ?_) #[true, true, true, true, true, true, true, true, true, true, true, true, true, true, false] rfl rfl (any_of HT_.out (by kernel_rfl)) (fun _ _ _ h => h) (Or.inl ⟨by rfl, ?_⟩) ?_ ?_
                          rotate_left
                          · intro w'
                            go_simp
                            with_reducible rfl
                          rotate_left
                          · simp only [Act.put, List.setIfInBounds_toArray, List.set_cons_zero, List.set_cons_succ, i64_w, i32_w]
                            rfl
                          refine pure_ (i := 14) (N := some 5) (v := ?_) (a' := ?_) #[true, true, true, true, true, true, true, true, true, true, true, true, true, true, true] rfl rfl (any_of HT_.out (by kernel_rfl)) (fun _ _ _ h => h) (Or.inl ⟨by rfl, ?_⟩) ?_ ?_
                          rotate_left
                          · intro w'
                            go_simp
                            with_reducible rfl
                          rotate_left
                          · simp only [Act.put, List.setIfInBounds_toArray, List.set_cons_zero, List.set_cons_succ, i64_w, i32_w]
                            rfl
                          refine done_ (done_of HT_.out (by kernel_rfl)) ?_
                          try go_wp2
                          go_roundg k2
                          case measure => have := HK1.out; have := HK2.out; omega
                          case rel => exact ⟨(wrap64 (x5_2 + (wrap64 ((rd (rd_L1 l1 x6_1) x7_2) * t128)))), (wrap64 (x7_2 + 1)), (by first | rfl | (simp; done) | (simp [*]; done)), (by first | rfl | (simp; done) | (simp [*]; done)), H', ⟨by have := HK1.out; have := HK2.out; omega⟩, ⟨by repeat (first | (with_reducible first | exact HB.out | apply below_alloc | apply pw_below_drewN | apply below_drew1) | exact HB.out)⟩⟩
                        · rw [if_neg c12] at H
                          exact absurd H (by simp)
                      · rw [if_neg c11] at H
                        exact absurd H (by simp)
                    · rw [if_neg c10] at H
                      exact absurd H (by simp)
                  · rw [if_neg c9] at H
                    have c9b0 : decide (x7_2 < (rd l0 x6_1)) = false := decide_eq_false c9
                    clear c9
                    have H' := Aside0.mk H
                    clear H
                    have p125 : 0 ≤ (x6_1 : Int) := of_decide_eq_true (by first | (with_reducible assumption) | assumption)
                    have q125 : x6_1 < (l0.length : Int) := of_decide_eq_true (by first | (with_reducible assumption) | assumption)
                    obtain ⟨ad125, e125, hx125_0⟩ := Kd.at_int HR0.out x6_1 p125 q125
                    cases e125
                    (try replace hx125_0 := (HB.out.cell (World.block_lt_of_cell? w _ hx125_0)).trans hx125_0)
                    replace p125 := eq_true p125
                    replace q125 := eq_true q125
                    go_wp2
                    go_roundg k2
                    case measure => have := HK1.out; have := HK2.out; omega
                    case rel => exact ⟨(x5_2), (wrap64 (x6_1 + 1)), (by first | rfl | (simp; done) | (simp [*]; done)), (by first | rfl | (simp; done) | (simp [*]; done)), H', ⟨by have := HK1.out; have := HK2.out; omega⟩, ⟨by repeat (first | (with_reducible first | exact HB.out | apply below_alloc | apply pw_below_drewN | apply below_drew1) | exact HB.out)⟩⟩
                · rw [if_neg c8] at H
                  exact absurd H (by simp)
              · rw [if_neg c7] at H
                exact absurd H (by simp)
        · rw [if_neg c6] at H
          have c6b0 : decide (x6_1 < (l0.length : Int)) = false := decide_eq_false c6
          clear c6
          obtain rfl := Option.some.inj H
          go_wp2
          go_ret
          exact ⟨by first | rfl | (simp [errW_none, errW_some] <;> rfl) | (simp [*, errW_none, errW_some] <;> rfl), by repeat (first | (with_reducible first | exact HB.out | apply below_alloc | apply pw_below_drewN | apply below_drew1) | exact HB.out)⟩
  · replace c4 := Bool.eq_false_iff.mpr c4
    subst c4
    have H1 : (some (-1)) = some r := by rw [if_neg (show ¬ (false = true) by decide)] at H; exact H
    clear H
    have H := H1
    clear H1
    obtain rfl := Option.some.inj H
    go_enter Try.func19, Try.ntmps19
    go_wp2_with (first | ((with_reducible refine gate_callee (f := 22) rfl ?_); refine goesL_ (some 10) rfl rfl Try.func22 (by kernel_rfl) rfl #[.slice A0 l0.length c0, .slice A1 l1.length c1] rfl xm ?_; (with_reducible refine (spec_IsFilling.calls k _ _ l0 _ _ l1 false _ ?side1 ?side2 ?side3 ?side4 A3.out).mono ?_); (case side1 => exact xc HR0.out); (case side2 => exact HC0.out); (case side3 => exact xc HR1.out); (case side4 => exact HC1.out); rintro e w16 ⟨rfl, hb⟩; refine ⟨_, rfl, ?_⟩; have n0_ := Aside0.mk (below_step (xb HB.out) hb); clear HB; have HB := n0_; clear n0_; (try clear hb); (try clear hb2); (try clear hk); (try clear hi)))
    go_ret
    exact ⟨by first | rfl | (simp [errW_none, errW_some] <;> rfl) | (simp [*, errW_none, errW_some] <;> rfl), by repeat (first | (with_reducible first | exact HB.out | apply below_alloc | apply pw_below_drewN | apply below_drew1) | exact HB.out)⟩

/-! ### spec_l27Zeros: function 20 -/
def spec_l27Zeros.l0 : Nat → List Int → List (List Int) → Int → Option ((List (List Int)))
  | 0, _, _, _ => none
  | k + 1, x0, x3, x4 => if x4 < (x0.length : Int) then (if 0 ≤ x4 then (if 0 ≤ (rd x0 x4) then (if (rd x0 x4 : Int).toNat ≤ 35184372088832 then (if x3.length < 5864062014805 then (spec_l27Zeros.l0 k x0 (x3 ++ [(List.replicate (rd x0 x4 : Int).toNat 0)]) (wrap64 (x4 + 1))) else (none)) else (none)) else (none)) else (none)) else (some x3)
def spec_l27Zeros.f (k : Nat) (l0 : List Int) : Option ((List (List Int))) := spec_l27Zeros.l0 k l0 (([] : List (List Int))) 0
theorem spec_l27Zeros.mono_l : ∀ k, (∀ y0 y1 y2, LeO (spec_l27Zeros.l0 k y0 y1 y2) (spec_l27Zeros.l0 (k + 1) y0 y1 y2))
  | 0 => fun _ _ _ r h => by simp [spec_l27Zeros.l0] at h
  | k + 1 => by
    have ih0 := spec_l27Zeros.mono_l k
    · intro y0 y1 y2
      unfold spec_l27Zeros.l0
      repeat' first
      | (with_reducible exact ih0 _ _ _)
      | (with_reducible exact LeO.refl _)
      | (with_reducible exact LeO.none _)
      | (with_reducible refine LeO.ite ?_ ?_)
      | (with_reducible refine LeO.bind ?_ (fun _ => ?_))
      | exact ih0 _ _ _
      | exact LeO.none _
      | refine LeO.ite ?_ ?_
      | refine LeO.bind ?_ (fun _ => ?_)
theorem spec_l27Zeros.mono : ∀ a0 k, LeO (spec_l27Zeros.f k a0) (spec_l27Zeros.f (k + 1) a0) := by
  intro a0 k
  have ih0 := spec_l27Zeros.mono_l k
  unfold spec_l27Zeros.f
  repeat' first
      | (with_reducible exact ih0 _ _ _)
      | (with_reducible exact LeO.refl _)
      | (with_reducible exact LeO.none _)
      | (with_reducible refine LeO.ite ?_ ?_)
      | (with_reducible refine LeO.bind ?_ (fun _ => ?_))
      | exact ih0 _ _ _
      | exact LeO.none _
      | refine LeO.ite ?_ ?_
      | refine LeO.bind ?_ (fun _ => ?_)
set_option maxHeartbeats 8000000 in
set_option maxRecDepth 100000 in
theorem spec_l27Zeros.calls (k : Nat) (A0 : Option Addr) (c0 : Nat) (l0 : List Int) (r : List (List Int)) (w : World) (hr0 : Kd.C (Kd.int .i64) w A0 l0.length l0) (hc0 : l0.length ≤ c0) (h : spec_l27Zeros.f k l0 = some r) :
    Calls Try.prog 20 #[.slice A0 l0.length c0] w fun e w' => ∃ v0_ : Value, e = .returned (v0_) ∧ Kd.S (Kd.slice 3 (Kd.int .i64)) 22 w' w.heap.size (fun _ => True) v0_ r ∧ Below w.heap.size w w' := by
  have HR0 := Aside0.mk hr0
  have HC0 := Aside0.mk hc0
  clear hr0 hc0
  have HB := Aside0.mk (Below.refl w.heap.size w)
  have H : (spec_l27Zeros.l0 k l0 (([] : List (List Int))) 0) = some r := h
  clear h
  obtain ⟨y129, hy129⟩ : ∃ y_ : List (List Int), y_ = (([] : List (List Int))) := ⟨_, rfl⟩
  replace H : (spec_l27Zeros.l0 k l0 y129 0) = some r := by first | (rw [hy129]; with_reducible exact H) | (have H2_ := (Option.bind_some _ _).symm.trans H; rw [hy129]; with_reducible exact H2_) | (have H2_ := (Option.bind_some _ _).symm.trans H; with_reducible exact H2_) | with_reducible exact H | (rw [hy129]; exact H) | exact H
  have Ny129 := Aside0.mk hy129
  clear hy129
  have H' := Aside0.mk H
  clear H
  go_enter Try.func20, Try.ntmps20
  go_wp2_with (first | ((with_reducible refine gate_dst (N := 5) rfl ?_); refine Kd.S_lit (Kd.slice 3 (Kd.int .i64)) _ 22 ?hg (N := 5) ?hd (xs := ([] : List (List Int))) (inner := []) (ok := fun _ => True) (okp := fun _ => True) ?hr ?hp (fun _ hk => hk) trivial (Below.refl _ _) (Nat.le_refl _) (by simp) ?_; (case hd => rfl); (case hg => rfl); (case hr => first | (go_simp; done) | (go_simp; rfl)); (case hp => exact (Reps.none _ _)); intro v130 w2 ho3 hb hg_ hnew_; clear hg_ hnew_; (first | rw [← Ny129.out] at ho3 | (simp only [Int.reduceToNat] at ho3; rw [← Ny129.out] at ho3)); have n0_ := Aside0.mk (Kd.S_lower ho3 (below_size (xb HB.out))); have n1_ := Aside0.mk (below_step (xb HB.out) hb); clear HB; have HO131 := n0_; have HB := n1_; clear n0_ n1_; clear hb ho3))
  go_loopg [3, 4] k (fun kq v3 v4 w' => ∃ (x3_1 : List (List Int)) (x4_1 : Int), v4 = .int .i64 x4_1 ∧ Aside0 (spec_l27Zeros.l0 kq l0 x3_1 x4_1 = some r) ∧ Aside0 (kq ≤ k) ∧ Aside0 (Kd.S (Kd.slice 3 (Kd.int .i64)) 22 w' w.heap.size (fun _ => True) v3 x3_1) ∧ Aside0 (Below w.heap.size w w'))
  case atStart => exact ⟨(y129), (0), (by first | rfl | (simp; done) | (simp [*]; done)), H', ⟨Nat.le_refl _⟩, ⟨by (with_reducible repeat (first | apply Kd.S_alloc | apply Kd.S_drewN | apply Kd.S_drew)); first | exact HO131.out | exact Kd.S_mono HO131.out xi⟩, ⟨by repeat (first | (with_reducible first | exact HB.out | apply below_alloc | apply pw_below_drewN | apply below_drew1) | exact HB.out)⟩⟩
  case round =>
    clear H'
    try clear c2
    try clear p2
    obtain ⟨x3_1, x4_1, rfl, HA, HK1, HO_3, HB⟩ := hrel
    cases gk with
    | zero => exact absurd HA.out (by simp [spec_l27Zeros.l0])
    | succ k1 =>
      have H := HA.out
      clear HA
      simp only [spec_l27Zeros.l0] at H
      by_cases c4 : x4_1 < (l0.length : Int)
      · rw [if_pos c4] at H
        have c4b0 : decide (x4_1 < (l0.length : Int)) = true := decide_eq_true c4
        clear c4
        by_cases c5 : 0 ≤ x4_1
        · rw [if_pos c5] at H
          have c5b0 : decide (0 ≤ x4_1) = true := decide_eq_true c5
          clear c5
          by_cases c6 : 0 ≤ (rd l0 x4_1)
          · rw [if_pos c6] at H
            have c6b0 := eq_true c6
            have c6b1 : decide (0 ≤ (rd l0 x4_1)) = true := decide_eq_true c6
            clear c6
            by_cases c7 : (rd l0 x4_1 : Int).toNat ≤ 35184372088832
            · rw [if_pos c7] at H
              have c7b0 := eq_true c7
              have c7b1 : decide ((rd l0 x4_1 : Int).toNat ≤ 35184372088832) = true := decide_eq_true c7
              clear c7
              obtain ⟨y133, hy133⟩ : ∃ y_ : List Int, y_ = (List.replicate (rd l0 x4_1 : Int).toNat 0) := ⟨_, rfl⟩
              replace H : (if x3_1.length < 5864062014805 then (spec_l27Zeros.l0 k1 l0 (x3_1 ++ [y133]) (wrap64 (x4_1 + 1))) else (none)) = some r := by first | (rw [hy133]; with_reducible exact H) | (have H2_ := (Option.bind_some _ _).symm.trans H; rw [hy133]; with_reducible exact H2_) | (have H2_ := (Option.bind_some _ _).symm.trans H; with_reducible exact H2_) | with_reducible exact H | (rw [hy133]; exact H) | exact H
              have Ny133 := Aside0.mk hy133
              clear hy133
              by_cases c8 : x3_1.length < 5864062014805
              · rw [if_pos c8] at H
                have LMc8 := Aside0.mk c8
                clear c8
                obtain ⟨y136, hy136⟩ : ∃ y_ : List (List Int), y_ = (x3_1 ++ [y133]) := ⟨_, rfl⟩
                replace H : (spec_l27Zeros.l0 k1 l0 y136 (wrap64 (x4_1 + 1))) = some r := by first | (rw [hy136]; with_reducible exact H) | (have H2_ := (Option.bind_some _ _).symm.trans H; rw [hy136]; with_reducible exact H2_) | (have H2_ := (Option.bind_some _ _).symm.trans H; with_reducible exact H2_) | with_reducible exact H | (rw [hy136]; exact H) | exact H
                have Ny136 := Aside0.mk hy136
                clear hy136
                have H' := Aside0.mk H
                clear H
                have p132 : 0 ≤ (x4_1 : Int) := of_decide_eq_true (by first | (with_reducible assumption) | assumption)
                have q132 : x4_1 < (l0.length : Int) := of_decide_eq_true (by first | (with_reducible assumption) | assumption)
                obtain ⟨ad132, e132, hx132_0⟩ := Kd.at_int HR0.out x4_1 p132 q132
                cases e132
                (try replace hx132_0 := (HB.out.cell (World.block_lt_of_cell? w _ hx132_0)).trans hx132_0)
                replace p132 := eq_true p132
                replace q132 := eq_true q132
                go_wp2_with (first | ((with_reducible refine gate_dst (N := 17) rfl ?_); refine Kd.R_make (Kd.int .i64) _ 3 rfl (N := 17) rfl 22 _ _ rfl (rd l0 x4_1) rfl rfl Try.underlying22 (.int .i64 0) 8 info3 rfl (by decide) (by omega) 0 (ok := fun _ => True) (okp := fun _ => True) rfl (fun _ hk => hk) trivial (of_decide_eq_true (by first | (with_reducible assumption) | assumption)) (Nat.le_trans (Nat.mul_le_mul_right _ (of_decide_eq_true (by first | (with_reducible assumption) | assumption) : (rd l0 x4_1).toNat ≤ 35184372088832)) (by omega)) (Below.refl _ _) (Nat.le_refl _) ?_; intro v134 w9 ho10 hb hg_ hnew_; clear hg_ hnew_; (first | rw [← Ny133.out] at ho10 | (simp only [Int.reduceToNat] at ho10; rw [← Ny133.out] at ho10)); have n0_ := Aside0.mk (Kd.S_elder' (xS HO_3.out) (Kd.R_base ho10) hb); have n1_ := Aside0.mk (Kd.R_lower ho10 (below_size (xb HB.out))); have n2_ := Aside0.mk (below_step (xb HB.out) hb); clear HO_3; clear HB; have HO_3 := n0_; have HO135 := n1_; have HB := n2_; clear n0_ n1_ n2_; clear hb ho10; obtain ⟨Ao12, co12, eo12⟩ := Kd.R_slice HO135.out; subst eo12) | ((with_reducible refine gate_builtin (b := .append) (xs := #[.tmp 12, .tmp 18]) rfl ?_); at_builtin; refine Kd.S_append (Kd.slice 3 (Kd.int .i64)) (w0 := w) w.heap.size rfl (.tmp 12) (.tmp 18) 23 22 (.slice none 0 0) 24 rfl Try.underlying23 info22 rfl (by decide) (by omega) u3 x3_1 y133 [.slice Ao12 y133.length co12] (fun _ => True) (fun k_ => some k_ = (.slice Ao12 y133.length co12 : Value).ownBlock) rfl rfl ?aP (fun k_ hk_ => ((Kd.R_mono (ok' := fun k_ => ((fun _ => True)) k_ ∧ some k_ ≠ (u3 : Value).ownBlock) (Kd.R_apart' (HO135.out) (Kd.S_typed HO_3.out) (by decide)) (fun k_ hk => ⟨trivial, hk.2⟩))).1 k_ hk_.symm) ?aF ?aO ?aB ?aS ?aL ?_; (case aP => exact Kd.M_row (Kd.R_mono (Kd.R_tight rfl (Kd.R_mono (ok' := fun k_ => ((fun _ => True)) k_ ∧ some k_ ≠ (u3 : Value).ownBlock) (Kd.R_apart' (HO135.out) (Kd.S_typed HO_3.out) (by decide)) (fun k_ hk => ⟨trivial, hk.2⟩))) (fun _ h_ => h_))); (case aB => exact (xb HB.out)); (case aF => exact (fun _ _ => trivial)); (case aO => exact (by (with_reducible repeat (first | apply Kd.S_alloc | apply Kd.S_drewN | apply Kd.S_drew)); exact Kd.S_mono HO_3.out (fun k_ hk => ⟨trivial, fun e_ => hk.2 e_⟩))); (case aS => exact (below_size (xb HB.out))); (case aL => have := LMc8.out; omega); intro v137 w11 ho hb hg hat; rw [← Ny136.out] at ho; have n0_ := Aside0.mk (hb); have n1_ := Aside0.mk (ho); clear HB; clear HO_3; clear HO135; have HB := n0_; have HO138 := n1_; clear n0_ n1_; clear ho hb hg hat))
                go_roundg k1
                case measure => have := HK1.out; omega
                case rel => exact ⟨(y136), (wrap64 (x4_1 + 1)), (by first | rfl | (simp; done) | (simp [*]; done)), H', ⟨by have := HK1.out; omega⟩, ⟨by (with_reducible repeat (first | apply Kd.S_alloc | apply Kd.S_drewN | apply Kd.S_drew)); first | exact HO138.out | exact Kd.S_mono HO138.out xi⟩, ⟨by repeat (first | (with_reducible first | exact HB.out | apply below_alloc | apply pw_below_drewN | apply below_drew1) | exact HB.out)⟩⟩
              · rw [if_neg c8] at H
                exact absurd H (by simp)
            · rw [if_neg c7] at H
              exact absurd H (by simp)
          · rw [if_neg c6] at H
            exact absurd H (by simp)
        · rw [if_neg c5] at H
          exact absurd H (by simp)
      · rw [if_neg c4] at H
        have c4b0 : decide (x4_1 < (l0.length : Int)) = false := decide_eq_false c4
        clear c4
        obtain rfl := Option.some.inj H
        go_wp2
        go_ret
        exact ⟨_, by first | rfl | (simp [errW_none, errW_some] <;> rfl) | (simp [*, errW_none, errW_some] <;> rfl), by (with_reducible repeat (first | apply Kd.S_alloc | apply Kd.S_drewN | apply Kd.S_drew)); first | exact HO_3.out | exact Kd.S_mono HO_3.out xi, by repeat (first | (with_reducible first | exact HB.out | apply below_alloc | apply pw_below_drewN | apply below_drew1) | exact HB.out)⟩

def spec_l27Back.st (x1 : List (List Int)) (r c : Int) : List (List Int) := x1.set r.toNat ((rd_L1 x1 r).set c.toNat (wrap64 ((rd (rd_L1 x1 r) c) + 1)))
def spec_l27Back.up (_k : Nat) (l0 : List Int) (y : List (List Int)) (r c x : Int) : Option Bool := if wrap64 (r + 1) < (l0.length : Int) then (if 0 ≤ wrap64 (r + 1) then (if (rd l0 (wrap64 (r + 1))) > c then (if wrap64 (r + 1) < (y.length : Int) ∧ c < ((rd_L1 y (wrap64 (r + 1))).length : Int) then (if (rd (rd_L1 y (wrap64 (r + 1))) c) = x then some true else some false) else none) else some false) else none) else some false
theorem spec_l27Back.mono_up : ∀ k y0 y1 y2 y3 y4, LeO (spec_l27Back.up k y0 y1 y2 y3 y4) (spec_l27Back.up (k + 1) y0 y1 y2 y3 y4) := fun _ _ _ _ _ _ => LeO.refl _
def spec_l27Back.l0 : Nat → List Int → List (List Int) → Int → Int → Int → Option (List (List Int))
  | 0, _, _, _, _, _ => none
  | k + 1, l0, x1, r, c, e => if (0 ≤ r ∧ r < (x1.length : Int)) ∧ (0 ≤ c ∧ c < ((rd_L1 x1 r).length : Int)) then ((spec_l27Back.up k l0 (spec_l27Back.st x1 r c) r c (rd (rd_L1 x1 r) c)).bind fun b => (if b = true then spec_l27Back.l0 k l0 (spec_l27Back.st x1 r c) (wrap64 (r + 1)) c e else (if c = e then some (spec_l27Back.st x1 r c) else spec_l27Back.l0 k l0 (spec_l27Back.st x1 r c) r (wrap64 (c - 1)) e))) else none
def spec_l27Back.f (k : Nat) (l0 : List Int) (l1 : List (List Int)) (a2 a3 : Int) : Option (List (List Int)) := if 0 ≤ a2 ∧ a2 < (l0.length : Int) then spec_l27Back.l0 k l0 l1 a2 (wrap64 ((rd l0 a2) - 1)) a3 else none
theorem spec_l27Back.mono_l : ∀ k, (∀ y0 y1 y2 y3 y4, LeO (spec_l27Back.l0 k y0 y1 y2 y3 y4) (spec_l27Back.l0 (k + 1) y0 y1 y2 y3 y4))
  | 0 => fun _ _ _ _ _ r h => by simp [spec_l27Back.l0] at h
  | k + 1 => by
    have ih0 := spec_l27Back.mono_l k
    intro y0 y1 y2 y3 y4
    unfold spec_l27Back.l0
    repeat' first
      | exact ih0 _ _ _ _ _
      | exact spec_l27Back.mono_up _ _ _ _ _ _
      | exact LeO.refl _
      | exact LeO.none _
      | refine LeO.ite ?_ ?_
      | refine LeO.bind ?_ (fun _ => ?_)
theorem spec_l27Back.mono : ∀ a0 a1 a2 a3 k, LeO (spec_l27Back.f k a0 a1 a2 a3) (spec_l27Back.f (k + 1) a0 a1 a2 a3) := by
  intro a0 a1 a2 a3 k
  unfold spec_l27Back.f
  exact LeO.ite (spec_l27Back.mono_l k _ _ _ _ _) (LeO.refl _)
set_option maxHeartbeats 8000000 in
set_option maxRecDepth 100000 in
theorem spec_l27Back.calls (k : Nat) (A0 : Option Addr) (c0 : Nat) (l0 : List Int) (u : Value) (l1 : List (List Int)) (a2 a3 : Int) (rr : List (List Int)) (w0 w : World) (hB : Below w0.heap.size w0 w) (hr0 : Kd.C (Kd.int .i64) w0 A0 l0.length l0) (hc0 : l0.length ≤ c0) (ho1 : Kd.S (Kd.slice 3 (Kd.int .i64)) 22 w w0.heap.size (fun _ => True) u l1) (h : spec_l27Back.f k l0 l1 a2 a3 = some rr) :
    Calls Try.prog 21 #[.slice A0 l0.length c0, u, .int .i64 a2, .int .i64 a3] w fun e w' => e = .returned (.tuple #[]) ∧ Kd.S (Kd.slice 3 (Kd.int .i64)) 22 w' w0.heap.size (fun _ => True) u rr ∧ Below w0.heap.size w0 w' := by
  unfold spec_l27Back.f at h
  by_cases ha : 0 ≤ a2 ∧ a2 < (l0.length : Int)
  · rw [if_pos ha] at h
    obtain ⟨ha0, ha1⟩ := ha
    obtain ⟨A1, c1, e1⟩ := Kd.S_slice ho1
    obtain ⟨n1, hn1⟩ : ∃ n_ : Nat, n_ = l1.length := ⟨_, rfl⟩
    rw [← hn1] at e1
    subst e1
    clear hn1
    have HB := Aside0.mk hB
    have HR0 := Aside0.mk hr0
    have HC0 := Aside0.mk hc0
    have HO1 := Aside0.mk ho1
    have H' := Aside0.mk h
    have hrw := Kd.C_below hr0 hB
    obtain ⟨ap, ep, hxp⟩ := Kd.at_int hrw a2 ha0 ha1
    subst ep
    clear hB hr0 hc0 ho1 h hrw
    have pa := eq_true ha0
    have qa := eq_true ha1
    clear ha0 ha1
    go_enter Try.func21, Try.ntmps21
    go_wp2
    go_loopg [8, 9] k (fun kq v8 v9 w' => ∃ (x1 : List (List Int)) (r c : Int), v8 = .int .i64 r ∧ v9 = .int .i64 c ∧ Aside0 (spec_l27Back.l0 kq l0 x1 r c a3 = some rr) ∧ Aside0 (kq ≤ k) ∧ Aside0 (Kd.S (Kd.slice 3 (Kd.int .i64)) 22 w' w0.heap.size (fun _ => True) (.slice A1 n1 c1) x1) ∧ Aside0 (Below w0.heap.size w0 w'))
    case atStart => exact ⟨l1, a2, wrap64 ((rd l0 a2) - 1), (by first | rfl | (simp; done) | (simp [*]; done)), (by first | rfl | (simp; done) | (simp [*]; done)), H', ⟨Nat.le_refl _⟩, HO1, HB⟩
    case round =>
      clear H' HO1 HB pa qa
      (try clear hxp)
      obtain ⟨x1, r, c, rfl, rfl, HA, HK1, HO_1, HB⟩ := hrel
      cases gk with
      | zero => exact absurd HA.out (by simp [spec_l27Back.l0])
      | succ k1 =>
        have H := HA.out
        clear HA
        simp only [spec_l27Back.l0] at H
        by_cases hc : (0 ≤ r ∧ r < (x1.length : Int)) ∧ (0 ≤ c ∧ c < ((rd_L1 x1 r).length : Int))
        · rw [if_pos hc] at H
          obtain ⟨⟨hr0, hr1⟩, hc0, hc1⟩ := hc
          obtain ⟨b, Ab, H⟩ := Option.bind_eq_some_iff.mp H
          obtain ⟨g1, cg, eg, _, _, _⟩ := Kd.S_form HO_1.out (by omega)
          injection eg with ea_ en_ ec_
          subst ea_
          subst ec_
          obtain ⟨oki, ce, hcl, hM, hcc, hfr, hoki, hH⟩ := Kd.S_elem HO_1.out ([] : List Int) r hr0 (by omega)
          obtain ⟨ve, rfl, ge⟩ := hM
          have hx5 := hcc 0 _ rfl
          rw [show (Kd.slice 3 (Kd.int .i64)).sz = 1 from rfl, Nat.mul_one, Nat.add_zero] at hx5
          have ge' : Kd.R (Kd.int .i64) 3 wr w0.heap.size oki ve (rd_L1 x1 r) := ge
          obtain ⟨gi, ci, ei, _, _, _⟩ := Kd.R_form ge' (by omega)
          subst ei
          obtain ⟨hx6, hf6⟩ := Kd.R_celln 0 ge' c hc0 hc1
          have hy6 : wr.cell? ⟨gi, c.toNat, none⟩ = some (.int .i64 (rd (rd_L1 x1 r) c)) := hx6
          have HP14 := Kd.R_putg ge' c (wrap64 ((rd (rd_L1 x1 r) c) + 1))
          have HH := Aside0.mk hH
          have GE := Aside0.mk ge'
          have EN := Aside0.mk en_
          have p5 := eq_true hr0
          have q5 : (r < (n1 : Int)) = True := eq_true (by omega)
          have p6 := eq_true hc0
          have q6 := eq_true hc1
          have HRC := Aside0.mk (show 0 ≤ r ∧ r < (n1 : Int) ∧ 0 ≤ c from ⟨hr0, by omega, hc0⟩)
          clear hH ge ge' hoki hcc hfr hcl hx6 en_ hr0 hr1 hc0 hc1
          obtain ⟨y, hy⟩ : ∃ y_ : List (List Int), y_ = spec_l27Back.st x1 r c := ⟨_, rfl⟩
          obtain ⟨xv, hxv⟩ : ∃ x_ : Int, x_ = rd (rd_L1 x1 r) c := ⟨_, rfl⟩
          rw [← hy, ← hxv] at Ab
          rw [← hy] at H
          have AB := Aside0.mk Ab
          have HZ := Aside0.mk H
          have Y := Aside0.mk hy
          rw [← hxv] at hy6
          rw [← hxv] at HP14
          have XV := Aside0.mk hxv
          clear Ab H hy hxv
          go_upto_region 4 with (first | ((with_reducible refine gate_store (t := 3) (p := 31) rfl ?_); refine store_event (t := 3) (p := 31) (v := ?vo_1) (w1 := (wr.setCell ⟨gi, c.toNat, none⟩ (.int .i64 (wrap64 (xv + 1))))) ?hg ?ho ?hn ?hr ?_; (case ho => rfl); (case hg => rfl); (case hn => rfl); (case hr => first | (go_simp; done) | (go_simp; rfl)); intro w15 hw; have n0_ : Aside0 (Kd.S (Kd.slice 3 (Kd.int .i64)) 22 w15 w0.heap.size (fun _ => True) (.slice (some ⟨g1, 0, none⟩) n1 c1) y) := ⟨by rw [Y.out]; unfold spec_l27Back.st; rw [← XV.out]; exact Kd.H_back (Kd.H_grown HH.out (row := some gi) (by rw [hw]; exact HP14.2) (fun k_ e_ => GE.out.1 k_ e_)) (x' := (rd_L1 x1 r).set c.toNat (wrap64 (xv + 1))) (show (Kd.slice 3 (Kd.int .i64)).M w15 w0.heap.size oki _ [_] from ⟨_, rfl, by rw [hw]; exact HP14.1⟩) (fun _ h_ => h_)⟩; have n1_ : Aside0 (Below w0.heap.size w0 w15) := ⟨by rw [hw]; exact below_set HB.out (Kd.R_base GE.out gi rfl)⟩; clear hw HP14 HH GE HO_1 HB; have HO_1 := n0_; have HB := n1_; clear n0_ n1_))
          clear p5 q5 hx5 hy6 hf6
          have A := AB.out
          unfold spec_l27Back.up at A
          have d6 := eq_true HRC.out.2.2
          by_cases d1 : wrap64 (r + 1) < (l0.length : Int)
          · rw [if_pos d1] at A
            have d1b : decide (wrap64 (r + 1) < (l0.length : Int)) = true := decide_eq_true d1
            by_cases d2 : 0 ≤ wrap64 (r + 1)
            · rw [if_pos d2] at A
              obtain ⟨ap2, ep2, hxp2⟩ := Kd.at_int (Kd.C_below HR0.out HB.out) (wrap64 (r + 1)) d2 d1
              cases ep2
              have s1 := eq_true d2
              have s2 := eq_true d1
              by_cases d3 : (rd l0 (wrap64 (r + 1))) > c
              · rw [if_pos d3] at A
                have d3b : decide (c < (rd l0 (wrap64 (r + 1)))) = true := decide_eq_true d3
                by_cases d4 : wrap64 (r + 1) < (y.length : Int) ∧ c < ((rd_L1 y (wrap64 (r + 1))).length : Int)
                · rw [if_pos d4] at A
                  obtain ⟨d4a, d4b⟩ := d4
                  have hyl : y.length = n1 := by have h2 := (Kd.S_slice HO_1.out); obtain ⟨_, _, h3⟩ := h2; injection h3 with _ h4 _; exact h4.symm
                  obtain ⟨oki2, ce2, hcl2, hM2, hcc2, _, _, _⟩ := Kd.S_elem HO_1.out ([] : List Int) (wrap64 (r + 1)) d2 (by omega)
                  obtain ⟨ve2, rfl, ge2⟩ := hM2
                  have hx7 := hcc2 0 _ rfl
                  rw [show (Kd.slice 3 (Kd.int .i64)).sz = 1 from rfl, Nat.mul_one, Nat.add_zero] at hx7
                  have ge3 : Kd.R (Kd.int .i64) 3 w15 w0.heap.size oki2 ve2 (rd_L1 y (wrap64 (r + 1))) := ge2
                  obtain ⟨gi2, ci2, ei2, _, _, _⟩ := Kd.R_form ge3 (by have := HRC.out; omega)
                  subst ei2
                  obtain ⟨hx8, _⟩ := Kd.R_celln 0 ge3 c HRC.out.2.2 d4b
                  have hy8 : w15.cell? ⟨gi2, c.toNat, none⟩ = some (.int .i64 (rd (rd_L1 y (wrap64 (r + 1))) c)) := hx8
                  have t1 : (wrap64 (r + 1) < (n1 : Int)) = True := eq_true (by omega)
                  have t2 := eq_true d2
                  have t3 := eq_true d4b
                  clear hcc2 hcl2 ge2 ge3 hx8 d4a d4b hyl
                  by_cases d5 : (rd (rd_L1 y (wrap64 (r + 1))) c) = xv
                  · rw [if_pos d5] at A
                    have d5b : ((rd (rd_L1 y (wrap64 (r + 1))) c) == xv) = true := beq_iff_eq.mpr d5
                    obtain rfl := Option.some.inj A
                    have H := HZ.out
                    rw [if_pos rfl] at H
                    have H' := Aside0.mk H
                    clear H HZ d5
                    go_wp2
                    go_roundg k1
                    case measure => have := HK1.out; omega
                    case rel => exact ⟨y, wrap64 (r + 1), c, (by first | rfl | (simp; done) | (simp [*]; done)), (by first | rfl | (simp; done) | (simp [*]; done)), H', ⟨by have := HK1.out; omega⟩, (by first | exact HO_1 | exact ⟨Kd.S_drewN HO_1.out _⟩), (by first | exact HB | exact ⟨pw_below_drewN HB.out _⟩)⟩
                  · rw [if_neg d5] at A
                    have d5b : ((rd (rd_L1 y (wrap64 (r + 1))) c) == xv) = false := beq_eq_false_iff_ne.mpr d5
                    clear d5
                    obtain rfl := Option.some.inj A
                    have H := HZ.out
                    rw [if_neg Bool.false_ne_true] at H
                    by_cases e9 : c = a3
                    · rw [if_pos e9] at H
                      have e9b : (c == a3) = true := beq_iff_eq.mpr e9
                      clear HZ e9
                      obtain rfl := Option.some.inj H
                      go_wp2
                      refine bodyPost_ret (results_none rfl _ _ _) rfl ?_
                      exact ⟨rfl, by first | exact HO_1.out | exact Kd.S_drewN HO_1.out _, by first | exact HB.out | exact pw_below_drewN HB.out _⟩
                    · rw [if_neg e9] at H
                      have e9b : (c == a3) = false := beq_eq_false_iff_ne.mpr e9
                      have H' := Aside0.mk H
                      clear H HZ
                      go_wp2
                      go_roundg k1
                      case measure => have := HK1.out; omega
                      case rel => exact ⟨y, r, wrap64 (c - 1), (by first | rfl | (simp; done) | (simp [*]; done)), (by first | rfl | (simp; done) | (simp [*]; done)), H', ⟨by have := HK1.out; omega⟩, (by first | exact HO_1 | exact ⟨Kd.S_drewN HO_1.out _⟩), (by first | exact HB | exact ⟨pw_below_drewN HB.out _⟩)⟩
                · rw [if_neg d4] at A; cases A
              · rw [if_neg d3] at A
                have d3b : decide (c < (rd l0 (wrap64 (r + 1)))) = false := decide_eq_false d3
                obtain rfl := Option.some.inj A
                have H := HZ.out
                rw [if_neg Bool.false_ne_true] at H
                by_cases e9 : c = a3
                · rw [if_pos e9] at H
                  have e9b : (c == a3) = true := beq_iff_eq.mpr e9
                  clear HZ e9
                  obtain rfl := Option.some.inj H
                  go_wp2
                  refine bodyPost_ret (results_none rfl _ _ _) rfl ?_
                  exact ⟨rfl, by first | exact HO_1.out | exact Kd.S_drewN HO_1.out _, by first | exact HB.out | exact pw_below_drewN HB.out _⟩
                · rw [if_neg e9] at H
                  have e9b : (c == a3) = false := beq_eq_false_iff_ne.mpr e9
                  have H' := Aside0.mk H
                  clear H HZ
                  go_wp2
                  go_roundg k1
                  case measure => have := HK1.out; omega
                  case rel => exact ⟨y, r, wrap64 (c - 1), (by first | rfl | (simp; done) | (simp [*]; done)), (by first | rfl | (simp; done) | (simp [*]; done)), H', ⟨by have := HK1.out; omega⟩, (by first | exact HO_1 | exact ⟨Kd.S_drewN HO_1.out _⟩), (by first | exact HB | exact ⟨pw_below_drewN HB.out _⟩)⟩
            · rw [if_neg d2] at A; cases A
          · rw [if_neg d1] at A
            have d1b : decide (wrap64 (r + 1) < (l0.length : Int)) = false := decide_eq_false d1
            obtain rfl := Option.some.inj A
            have H := HZ.out
            rw [if_neg Bool.false_ne_true] at H
            by_cases e9 : c = a3
            · rw [if_pos e9] at H
              have e9b : (c == a3) = true := beq_iff_eq.mpr e9
              clear HZ e9
              obtain rfl := Option.some.inj H
              go_wp2
              refine bodyPost_ret (results_none rfl _ _ _) rfl ?_
              exact ⟨rfl, by first | exact HO_1.out | exact Kd.S_drewN HO_1.out _, by first | exact HB.out | exact pw_below_drewN HB.out _⟩
            · rw [if_neg e9] at H
              have e9b : (c == a3) = false := beq_eq_false_iff_ne.mpr e9
              have H' := Aside0.mk H
              clear H HZ
              go_wp2
              go_roundg k1
              case measure => have := HK1.out; omega
              case rel => exact ⟨y, r, wrap64 (c - 1), (by first | rfl | (simp; done) | (simp [*]; done)), (by first | rfl | (simp; done) | (simp [*]; done)), H', ⟨by have := HK1.out; omega⟩, (by first | exact HO_1 | exact ⟨Kd.S_drewN HO_1.out _⟩), (by first | exact HB | exact ⟨pw_below_drewN HB.out _⟩)⟩
        · rw [if_neg hc] at H; cases H
  · rw [if_neg ha] at h; cases h


end Go.Proofs.Ytnmndjpkfcnaoaa.PFnExactReverseOfHooks
