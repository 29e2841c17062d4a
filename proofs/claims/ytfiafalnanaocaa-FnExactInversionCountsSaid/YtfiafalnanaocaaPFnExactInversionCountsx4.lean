-- Written by a program of this session (wip/print/xprint.py).
import Derived.Test.YtfiafalnanaocaaPFnExactInversionCountsx0
import Derived.Test.YtfiafalnanaocaaPFnExactInversionCountsx3
namespace Go.Proofs.Ytfiafalnanaocaa.PFnExactInversionCounts
open Go.RowKit Go.Proofs.YtfiafalnanaocaaW.PrintWords Go.Proofs.YtfiafalnanaocaaW.PrintLast Go.Proofs.YtfiafalnanaocaaW.PrintMore
attribute [local go_sem] max2_int min2_int max_two min_two max_three min_three max_four min_four   -- for this text's walks alone
set_option linter.unusedVariables false
set_option linter.unusedSimpArgs false

/-! ### impl_InversionCount: function 18 -/
mutual
def impl_InversionCount.l0 : Nat → List Int → Int → Int → Int → Option (Int)
  | 0, _, _, _, _ => none
  | k + 1, x0, x3, x10, x11 => if x11 < x10 then (impl_InversionCount.l1 k x0 x3 x11 x10 x11 x11 0) else (some x3)
def impl_InversionCount.l1 : Nat → List Int → Int → Int → Int → Int → Int → Int → Option (Int)
  | 0, _, _, _, _, _, _, _ => none
  | k + 1, x0, x3, x4, x10, x11, x14, x15 => if x15 < x14 then (if 0 ≤ x15 then (if x15 < (x0.length : Int) then (if 0 ≤ x4 then (if x4 < (x0.length : Int) then (if (rd x0 x15) > (rd x0 x4) then (impl_InversionCount.l1 k x0 (wrap64 (x3 + 1)) x4 x10 x11 x14 (wrap64 (x15 + 1))) else (impl_InversionCount.l1 k x0 x3 x4 x10 x11 x14 (wrap64 (x15 + 1)))) else (none)) else (none)) else (none)) else (none)) else (impl_InversionCount.l0 k x0 x3 x10 (wrap64 (x11 + 1)))
end
def impl_InversionCount.f (k : Nat) (l0 : List Int) : Option (Int) := (impl_IsWord.f k l0).bind fun t194 => (if t194 = true then (impl_InversionCount.l0 k l0 0 (l0.length : Int) 0) else (some (-1)))
theorem impl_InversionCount.mono_l : ∀ k, (∀ y0 y1 y2 y3, LeO (impl_InversionCount.l0 k y0 y1 y2 y3) (impl_InversionCount.l0 (k + 1) y0 y1 y2 y3)) ∧ (∀ y0 y1 y2 y3 y4 y5 y6, LeO (impl_InversionCount.l1 k y0 y1 y2 y3 y4 y5 y6) (impl_InversionCount.l1 (k + 1) y0 y1 y2 y3 y4 y5 y6))
  | 0 => ⟨fun _ _ _ _ r h => by simp [impl_InversionCount.l0] at h, fun _ _ _ _ _ _ _ r h => by simp [impl_InversionCount.l1] at h⟩
  | k + 1 => by
    obtain ⟨ih0, ih1⟩ := impl_InversionCount.mono_l k
    refine ⟨?_, ?_⟩
    · intro y0 y1 y2 y3
      unfold impl_InversionCount.l0
      repeat' first
      | (with_reducible exact ih0 _ _ _ _)
      | (with_reducible exact ih1 _ _ _ _ _ _ _)
      | (with_reducible exact impl_IsWord.mono _ _)
      | (with_reducible exact LeO.refl _)
      | (with_reducible exact LeO.none _)
      | (with_reducible refine LeO.ite ?_ ?_)
      | (with_reducible refine LeO.bind ?_ (fun _ => ?_))
      | exact ih0 _ _ _ _
      | exact ih1 _ _ _ _ _ _ _
      | exact impl_IsWord.mono _ _
      | exact LeO.none _
      | refine LeO.ite ?_ ?_
      | refine LeO.bind ?_ (fun _ => ?_)
    · intro y0 y1 y2 y3 y4 y5 y6
      unfold impl_InversionCount.l1
      repeat' first
      | (with_reducible exact ih0 _ _ _ _)
      | (with_reducible exact ih1 _ _ _ _ _ _ _)
      | (with_reducible exact impl_IsWord.mono _ _)
      | (with_reducible exact LeO.refl _)
      | (with_reducible exact LeO.none _)
      | (with_reducible refine LeO.ite ?_ ?_)
      | (with_reducible refine LeO.bind ?_ (fun _ => ?_))
      | exact ih0 _ _ _ _
      | exact ih1 _ _ _ _ _ _ _
      | exact impl_IsWord.mono _ _
      | exact LeO.none _
      | refine LeO.ite ?_ ?_
      | refine LeO.bind ?_ (fun _ => ?_)
theorem impl_InversionCount.mono : ∀ a0 k, LeO (impl_InversionCount.f k a0) (impl_InversionCount.f (k + 1) a0) := by
  intro a0 k
  obtain ⟨ih0, ih1⟩ := impl_InversionCount.mono_l k
  unfold impl_InversionCount.f
  repeat' first
      | (with_reducible exact ih0 _ _ _ _)
      | (with_reducible exact ih1 _ _ _ _ _ _ _)
      | (with_reducible exact impl_IsWord.mono _ _)
      | (with_reducible exact LeO.refl _)
      | (with_reducible exact LeO.none _)
      | (with_reducible refine LeO.ite ?_ ?_)
      | (with_reducible refine LeO.bind ?_ (fun _ => ?_))
      | exact ih0 _ _ _ _
      | exact ih1 _ _ _ _ _ _ _
      | exact impl_IsWord.mono _ _
      | exact LeO.none _
      | refine LeO.ite ?_ ?_
      | refine LeO.bind ?_ (fun _ => ?_)
set_option maxHeartbeats 8000000 in
set_option maxRecDepth 100000 in
theorem impl_InversionCount.calls (k : Nat) (A0 : Option Addr) (c0 : Nat) (l0 : List Int) (r : Int) (w : World) (hr0 : Kd.C (Kd.int .i64) w A0 l0.length l0) (hc0 : l0.length ≤ c0) (h : impl_InversionCount.f k l0 = some r) :
    Calls Try.prog 18 #[.slice A0 l0.length c0] w fun e w' => e = .returned (.int .i64 r) ∧ Drawn0 w w' := by
  have HR0 := Aside0.mk hr0
  have HC0 := Aside0.mk hc0
  clear hr0 hc0
  have H : ((impl_IsWord.f k l0).bind fun t194 => (if t194 = true then (impl_InversionCount.l0 k l0 0 (l0.length : Int) 0) else (some (-1)))) = some r := h
  clear h
  replace H := Option.bind_eq_some_iff.mp H
  obtain ⟨t194, A20, H⟩ := H
  replace H : (if t194 = true then (impl_InversionCount.l0 k l0 0 (l0.length : Int) 0) else (some (-1))) = some r := H
  have A2 := Aside0.mk A20
  clear A20
  by_cases c3 : t194 = true
  · subst c3
    have H1 : (impl_InversionCount.l0 k l0 0 (l0.length : Int) 0) = some r := by rw [if_pos rfl] at H; exact H
    clear H
    have H := H1
    clear H1
    have H' := Aside0.mk H
    clear H
    go_enter Try.func18, Try.ntmps18
    go_wp2_with (first | (go_at_call 28; (with_reducible refine (impl_IsWord.calls k _ _ l0 true _ ?side1 ?side2 A2.out).mono ?_); (case side1 => exact xc HR0.out); (case side2 => exact HC0.out); rintro e w' ⟨rfl, ⟨nd, rfl⟩⟩; (try first | exact ⟨rfl, _, World.drewN_drewN _ _ _⟩ | exact ⟨rfl, _, Eq.trans (World.drewN_drewN _ _ _) (congrArg (World.drewN _) (Nat.add_assoc _ _ _))⟩)))
    repeat (go_quiet (first | (go_at_call 28; (with_reducible refine (impl_IsWord.calls k _ _ l0 true _ ?side1 ?side2 A2.out).mono ?_); (case side1 => exact xc HR0.out); (case side2 => exact HC0.out); rintro e w' ⟨rfl, ⟨nd, rfl⟩⟩; (try first | exact ⟨rfl, _, World.drewN_drewN _ _ _⟩ | exact ⟨rfl, _, Eq.trans (World.drewN_drewN _ _ _) (congrArg (World.drewN _) (Nat.add_assoc _ _ _))⟩))); try go_wp2_with (first | (go_at_call 28; (with_reducible refine (impl_IsWord.calls k _ _ l0 true _ ?side1 ?side2 A2.out).mono ?_); (case side1 => exact xc HR0.out); (case side2 => exact HC0.out); rintro e w' ⟨rfl, ⟨nd, rfl⟩⟩; (try first | exact ⟨rfl, _, World.drewN_drewN _ _ _⟩ | exact ⟨rfl, _, Eq.trans (World.drewN_drewN _ _ _) (congrArg (World.drewN _) (Nat.add_assoc _ _ _))⟩))))
    go_loopg [3, 11] k (fun kq v3 v11 w' => ∃ (x3_1 : Int) (x11_1 : Int), v3 = .int .i64 x3_1 ∧ v11 = .int .i64 x11_1 ∧ Aside0 (impl_InversionCount.l0 kq l0 x3_1 (l0.length : Int) x11_1 = some r) ∧ Aside0 (kq ≤ k) ∧ Drawn0 w w')
    case atStart => exact ⟨(0), (0), (by first | rfl | (simp; done) | (simp [*]; done)), (by first | rfl | (simp; done) | (simp [*]; done)), H', ⟨Nat.le_refl _⟩, by repeat (first | exact Drawn0.refl _ | apply Drawn0.step)⟩
    case round =>
      clear H'
      try clear c1
      try clear p2
      try clear c3
      obtain ⟨x3_1, x11_1, rfl, rfl, HA, HK1, ⟨m1, rfl⟩⟩ := hrel
      cases gk with
      | zero => exact absurd HA.out (by simp [impl_InversionCount.l0])
      | succ k1 =>
        have H := HA.out
        clear HA
        simp only [impl_InversionCount.l0] at H
        by_cases c4 : x11_1 < (l0.length : Int)
        · rw [if_pos c4] at H
          have c4b0 : decide (x11_1 < (l0.length : Int)) = true := decide_eq_true c4
          clear c4
          have H' := Aside0.mk H
          clear H
          go_wp2
          repeat (go_quiet (fail); try go_wp2)
          go_loopg [3, 15] k1 (fun kq v3 v15 w' => ∃ (x3_2 : Int) (x15_2 : Int), v3 = .int .i64 x3_2 ∧ v15 = .int .i64 x15_2 ∧ Aside0 (impl_InversionCount.l1 kq l0 x3_2 x11_1 (l0.length : Int) x11_1 x11_1 x15_2 = some r) ∧ Aside0 (kq ≤ k1) ∧ Drawn0 w w')
          case atStart => exact ⟨(x3_1), (0), (by first | rfl | (simp; done) | (simp [*]; done)), (by first | rfl | (simp; done) | (simp [*]; done)), H', ⟨Nat.le_refl _⟩, by repeat (first | exact Drawn0.refl _ | apply Drawn0.step)⟩
          case round =>
            clear H'
            try clear c1
            try clear p2
            try clear c3
            try clear c4
            try clear c4b0
            try clear p2
            obtain ⟨x3_2, x15_2, rfl, rfl, HA, HK2, ⟨m2, rfl⟩⟩ := hrel
            cases gk with
            | zero => exact absurd HA.out (by simp [impl_InversionCount.l1])
            | succ k2 =>
              have H := HA.out
              clear HA
              simp only [impl_InversionCount.l1] at H
              by_cases c5 : x15_2 < x11_1
              · rw [if_pos c5] at H
                have c5b0 : decide (x15_2 < x11_1) = true := decide_eq_true c5
                clear c5
                by_cases c6 : 0 ≤ x15_2
                · rw [if_pos c6] at H
                  have c6b0 : decide (0 ≤ x15_2) = true := decide_eq_true c6
                  clear c6
                  by_cases c7 : x15_2 < (l0.length : Int)
                  · rw [if_pos c7] at H
                    have c7b0 : decide (x15_2 < (l0.length : Int)) = true := decide_eq_true c7
                    clear c7
                    by_cases c8 : 0 ≤ x11_1
                    · rw [if_pos c8] at H
                      have c8b0 : decide (0 ≤ x11_1) = true := decide_eq_true c8
                      clear c8
                      by_cases c9 : x11_1 < (l0.length : Int)
                      · rw [if_pos c9] at H
                        have c9b0 : decide (x11_1 < (l0.length : Int)) = true := decide_eq_true c9
                        clear c9
                        by_cases c10 : (rd l0 x15_2) > (rd l0 x11_1)
                        · rw [if_pos c10] at H
                          have c10b0 : decide ((rd l0 x11_1) < (rd l0 x15_2)) = true := decide_eq_true c10
                          clear c10
                          have H' := Aside0.mk H
                          clear H
                          have p195 : 0 ≤ (x15_2 : Int) := of_decide_eq_true (by first | (with_reducible assumption) | assumption)
                          have q195 : x15_2 < (l0.length : Int) := of_decide_eq_true (by first | (with_reducible assumption) | assumption)
                          obtain ⟨ad195, e195, hx195_0⟩ := Kd.at_int HR0.out x15_2 p195 q195
                          cases e195
                          replace p195 := eq_true p195
                          replace q195 := eq_true q195
                          have p196 : 0 ≤ (x11_1 : Int) := of_decide_eq_true (by first | (with_reducible assumption) | assumption)
                          have q196 : x11_1 < (l0.length : Int) := of_decide_eq_true (by first | (with_reducible assumption) | assumption)
                          obtain ⟨ad196, e196, hx196_0⟩ := Kd.at_int HR0.out x11_1 p196 q196
                          obtain rfl : ad195 = ad196 := (by injection e196)
                          replace p196 := eq_true p196
                          replace q196 := eq_true q196
                          go_wp2
                          repeat (go_quiet (fail); try go_wp2)
                          go_roundg k2
                          case measure => have := HK1.out; have := HK2.out; omega
                          case rel => exact ⟨(wrap64 (x3_2 + 1)), (wrap64 (x15_2 + 1)), (by first | rfl | (simp; done) | (simp [*]; done)), (by first | rfl | (simp; done) | (simp [*]; done)), H', ⟨by have := HK1.out; have := HK2.out; omega⟩, by repeat (first | exact Drawn0.refl _ | apply Drawn0.step)⟩
                        · rw [if_neg c10] at H
                          have c10b0 : decide ((rd l0 x11_1) < (rd l0 x15_2)) = false := decide_eq_false c10
                          clear c10
                          have H' := Aside0.mk H
                          clear H
                          have p195 : 0 ≤ (x15_2 : Int) := of_decide_eq_true (by first | (with_reducible assumption) | assumption)
                          have q195 : x15_2 < (l0.length : Int) := of_decide_eq_true (by first | (with_reducible assumption) | assumption)
                          obtain ⟨ad195, e195, hx195_0⟩ := Kd.at_int HR0.out x15_2 p195 q195
                          cases e195
                          replace p195 := eq_true p195
                          replace q195 := eq_true q195
                          have p196 : 0 ≤ (x11_1 : Int) := of_decide_eq_true (by first | (with_reducible assumption) | assumption)
                          have q196 : x11_1 < (l0.length : Int) := of_decide_eq_true (by first | (with_reducible assumption) | assumption)
                          obtain ⟨ad196, e196, hx196_0⟩ := Kd.at_int HR0.out x11_1 p196 q196
                          obtain rfl : ad195 = ad196 := (by injection e196)
                          replace p196 := eq_true p196
                          replace q196 := eq_true q196
                          go_wp2
                          repeat (go_quiet (fail); try go_wp2)
                          go_roundg k2
                          case measure => have := HK1.out; have := HK2.out; omega
                          case rel => exact ⟨(x3_2), (wrap64 (x15_2 + 1)), (by first | rfl | (simp; done) | (simp [*]; done)), (by first | rfl | (simp; done) | (simp [*]; done)), H', ⟨by have := HK1.out; have := HK2.out; omega⟩, by repeat (first | exact Drawn0.refl _ | apply Drawn0.step)⟩
                      · rw [if_neg c9] at H
                        exact absurd H (by simp)
                    · rw [if_neg c8] at H
                      exact absurd H (by simp)
                  · rw [if_neg c7] at H
                    exact absurd H (by simp)
                · rw [if_neg c6] at H
                  exact absurd H (by simp)
              · rw [if_neg c5] at H
                have c5b0 : decide (x15_2 < x11_1) = false := decide_eq_false c5
                clear c5
                have H' := Aside0.mk H
                clear H
                go_wp2
                repeat (go_quiet (fail); try go_wp2)
                go_roundg k2
                case measure => have := HK1.out; have := HK2.out; omega
                case rel => exact ⟨(x3_2), (wrap64 (x11_1 + 1)), (by first | rfl | (simp; done) | (simp [*]; done)), (by first | rfl | (simp; done) | (simp [*]; done)), H', ⟨by have := HK1.out; have := HK2.out; omega⟩, by repeat (first | exact Drawn0.refl _ | apply Drawn0.step)⟩
        · rw [if_neg c4] at H
          have c4b0 : decide (x11_1 < (l0.length : Int)) = false := decide_eq_false c4
          clear c4
          obtain rfl := Option.some.inj H
          go_wp2
          repeat (go_quiet (fail); try go_wp2)
          go_ret
          exact ⟨by first | rfl | (simp; done) | (simp [*]; done), by repeat (first | exact Drawn0.refl _ | apply Drawn0.step)⟩
  · replace c3 := Bool.eq_false_iff.mpr c3
    subst c3
    have H1 : (some (-1)) = some r := by rw [if_neg (show ¬ (false = true) by decide)] at H; exact H
    clear H
    have H := H1
    clear H1
    obtain rfl := Option.some.inj H
    go_enter Try.func18, Try.ntmps18
    go_wp2_with (first | (go_at_call 28; (with_reducible refine (impl_IsWord.calls k _ _ l0 false _ ?side1 ?side2 A2.out).mono ?_); (case side1 => exact xc HR0.out); (case side2 => exact HC0.out); rintro e w' ⟨rfl, ⟨nd, rfl⟩⟩; (try first | exact ⟨rfl, _, World.drewN_drewN _ _ _⟩ | exact ⟨rfl, _, Eq.trans (World.drewN_drewN _ _ _) (congrArg (World.drewN _) (Nat.add_assoc _ _ _))⟩)))
    repeat (go_quiet (first | (go_at_call 28; (with_reducible refine (impl_IsWord.calls k _ _ l0 false _ ?side1 ?side2 A2.out).mono ?_); (case side1 => exact xc HR0.out); (case side2 => exact HC0.out); rintro e w' ⟨rfl, ⟨nd, rfl⟩⟩; (try first | exact ⟨rfl, _, World.drewN_drewN _ _ _⟩ | exact ⟨rfl, _, Eq.trans (World.drewN_drewN _ _ _) (congrArg (World.drewN _) (Nat.add_assoc _ _ _))⟩))); try go_wp2_with (first | (go_at_call 28; (with_reducible refine (impl_IsWord.calls k _ _ l0 false _ ?side1 ?side2 A2.out).mono ?_); (case side1 => exact xc HR0.out); (case side2 => exact HC0.out); rintro e w' ⟨rfl, ⟨nd, rfl⟩⟩; (try first | exact ⟨rfl, _, World.drewN_drewN _ _ _⟩ | exact ⟨rfl, _, Eq.trans (World.drewN_drewN _ _ _) (congrArg (World.drewN _) (Nat.add_assoc _ _ _))⟩))))
    go_ret
    exact ⟨by first | rfl | (simp; done) | (simp [*]; done), by repeat (first | exact Drawn0.refl _ | apply Drawn0.step)⟩

theorem impl_wordCounts_1__impl_InversionCount.cut (A : Option Addr) (n c : Nat) (hc : n ≤ c) : ∀ W : World, (Instr.slice 22 (.slice A n c) none (some (.int .i64 (n : Int))) (some (.int .i64 (n : Int)))).run Try.prog W = .ok (.slice A n n) W := by
  intro W
  obtain ⟨i0, hi0, _, hsz, _⟩ := info_parts info3
  have ht : Try.prog.underlying 22 = some (.slice 3) := Try.underlying22
  have hel : Try.prog.elem 22 = 3 := by simp [Program.elem, ht]
  have hu : Try.prog.underlying 22 = some (.slice (Try.prog.elem 22)) := by rw [hel]; exact ht
  have ha : (A.map fun x => x.add 0) = A := by cases A <;> simp [Addr.add]
  have h2 : (n : Int) ≤ (c : Int) := by omega
  simp [Instr.slice, run_underlying hu, Instr.sliceBounds, run_sliceBound, sliced, hel, sizeOf, typeInfo, hi0, Result.andThen, ha, h2]
theorem impl_wordCounts_1__impl_InversionCount.reps : ∀ (xs : List Int) (M : Int → List Value → Prop), (∀ x, M x [.int .i64 x]) → Reps M 1 xs (xs.map (Value.int .i64)) := by
  intro xs M hM
  refine ⟨by simp, fun j p hj => ?_⟩
  have h1 : ((xs.map (Value.int .i64)).drop (j * 1)).take 1 = [.int .i64 p] := by
    rw [Nat.mul_one, List.drop_eq_getElem?_toList_append]
    rw [List.getElem?_map, hj]
    rfl
  rw [h1]
  exact hM p
/-- An append to a slice without room: a row of its own. -/
theorem impl_wordCounts_1__impl_InversionCount.append_full {ops : Array Oper} {rest : List Oper} {o : Oper} {a : Act} {Q : Exit → Act → World → Prop} {W : World} (hgd : o.guard = none) (s x : Operand) (ho : o.op = .call { callee := .builtin .append, args := #[s, x], argTypes := #[22, 22] })
    (A : Option Addr) (l1 : List Int) (p : Int) (hs : a.eval s = .slice A l1.length l1.length) (hx : a.eval x = .slice (some ⟨W.heap.size, 0, none⟩) 1 1) (hC : Kd.C (Kd.int .i64) W A l1.length l1) (hl : l1.length < 17592186044416)
    (h : ∀ v1 w1, Kd.R (Kd.int .i64) 3 w1 W.heap.size (fun _ => True) v1 (l1 ++ [p]) → Below W.heap.size W w1 → wpList Try.prog ops Q rest (a.put o.dst v1) w1) :
    wpList Try.prog ops Q (o :: rest) a (W.alloc (.cells #[.int .i64 p] 3)) := by
  obtain ⟨i0, hi0, hz0, hsz, hby⟩ := info_parts info3
  have HA : Below W.heap.size W (W.alloc (.cells #[.int .i64 p] 3)) := below_alloc (Below.refl _ _) _
  have hC2 : Kd.C (Kd.int .i64) (W.alloc (.cells #[.int .i64 p] 3)) A l1.length l1 := Kd.C_below hC HA
  refine wpList_append_grows (W.alloc (.cells #[.int .i64 p] 3)) hgd s x 22 ho 3 i0 (.int .i64 0) 1 8 Try.underlying22 hi0 hz0 hsz hby rfl (by decide) A l1.length l1.length (l1.map (Value.int .i64)) hs ?_ (by simp) ?_ ⟨W.heap.size, 0, none⟩ 1 1 [.int .i64 p] hx rfl ?_ (by intro u hu; rw [List.mem_singleton] at hu; subst hu; rfl) (by omega) (by simp only [maxLen]; omega) (by omega) ?_
  · intro hA
    by_cases h0 : 0 < l1.length
    · obtain ⟨ad, e, _⟩ := hC.2.2 h0
      rw [hA] at e
      cases e
    · omega
  · intro b hb j u hj
    have hjl : j < l1.length := by
      have := (List.getElem?_eq_some_iff.1 hj).1
      simpa using this
    obtain ⟨ad, e, hc⟩ := Kd.at_int hC2 (j : Int) (by omega) (by omega)
    rw [hb] at e
    cases e
    rw [Int.toNat_natCast] at hc
    rw [hc]
    rw [List.getElem?_map, List.getElem?_eq_getElem hjl] at hj
    have hj' := Option.some.inj hj
    rw [← hj']
    congr 2
    simp [rd, rdOf, List.getD_eq_getElem?_getD, List.getElem?_eq_getElem hjl]
  · intro j u hj
    cases j with
    | zero =>
      have hj' := Option.some.inj hj
      subst hj'
      exact (blk_cell (heap_alloc_new W _) 0).trans rfl
    | succ j => cases hj
  · intro v' w' r1 r2
    refine h v' w' ⟨fun _ _ => trivial, l1.map (Value.int .i64) ++ [.int .i64 p], ?_, ?_⟩ (Below.grown HA r2 (below_size HA) (fun k hk => by cases hk))
    · rw [List.length_append, List.length_singleton]
      exact own_weaken r1 (below_size HA)
    · have := impl_wordCounts_1__impl_InversionCount.reps (l1 ++ [p]) ((Kd.int .i64).M w' W.heap.size (fun k => True ∧ some k ≠ v'.ownBlock)) (fun x => rfl)
      rw [List.map_append] at this
      exact this
/-- A row of numbers of the call's own, whatever its block. -/
theorem impl_wordCounts_1__impl_InversionCount.t_kept {S : Nat → Prop} {w W : World} {base : Nat} {v : Value} {xs : List Int} (h : Kd.R (Kd.int .i64) 3 w base (fun _ => True) v xs) (hk : Kept w W S) (hne : ∀ k, some k = v.ownBlock → ¬ S k) : Kd.R (Kd.int .i64) 3 W base (fun _ => True) v xs := Kd.R_mono (Kd.R_kept (Kd.R_tight rfl h) hk hne) (fun _ _ => trivial)
theorem impl_wordCounts_1__impl_InversionCount.t_ne {w : World} {base g t : Nat} {v : Value} {xs : List Int} {cs : Array Value} (h : Kd.R (Kd.int .i64) 3 w base (fun _ => True) v xs) (hb : w.heap[g]? = some (.cells cs t (0, 0))) (ht : t ≠ 3) : some g ≠ v.ownBlock := fun e => by
  obtain ⟨cs', h'⟩ := Kd.R_typed h g e.symm
  exact blk_ne hb h' ht rfl
def impl_wordCounts_1__impl_InversionCount.f (k : Nat) (l2 l1 : List Int) : Option (List Int) := (impl_InversionCount.f k l1).bind fun t => impl_count.f k l2 t
theorem impl_wordCounts_1__impl_InversionCount.mono : ∀ a0 a1 k, LeO (impl_wordCounts_1__impl_InversionCount.f k a0 a1) (impl_wordCounts_1__impl_InversionCount.f (k + 1) a0 a1) := fun a0 a1 k => LeO.bind (impl_InversionCount.mono _ _) (fun t => impl_count.mono _ _ _)
set_option maxHeartbeats 8000000 in
set_option maxRecDepth 100000 in
theorem impl_wordCounts_1__impl_InversionCount.calls (k : Nat) (bo bs : Nat) (A1 : Option Addr) (c1 : Nat) (l1 : List Int) (v : Value) (l2 : List Int) (r : List Int) (w0 w : World) (hB : Below w0.heap.size w0 w) (hbo0 : w0.heap.size ≤ bo) (hbo : w.heap[bo]? = some (.cells #[v] 22 (0, 0))) (hbs : w.heap[bs]? = some (.cells #[(.func (.func 18) #[] #[])] 27 (0, 0))) (ho2 : Kd.R (Kd.int .i64) 3 w w0.heap.size (fun _ => True) v l2) (hr1 : Kd.C (Kd.int .i64) w A1 l1.length l1) (hc1 : l1.length ≤ c1) (h : impl_wordCounts_1__impl_InversionCount.f k l2 l1 = some r) :
    Calls Try.prog 26 #[.slice A1 l1.length c1, .pointer (some ⟨bo, 0, none⟩), .pointer (some ⟨bs, 0, none⟩)] w fun e w' => e = .returned (.tuple #[]) ∧ ∃ v' : Value, w'.heap[bo]? = some (.cells #[v'] 22 (0, 0)) ∧ Kd.R (Kd.int .i64) 3 w' w0.heap.size (fun _ => True) v' r ∧ (∀ k_, v'.ownBlock = some k_ → some k_ = v.ownBlock ∨ w.heap.size ≤ k_) ∧ Below w0.heap.size w0 w' ∧ Kept w w' (fun k_ => some k_ = v.ownBlock ∨ k_ = bo) := by
  obtain ⟨t, A1_, A2_⟩ := Option.bind_eq_some_iff.mp h
  have A1' := Aside0.mk A1_
  have A2' := Aside0.mk A2_
  have HB := Aside0.mk hB
  have HR1 := Aside0.mk hr1
  have HC1 := Aside0.mk hc1
  have HO2 := Aside0.mk ho2
  have HBO := Aside0.mk hbo
  have HBS := Aside0.mk hbs
  have HG := Aside0.mk hbo0
  obtain ⟨Ao, co, eo⟩ := Kd.R_slice ho2
  subst eo
  clear A1_ A2_ hB hr1 hc1 ho2 hbo hbs hbo0 h
  go_enter Try.func26, Try.ntmps26
  have hc0 : w.drew.cell? ⟨bo, 0, none⟩ = some (.slice Ao l2.length co) := (blk_cell (blk_drew HBO.out) 0).trans rfl
  have hs0 : w.drew.cell? ⟨bs, 0, none⟩ = some (.func (.func 18) #[] #[]) := (blk_cell (blk_drew HBS.out) 0).trans rfl
  refine start_ (n := 6) (S := fun w' => w'.cell? ⟨bo, 0, none⟩ = some (.slice Ao l2.length co) ∧ w'.cell? ⟨bs, 0, none⟩ = some (.func (.func 18) #[] #[])) (ds := [5]) #[false, false, false, false, false, false] (by kernel_rfl) rfl rfl ⟨hc0, hs0⟩ (fun hHeld => ?_)
  have hfo : w.drew.frozen? ⟨bo, 0, none⟩ = false := blk_frozen (blk_drew HBO.out) 0
  have HW1 : Aside0 (w.heap.size = w.drew.heap.size) := ⟨rfl⟩
  have n0_ := Aside0.mk (Kept.refl w (fun k_ => some k_ = (Value.slice Ao l2.length co).ownBlock ∨ k_ = bo)).drew
  have n1_ := Aside0.mk (Kd.R_drew HO2.out)
  have n2_ := Aside0.mk (blk_drew HBO.out)
  have n3_ := Aside0.mk (below_drew1 HB.out)
  have n4_ := Aside0.mk (Kd.C_drew HR1.out)
  have n5_ := Aside0.mk (blk_drew HBS.out)
  clear HO2 HBO HBS HB HR1
  generalize w.drew = w1 at hc0 hs0 hHeld hfo HW1 n0_ n1_ n2_ n3_ n4_ n5_ ⊢
  refine pure_ (i := 2) (N := some 6) (v := ?_) (a' := ?_) #[false, false, true, false, false, false] rfl rfl (by kernel_rfl) (fun _ _ _ h => h) (Or.inl ⟨by rfl, ?_⟩) ?_ ?_
  rotate_left
  · intro w'
    go_simp
    with_reducible rfl
  rotate_left
  · simp only [Act.put, List.setIfInBounds_toArray, List.set_cons_zero, List.set_cons_succ, i64_w, i32_w]
    rfl
  refine take_ (i := 0) (N := some 4) (v := ?_) (a' := ?_) #[true, false, true, false, false, false] rfl rfl (by kernel_rfl) (fun _ _ _ h => h) (Or.inl ⟨by rfl, ?_⟩) hHeld ?_ ?_
  rotate_left
  · intro w' s0
    obtain ⟨s0, s1⟩ := s0
    go_simp
    with_reducible rfl
  rotate_left
  · simp only [Act.put, List.setIfInBounds_toArray, List.set_cons_zero, List.set_cons_succ, i64_w, i32_w]
    rfl
  refine take_ (i := 1) (N := some 5) (v := ?_) (a' := ?_) #[true, true, true, false, false, false] rfl rfl (by kernel_rfl) (fun _ _ _ h => h) (Or.inl ⟨by rfl, ?_⟩) hHeld ?_ ?_
  rotate_left
  · intro w' s0
    obtain ⟨s0, s1⟩ := s0
    go_simp
    with_reducible rfl
  rotate_left
  · simp only [Act.put, List.setIfInBounds_toArray, List.set_cons_zero, List.set_cons_succ, i64_w, i32_w]
    rfl
  refine one_ (i := 3) (N := some 7) #[true, true, true, true, false, false] rfl rfl (by kernel_rfl) (by decide) (fun K hK => ?_)
  refine call_ 18 #[.slice A1 l1.length c1] (by rfl) rfl (by first | (go_simp; done) | (go_simp; exact enters_ Try.func18 (by kernel_rfl) (by kernel_rfl) _ _)) ?_
  refine (impl_InversionCount.calls k _ _ l1 t _ n4_.out HC1.out A1'.out).mono ?_
  rintro e w2 ⟨rfl, ⟨nd, rfl⟩⟩
  refine ⟨_, rfl, ?_⟩
  refine hK.out _ _ ⟨hHeld.1, hHeld.2⟩ (fun hHeld2 => ?_)
  clear hK K
  refine norm_ (a' := ?_) ?_ ?_
  rotate_left
  · show Act.put _ (some 7) _ = _
    simp only [Act.put, List.setIfInBounds_toArray, List.set_cons_zero, List.set_cons_succ, i64_w, i32_w]
    rfl
  have m0_ := Aside0.mk (n0_.out.drewN nd)
  have m1_ := Aside0.mk (Kd.R_drewN n1_.out nd)
  have m2_ := Aside0.mk (blk_drewN n2_.out nd)
  have m3_ := Aside0.mk (pw_below_drewN n3_.out nd)
  have m5_ := Aside0.mk (blk_drewN n5_.out nd)
  clear n0_ n1_ n2_ n3_ n4_ n5_ hc0 hs0 hHeld hfo HW1
  generalize w1.drewN nd = w2 at m0_ m1_ m2_ m3_ m5_ hHeld2 ⊢
  refine one_ (i := 4) (N := some 8) #[true, true, true, true, true, false] rfl rfl (by kernel_rfl) (by decide) (fun K hK => ?_)
  refine call_ 27 #[.slice Ao l2.length co, .int .i64 t] (by rfl) rfl (by first | (go_simp; done) | (go_simp; exact enters_ Try.func27 (by kernel_rfl) (by kernel_rfl) _ _)) ?_
  refine (impl_count.calls k (fun k_ => some k_ = (Value.slice Ao l2.length co).ownBlock) (.slice Ao l2.length co) l2 t r w0 w2 m3_.out (Kd.R_tight rfl m1_.out) A2'.out).mono ?_
  rintro e w3 ⟨v', rfl, ho, hb, hk⟩
  obtain ⟨Ao3, co3, eo3⟩ := Kd.R_slice ho
  subst eo3
  have hbo3 := blk_kept m2_.out hk (fun e => impl_wordCounts_1__impl_InversionCount.t_ne m1_.out m2_.out (by decide) e)
  have hbs3 := blk_kept m5_.out hk (fun e => impl_wordCounts_1__impl_InversionCount.t_ne m1_.out m5_.out (by decide) e)
  have hc3 : w3.cell? ⟨bo, 0, none⟩ = some (.slice Ao l2.length co) := (blk_cell hbo3 0).trans rfl
  have hs3 : w3.cell? ⟨bs, 0, none⟩ = some (.func (.func 18) #[] #[]) := (blk_cell hbs3 0).trans rfl
  have hf3 : w3.frozen? ⟨bo, 0, none⟩ = false := blk_frozen hbo3 0
  have hne : some bo ≠ (Value.slice Ao3 r.length co3).ownBlock := impl_wordCounts_1__impl_InversionCount.t_ne (Kd.R_mono ho (fun _ _ => trivial)) hbo3 (by decide)
  have HO := Aside0.mk ho
  have HBB := Aside0.mk hb
  have HK3 := Aside0.mk (m0_.out.then_ hk (fun k_ h_ => .inl (.inl h_)))
  have HBO3 := Aside0.mk hbo3
  have HSZ := Aside0.mk m0_.out.1
  clear ho hb hk hbo3 hbs3 m0_ m1_ m2_ m3_ m5_ hHeld2
  refine ⟨_, rfl, ?_⟩
  refine hK.out _ _ ⟨hc3, hs3⟩ (fun hHeld => ?_)
  clear hK K
  refine norm_ (a' := ?_) ?_ ?_
  rotate_left
  · show Act.put _ (some 8) _ = _
    simp only [Act.put, List.setIfInBounds_toArray, List.set_cons_zero, List.set_cons_succ, i64_w, i32_w]
    rfl
  refine last_ (i := 5) (N := none) #[true, true, true, true, true, true] rfl rfl (by kernel_rfl) (by decide) (fun K hK => ?_)
  refine skip_ (w1 := ?_) (by rfl) rfl ?_ ?_
  rotate_left
  · go_simp
    rfl
  refine hK.out _ _ ?_
  clear hK K
  refine done_ (by kernel_rfl) ?_
  go_wp2
  have hfin : (w3.setCell ⟨bo, 0, none⟩ (.slice Ao3 r.length co3)).heap[bo]? = some (.cells #[.slice Ao3 r.length co3] 22 (0, 0)) := (blk_set HBO3.out 0 _).trans rfl
  have hR := Kd.R_mono (ok' := fun _ => True) (Kd.R_far (p := ⟨bo, 0, none⟩) (Kd.R_tight rfl HO.out) (fun k_ hk e => hne (by rw [← show k_ = bo from e]; exact hk)) (.slice Ao3 r.length co3)) (fun _ _ => trivial)
  have hown : ∀ k_, (Value.slice Ao3 r.length co3).ownBlock = some k_ → some k_ = (Value.slice Ao l2.length co).ownBlock ∨ w.heap.size ≤ k_ := fun k_ e => (HO.out.1 k_ e).imp id (fun h => Nat.le_trans HSZ.out h)
  have hfin2 := below_set (j := 0) (v := .slice Ao3 r.length co3) HBB.out HG.out
  have hk4 := HK3.out.setCell (p := ⟨bo, 0, none⟩) (.inl (.inr rfl)) (.slice Ao3 r.length co3)
  refine bodyPost_end (results_none rfl _ _ _) rfl ?_
  exact ⟨rfl, _, hfin, hR, hown, hfin2, hk4⟩
mutual
def impl_eachWord__impl_InversionCount.l0 : Nat → Int → List Int → List Int → List Int → Int → Option (List Int × List Int)
  | 0, _, _, _, _, _ => none
  | k + 1, n, x0, l1, x2, x6 => if x6 < n then (if 0 ≤ x6 ∧ x6 < (x0.length : Int) then (if (rd x0 x6) > 0 then (if l1.length < 17592186044416 then ((impl_eachWord__impl_InversionCount.f k (x0.set x6.toNat (wrap64 ((rd x0 x6) - 1))) (l1 ++ [wrap64 (x6 + 1)]) x2).bind fun bt => (if x6 < (bt.2.length : Int) then (impl_eachWord__impl_InversionCount.l0 k n (bt.2.set x6.toNat (wrap64 ((rd bt.2 x6) + 1))) l1 bt.1 (wrap64 (x6 + 1))) else none)) else none) else (impl_eachWord__impl_InversionCount.l0 k n x0 l1 x2 (wrap64 (x6 + 1)))) else none) else some (x2, x0)
def impl_eachWord__impl_InversionCount.f : Nat → List Int → List Int → List Int → Option (List Int × List Int)
  | 0, _, _, _ => none
  | k + 1, l0, l1, l2 => (impl_sum.f k l0).bind fun t => (if t = 0 then ((impl_wordCounts_1__impl_InversionCount.f k l2 l1).bind fun r => some (r, l0)) else impl_eachWord__impl_InversionCount.l0 k (l0.length : Int) l0 l1 l2 0)
end
theorem impl_eachWord__impl_InversionCount.mono_l : ∀ k, (∀ y0 y1 y2, LeO (impl_eachWord__impl_InversionCount.f k y0 y1 y2) (impl_eachWord__impl_InversionCount.f (k + 1) y0 y1 y2)) ∧ (∀ n y0 y1 y2 y3, LeO (impl_eachWord__impl_InversionCount.l0 k n y0 y1 y2 y3) (impl_eachWord__impl_InversionCount.l0 (k + 1) n y0 y1 y2 y3))
  | 0 => ⟨fun _ _ _ r h => by simp [impl_eachWord__impl_InversionCount.f] at h, fun _ _ _ _ _ r h => by simp [impl_eachWord__impl_InversionCount.l0] at h⟩
  | k + 1 => by
    obtain ⟨ih0, ih1⟩ := impl_eachWord__impl_InversionCount.mono_l k
    refine ⟨?_, ?_⟩
    · intro y0 y1 y2
      simp only [impl_eachWord__impl_InversionCount.f]
      repeat' first
        | exact ih0 _ _ _
        | exact ih1 _ _ _ _ _
        | exact impl_sum.mono _ _
        | exact impl_wordCounts_1__impl_InversionCount.mono _ _ _
        | exact LeO.refl _
        | refine LeO.ite ?_ ?_
        | refine LeO.bind ?_ (fun _ => ?_)
    · intro n y0 y1 y2 y3
      simp only [impl_eachWord__impl_InversionCount.l0]
      repeat' first
        | exact ih0 _ _ _
        | exact ih1 _ _ _ _ _
        | exact LeO.refl _
        | refine LeO.ite ?_ ?_
        | refine LeO.bind ?_ (fun _ => ?_)
theorem impl_eachWord__impl_InversionCount.mono : ∀ a0 a1 a2 k, LeO (impl_eachWord__impl_InversionCount.f k a0 a1 a2) (impl_eachWord__impl_InversionCount.f (k + 1) a0 a1 a2) := fun a0 a1 a2 k => (impl_eachWord__impl_InversionCount.mono_l k).1 a0 a1 a2
set_option maxHeartbeats 8000000 in
set_option maxRecDepth 100000 in
theorem impl_eachWord__impl_InversionCount.calls (k : Nat) : ∀ (bo bs : Nat) (u : Value) (l0 : List Int) (A1 : Option Addr) (c1 : Nat) (l1 : List Int) (v : Value) (l2 r1 r2 : List Int) (w0 w : World) (hB : Below w0.heap.size w0 w) (hbo0 : w0.heap.size ≤ bo) (hbo : w.heap[bo]? = some (.cells #[v] 22 (0, 0))) (hbs : w.heap[bs]? = some (.cells #[(.func (.func 18) #[] #[])] 27 (0, 0))) (ho0 : Kd.R (Kd.int .i64) 3 w w0.heap.size (fun _ => True) u l0) (ho2 : Kd.R (Kd.int .i64) 3 w w0.heap.size (fun _ => True) v l2) (hp : ∀ k_, some k_ = u.ownBlock → some k_ ≠ v.ownBlock) (hr1 : ∀ W_, Kept w W_ (fun k_ => (some k_ = (u).ownBlock ∨ some k_ = (v).ownBlock) ∨ k_ = bo) → Kd.C (Kd.int .i64) W_ A1 l1.length l1) (hc1 : l1.length ≤ c1) (h : impl_eachWord__impl_InversionCount.f k l0 l1 l2 = some (r1, r2)),
    Calls Try.prog 25 #[u, .slice A1 l1.length c1, .func (.func 26) #[] #[.pointer (some ⟨bo, 0, none⟩), .pointer (some ⟨bs, 0, none⟩)]] w fun e w' => e = .returned (.tuple #[]) ∧ ∃ v' : Value, w'.heap[bo]? = some (.cells #[v'] 22 (0, 0)) ∧ Kd.R (Kd.int .i64) 3 w' w0.heap.size (fun _ => True) v' r1 ∧ Kd.R (Kd.int .i64) 3 w' w0.heap.size (fun _ => True) u r2 ∧ (∀ k_, v'.ownBlock = some k_ → some k_ = v.ownBlock ∨ w.heap.size ≤ k_) ∧ Below w0.heap.size w0 w' ∧ Kept w w' (fun k_ => (some k_ = (u).ownBlock ∨ some k_ = (v).ownBlock) ∨ k_ = bo) := by
  induction k using Nat.strongRecOn with
  | _ k ih =>
  intro bo bs u l0 A1 c1 l1 v l2 r1 r2 w0 w hB hbo0 hbo hbs ho0 ho2 hp hr1 hc1 h
  cases k with
  | zero => exact absurd h (by simp [impl_eachWord__impl_InversionCount.f])
  | succ k =>
  simp only [impl_eachWord__impl_InversionCount.f] at h
  obtain ⟨t, At, H⟩ := Option.bind_eq_some_iff.mp h
  clear h
  obtain ⟨A0, c0, e0⟩ := Kd.R_slice ho0
  subst e0
  have AT := Aside0.mk At
  have HB := Aside0.mk hB
  have HG := Aside0.mk hbo0
  have HBO := Aside0.mk hbo
  have HBS := Aside0.mk hbs
  have HO0 := Aside0.mk ho0
  have HO2 := Aside0.mk ho2
  have HP := Aside0.mk hp
  have HR1 := Aside0.mk hr1
  have HC1 := Aside0.mk hc1
  have hcut := impl_wordCounts_1__impl_InversionCount.cut A1 l1.length c1 hc1
  have HU := Aside0.mk (fun k_ (e_ : some k_ = (Value.slice A0 l0.length c0).ownBlock) => Kd.R_lt ho0 k_ e_.symm)
  clear At hB hbo0 hbo hbs ho0 ho2 hp hr1 hc1
  by_cases ct : t = 0
  · subst ct
    rw [if_pos rfl] at H
    obtain ⟨r, Ar, H⟩ := Option.bind_eq_some_iff.mp H
    simp only [Option.some.injEq, Prod.mk.injEq] at H
    obtain ⟨rfl, rfl⟩ := H
    have AR := Aside0.mk Ar
    clear Ar
    go_enter Try.func25, Try.ntmps25
    go_wp2_with (first | ((with_reducible refine gate_callee (f := 24) rfl ?_); refine goesL_ (some 8) rfl rfl Try.func24 (by kernel_rfl) rfl #[.slice A0 l0.length c0] rfl xm ?_; (with_reducible refine (impl_sum.calls k _ _ l0 0 _ ?side1 ?side2 AT.out).mono ?_); (case side1 => exact (Kd.R_reads' HO0.out).2.2); (case side2 => exact (Kd.R_reads' HO0.out).2.1); rintro e w' ⟨rfl, ⟨nd, rfl⟩⟩; refine ⟨_, rfl, ?_⟩) | (go_at_call 26; refine (impl_wordCounts_1__impl_InversionCount.calls k bo bs _ _ l1 v l2 r w0 _ (pw_below_drewN HB.out _) HG.out (blk_drewN HBO.out _) (blk_drewN HBS.out _) (Kd.R_drewN HO2.out _) (HR1.out _ ((Kept.refl _ _).drewN _)) HC1.out AR.out).mono ?_; rintro e w3 ⟨rfl, v', x1, x2, x3, x4, x5⟩; have X1 := Aside0.mk x1; have X2 := Aside0.mk x2; have X3 := Aside0.mk x3; have X4 := Aside0.mk x4; have X5 := Aside0.mk x5; clear x1 x2 x3 x4 x5))
    refine bodyPost_ret (results_none rfl _ _ _) rfl ?_
    have hbw : some bo ≠ (Value.slice A0 l0.length c0).ownBlock := impl_wordCounts_1__impl_InversionCount.t_ne HO0.out HBO.out (by decide)
    exact ⟨rfl, v', X1.out, X2.out, impl_wordCounts_1__impl_InversionCount.t_kept (Kd.R_drewN HO0.out nd) X5.out (fun k_ hk => by rintro (h | h); exact HP.out k_ hk h; exact hbw (by rw [← h]; exact hk)), X3.out, X4.out, ((Kept.refl _ _).drewN nd).then_ X5.out (fun k_ h => by rcases h with h | h; exact .inl (.inl (.inr h)); exact .inl (.inr h))⟩
  · rw [if_neg ct] at H
    have ctb : (t == 0) = false := beq_eq_false_iff_ne.mpr ct
    have H' := Aside0.mk H
    clear H
    go_enter Try.func25, Try.ntmps25
    go_wp2_with (first | ((with_reducible refine gate_callee (f := 24) rfl ?_); refine goesL_ (some 8) rfl rfl Try.func24 (by kernel_rfl) rfl #[.slice A0 l0.length c0] rfl xm ?_; (with_reducible refine (impl_sum.calls k _ _ l0 t _ ?side1 ?side2 AT.out).mono ?_); (case side1 => exact (Kd.R_reads' HO0.out).2.2); (case side2 => exact (Kd.R_reads' HO0.out).2.1); rintro e w' ⟨rfl, ⟨nd, rfl⟩⟩; refine ⟨_, rfl, ?_⟩))
    go_loopg [15] k (fun kq v15 w' => ∃ (vq : Value) (x0 x2 : List Int) (x6 : Int), v15 = .int .i64 x6 ∧ Aside0 (impl_eachWord__impl_InversionCount.l0 kq (l0.length : Int) x0 l1 x2 x6 = some (r1, r2)) ∧ Aside0 (kq ≤ k) ∧ Aside0 (w'.heap[bo]? = some (.cells #[vq] 22 (0, 0))) ∧ Aside0 (w'.heap[bs]? = some (.cells #[(.func (.func 18) #[] #[])] 27 (0, 0))) ∧ Aside0 (Kd.R (Kd.int .i64) 3 w' w0.heap.size (fun _ => True) (Value.slice A0 l0.length c0) x0) ∧ Aside0 (Kd.R (Kd.int .i64) 3 w' w0.heap.size (fun _ => True) vq x2) ∧ Aside0 (∀ k_, vq.ownBlock = some k_ → some k_ = v.ownBlock ∨ w.heap.size ≤ k_) ∧ Aside0 (Kept w w' (fun k_ => (some k_ = ((Value.slice A0 l0.length c0)).ownBlock ∨ some k_ = (v).ownBlock) ∨ k_ = bo)) ∧ Aside0 (Below w0.heap.size w0 w'))
    case atStart => exact ⟨v, l0, l2, 0, (by first | rfl | (simp; done) | (simp [*]; done)), H', ⟨Nat.le_refl _⟩, ⟨blk_drewN HBO.out _⟩, ⟨blk_drewN HBS.out _⟩, ⟨Kd.R_drewN HO0.out _⟩, ⟨Kd.R_drewN HO2.out _⟩, ⟨fun _ h => .inl h.symm⟩, ⟨(Kept.refl _ _).drewN _⟩, ⟨pw_below_drewN HB.out _⟩⟩
    case round =>
      clear H' HBO HBS HO0 HO2 HB AT ct ctb
      obtain ⟨vq, x0, x2, x6, rfl, HA, HK1, HBO, HBS, HO_0, HO_2, HGR, HK, HB⟩ := hrel
      cases gk with
      | zero => exact absurd HA.out (by simp [impl_eachWord__impl_InversionCount.l0])
      | succ k1 =>
        have H := HA.out
        clear HA
        simp only [impl_eachWord__impl_InversionCount.l0] at H
        by_cases c1 : x6 < (l0.length : Int)
        · rw [if_pos c1] at H
          have c1b0 : decide (x6 < (l0.length : Int)) = true := decide_eq_true c1
          by_cases c2 : 0 ≤ x6 ∧ x6 < (x0.length : Int)
          · rw [if_pos c2] at H
            obtain ⟨c2a, c2b⟩ := c2
            obtain ⟨ad1, e1, hx1⟩ := Kd.at_int (Kd.R_reads' HO_0.out).2.2 x6 c2a c2b
            subst e1
            obtain ⟨go8, co8, eo8, gb8, gl8, cl8, HG8⟩ := Kd.R_form HO_0.out (by omega)
            injection eo8 with ea_ en_ ec_
            injection ea_ with ea_
            subst ea_
            subst ec_
            have GB := Aside0.mk gb8
            clear gb8 gl8 cl8 HG8
            simp only [add_plain] at hx1
            by_cases c3 : (rd x0 x6) > 0
            · rw [if_pos c3] at H
              have c3b0 : decide (0 < (rd x0 x6)) = true := decide_eq_true c3
              by_cases c4 : l1.length < 17592186044416
              · rw [if_pos c4] at H
                obtain ⟨⟨t1, t2⟩, Ab, H⟩ := Option.bind_eq_some_iff.mp H
                simp only at H
                by_cases c5 : x6 < (t2.length : Int)
                · rw [if_pos c5] at H
                  have H' := Aside0.mk H
                  clear H
                  obtain ⟨y1, hy1⟩ : ∃ y_ : List Int, y_ = x0.set x6.toNat (wrap64 ((rd x0 x6) - 1)) := ⟨_, rfl⟩
                  rw [← hy1] at Ab
                  obtain ⟨y2, hy2⟩ : ∃ y_ : List Int, y_ = l1 ++ [wrap64 (x6 + 1)] := ⟨_, rfl⟩
                  rw [← hy2] at Ab
                  obtain ⟨y3, hy3⟩ : ∃ y_ : List Int, y_ = t2.set x6.toNat (wrap64 ((rd t2 x6) + 1)) := ⟨_, rfl⟩
                  rw [← hy3] at H'
                  have AB := Aside0.mk Ab
                  have LM := Aside0.mk c4
                  have LT := Aside0.mk c5
                  have Y1 := Aside0.mk hy1
                  have Y2 := Aside0.mk hy2
                  have Y3 := Aside0.mk hy3
                  clear Ab c4 c5 hy1 hy2 hy3
                  have p8 := eq_true c2a
                  have q8 := eq_true c1
                  obtain ⟨hx8, hf8⟩ := Kd.R_celln 0 HO_0.out x6 c2a c1
                  have HP14 := Kd.R_putg HO_0.out x6 (wrap64 ((rd x0 x6) - 1))
                  have EN := Aside0.mk en_
                  have C2 := Aside0.mk (show 0 ≤ x6 ∧ x6 < (l0.length : Int) from ⟨c2a, c1⟩)
                  clear c2a c2b c1 en_
                  have hap : some go8 ≠ vq.ownBlock := fun e_ => by
                    rcases HGR.out go8 e_.symm with h_ | h_
                    · exact HP.out go8 rfl h_
                    · have := HU.out go8 rfl
                      omega
                  have hbg : some bo ≠ (Value.slice (some ⟨go8, 0, none⟩) l0.length c0).ownBlock := impl_wordCounts_1__impl_InversionCount.t_ne HO_0.out HBO.out (by decide)
                  have hsg : some bs ≠ (Value.slice (some ⟨go8, 0, none⟩) l0.length c0).ownBlock := impl_wordCounts_1__impl_InversionCount.t_ne HO_0.out HBS.out (by decide)
                  have HAPG := Aside0.mk hap
                  have HBG := Aside0.mk hbg
                  have HSG := Aside0.mk hsg
                  clear hap hbg hsg
                  go_upto_region 7 with (first | ((with_reducible refine gate_store (t := 3) (p := 28) rfl ?_); refine store_event (t := 3) (p := 28) (v := ?vo_1) (w1 := (wr.setCell ⟨go8, x6.toNat, none⟩ (.int .i64 (wrap64 ((rd x0 x6) - 1))))) ?hg ?ho ?hn ?hr ?_; (case ho => rfl); (case hg => rfl); (case hn => rfl); (case hr => first | (go_simp; done) | (go_simp; rfl)); intro w15 hw; have n0_ : Aside0 (Kd.R (Kd.int .i64) 3 w15 w0.heap.size (fun _ => True) (Value.slice (some ⟨go8, 0, none⟩) l0.length c0) y1) := ⟨by rw [hw, Y1.out]; exact HP14.1⟩; have n1_ : Aside0 (Kd.R (Kd.int .i64) 3 w15 w0.heap.size (fun _ => True) vq x2) := ⟨impl_wordCounts_1__impl_InversionCount.t_kept HO_2.out (Kept.of_grown (S := fun k_ => k_ = go8) (by rw [hw]; exact HP14.2) (Kept.refl _ _) (fun k_ e_ => .inl (Option.some.inj e_).symm)) (fun k_ e_ h_ => HAPG.out (by rw [← show k_ = go8 from h_]; exact e_))⟩; have n2_ : Aside0 (w15.heap[bo]? = some (.cells #[vq] 22 (0, 0))) := ⟨by rw [hw]; exact blk_far HBO.out (p := ⟨go8, x6.toNat, none⟩) (fun e_ => HBG.out (by rw [show bo = go8 from e_]; rfl)) _⟩; have n3_ : Aside0 (w15.heap[bs]? = some (.cells #[(.func (.func 18) #[] #[])] 27 (0, 0))) := ⟨by rw [hw]; exact blk_far HBS.out (p := ⟨go8, x6.toNat, none⟩) (fun e_ => HSG.out (by rw [show bs = go8 from e_]; rfl)) _⟩; have n4_ : Aside0 (Below w0.heap.size w0 w15) := ⟨by rw [hw]; exact below_set HB.out GB.out⟩; have n5_ : Aside0 (Kept w w15 (fun k_ => (some k_ = ((Value.slice (some ⟨go8, 0, none⟩) l0.length c0)).ownBlock ∨ some k_ = (v).ownBlock) ∨ k_ = bo)) := ⟨Kept.of_grown (row := some go8) (by rw [hw]; exact HP14.2) HK.out (fun k_ e_ => .inl (.inl (.inl e_.symm)))⟩; clear hw HP14 HO_0 HO_2 HBO HBS HB HK; have HO_0 := n0_; have HO_2 := n1_; have HBO := n2_; have HBS := n3_; have HB := n4_; have HK := n5_; clear n0_ n1_ n2_ n3_ n4_ n5_))
                  have HL15 : Aside0 (∀ k_, ((some k_ = (Value.slice (some ⟨go8, 0, none⟩) l0.length c0).ownBlock ∨ some k_ = vq.ownBlock) ∨ k_ = bo) → k_ < w15.heap.size) := ⟨fun k_ h_ => by
                    rcases h_ with (h_ | h_) | h_
                    · exact Kd.R_lt HO_0.out k_ h_.symm
                    · exact Kd.R_lt HO_2.out k_ h_.symm
                    · rw [h_]; exact blk_lt HBO.out⟩
                  clear hx8 hf8 hx1
                  go_wp2_with (first | ((with_reducible refine gate_builtin (b := .append) (xs := #[.tmp 35, .tmp 38]) rfl ?_); at_builtin; refine impl_wordCounts_1__impl_InversionCount.append_full rfl (.tmp 35) (.tmp 38) rfl A1 l1 (wrap64 (x6 + 1)) rfl rfl ?hC LM.out ?_; (case hC => exact HR1.out _ HK.out); intro v1 w16 ho hb; rw [← Y2.out] at ho; obtain ⟨Ao20, co20, eo20⟩ := Kd.R_slice ho; subst eo20; have HRW : Aside0 (∀ W_, Kept w16 W_ (fun k_ => (some k_ = ((Value.slice (some ⟨go8, 0, none⟩) l0.length c0)).ownBlock ∨ some k_ = (vq).ownBlock) ∨ k_ = bo) → Kd.C (Kd.int .i64) W_ Ao20 y2.length y2) := ⟨fun W_ hk => (Kd.R_reads' (Kd.R_kept (Kd.R_tight rfl ho) hk (fun k_ e_ h_ => Nat.lt_irrefl _ (Nat.lt_of_lt_of_le (HL15.out k_ h_) (Kd.R_base ho k_ e_.symm))))).2.2⟩; have HC20 := Aside0.mk (Kd.R_reads' ho).2.1; have n0_ := Aside0.mk (Kd.R_below HO_0.out hb); have n1_ := Aside0.mk (Kd.R_below HO_2.out hb); have n2_ := Aside0.mk (blk_below HBO.out hb); have n3_ := Aside0.mk (blk_below HBS.out hb); have n4_ := Aside0.mk (below_step HB.out hb); have n5_ := Aside0.mk (Kept.below HK.out hb); clear ho hb HO_0 HO_2 HBO HBS HB HK; have HO_0 := n0_; have HO_2 := n1_; have HBO := n2_; have HBS := n3_; have HB := n4_; have HK := n5_; clear n0_ n1_ n2_ n3_ n4_ n5_) | ((with_reducible refine gate_callee (f := 25) rfl ?_); refine goesL_ (some 41) rfl rfl Try.func25 (by kernel_rfl) rfl #[.slice (some ⟨go8, 0, none⟩) l0.length c0, .slice Ao20 y2.length co20, .func (.func 26) #[] #[.pointer (some ⟨bo, 0, none⟩), .pointer (some ⟨bs, 0, none⟩)]] rfl xm ?_; refine (ih k1 (by have := HK1.out; omega) bo bs (Value.slice (some ⟨go8, 0, none⟩) l0.length c0) y1 Ao20 co20 y2 vq x2 t1 t2 w0 _ HB.out HG.out HBO.out HBS.out HO_0.out HO_2.out (fun k_ e_ h_ => HAPG.out (by rw [← (show some k_ = some go8 from e_)]; exact h_)) HRW.out HC20.out AB.out).mono ?_; rintro e w22 ⟨rfl, v2, x1, x2', x3, x4, x5, x6'⟩; refine ⟨_, rfl, ?_⟩; have n3_ := Aside0.mk (blk_kept HBS.out x6' (fun h_ => by rcases h_ with (h_ | h_) | h_; exact impl_wordCounts_1__impl_InversionCount.t_ne HO_0.out HBS.out (by decide) h_; exact impl_wordCounts_1__impl_InversionCount.t_ne HO_2.out HBS.out (by decide) h_; exact blk_ne HBS.out HBO.out (by decide) h_)); have n6_ : Aside0 (∀ k_, v2.ownBlock = some k_ → some k_ = v.ownBlock ∨ w.heap.size ≤ k_) := ⟨fun k_ e_ => by rcases x4 k_ e_ with h_ | h_; exact HGR.out k_ h_.symm; exact .inr (Nat.le_trans HK.out.1 h_)⟩; have n5_ : Aside0 (Kept w w22 (fun k_ => (some k_ = ((Value.slice (some ⟨go8, 0, none⟩) l0.length c0)).ownBlock ∨ some k_ = (v).ownBlock) ∨ k_ = bo)) := ⟨HK.out.then_ x6' (fun k_ h_ => by rcases h_ with (h_ | h_) | h_; exact .inl (.inl (.inl h_)); (rcases HGR.out k_ h_.symm with g_ | g_; exact .inl (.inl (.inr g_)); exact .inr g_); exact .inl (.inr h_))⟩; have n0_ := Aside0.mk x3; have n1_ := Aside0.mk x2'; have n2_ := Aside0.mk x1; have n4_ := Aside0.mk x5; clear x1 x2' x3 x4 x5 x6' HO_0 HO_2 HBO HBS HB HK HGR HAPG HRW HC20; have HO_0 := n0_; have HO_2 := n1_; have HBO := n2_; have HBS := n3_; have HB := n4_; have HK := n5_; have HGR := n6_; clear n0_ n1_ n2_ n3_ n4_ n5_ n6_; obtain ⟨hx9, hf9⟩ := Kd.R_celln 0 HO_0.out x6 C2.out.1 C2.out.2; have hy9 : w22.cell? ⟨go8, x6.toNat, none⟩ = some (.int .i64 (rd t2 x6)) := hx9; have HP23 := Kd.R_putg HO_0.out x6 (wrap64 ((rd t2 x6) + 1))) | ((with_reducible refine gate_store (t := 3) (p := 47) rfl ?_); refine store_event (t := 3) (p := 47) (v := ?vo_2) (w1 := (w22.setCell ⟨go8, x6.toNat, none⟩ (.int .i64 (wrap64 ((rd t2 x6) + 1))))) ?hg ?ho ?hn ?hr ?_; (case ho => rfl); (case hg => rfl); (case hn => rfl); (case hr => first | (go_simp; done) | (go_simp; rfl)); intro w24 hw; have hap : some go8 ≠ v2.ownBlock := (fun e_ => by rcases HGR.out go8 e_.symm with h_ | h_; exact HP.out go8 rfl h_; (have := HU.out go8 rfl; omega)); have n0_ : Aside0 (Kd.R (Kd.int .i64) 3 w24 w0.heap.size (fun _ => True) (Value.slice (some ⟨go8, 0, none⟩) l0.length c0) y3) := ⟨by rw [hw, Y3.out]; exact HP23.1⟩; have n1_ : Aside0 (Kd.R (Kd.int .i64) 3 w24 w0.heap.size (fun _ => True) v2 t1) := ⟨impl_wordCounts_1__impl_InversionCount.t_kept HO_2.out (Kept.of_grown (S := fun k_ => k_ = go8) (by rw [hw]; exact HP23.2) (Kept.refl _ _) (fun k_ e_ => .inl (Option.some.inj e_).symm)) (fun k_ e_ h_ => hap (by rw [← show k_ = go8 from h_]; exact e_))⟩; have n2_ : Aside0 (w24.heap[bo]? = some (.cells #[v2] 22 (0, 0))) := ⟨by rw [hw]; exact blk_far HBO.out (p := ⟨go8, x6.toNat, none⟩) (fun e_ => HBG.out (by rw [show bo = go8 from e_]; rfl)) _⟩; have n3_ : Aside0 (w24.heap[bs]? = some (.cells #[(.func (.func 18) #[] #[])] 27 (0, 0))) := ⟨by rw [hw]; exact blk_far HBS.out (p := ⟨go8, x6.toNat, none⟩) (fun e_ => HSG.out (by rw [show bs = go8 from e_]; rfl)) _⟩; have n4_ : Aside0 (Below w0.heap.size w0 w24) := ⟨by rw [hw]; exact below_set HB.out GB.out⟩; have n5_ : Aside0 (Kept w w24 (fun k_ => (some k_ = ((Value.slice (some ⟨go8, 0, none⟩) l0.length c0)).ownBlock ∨ some k_ = (v).ownBlock) ∨ k_ = bo)) := ⟨Kept.of_grown (row := some go8) (by rw [hw]; exact HP23.2) HK.out (fun k_ e_ => .inl (.inl (.inl e_.symm)))⟩; clear hw HP23 HO_0 HO_2 HBO HBS HB HK hap; have HO_0 := n0_; have HO_2 := n1_; have HBO := n2_; have HBS := n3_; have HB := n4_; have HK := n5_; clear n0_ n1_ n2_ n3_ n4_ n5_))
                  go_roundg k1
                  case measure => have := HK1.out; omega
                  case rel => exact ⟨v2, y3, t1, wrap64 (x6 + 1), (by first | rfl | (simp; done) | (simp [*]; done)), H', ⟨by have := HK1.out; omega⟩, HBO, HBS, HO_0, HO_2, HGR, HK, HB⟩
                · rw [if_neg c5] at H; cases H
              · rw [if_neg c4] at H; cases H
            · rw [if_neg c3] at H
              have H' := Aside0.mk H
              clear H
              have c3b0 : decide (0 < (rd x0 x6)) = false := decide_eq_false c3
              have p8 := eq_true c2a
              have q8 := eq_true c1
              clear en_ c2b
              go_wp2
              go_roundg k1
              case measure => have := HK1.out; omega
              case rel => exact ⟨vq, x0, x2, wrap64 (x6 + 1), (by first | rfl | (simp; done) | (simp [*]; done)), H', ⟨by have := HK1.out; omega⟩, HBO, HBS, HO_0, HO_2, HGR, HK, HB⟩
          · rw [if_neg c2] at H; cases H
        · rw [if_neg c1] at H
          have c1b0 : decide (x6 < (l0.length : Int)) = false := decide_eq_false c1
          simp only [Option.some.injEq, Prod.mk.injEq] at H
          obtain ⟨rfl, rfl⟩ := H
          go_wp2
          refine bodyPost_end (results_none rfl _ _ _) rfl ?_
          exact ⟨rfl, vq, HBO.out, HO_2.out, HO_0.out, HGR.out, HB.out, HK.out⟩
def impl_wordCounts__impl_InversionCount.f (k : Nat) (l0 : List Int) : Option (List Int) := (impl_isWeight.f k l0).bind fun t => (if t = true then ((impl_sum.f k l0).bind fun s => (if s > 7 then some [] else (if l0.length < 17592186044416 then ((impl_eachWord__impl_InversionCount.f k l0 [] []).bind fun r => some r.1) else none))) else some [])
theorem impl_wordCounts__impl_InversionCount.mono : ∀ a0 k, LeO (impl_wordCounts__impl_InversionCount.f k a0) (impl_wordCounts__impl_InversionCount.f (k + 1) a0) := by
  intro a0 k
  unfold impl_wordCounts__impl_InversionCount.f
  repeat' first
    | exact impl_isWeight.mono _ _
    | exact impl_sum.mono _ _
    | exact impl_eachWord__impl_InversionCount.mono _ _ _ _
    | exact LeO.refl _
    | refine LeO.ite ?_ ?_
    | refine LeO.bind ?_ (fun _ => ?_)
set_option maxHeartbeats 8000000 in
set_option maxRecDepth 100000 in
theorem impl_wordCounts__impl_InversionCount.calls (k : Nat) (A0 : Option Addr) (c0 : Nat) (l0 : List Int) (r : List Int) (w : World) (hr0 : Kd.C (Kd.int .i64) w A0 l0.length l0) (hc0 : l0.length ≤ c0) (h : impl_wordCounts__impl_InversionCount.f k l0 = some r) :
    Calls Try.prog 16 #[.slice A0 l0.length c0, (.func (.func 18) #[] #[])] w fun e w' => ∃ v0_ : Value, e = .returned (v0_) ∧ Kd.R (Kd.int .i64) 3 w' w.heap.size (fun _ => True) v0_ r ∧ Below w.heap.size w w' := by
  obtain ⟨t, At, H⟩ := Option.bind_eq_some_iff.mp h
  have AT := Aside0.mk At
  have HR0 := Aside0.mk hr0
  have HC0 := Aside0.mk hc0
  have HB := Aside0.mk (Below.refl w.heap.size w)
  clear At hr0 hc0 h
  cases t with
  | false =>
    rw [if_neg Bool.false_ne_true] at H
    obtain rfl := Option.some.inj H
    go_enter Try.func16, Try.ntmps16
    go_wp2_with (first | ((with_reducible refine gate_dst (N := 3) rfl ?_); refine box_event ?hg (N := 3) ?hd (cs := #[(.func (.func 18) #[] #[])]) (t := 27) ?hr ?_; (case hd => rfl); (case hg => rfl); (case hr => first | (go_simp; done) | (go_simp; rfl)); intro bs hg w2 hbox hb; have HBS := Aside0.mk hbox; have n0_ := Aside0.mk (below_step HB.out hb); clear HB; have HB := n0_; clear n0_ hg hbox hb) | ((with_reducible refine gate_callee (f := 23) rfl ?_); refine goesL_ (some 7) rfl rfl Try.func23 (by kernel_rfl) rfl #[.slice A0 l0.length c0] rfl xm ?_; (with_reducible refine (impl_isWeight.calls k _ _ l0 false _ ?side1 ?side2 AT.out).mono ?_); (case side1 => exact Kd.C_below HR0.out HB.out); (case side2 => exact HC0.out); rintro e w' ⟨rfl, ⟨nd, rfl⟩⟩; refine ⟨_, rfl, ?_⟩))
    go_ret
    exact ⟨_, rfl, Kd.R_nil _ _ _ _ _, pw_below_drewN HB.out _⟩
  | true =>
    rw [if_pos rfl] at H
    obtain ⟨s, As, H⟩ := Option.bind_eq_some_iff.mp H
    have AS := Aside0.mk As
    clear As
    by_cases cs : s > 7
    · rw [if_pos cs] at H
      obtain rfl := Option.some.inj H
      have csb : decide (7 < s) = true := decide_eq_true cs
      go_enter Try.func16, Try.ntmps16
      go_wp2_with (first | ((with_reducible refine gate_dst (N := 3) rfl ?_); refine box_event ?hg (N := 3) ?hd (cs := #[(.func (.func 18) #[] #[])]) (t := 27) ?hr ?_; (case hd => rfl); (case hg => rfl); (case hr => first | (go_simp; done) | (go_simp; rfl)); intro bs hg w2 hbox hb; have HBS := Aside0.mk hbox; have n0_ := Aside0.mk (below_step HB.out hb); clear HB; have HB := n0_; clear n0_ hg hbox hb) | ((with_reducible refine gate_callee (f := 23) rfl ?_); refine goesL_ (some 7) rfl rfl Try.func23 (by kernel_rfl) rfl #[.slice A0 l0.length c0] rfl xm ?_; (with_reducible refine (impl_isWeight.calls k _ _ l0 true _ ?side1 ?side2 AT.out).mono ?_); (case side1 => exact Kd.C_below HR0.out HB.out); (case side2 => exact HC0.out); rintro e w' ⟨rfl, ⟨nd, rfl⟩⟩; refine ⟨_, rfl, ?_⟩) | (go_at_call 24; (with_reducible refine (impl_sum.calls k _ _ l0 s _ ?side1 ?side2 AS.out).mono ?_); (case side1 => exact Kd.C_drewN (Kd.C_below HR0.out HB.out) _); (case side2 => exact HC0.out); rintro e w' ⟨rfl, ⟨nd2, rfl⟩⟩))
      go_ret
      exact ⟨_, rfl, Kd.R_nil _ _ _ _ _, pw_below_drewN HB.out _⟩
    · rw [if_neg cs] at H
      have csb : decide (7 < s) = false := decide_eq_false cs
      by_cases cl : l0.length < 17592186044416
      · rw [if_pos cl] at H
        obtain ⟨⟨r1, r2⟩, Ae, H⟩ := Option.bind_eq_some_iff.mp H
        obtain rfl := Option.some.inj H
        have AE := Aside0.mk Ae
        have LM := Aside0.mk cl
        clear Ae cl H
        go_enter Try.func16, Try.ntmps16
        go_upto_region 3 with (first | ((with_reducible refine gate_dst (N := 3) rfl ?_); refine box_event ?hg (N := 3) ?hd (cs := #[(.func (.func 18) #[] #[])]) (t := 27) ?hr ?_; (case hd => rfl); (case hg => rfl); (case hr => first | (go_simp; done) | (go_simp; rfl)); intro bs hg w2 hbox hb; have HBS := Aside0.mk hbox; have n0_ := Aside0.mk (below_step HB.out hb); clear HB; have HB := n0_; clear n0_ hg hbox hb) | ((with_reducible refine gate_callee (f := 23) rfl ?_); refine goesL_ (some 7) rfl rfl Try.func23 (by kernel_rfl) rfl #[.slice A0 l0.length c0] rfl xm ?_; (with_reducible refine (impl_isWeight.calls k _ _ l0 true _ ?side1 ?side2 AT.out).mono ?_); (case side1 => exact Kd.C_below HR0.out HB.out); (case side2 => exact HC0.out); rintro e w' ⟨rfl, ⟨nd, rfl⟩⟩; refine ⟨_, rfl, ?_⟩) | (go_at_call 24; (with_reducible refine (impl_sum.calls k _ _ l0 s _ ?side1 ?side2 AS.out).mono ?_); (case side1 => exact Kd.C_drewN (Kd.C_below HR0.out HB.out) _); (case side2 => exact HC0.out); rintro e w' ⟨rfl, ⟨nd2, rfl⟩⟩))
        have n0_ := Aside0.mk (pw_below_drewN HB.out (nd + nd2))
        have n1_ := Aside0.mk (blk_drewN HBS.out (nd + nd2))
        have HRK : Aside0 (∀ W_, Below w.heap.size w W_ → Kd.C (Kd.int .i64) W_ A0 l0.length l0) := ⟨fun W_ hb_ => Kd.C_below HR0.out hb_⟩
        have n2_ := Aside0.mk (HRK.out _ n0_.out)
        clear HB HBS HR0
        generalize w2.drewN (nd + nd2) = w3 at n0_ n1_ n2_ ⊢
        have HB := n0_
        have HBS := n1_
        have HR0 := n2_
        clear n0_ n1_ n2_
        go_wp2_with (first | ((with_reducible refine gate_dst (N := 14) rfl ?_); refine Kd.R_lit (Kd.int .i64) (w0 := w3) w3.heap.size 3 ?hg (N := 14) ?hd (xs := ([] : List Int)) (inner := []) (ok := fun _ => True) (okp := fun _ => True) ?hr ?hp (fun _ hk => hk) trivial (Below.refl _ _) (Nat.le_refl _) (by simp) ?_; (case hd => rfl); (case hg => rfl); (case hr => first | (go_simp; done) | (go_simp; rfl)); (case hp => exact (Reps.none _ _)); intro v14 w5 ho hb hg_ hnew_; obtain ⟨A14, c14, e14⟩ := Kd.R_slice ho; subst e14; have n0_ := Aside0.mk (Kd.R_lower ho (below_size HB.out)); have n1_ := Aside0.mk (below_step HB.out hb); have n2_ := Aside0.mk (blk_below HBS.out hb); have n3_ := Aside0.mk (Kd.C_below HR0.out hb); clear ho hb hg_ hnew_ HB HBS HR0; have HO14 := n0_; have HB := n1_; have HBS := n2_; have HR0 := n3_; clear n0_ n1_ n2_ n3_) | ((with_reducible refine gate_dst (N := 5) rfl ?_); refine box_event ?hg (N := 5) ?hd (cs := #[.slice none 0 0]) (t := 22) ?hr ?_; (case hd => rfl); (case hg => rfl); (case hr => first | (go_simp; done) | (go_simp; rfl)); intro bo hg w6 hbox hb; have HG := Aside0.mk (by rw [hg]; exact below_size HB.out : w.heap.size ≤ bo); have n0_ := Aside0.mk (Kd.R_below HO14.out hb); have n1_ := Aside0.mk (below_step HB.out hb); have n2_ := Aside0.mk (blk_below HBS.out hb); have n3_ := Aside0.mk (Kd.C_below HR0.out hb); have HBO := Aside0.mk hbox; clear hg hbox hb HB HBS HR0 HO14; have HO14 := n0_; have HB := n1_; have HBS := n2_; have HR0 := n3_; clear n0_ n1_ n2_ n3_; have hcb : w6.cell? ⟨bo, 0, none⟩ = some (.slice none 0 0) := (blk_cell HBO.out 0).trans rfl; have hfb := blk_frozen HBO.out 0) | ((with_reducible refine gate_store (t := 22) (p := 5) rfl ?_); refine store_event (t := 22) (p := 5) (v := ?vo_3) (w1 := (w6.setCell ⟨bo, 0, none⟩ (.slice A14 ([] : List Int).length c14))) ?hg ?ho ?hn ?hr ?_; (case ho => rfl); (case hg => rfl); (case hn => rfl); (case hr => first | (go_simp; done) | (go_simp; rfl)); intro w7 hw; have hne := impl_wordCounts_1__impl_InversionCount.t_ne HO14.out HBO.out (by decide); have n0_ : Aside0 (Kd.R (Kd.int .i64) 3 w7 w.heap.size (fun _ => True) (.slice A14 ([] : List Int).length c14) ([] : List Int)) := ⟨by rw [hw]; exact Kd.R_mono (Kd.R_far (p := ⟨bo, 0, none⟩) (Kd.R_tight rfl HO14.out) (fun k_ hk e => hne (by rw [← show k_ = bo from e]; exact hk)) _) (fun _ _ => trivial)⟩; have n1_ : Aside0 (Below w.heap.size w w7) := ⟨by rw [hw]; exact below_set HB.out HG.out⟩; have n2_ : Aside0 (w7.heap[bs]? = some (.cells #[(.func (.func 18) #[] #[])] 27 (0, 0))) := ⟨by rw [hw]; exact blk_far HBS.out (p := ⟨bo, 0, none⟩) (blk_ne HBS.out HBO.out (by decide)) _⟩; have n4_ : Aside0 (w7.heap[bo]? = some (.cells #[.slice A14 ([] : List Int).length c14] 22 (0, 0))) := ⟨by rw [hw]; exact (blk_set HBO.out 0 _).trans rfl⟩; have n3_ := Aside0.mk (HRK.out w7 n1_.out); clear hw hne HO14 HB HBS HBO HR0 hcb hfb; have HO14 := n0_; have HB := n1_; have HBS := n2_; have HR0 := n3_; have HBO := n4_; clear n0_ n1_ n2_ n3_ n4_) | ((with_reducible refine gate_dst (N := 15) rfl ?_); refine Kd.R_lit (Kd.int .i64) (w0 := w7) w7.heap.size 3 ?hg (N := 15) ?hd (xs := ([] : List Int)) (inner := []) (ok := fun _ => True) (okp := fun _ => True) ?hr ?hp (fun _ hk => hk) trivial (Below.refl _ _) (Nat.le_refl _) (by simp) ?_; (case hd => rfl); (case hg => rfl); (case hr => first | (go_simp; done) | (go_simp; rfl)); (case hp => exact (Reps.none _ _)); intro v15 w8 ho hb hg_ hnew_; have HO15 := Aside0.mk ho; have HB8 := Aside0.mk hb; clear ho hb hg_ hnew_) | ((with_reducible refine gate_builtin (b := .append) (xs := #[.tmp 15, .tmp 16]) rfl ?_); at_builtin; refine Kd.R_append_rows (Kd.int .i64) (w0 := w7) w7.heap.size rfl (.tmp 15) (.tmp 16) 22 3 (.int .i64 0) 8 rfl Try.underlying22 info3 rfl (by decide) (by omega) v15 [] l0 _ _ _ (fun _ => True) (fun _ => False) rfl rfl ?aO ?aR (fun _ _ h => h) (fun _ h => h.elim) (fun _ _ => trivial) ?aB ?aS ?aL ?_; (case aO => exact HO15.out); (case aR => exact Kd.C_below HR0.out HB8.out); (case aB => exact HB8.out); (case aS => exact below_size HB8.out); (case aL => have := LM.out; simp only [List.length_nil]; omega); intro v17 w9 ho hb hg hat; rw [List.nil_append] at ho; have HO17 := Aside0.mk ho; have n0_ := Aside0.mk (Kd.R_below HO14.out hb); have n1_ := Aside0.mk (below_step HB.out hb); have n2_ := Aside0.mk (blk_below HBS.out hb); have n4_ := Aside0.mk (blk_below HBO.out hb); have HAP : Aside0 (∀ k_, some k_ = v17.ownBlock → some k_ ≠ (Value.slice A14 ([] : List Int).length c14).ownBlock) := ⟨fun k_ e_ h_ => Nat.lt_irrefl _ (Nat.lt_of_lt_of_le (Kd.R_lt HO14.out k_ h_.symm) (Kd.R_base ho k_ e_.symm))⟩; have HL7 := Aside0.mk (below_size HB.out); clear ho hb hg hat HO14 HB HBS HBO HB8 HO15; have HO14 := n0_; have HB := n1_; have HBS := n2_; have HBO := n4_; clear n0_ n1_ n2_ n4_) | (go_at_call 25; refine (impl_eachWord__impl_InversionCount.calls k bo bs v17 l0 none 0 ([] : List Int) (.slice A14 ([] : List Int).length c14) ([] : List Int) r1 r2 w _ HB.out HG.out HBO.out HBS.out (Kd.R_lower HO17.out HL7.out) HO14.out HAP.out (fun W_ _ => Kd.C_nil _ W_) (Nat.le_refl _) AE.out).mono ?_; rintro e w10 ⟨rfl, v', x1, x2, x3, x4, x5, x6⟩; have X1 := Aside0.mk x1; have X2 := Aside0.mk x2; have X5 := Aside0.mk x5; have hcv : w10.cell? ⟨bo, 0, none⟩ = some v' := (blk_cell x1 0).trans rfl; clear x1 x2 x3 x4 x5 x6))
        go_ret
        exact ⟨_, rfl, X2.out, X5.out⟩
      · rw [if_neg cl] at H; cases H


/-! ### impl_InversionCounts: function 12 -/
def impl_InversionCounts.f (k : Nat) (l0 : List Int) : Option (List Int) := (impl_wordCounts__impl_InversionCount.f k l0).bind fun t197 => (some t197)
theorem impl_InversionCounts.mono : ∀ a0 k, LeO (impl_InversionCounts.f k a0) (impl_InversionCounts.f (k + 1) a0) := by
  intro a0 k
  unfold impl_InversionCounts.f
  repeat' first
      | (with_reducible exact impl_wordCounts__impl_InversionCount.mono _ _)
      | (with_reducible exact LeO.refl _)
      | (with_reducible exact LeO.none _)
      | (with_reducible refine LeO.ite ?_ ?_)
      | (with_reducible refine LeO.bind ?_ (fun _ => ?_))
      | exact impl_wordCounts__impl_InversionCount.mono _ _
      | exact LeO.none _
      | refine LeO.ite ?_ ?_
      | refine LeO.bind ?_ (fun _ => ?_)
set_option maxHeartbeats 8000000 in
set_option maxRecDepth 100000 in
theorem impl_InversionCounts.calls (k : Nat) (A0 : Option Addr) (c0 : Nat) (l0 : List Int) (r : List Int) (w : World) (hr0 : Kd.C (Kd.int .i64) w A0 l0.length l0) (hc0 : l0.length ≤ c0) (h : impl_InversionCounts.f k l0 = some r) :
    Calls Try.prog 12 #[.slice A0 l0.length c0] w fun e w' => ∃ v0_ : Value, e = .returned (v0_) ∧ Kd.R (Kd.int .i64) 3 w' w.heap.size (fun _ => True) v0_ r ∧ Below w.heap.size w w' := by
  have HR0 := Aside0.mk hr0
  have HC0 := Aside0.mk hc0
  clear hr0 hc0
  have HB := Aside0.mk (Below.refl w.heap.size w)
  have H : ((impl_wordCounts__impl_InversionCount.f k l0).bind fun t197 => (some t197)) = some r := h
  clear h
  replace H := Option.bind_eq_some_iff.mp H
  obtain ⟨t197, A20, H⟩ := H
  replace H : (some t197) = some r := H
  have A2 := Aside0.mk A20
  clear A20
  obtain rfl := Option.some.inj H
  go_enter Try.func12, Try.ntmps12
  go_wp2_with (first | ((with_reducible refine gate_callee (f := 16) rfl ?_); refine goesL_ (some 4) rfl rfl Try.func16 (by kernel_rfl) rfl #[.slice A0 l0.length c0, .func (.func 18) #[] #[]] rfl xm ?_; (with_reducible refine (impl_wordCounts__impl_InversionCount.calls k _ _ l0  t197 _ ?side1 ?side2 A2.out).mono ?_); (case side1 => exact xc HR0.out); (case side2 => exact HC0.out); rintro e w3 ⟨v198, rfl, ho0, hb⟩; refine ⟨_, rfl, ?_⟩; have n0_ := Aside0.mk (Kd.R_lower ho0 (below_size (xb HB.out))); have n1_ := Aside0.mk (below_step (xb HB.out) hb); clear HB; have HO199 := n0_; have HB := n1_; clear n0_ n1_; (try clear hb); (try clear hb2); (try clear hk); (try clear hi); (try clear ho0)))
  go_ret
  exact ⟨_, by first | rfl | (simp [errW_none, errW_some] <;> rfl) | (simp [*, errW_none, errW_some] <;> rfl), by (with_reducible repeat (first | apply Kd.R_alloc | apply Kd.R_drewN | apply Kd.R_drew)); first | exact HO199.out | exact Kd.R_mono HO199.out xi, by repeat (first | (with_reducible first | exact HB.out | apply below_alloc | apply pw_below_drewN | apply below_drew1) | exact HB.out)⟩

end Go.Proofs.Ytfiafalnanaocaa.PFnExactInversionCounts
