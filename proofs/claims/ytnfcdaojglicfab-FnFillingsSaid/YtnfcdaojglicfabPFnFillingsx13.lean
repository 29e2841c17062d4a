import Derived.Test.YtnfcdaojglicfabPFnFillingsx7
import Derived.Test.YtnfcdaojglicfabPFnFillingsx12
namespace Go.Proofs.Ytnfcdaojglicfab.PFnFillings
open Go.RowKit Go.Proofs.YtnfcdaojglicfabW.PrintWords Go.Proofs.YtnfcdaojglicfabW.PrintLast Go.Proofs.YtnfcdaojglicfabW.PrintMore
set_option linter.unusedVariables false
set_option linter.unusedSimpArgs false
set_option maxHeartbeats 8000000
set_option maxRecDepth 100000
/-! ### impl_ReverseOfHooks: function 9 -/
mutual
def impl_ReverseOfHooks.j0 : Nat → List Int → List (List Int) → Bool → Option ((List (List Int)) × Bool)
 | 0, _, _, _ => none
 | k + 1, x0, x1, x18 => if x18 = true then (some (([] : List (List Int)), false)) else ((impl_zeros.f k x0).bind fun t434 => ((impl_at.f x0 0).bind fun t437 => (impl_ReverseOfHooks.l0 k x0 x1 t434 (wrap64 (t437 - 1)))))
def impl_ReverseOfHooks.l0 : Nat → List Int → List (List Int) → List (List Int) → Int → Option ((List (List Int)) × Bool)
 | 0, _, _, _, _ => none
 | k + 1, x0, x1, x7, x8 => if x8 ≥ 0 then ((impl_column.f k x0 x8).bind fun t439 => (impl_ReverseOfHooks.l1 k x0 x1 x7 x8 t439 0)) else ((impl_IsFilling.f k x0 x7).bind fun t438 => (if t438 = true then (some (x7, true)) else (some (([] : List (List Int)), false))))
def impl_ReverseOfHooks.l1 : Nat → List Int → List (List Int) → List (List Int) → Int → Int → Int → Option ((List (List Int)) × Bool)
 | 0, _, _, _, _, _, _ => none
 | k + 1, x0, x1, x7, x8, x30, x31 => if x31 < x30 then (if 0 ≤ x31 then (if x31 < (x1.length : Int) then (if 0 ≤ x8 then (if x8 < ((rd_L2 x1 x31).length : Int) then (impl_ReverseOfHooks.l2 k x0 x1 x7 x8 x31 x30 x31 (rd (rd_L2 x1 x31) x8) 0) else (none)) else (none)) else (none)) else (none)) else (impl_ReverseOfHooks.l0 k x0 x1 x7 (wrap64 (x8 - 1)))
def impl_ReverseOfHooks.l2 : Nat → List Int → List (List Int) → List (List Int) → Int → Int → Int → Int → Int → Int → Option ((List (List Int)) × Bool)
 | 0, _, _, _, _, _, _, _, _, _ => none
 | k + 1, x0, x1, x7, x8, x9, x30, x31, x40, x41 => if x41 < x40 then ((impl_raise.f k x0 x7 x9 x8).bind fun t442 => (impl_ReverseOfHooks.l2 k x0 x1 t442 x8 x9 x30 x31 x40 (wrap64 (x41 + 1)))) else (impl_ReverseOfHooks.l1 k x0 x1 x7 x8 x30 (wrap64 (x31 + 1)))
end
def impl_ReverseOfHooks.f (k : Nat) (l0 : List Int) (l1 : List (List Int)) : Option ((List (List Int)) × Bool) := (impl_HookWeight.f k l0 l1).bind fun t433 => (if t433 < 0 then (impl_ReverseOfHooks.j0 k l0 l1 true) else (impl_ReverseOfHooks.j0 k l0 l1 (decide (t433 > 20))))
theorem impl_ReverseOfHooks.mono_l : ∀ k, (∀ y0 y1 y2, LeO (impl_ReverseOfHooks.j0 k y0 y1 y2) (impl_ReverseOfHooks.j0 (k + 1) y0 y1 y2)) ∧ (∀ y0 y1 y2 y3, LeO (impl_ReverseOfHooks.l0 k y0 y1 y2 y3) (impl_ReverseOfHooks.l0 (k + 1) y0 y1 y2 y3)) ∧ (∀ y0 y1 y2 y3 y4 y5, LeO (impl_ReverseOfHooks.l1 k y0 y1 y2 y3 y4 y5) (impl_ReverseOfHooks.l1 (k + 1) y0 y1 y2 y3 y4 y5)) ∧ (∀ y0 y1 y2 y3 y4 y5 y6 y7 y8, LeO (impl_ReverseOfHooks.l2 k y0 y1 y2 y3 y4 y5 y6 y7 y8) (impl_ReverseOfHooks.l2 (k + 1) y0 y1 y2 y3 y4 y5 y6 y7 y8))
 | 0 => ⟨fun _ _ _ r h => by simp [impl_ReverseOfHooks.j0] at h, fun _ _ _ _ r h => by simp [impl_ReverseOfHooks.l0] at h, fun _ _ _ _ _ _ r h => by simp [impl_ReverseOfHooks.l1] at h, fun _ _ _ _ _ _ _ _ _ r h => by simp [impl_ReverseOfHooks.l2] at h⟩
 | k + 1 => by
  obtain ⟨ih0, ih1, ih2, ih3⟩ := impl_ReverseOfHooks.mono_l k
  refine ⟨?_, ?_, ?_, ?_⟩
  ·intro y0 y1 y2
   unfold impl_ReverseOfHooks.j0
   repeat' with_reducible first | exact ih0 _ _ _ | exact ih1 _ _ _ _ | exact ih2 _ _ _ _ _ _ | exact ih3 _ _ _ _ _ _ _ _ _ | exact impl_HookWeight.mono _ _ _ | exact impl_IsFilling.mono _ _ _ | exact impl_column.mono _ _ _ | exact impl_raise.mono _ _ _ _ _ | exact impl_zeros.mono _ _ | exact xl | refine LeO.ite ?_ ?_ | refine LeO.bind ?_ fun _ => ?_
  ·intro y0 y1 y2 y3
   unfold impl_ReverseOfHooks.l0
   repeat' with_reducible first | exact ih0 _ _ _ | exact ih1 _ _ _ _ | exact ih2 _ _ _ _ _ _ | exact ih3 _ _ _ _ _ _ _ _ _ | exact impl_HookWeight.mono _ _ _ | exact impl_IsFilling.mono _ _ _ | exact impl_column.mono _ _ _ | exact impl_raise.mono _ _ _ _ _ | exact impl_zeros.mono _ _ | exact xl | refine LeO.ite ?_ ?_ | refine LeO.bind ?_ fun _ => ?_
  ·intro y0 y1 y2 y3 y4 y5
   unfold impl_ReverseOfHooks.l1
   repeat' with_reducible first | exact ih0 _ _ _ | exact ih1 _ _ _ _ | exact ih2 _ _ _ _ _ _ | exact ih3 _ _ _ _ _ _ _ _ _ | exact impl_HookWeight.mono _ _ _ | exact impl_IsFilling.mono _ _ _ | exact impl_column.mono _ _ _ | exact impl_raise.mono _ _ _ _ _ | exact impl_zeros.mono _ _ | exact xl | refine LeO.ite ?_ ?_ | refine LeO.bind ?_ fun _ => ?_
  ·intro y0 y1 y2 y3 y4 y5 y6 y7 y8
   unfold impl_ReverseOfHooks.l2
   repeat' with_reducible first | exact ih0 _ _ _ | exact ih1 _ _ _ _ | exact ih2 _ _ _ _ _ _ | exact ih3 _ _ _ _ _ _ _ _ _ | exact impl_HookWeight.mono _ _ _ | exact impl_IsFilling.mono _ _ _ | exact impl_column.mono _ _ _ | exact impl_raise.mono _ _ _ _ _ | exact impl_zeros.mono _ _ | exact xl | refine LeO.ite ?_ ?_ | refine LeO.bind ?_ fun _ => ?_
theorem impl_ReverseOfHooks.mono : ∀ a0 a1 k, LeO (impl_ReverseOfHooks.f k a0 a1) (impl_ReverseOfHooks.f (k + 1) a0 a1) := by
 intro a0 a1 k
 obtain ⟨ih0, ih1, ih2, ih3⟩ := impl_ReverseOfHooks.mono_l k
 unfold impl_ReverseOfHooks.f
 repeat' with_reducible first | exact ih0 _ _ _ | exact ih1 _ _ _ _ | exact ih2 _ _ _ _ _ _ | exact ih3 _ _ _ _ _ _ _ _ _ | exact impl_HookWeight.mono _ _ _ | exact impl_IsFilling.mono _ _ _ | exact impl_column.mono _ _ _ | exact impl_raise.mono _ _ _ _ _ | exact impl_zeros.mono _ _ | exact xl | refine LeO.ite ?_ ?_ | refine LeO.bind ?_ fun _ => ?_
theorem impl_ReverseOfHooks.calls (k : Nat) (A0 : Option Addr) (c0 : Nat) (l0 : List Int) (A1 : Option Addr) (c1 : Nat) (l1 : List (List Int)) (r1 : List (List Int)) (r2 : Bool) (w : World) (hr0 : Kd.C (Kd.int .i64) w A0 l0.length l0) (hc0 : l0.length ≤ c0) (hr1 : Kd.C (Kd.slice 3 (Kd.int .i64)) w A1 l1.length l1) (hc1 : l1.length ≤ c1) (h : impl_ReverseOfHooks.f k l0 l1 = some (r1, r2)) :
  Calls Try.prog 9 #[.slice A0 l0.length c0, .slice A1 l1.length c1] w fun e w' => ∃ v0_ : Value, e = .returned (.tuple #[v0_, .bool r2]) ∧ Kd.S (Kd.slice 3 (Kd.int .i64)) 24 w' w.heap.size (fun _ => True) v0_ r1 ∧ Below w.heap.size w w' := by
 have HR0 := ax hr0
 have HC0 := ax hc0
 clear hr0 hc0
 have HR1 := ax hr1
 have HC1 := ax hc1
 clear hr1 hc1
 have HB := ax (Below.refl w.heap.size w)
 have H : ((impl_HookWeight.f k l0 l1).bind fun t433 => (if t433 < 0 then (impl_ReverseOfHooks.j0 k l0 l1 true) else (impl_ReverseOfHooks.j0 k l0 l1 (decide (t433 > 20))))) = some (r1, r2) := h
 clear h
 obtain ⟨t433, A3, H⟩ := xI H
 have HC4 := ax H
 clear H
 go_enter Try.func9, Try.ntmps9
 go_upto_region 2 with (first | ((with_reducible refine gate_callee (f := 18) rfl ?_); refine goesL_ (some 12) rfl rfl Try.func18 (by kernel_rfl) rfl #[.slice A0 l0.length c0, .slice A1 l1.length c1] rfl xm ?_; (with_reducible refine (impl_HookWeight.calls k _ _ l0 _ _ l1 t433 _ ?side1 ?side2 ?side3 ?side4 A3.out).mono ?_); (case side1 => exact xc HR0.out); (case side2 => exact HC0.out); (case side3 => exact xc HR1.out); (case side4 => exact HC1.out); rintro e w' ⟨rfl, ⟨nd, rfl⟩⟩; refine ⟨_, rfl, ?_⟩))
 (try simp only [Act.put, List.setIfInBounds_toArray, List.set_cons_zero, List.set_cons_succ])
 go_cut [18] (fun v18 wc => ∃ (kq : Nat) (x18_3 : Bool), v18 = .bool x18_3 ∧ Aside0 (impl_ReverseOfHooks.j0 kq l0 l1 x18_3 = some (r1, r2)) ∧ Aside0 (kq ≤ k) ∧ Aside0 (Below w.heap.size w wc))
 case first =>
  have H := HC4.out
  clear HC4
  by_cases c5 : t433 < 0
  ·rw [if_pos c5] at H
   have c5b0 := decide_eq_true c5
   clear c5
   (first | rw [c5b0] | (simp only [i64_w, i32_w]; rw [c5b0]) | skip)
   have H' := ax H
   clear H
   go_wp2
   go_meet
   case rel => exact ⟨_, (true), xr, H', ⟨by first | omega | exact Nat.le_refl _⟩, ⟨xb HB.out⟩⟩
  ·rw [if_neg c5] at H
   have c5b0 := decide_eq_false c5
   clear c5
   (first | rw [c5b0] | (simp only [i64_w, i32_w]; rw [c5b0]) | skip)
   have H' := ax H
   clear H
   go_wp2
   go_meet
   case rel => exact ⟨_, (decide (t433 > 20)), xr, H', ⟨by first | omega | exact Nat.le_refl _⟩, ⟨xb HB.out⟩⟩
 case rest =>
  clear HC4
  (try clear c1); (try clear c5); (try clear c5b0)
  obtain ⟨kq, x18_3, rfl, HA, HJ3, HB⟩ := hcut
  cases kq with
  | zero => exact absurd HA.out (by simp [impl_ReverseOfHooks.j0])
  | succ kj3 =>
   have H := HA.out
   clear HA
   simp only [impl_ReverseOfHooks.j0] at H
   by_cases c6 : x18_3 = true
   ·subst c6
    rw [if_pos rfl] at H
    simp only [Option.some.injEq, Prod.mk.injEq] at H
    obtain ⟨rfl, rfl⟩ := H
    go_wp2
    go_ret2
    exact ⟨_, xe, by first | exact Kd.S_nil _ _ _ _ _ | exact Kd.N_nil _ _ _ _ _ | exact Kd.V_nil _ _ _ _ _ | exact Kd.Q_nil _ _ _ _ _ | exact Kd.R_nil _ _ _ _ _, xb HB.out⟩
   ·replace c6 := Bool.eq_false_iff.mpr c6
    subst c6
    rw [if_neg (show ¬ (false = true) by decide)] at H
    obtain ⟨t434, A7, H⟩ := xI H
    obtain ⟨t437, A8, H⟩ := xI H
    have H' := ax H
    clear H
    go_wp2_with (first | ((with_reducible refine gate_callee (f := 24) rfl ?_); refine goesL_ (some 20) rfl rfl Try.func24 (by kernel_rfl) rfl #[.slice A0 l0.length c0] rfl xm ?_; (with_reducible refine (impl_zeros.calls kj3 _ _ l0 t434 _ ?side1 ?side2 A7.out).mono ?_); (case side1 => exact xz HR0.out HB.out); (case side2 => exact HC0.out); rintro e w9 ⟨v435, rfl, ho0, hb⟩; refine ⟨_, rfl, ?_⟩; have HO436 := ax (Kd.S_lower ho0 (below_size (xb HB.out))); replace HB := yB HB hb; (try clear hb); (try clear ho0)) | ((with_reducible refine gate_callee (f := 31) rfl ?_); refine goesL_ (some 22) rfl rfl Try.func31 (by kernel_rfl) rfl #[.slice A0 l0.length c0, .int .i64 0] rfl xm ?_; (with_reducible refine (impl_at.calls _ _ l0 0 t437 _ ?side1 ?side2 A8.out).mono ?_); (case side1 => exact xz HR0.out HB.out); (case side2 => exact HC0.out); rintro e w' ⟨rfl, ⟨nd, rfl⟩⟩; refine ⟨_, rfl, ?_⟩))
    go_loopg [8] kj3 (fun kq v8 w' => ∃ (x7_2 : List (List Int)) (x8_2 : Int), v8 = .int .i64 x8_2 ∧ Aside0 (impl_ReverseOfHooks.l0 kq l0 l1 x7_2 x8_2 = some (r1, r2)) ∧ Aside0 (kq ≤ kj3) ∧ Aside0 (Kd.S (Kd.slice 3 (Kd.int .i64)) 24 w' w.heap.size (fun _ => True) v435 x7_2) ∧ Aside0 (Below w.heap.size w w'))
    case atStart => exact ⟨(t434), (wrap64 (t437 - 1)), xr, H', ⟨Nat.le_refl _⟩, ⟨xS HO436.out⟩, ⟨xb HB.out⟩⟩
    case round =>
     clear H'
     (try clear c1); (try clear c5); (try clear c5b0); (try clear c6)
     obtain ⟨x7_2, x8_2, rfl, HA, HK2, HO_7, HB⟩ := hrel
     cases gk with
     | zero => exact absurd HA.out (by simp [impl_ReverseOfHooks.l0])
     | succ k2 =>
      have H := HA.out
      clear HA
      simp only [impl_ReverseOfHooks.l0] at H
      by_cases c10 : x8_2 ≥ 0
      ·rw [if_pos c10] at H
       have c10b0 : decide (0 ≤ x8_2) = true := decide_eq_true c10
       clear c10
       obtain ⟨t439, A11, H⟩ := xI H
       have H' := ax H
       clear H
       go_wp2_with (first | ((with_reducible refine gate_callee (f := 26) rfl ?_); refine goesL_ (some 30) rfl rfl Try.func26 (by kernel_rfl) rfl #[.slice A0 l0.length c0, .int .i64 x8_2] rfl xm ?_; (with_reducible refine (impl_column.calls k2 _ _ l0 x8_2 t439 _ ?side1 ?side2 A11.out).mono ?_); (case side1 => exact xz HR0.out HB.out); (case side2 => exact HC0.out); rintro e w' ⟨rfl, ⟨nd, rfl⟩⟩; refine ⟨_, rfl, ?_⟩))
       go_loopg [31] k2 (fun kq v31 w' => ∃ (x7_3 : List (List Int)) (x31_3 : Int), v31 = .int .i64 x31_3 ∧ Aside0 (impl_ReverseOfHooks.l1 kq l0 l1 x7_3 x8_2 t439 x31_3 = some (r1, r2)) ∧ Aside0 (kq ≤ k2) ∧ Aside0 (Kd.S (Kd.slice 3 (Kd.int .i64)) 24 w' w.heap.size (fun _ => True) v435 x7_3) ∧ Aside0 (Below w.heap.size w w'))
       case atStart => exact ⟨(x7_2), (0), xr, H', ⟨Nat.le_refl _⟩, ⟨xS HO_7.out⟩, ⟨xb HB.out⟩⟩
       case round =>
        clear H'
        (try clear c1); (try clear c5); (try clear c5b0); (try clear c6); (try clear c10); (try clear c10b0)
        obtain ⟨x7_3, x31_3, rfl, HA, HK3, HO_7, HB⟩ := hrel
        cases gk with
        | zero => exact absurd HA.out (by simp [impl_ReverseOfHooks.l1])
        | succ k3 =>
         have H := HA.out
         clear HA
         simp only [impl_ReverseOfHooks.l1] at H
         by_cases c12 : x31_3 < t439
         ·rw [if_pos c12] at H
          have c12b0 := decide_eq_true c12
          clear c12
          obtain ⟨c13b0, H⟩ := xq H
          obtain ⟨c14b0, H⟩ := xq H
          obtain ⟨c15b0, H⟩ := xq H
          obtain ⟨c16b0, H⟩ := xq H
          have H' := ax H
          clear H
          have p440 : 0 ≤ (x31_3 : Int) := xd
          have q440 : x31_3 < (l1.length : Int) := xd
          obtain ⟨ad440, A440_0, c440_0, e440, hx440_0, hl440_0, hi440_0⟩ := at_L2 HR1.out x31_3 p440 q440
          cases e440
          (try replace hx440_0 := (HB.out.cell (World.block_lt_of_cell? w _ hx440_0)).trans hx440_0)
          have HR440_0 := ax hi440_0
          have HC440_0 := ax hl440_0
          clear hi440_0 hl440_0
          replace p440 := eq_true p440
          replace q440 := eq_true q440
          have p441 : 0 ≤ (x8_2 : Int) := xd
          have q441 : x8_2 < ((rd_L2 l1 x31_3).length : Int) := xd
          obtain ⟨ad441, e441, hx441_0⟩ := Kd.at_int HR440_0.out x8_2 p441 q441
          cases e441
          (try replace hx441_0 := (HB.out.cell (World.block_lt_of_cell? w _ hx441_0)).trans hx441_0)
          replace p441 := eq_true p441
          replace q441 := eq_true q441
          go_wp2
          go_loopg [41] k3 (fun kq v41 w' => ∃ (x7_4 : List (List Int)) (x41_4 : Int), v41 = .int .i64 x41_4 ∧ Aside0 (impl_ReverseOfHooks.l2 kq l0 l1 x7_4 x8_2 x31_3 t439 x31_3 (rd (rd_L2 l1 x31_3) x8_2) x41_4 = some (r1, r2)) ∧ Aside0 (kq ≤ k3) ∧ Aside0 (Kd.S (Kd.slice 3 (Kd.int .i64)) 24 w' w.heap.size (fun _ => True) v435 x7_4) ∧ Aside0 (Below w.heap.size w w'))
          case atStart => exact ⟨(x7_3), (0), xr, H', ⟨Nat.le_refl _⟩, ⟨xS HO_7.out⟩, ⟨xb HB.out⟩⟩
          case round =>
           clear H'
           (try clear c1); (try clear c5); (try clear c5b0); (try clear c6); (try clear c10); (try clear c10b0); (try clear c12); (try clear c12b0); (try clear c13); (try clear c13b0); (try clear c14); (try clear c14b0); (try clear c15); (try clear c15b0); (try clear c16); (try clear c16b0); (try clear hx440_0); (try clear hx441_0); (try clear p440); (try clear p441); (try clear q440); (try clear q441)
           obtain ⟨x7_4, x41_4, rfl, HA, HK4, HO_7, HB⟩ := hrel
           cases gk with
           | zero => exact absurd HA.out (by simp [impl_ReverseOfHooks.l2])
           | succ k4 =>
            have H := HA.out
            clear HA
            simp only [impl_ReverseOfHooks.l2] at H
            by_cases c17 : x41_4 < (rd (rd_L2 l1 x31_3) x8_2)
            ·rw [if_pos c17] at H
             have c17b0 := decide_eq_true c17
             clear c17
             obtain ⟨t442, A18, H⟩ := xI H
             have H' := ax H
             clear H
             obtain ⟨Ao19, co19, eo19⟩ := Kd.S_slice HO_7.out
             subst eo19
             go_wp2_with (first | ((with_reducible refine gate_callee (f := 32) rfl ?_); refine goesL_ (some 47) rfl rfl Try.func32 (by kernel_rfl) rfl #[.slice A0 l0.length c0, .slice Ao19 x7_4.length co19, .int .i64 x31_3, .int .i64 x8_2] rfl xm ?_; (with_reducible refine (impl_raise.calls k4 _ _ l0 (.slice Ao19 x7_4.length co19) x7_4 x31_3 x8_2 t442 w _ ?side1 ?side2 ?side3 ?side4 A18.out).mono ?_); (case side1 => exact xb HB.out); (case side2 => exact HR0.out); (case side3 => exact HC0.out); (case side4 => first | exact HO_7.out | ((with_reducible repeat (first | apply Kd.S_alloc | apply Kd.S_drewN | apply Kd.S_drew)); exact HO_7.out)); rintro e w20 ⟨rfl, hy0, hb⟩; refine ⟨_, rfl, ?_⟩; replace HO_7 := ax (hy0); replace HB := ax (hb); (try clear hb); (try clear hkp); (try clear hy0)))
             go_roundg k4
             case measure => have := HJ3.out; have := HK2.out; have := HK3.out; have := HK4.out; omega
             case rel => exact ⟨(t442), (wrap64 (x41_4 + 1)), xr, H', ⟨by have := HJ3.out; have := HK2.out; have := HK3.out; have := HK4.out; omega⟩, ⟨xS HO_7.out⟩, ⟨xb HB.out⟩⟩
            ·rw [if_neg c17] at H
             have c17b0 := decide_eq_false c17
             clear c17
             have H' := ax H
             clear H
             go_wp2
             go_roundg k4
             case measure => have := HJ3.out; have := HK2.out; have := HK3.out; have := HK4.out; omega
             case rel => exact ⟨(x7_4), (wrap64 (x31_3 + 1)), xr, H', ⟨by have := HJ3.out; have := HK2.out; have := HK3.out; have := HK4.out; omega⟩, ⟨xS HO_7.out⟩, ⟨xb HB.out⟩⟩
         ·rw [if_neg c12] at H
          have c12b0 := decide_eq_false c12
          clear c12
          have H' := ax H
          clear H
          go_wp2
          go_roundg k3
          case measure => have := HJ3.out; have := HK2.out; have := HK3.out; omega
          case rel => exact ⟨(x7_3), (wrap64 (x8_2 - 1)), xr, H', ⟨by have := HJ3.out; have := HK2.out; have := HK3.out; omega⟩, ⟨xS HO_7.out⟩, ⟨xb HB.out⟩⟩
      ·rw [if_neg c10] at H
       have c10b0 : decide (0 ≤ x8_2) = false := decide_eq_false c10
       clear c10
       obtain ⟨t438, A21, H⟩ := xI H
       by_cases c22 : t438 = true
       ·subst c22
        rw [if_pos rfl] at H
        simp only [Option.some.injEq, Prod.mk.injEq] at H
        obtain ⟨rfl, rfl⟩ := H
        obtain ⟨Ao23, co23, eo23⟩ := Kd.S_slice HO_7.out
        subst eo23
        go_wp2_with (first | ((with_reducible refine gate_callee (f := 16) rfl ?_); refine goesL_ (some 52) rfl rfl Try.func16 (by kernel_rfl) rfl #[.slice A0 l0.length c0, .slice Ao23 x7_2.length co23] rfl xm ?_; (with_reducible refine (impl_IsFilling.calls k2 _ _ l0 _ _ x7_2 true _ ?side1 ?side2 ?side3 ?side4 A21.out).mono ?_); (case side1 => exact xz HR0.out HB.out); (case side2 => exact HC0.out); (case side3 => exact xc (Kd.S_reads' HO_7.out).2.2); (case side4 => exact (Kd.S_reads' HO_7.out).2.1); rintro e w' ⟨rfl, ⟨nd, rfl⟩⟩; refine ⟨_, rfl, ?_⟩))
        go_ret2
        exact ⟨_, xe, xS HO_7.out, xb HB.out⟩
       ·replace c22 := Bool.eq_false_iff.mpr c22
        subst c22
        rw [if_neg (show ¬ (false = true) by decide)] at H
        simp only [Option.some.injEq, Prod.mk.injEq] at H
        obtain ⟨rfl, rfl⟩ := H
        obtain ⟨Ao24, co24, eo24⟩ := Kd.S_slice HO_7.out
        subst eo24
        go_wp2_with (first | ((with_reducible refine gate_callee (f := 16) rfl ?_); refine goesL_ (some 52) rfl rfl Try.func16 (by kernel_rfl) rfl #[.slice A0 l0.length c0, .slice Ao24 x7_2.length co24] rfl xm ?_; (with_reducible refine (impl_IsFilling.calls k2 _ _ l0 _ _ x7_2 false _ ?side1 ?side2 ?side3 ?side4 A21.out).mono ?_); (case side1 => exact xz HR0.out HB.out); (case side2 => exact HC0.out); (case side3 => exact xc (Kd.S_reads' HO_7.out).2.2); (case side4 => exact (Kd.S_reads' HO_7.out).2.1); rintro e w' ⟨rfl, ⟨nd, rfl⟩⟩; refine ⟨_, rfl, ?_⟩))
        go_ret2
        exact ⟨_, xe, by first | exact Kd.S_nil _ _ _ _ _ | exact Kd.N_nil _ _ _ _ _ | exact Kd.V_nil _ _ _ _ _ | exact Kd.Q_nil _ _ _ _ _ | exact Kd.R_nil _ _ _ _ _, xb HB.out⟩

/-! ### spec_l3Cell: function 55 -/
def spec_l3Cell.f (k : Nat) (l0 : List Int) (a1 : Int) (a2 : Int) : Option (Bool) := (spec_IsPartition.f k l0).bind fun t443 => (if t443 = true then (if a1 ≥ 0 then (if a1 < (l0.length : Int) then (if a2 ≥ 0 then (if 0 ≤ a1 then (some (decide (a2 < (rd l0 a1)))) else (none)) else (some false)) else (some false)) else (some false)) else (some false))
theorem spec_l3Cell.mono : ∀ a0 a1 a2 k, LeO (spec_l3Cell.f k a0 a1 a2) (spec_l3Cell.f (k + 1) a0 a1 a2) := by
 intro a0 a1 a2 k
 unfold spec_l3Cell.f
 repeat' with_reducible first | exact spec_IsPartition.mono _ _ | exact xl | refine LeO.ite ?_ ?_ | refine LeO.bind ?_ fun _ => ?_
theorem spec_l3Cell.calls (k : Nat) (A0 : Option Addr) (c0 : Nat) (l0 : List Int) (a1 : Int) (a2 : Int) (r : Bool) (w : World) (hr0 : Kd.C (Kd.int .i64) w A0 l0.length l0) (hc0 : l0.length ≤ c0) (h : spec_l3Cell.f k l0 a1 a2 = some r) :
  Calls Try.prog 55 #[.slice A0 l0.length c0, .int .i64 a1, .int .i64 a2] w fun e w' => e = .returned (.bool r) ∧ Below w.heap.size w w' := by
 have HR0 := ax hr0
 have HC0 := ax hc0
 clear hr0 hc0
 have HB := ax (Below.refl w.heap.size w)
 have H : ((spec_IsPartition.f k l0).bind fun t443 => (if t443 = true then (if a1 ≥ 0 then (if a1 < (l0.length : Int) then (if a2 ≥ 0 then (if 0 ≤ a1 then (some (decide (a2 < (rd l0 a1)))) else (none)) else (some false)) else (some false)) else (some false)) else (some false))) = some r := h
 clear h
 obtain ⟨t443, A4, H⟩ := xI H
 by_cases c5 : t443 = true
 ·subst c5
  rw [if_pos rfl] at H
  by_cases c6 : a1 ≥ 0
  ·rw [if_pos c6] at H
   have c6b0 : decide (0 ≤ a1) = true := decide_eq_true c6
   clear c6
   by_cases c7 : a1 < (l0.length : Int)
   ·rw [if_pos c7] at H
    have c7b0 := decide_eq_true c7
    clear c7
    by_cases c8 : a2 ≥ 0
    ·rw [if_pos c8] at H
     have c8b0 : decide (0 ≤ a2) = true := decide_eq_true c8
     clear c8
     obtain ⟨c9b0, H⟩ := xq H
     obtain rfl := Option.some.inj H
     go_enter Try.func55, Try.ntmps55
     go_wp2_with (first | ((with_reducible refine gate_callee (f := 40) rfl ?_); refine goesL_ (some 8) rfl rfl Try.func40 (by kernel_rfl) rfl #[.slice A0 l0.length c0] rfl xm ?_; (with_reducible refine (spec_IsPartition.calls k _ _ l0 true _ ?side1 ?side2 A4.out).mono ?_); (case side1 => exact xc HR0.out); (case side2 => exact HC0.out); rintro e w10 ⟨rfl, hb⟩; refine ⟨_, rfl, ?_⟩; replace HB := yB HB hb; (try clear hb); have p444 : 0 ≤ (a1 : Int) := xd; have q444 : a1 < (l0.length : Int) := xd; obtain ⟨ad444, e444, hx444_0⟩ := Kd.at_int HR0.out a1 p444 q444; cases e444; replace hx444_0 := (HB.out.cell (World.block_lt_of_cell? w _ hx444_0)).trans hx444_0; replace p444 := eq_true p444; replace q444 := eq_true q444))
     go_ret
     exact ⟨xe, xb HB.out⟩
    ·rw [if_neg c8] at H
     have c8b0 : decide (0 ≤ a2) = false := decide_eq_false c8
     clear c8
     obtain rfl := Option.some.inj H
     go_enter Try.func55, Try.ntmps55
     go_wp2_with (first | ((with_reducible refine gate_callee (f := 40) rfl ?_); refine goesL_ (some 8) rfl rfl Try.func40 (by kernel_rfl) rfl #[.slice A0 l0.length c0] rfl xm ?_; (with_reducible refine (spec_IsPartition.calls k _ _ l0 true _ ?side1 ?side2 A4.out).mono ?_); (case side1 => exact xc HR0.out); (case side2 => exact HC0.out); rintro e w11 ⟨rfl, hb⟩; refine ⟨_, rfl, ?_⟩; replace HB := yB HB hb; (try clear hb)))
     go_ret
     exact ⟨xe, xb HB.out⟩
   ·rw [if_neg c7] at H
    have c7b0 := decide_eq_false c7
    clear c7
    obtain rfl := Option.some.inj H
    go_enter Try.func55, Try.ntmps55
    go_wp2_with (first | ((with_reducible refine gate_callee (f := 40) rfl ?_); refine goesL_ (some 8) rfl rfl Try.func40 (by kernel_rfl) rfl #[.slice A0 l0.length c0] rfl xm ?_; (with_reducible refine (spec_IsPartition.calls k _ _ l0 true _ ?side1 ?side2 A4.out).mono ?_); (case side1 => exact xc HR0.out); (case side2 => exact HC0.out); rintro e w12 ⟨rfl, hb⟩; refine ⟨_, rfl, ?_⟩; replace HB := yB HB hb; (try clear hb)))
    go_ret
    exact ⟨xe, xb HB.out⟩
  ·rw [if_neg c6] at H
   have c6b0 : decide (0 ≤ a1) = false := decide_eq_false c6
   clear c6
   obtain rfl := Option.some.inj H
   go_enter Try.func55, Try.ntmps55
   go_wp2_with (first | ((with_reducible refine gate_callee (f := 40) rfl ?_); refine goesL_ (some 8) rfl rfl Try.func40 (by kernel_rfl) rfl #[.slice A0 l0.length c0] rfl xm ?_; (with_reducible refine (spec_IsPartition.calls k _ _ l0 true _ ?side1 ?side2 A4.out).mono ?_); (case side1 => exact xc HR0.out); (case side2 => exact HC0.out); rintro e w13 ⟨rfl, hb⟩; refine ⟨_, rfl, ?_⟩; replace HB := yB HB hb; (try clear hb)))
   go_ret
   exact ⟨xe, xb HB.out⟩
 ·replace c5 := Bool.eq_false_iff.mpr c5
  subst c5
  rw [if_neg (show ¬ (false = true) by decide)] at H
  obtain rfl := Option.some.inj H
  go_enter Try.func55, Try.ntmps55
  go_wp2_with (first | ((with_reducible refine gate_callee (f := 40) rfl ?_); refine goesL_ (some 8) rfl rfl Try.func40 (by kernel_rfl) rfl #[.slice A0 l0.length c0] rfl xm ?_; (with_reducible refine (spec_IsPartition.calls k _ _ l0 false _ ?side1 ?side2 A4.out).mono ?_); (case side1 => exact xc HR0.out); (case side2 => exact HC0.out); rintro e w14 ⟨rfl, hb⟩; refine ⟨_, rfl, ?_⟩; replace HB := yB HB hb; (try clear hb)))
  go_ret
  exact ⟨xe, xb HB.out⟩

/-! ### spec_ArmOf: function 56 -/
def spec_ArmOf.f (k : Nat) (l0 : List Int) (a1 : Int) (a2 : Int) : Option (Int) := (spec_l3Cell.f k l0 a1 a2).bind fun t445 => (if t445 = true then (if 0 ≤ a1 then (if a1 < (l0.length : Int) then (some (wrap64 ((wrap64 ((rd l0 a1) - a2)) - 1))) else (none)) else (none)) else (some (-1)))
theorem spec_ArmOf.mono : ∀ a0 a1 a2 k, LeO (spec_ArmOf.f k a0 a1 a2) (spec_ArmOf.f (k + 1) a0 a1 a2) := by
 intro a0 a1 a2 k
 unfold spec_ArmOf.f
 repeat' with_reducible first | exact spec_l3Cell.mono _ _ _ _ | exact xl | refine LeO.ite ?_ ?_ | refine LeO.bind ?_ fun _ => ?_
theorem spec_ArmOf.calls (k : Nat) (A0 : Option Addr) (c0 : Nat) (l0 : List Int) (a1 : Int) (a2 : Int) (r : Int) (w : World) (hr0 : Kd.C (Kd.int .i64) w A0 l0.length l0) (hc0 : l0.length ≤ c0) (h : spec_ArmOf.f k l0 a1 a2 = some r) :
  Calls Try.prog 56 #[.slice A0 l0.length c0, .int .i64 a1, .int .i64 a2] w fun e w' => e = .returned (.int .i64 r) ∧ Below w.heap.size w w' := by
 have HR0 := ax hr0
 have HC0 := ax hc0
 clear hr0 hc0
 have HB := ax (Below.refl w.heap.size w)
 have H : ((spec_l3Cell.f k l0 a1 a2).bind fun t445 => (if t445 = true then (if 0 ≤ a1 then (if a1 < (l0.length : Int) then (some (wrap64 ((wrap64 ((rd l0 a1) - a2)) - 1))) else (none)) else (none)) else (some (-1)))) = some r := h
 clear h
 obtain ⟨t445, A4, H⟩ := xI H
 by_cases c5 : t445 = true
 ·subst c5
  rw [if_pos rfl] at H
  obtain ⟨c6b0, H⟩ := xq H
  obtain ⟨c7b0, H⟩ := xq H
  obtain rfl := Option.some.inj H
  go_enter Try.func56, Try.ntmps56
  go_wp2_with (first | ((with_reducible refine gate_callee (f := 55) rfl ?_); refine goesL_ (some 10) rfl rfl Try.func55 (by kernel_rfl) rfl #[.slice A0 l0.length c0, .int .i64 a1, .int .i64 a2] rfl xm ?_; (with_reducible refine (spec_l3Cell.calls k _ _ l0 a1 a2 true _ ?side1 ?side2 A4.out).mono ?_); (case side1 => exact xc HR0.out); (case side2 => exact HC0.out); rintro e w8 ⟨rfl, hb⟩; refine ⟨_, rfl, ?_⟩; replace HB := yB HB hb; (try clear hb); have p446 : 0 ≤ (a1 : Int) := xd; have q446 : a1 < (l0.length : Int) := xd; obtain ⟨ad446, e446, hx446_0⟩ := Kd.at_int HR0.out a1 p446 q446; cases e446; replace hx446_0 := (HB.out.cell (World.block_lt_of_cell? w _ hx446_0)).trans hx446_0; replace p446 := eq_true p446; replace q446 := eq_true q446))
  go_ret
  exact ⟨xe, xb HB.out⟩
 ·replace c5 := Bool.eq_false_iff.mpr c5
  subst c5
  rw [if_neg (show ¬ (false = true) by decide)] at H
  obtain rfl := Option.some.inj H
  go_enter Try.func56, Try.ntmps56
  go_wp2_with (first | ((with_reducible refine gate_callee (f := 55) rfl ?_); refine goesL_ (some 10) rfl rfl Try.func55 (by kernel_rfl) rfl #[.slice A0 l0.length c0, .int .i64 a1, .int .i64 a2] rfl xm ?_; (with_reducible refine (spec_l3Cell.calls k _ _ l0 a1 a2 false _ ?side1 ?side2 A4.out).mono ?_); (case side1 => exact xc HR0.out); (case side2 => exact HC0.out); rintro e w9 ⟨rfl, hb⟩; refine ⟨_, rfl, ?_⟩; replace HB := yB HB hb; (try clear hb)))
  go_ret
  exact ⟨xe, xb HB.out⟩

/-! ### spec_LegOf: function 57 -/
def spec_LegOf.l0 : Nat → List Int → Int → Int → Int → Option (Int)
 | 0, _, _, _, _ => none
 | k + 1, x0, x2, x7, x8 => if x8 < (x0.length : Int) then (if 0 ≤ x8 then (if (rd x0 x8) > x2 then (spec_LegOf.l0 k x0 x2 (wrap64 (x7 + 1)) (wrap64 (x8 + 1))) else (some x7)) else (none)) else (some x7)
def spec_LegOf.f (k : Nat) (l0 : List Int) (a1 : Int) (a2 : Int) : Option (Int) := (spec_l3Cell.f k l0 a1 a2).bind fun t447 => (if t447 = true then (spec_LegOf.l0 k l0 a2 0 (wrap64 (a1 + 1))) else (some (-1)))
theorem spec_LegOf.mono_l : ∀ k, (∀ y0 y1 y2 y3, LeO (spec_LegOf.l0 k y0 y1 y2 y3) (spec_LegOf.l0 (k + 1) y0 y1 y2 y3))
 | 0 => fun _ _ _ _ r h => by simp [spec_LegOf.l0] at h
 | k + 1 => by
  have ih0 := spec_LegOf.mono_l k
  ·intro y0 y1 y2 y3
   unfold spec_LegOf.l0
   repeat' with_reducible first | exact ih0 _ _ _ _ | exact spec_l3Cell.mono _ _ _ _ | exact xl | refine LeO.ite ?_ ?_ | refine LeO.bind ?_ fun _ => ?_
theorem spec_LegOf.mono : ∀ a0 a1 a2 k, LeO (spec_LegOf.f k a0 a1 a2) (spec_LegOf.f (k + 1) a0 a1 a2) := by
 intro a0 a1 a2 k
 have ih0 := spec_LegOf.mono_l k
 unfold spec_LegOf.f
 repeat' with_reducible first | exact ih0 _ _ _ _ | exact spec_l3Cell.mono _ _ _ _ | exact xl | refine LeO.ite ?_ ?_ | refine LeO.bind ?_ fun _ => ?_
theorem spec_LegOf.calls (k : Nat) (A0 : Option Addr) (c0 : Nat) (l0 : List Int) (a1 : Int) (a2 : Int) (r : Int) (w : World) (hr0 : Kd.C (Kd.int .i64) w A0 l0.length l0) (hc0 : l0.length ≤ c0) (h : spec_LegOf.f k l0 a1 a2 = some r) :
  Calls Try.prog 57 #[.slice A0 l0.length c0, .int .i64 a1, .int .i64 a2] w fun e w' => e = .returned (.int .i64 r) ∧ Below w.heap.size w w' := by
 have HR0 := ax hr0
 have HC0 := ax hc0
 clear hr0 hc0
 have HB := ax (Below.refl w.heap.size w)
 have H : ((spec_l3Cell.f k l0 a1 a2).bind fun t447 => (if t447 = true then (spec_LegOf.l0 k l0 a2 0 (wrap64 (a1 + 1))) else (some (-1)))) = some r := h
 clear h
 obtain ⟨t447, A4, H⟩ := xI H
 by_cases c5 : t447 = true
 ·subst c5
  rw [if_pos rfl] at H
  have H' := ax H
  clear H
  go_enter Try.func57, Try.ntmps57
  go_wp2_with (first | ((with_reducible refine gate_callee (f := 55) rfl ?_); refine goesL_ (some 12) rfl rfl Try.func55 (by kernel_rfl) rfl #[.slice A0 l0.length c0, .int .i64 a1, .int .i64 a2] rfl xm ?_; (with_reducible refine (spec_l3Cell.calls k _ _ l0 a1 a2 true _ ?side1 ?side2 A4.out).mono ?_); (case side1 => exact xc HR0.out); (case side2 => exact HC0.out); rintro e w6 ⟨rfl, hb⟩; refine ⟨_, rfl, ?_⟩; replace HB := yB HB hb; (try clear hb)))
  go_loopg [7, 8] k (fun kq v7 v8 w' => ∃ (x7_1 : Int) (x8_1 : Int), v7 = .int .i64 x7_1 ∧ v8 = .int .i64 x8_1 ∧ Aside0 (spec_LegOf.l0 kq l0 a2 x7_1 x8_1 = some r) ∧ Aside0 (kq ≤ k) ∧ Aside0 (Below w.heap.size w w'))
  case atStart => exact ⟨(0), (wrap64 (a1 + 1)), xr, xr, H', ⟨Nat.le_refl _⟩, ⟨xb HB.out⟩⟩
  case round =>
   clear H'
   (try clear c5)
   obtain ⟨x7_1, x8_1, rfl, rfl, HA, HK1, HB⟩ := hrel
   cases gk with
   | zero => exact absurd HA.out (by simp [spec_LegOf.l0])
   | succ k1 =>
    have H := HA.out
    clear HA
    simp only [spec_LegOf.l0] at H
    by_cases c7 : x8_1 < (l0.length : Int)
    ·rw [if_pos c7] at H
     have c7b0 := decide_eq_true c7
     clear c7
     obtain ⟨c8b0, H⟩ := xq H
     by_cases c9 : (rd l0 x8_1) > a2
     ·rw [if_pos c9] at H
      have c9b0 : decide (a2 < (rd l0 x8_1)) = true := decide_eq_true c9
      clear c9
      have H' := ax H
      clear H
      have p448 : 0 ≤ (x8_1 : Int) := xd
      have q448 : x8_1 < (l0.length : Int) := xd
      obtain ⟨ad448, e448, hx448_0⟩ := Kd.at_int HR0.out x8_1 p448 q448
      cases e448
      (try replace hx448_0 := (HB.out.cell (World.block_lt_of_cell? w _ hx448_0)).trans hx448_0)
      replace p448 := eq_true p448
      replace q448 := eq_true q448
      go_wp2
      go_roundg k1
      case measure => have := HK1.out; omega
      case rel => exact ⟨(wrap64 (x7_1 + 1)), (wrap64 (x8_1 + 1)), xr, xr, H', ⟨by have := HK1.out; omega⟩, ⟨xb HB.out⟩⟩
     ·rw [if_neg c9] at H
      have c9b0 : decide (a2 < (rd l0 x8_1)) = false := decide_eq_false c9
      clear c9
      obtain rfl := Option.some.inj H
      have p448 : 0 ≤ (x8_1 : Int) := xd
      have q448 : x8_1 < (l0.length : Int) := xd
      obtain ⟨ad448, e448, hx448_0⟩ := Kd.at_int HR0.out x8_1 p448 q448
      cases e448
      (try replace hx448_0 := (HB.out.cell (World.block_lt_of_cell? w _ hx448_0)).trans hx448_0)
      replace p448 := eq_true p448
      replace q448 := eq_true q448
      go_wp2
      go_ret
      exact ⟨xe, xb HB.out⟩
    ·rw [if_neg c7] at H
     have c7b0 := decide_eq_false c7
     clear c7
     obtain rfl := Option.some.inj H
     go_wp2
     go_ret
     exact ⟨xe, xb HB.out⟩
 ·replace c5 := Bool.eq_false_iff.mpr c5
  subst c5
  rw [if_neg (show ¬ (false = true) by decide)] at H
  obtain rfl := Option.some.inj H
  go_enter Try.func57, Try.ntmps57
  go_wp2_with (first | ((with_reducible refine gate_callee (f := 55) rfl ?_); refine goesL_ (some 12) rfl rfl Try.func55 (by kernel_rfl) rfl #[.slice A0 l0.length c0, .int .i64 a1, .int .i64 a2] rfl xm ?_; (with_reducible refine (spec_l3Cell.calls k _ _ l0 a1 a2 false _ ?side1 ?side2 A4.out).mono ?_); (case side1 => exact xc HR0.out); (case side2 => exact HC0.out); rintro e w10 ⟨rfl, hb⟩; refine ⟨_, rfl, ?_⟩; replace HB := yB HB hb; (try clear hb)))
  go_ret
  exact ⟨xe, xb HB.out⟩

/-! ### spec_HookOf: function 42 -/
def spec_HookOf.f (k : Nat) (l0 : List Int) (a1 : Int) (a2 : Int) : Option (Int) := (spec_l3Cell.f k l0 a1 a2).bind fun t449 => (if t449 = true then ((spec_ArmOf.f k l0 a1 a2).bind fun t450 => ((spec_LegOf.f k l0 a1 a2).bind fun t451 => (some (wrap64 ((wrap64 (t450 + t451)) + 1))))) else (some (-1)))
theorem spec_HookOf.mono : ∀ a0 a1 a2 k, LeO (spec_HookOf.f k a0 a1 a2) (spec_HookOf.f (k + 1) a0 a1 a2) := by
 intro a0 a1 a2 k
 unfold spec_HookOf.f
 repeat' with_reducible first | exact spec_ArmOf.mono _ _ _ _ | exact spec_LegOf.mono _ _ _ _ | exact spec_l3Cell.mono _ _ _ _ | exact xl | refine LeO.ite ?_ ?_ | refine LeO.bind ?_ fun _ => ?_
theorem spec_HookOf.calls (k : Nat) (A0 : Option Addr) (c0 : Nat) (l0 : List Int) (a1 : Int) (a2 : Int) (r : Int) (w : World) (hr0 : Kd.C (Kd.int .i64) w A0 l0.length l0) (hc0 : l0.length ≤ c0) (h : spec_HookOf.f k l0 a1 a2 = some r) :
  Calls Try.prog 42 #[.slice A0 l0.length c0, .int .i64 a1, .int .i64 a2] w fun e w' => e = .returned (.int .i64 r) ∧ Below w.heap.size w w' := by
 have HR0 := ax hr0
 have HC0 := ax hc0
 clear hr0 hc0
 have HB := ax (Below.refl w.heap.size w)
 have H : ((spec_l3Cell.f k l0 a1 a2).bind fun t449 => (if t449 = true then ((spec_ArmOf.f k l0 a1 a2).bind fun t450 => ((spec_LegOf.f k l0 a1 a2).bind fun t451 => (some (wrap64 ((wrap64 (t450 + t451)) + 1))))) else (some (-1)))) = some r := h
 clear h
 obtain ⟨t449, A4, H⟩ := xI H
 by_cases c5 : t449 = true
 ·subst c5
  rw [if_pos rfl] at H
  obtain ⟨t450, A6, H⟩ := xI H
  obtain ⟨t451, A7, H⟩ := xI H
  obtain rfl := Option.some.inj H
  go_enter Try.func42, Try.ntmps42
  go_wp2_with (first | ((with_reducible refine gate_callee (f := 55) rfl ?_); refine goesL_ (some 10) rfl rfl Try.func55 (by kernel_rfl) rfl #[.slice A0 l0.length c0, .int .i64 a1, .int .i64 a2] rfl xm ?_; (with_reducible refine (spec_l3Cell.calls k _ _ l0 a1 a2 true _ ?side1 ?side2 A4.out).mono ?_); (case side1 => exact xc HR0.out); (case side2 => exact HC0.out); rintro e w8 ⟨rfl, hb⟩; refine ⟨_, rfl, ?_⟩; replace HB := yB HB hb; (try clear hb)) | ((with_reducible refine gate_callee (f := 56) rfl ?_); refine goesL_ (some 15) rfl rfl Try.func56 (by kernel_rfl) rfl #[.slice A0 l0.length c0, .int .i64 a1, .int .i64 a2] rfl xm ?_; (with_reducible refine (spec_ArmOf.calls k _ _ l0 a1 a2 t450 _ ?side1 ?side2 A6.out).mono ?_); (case side1 => exact xz HR0.out HB.out); (case side2 => exact HC0.out); rintro e w9 ⟨rfl, hb⟩; refine ⟨_, rfl, ?_⟩; replace HB := yB HB hb; (try clear hb)) | ((with_reducible refine gate_callee (f := 57) rfl ?_); refine goesL_ (some 19) rfl rfl Try.func57 (by kernel_rfl) rfl #[.slice A0 l0.length c0, .int .i64 a1, .int .i64 a2] rfl xm ?_; (with_reducible refine (spec_LegOf.calls k _ _ l0 a1 a2 t451 _ ?side1 ?side2 A7.out).mono ?_); (case side1 => exact xz HR0.out HB.out); (case side2 => exact HC0.out); rintro e w10 ⟨rfl, hb⟩; refine ⟨_, rfl, ?_⟩; replace HB := yB HB hb; (try clear hb)))
  go_ret
  exact ⟨xe, xb HB.out⟩
 ·replace c5 := Bool.eq_false_iff.mpr c5
  subst c5
  rw [if_neg (show ¬ (false = true) by decide)] at H
  obtain rfl := Option.some.inj H
  go_enter Try.func42, Try.ntmps42
  go_wp2_with (first | ((with_reducible refine gate_callee (f := 55) rfl ?_); refine goesL_ (some 10) rfl rfl Try.func55 (by kernel_rfl) rfl #[.slice A0 l0.length c0, .int .i64 a1, .int .i64 a2] rfl xm ?_; (with_reducible refine (spec_l3Cell.calls k _ _ l0 a1 a2 false _ ?side1 ?side2 A4.out).mono ?_); (case side1 => exact xc HR0.out); (case side2 => exact HC0.out); rintro e w11 ⟨rfl, hb⟩; refine ⟨_, rfl, ?_⟩; replace HB := yB HB hb; (try clear hb)))
  go_ret
  exact ⟨xe, xb HB.out⟩

end Go.Proofs.Ytnfcdaojglicfab.PFnFillings
