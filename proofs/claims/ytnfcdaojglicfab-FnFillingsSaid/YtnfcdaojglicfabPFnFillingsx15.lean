import Derived.Test.YtnfcdaojglicfabPFnFillingsx14
namespace Go.Proofs.Ytnfcdaojglicfab.PFnFillings
open Go.RowKit Go.Proofs.YtnfcdaojglicfabW.PrintWords Go.Proofs.YtnfcdaojglicfabW.PrintLast Go.Proofs.YtnfcdaojglicfabW.PrintMore
set_option linter.unusedVariables false
set_option linter.unusedSimpArgs false
set_option maxHeartbeats 8000000
set_option maxRecDepth 100000
/-! ### spec_ReverseOfHooks: function 10 -/
mutual
def spec_ReverseOfHooks.l0 : Nat → List Int → List (List Int) → List (List Int) → Int → Option ((List (List Int)) × Bool)
 | 0, _, _, _, _ => none
 | k + 1, x0, x1, x6, x7 => if x7 ≥ 0 then (spec_ReverseOfHooks.l1 k x0 x1 x6 x7 0) else ((spec_IsFilling.f k x0 x6).bind fun t465 => (if t465 = true then (some (x6, true)) else (some ((([] : List (List Int))), false))))
def spec_ReverseOfHooks.l1 : Nat → List Int → List (List Int) → List (List Int) → Int → Int → Option ((List (List Int)) × Bool)
 | 0, _, _, _, _, _ => none
 | k + 1, x0, x1, x6, x7, x8 => if x8 < (x0.length : Int) then (spec_ReverseOfHooks.l2 k x0 x1 x6 x7 x8 0) else (spec_ReverseOfHooks.l0 k x0 x1 x6 (wrap64 (x7 - 1)))
def spec_ReverseOfHooks.l2 : Nat → List Int → List (List Int) → List (List Int) → Int → Int → Int → Option ((List (List Int)) × Bool)
 | 0, _, _, _, _, _, _ => none
 | k + 1, x0, x1, x6, x7, x8, x9 => if 0 ≤ x8 then (if x8 < (x0.length : Int) then (if x7 < (rd x0 x8) then (if x8 < (x1.length : Int) then (if 0 ≤ x7 then (if x7 < ((rd_L2 x1 x8).length : Int) then (if x9 < (rd (rd_L2 x1 x8) x7) then ((spec_l27Back.f k x0 x6 x8 x7).bind fun t472 => (spec_ReverseOfHooks.l2 k x0 x1 t472 x7 x8 (wrap64 (x9 + 1)))) else (spec_ReverseOfHooks.l1 k x0 x1 x6 x7 (wrap64 (x8 + 1)))) else (none)) else (none)) else (none)) else (spec_ReverseOfHooks.l1 k x0 x1 x6 x7 (wrap64 (x8 + 1)))) else (none)) else (none)
end
def spec_ReverseOfHooks.f (k : Nat) (l0 : List Int) (l1 : List (List Int)) : Option ((List (List Int)) × Bool) := (spec_HookWeight.f k l0 l1).bind fun t457 => ((spec_l1In.f t457 0 20).bind fun t458 => (if t458 = true then ((spec_l27Zeros.f k l0).bind fun t462 => (spec_ReverseOfHooks.l0 k l0 l1 t462 9)) else (some ((([] : List (List Int))), false))))
theorem spec_ReverseOfHooks.mono_l : ∀ k, (∀ y0 y1 y2 y3, LeO (spec_ReverseOfHooks.l0 k y0 y1 y2 y3) (spec_ReverseOfHooks.l0 (k + 1) y0 y1 y2 y3)) ∧ (∀ y0 y1 y2 y3 y4, LeO (spec_ReverseOfHooks.l1 k y0 y1 y2 y3 y4) (spec_ReverseOfHooks.l1 (k + 1) y0 y1 y2 y3 y4)) ∧ (∀ y0 y1 y2 y3 y4 y5, LeO (spec_ReverseOfHooks.l2 k y0 y1 y2 y3 y4 y5) (spec_ReverseOfHooks.l2 (k + 1) y0 y1 y2 y3 y4 y5))
 | 0 => ⟨fun _ _ _ _ r h => by simp [spec_ReverseOfHooks.l0] at h, fun _ _ _ _ _ r h => by simp [spec_ReverseOfHooks.l1] at h, fun _ _ _ _ _ _ r h => by simp [spec_ReverseOfHooks.l2] at h⟩
 | k + 1 => by
  obtain ⟨ih0, ih1, ih2⟩ := spec_ReverseOfHooks.mono_l k
  refine ⟨?_, ?_, ?_⟩
  ·intro y0 y1 y2 y3
   unfold spec_ReverseOfHooks.l0
   repeat' with_reducible first | exact ih0 _ _ _ _ | exact ih1 _ _ _ _ _ | exact ih2 _ _ _ _ _ _ | exact spec_HookWeight.mono _ _ _ | exact spec_IsFilling.mono _ _ _ | exact spec_l27Back.mono _ _ _ _ _ | exact spec_l27Zeros.mono _ _ | exact xl | refine LeO.ite ?_ ?_ | refine LeO.bind ?_ fun _ => ?_
  ·intro y0 y1 y2 y3 y4
   unfold spec_ReverseOfHooks.l1
   repeat' with_reducible first | exact ih0 _ _ _ _ | exact ih1 _ _ _ _ _ | exact ih2 _ _ _ _ _ _ | exact spec_HookWeight.mono _ _ _ | exact spec_IsFilling.mono _ _ _ | exact spec_l27Back.mono _ _ _ _ _ | exact spec_l27Zeros.mono _ _ | exact xl | refine LeO.ite ?_ ?_ | refine LeO.bind ?_ fun _ => ?_
  ·intro y0 y1 y2 y3 y4 y5
   unfold spec_ReverseOfHooks.l2
   repeat' with_reducible first | exact ih0 _ _ _ _ | exact ih1 _ _ _ _ _ | exact ih2 _ _ _ _ _ _ | exact spec_HookWeight.mono _ _ _ | exact spec_IsFilling.mono _ _ _ | exact spec_l27Back.mono _ _ _ _ _ | exact spec_l27Zeros.mono _ _ | exact xl | refine LeO.ite ?_ ?_ | refine LeO.bind ?_ fun _ => ?_
theorem spec_ReverseOfHooks.mono : ∀ a0 a1 k, LeO (spec_ReverseOfHooks.f k a0 a1) (spec_ReverseOfHooks.f (k + 1) a0 a1) := by
 intro a0 a1 k
 obtain ⟨ih0, ih1, ih2⟩ := spec_ReverseOfHooks.mono_l k
 unfold spec_ReverseOfHooks.f
 repeat' with_reducible first | exact ih0 _ _ _ _ | exact ih1 _ _ _ _ _ | exact ih2 _ _ _ _ _ _ | exact spec_HookWeight.mono _ _ _ | exact spec_IsFilling.mono _ _ _ | exact spec_l27Back.mono _ _ _ _ _ | exact spec_l27Zeros.mono _ _ | exact xl | refine LeO.ite ?_ ?_ | refine LeO.bind ?_ fun _ => ?_
theorem spec_ReverseOfHooks.calls (k : Nat) (A0 : Option Addr) (c0 : Nat) (l0 : List Int) (A1 : Option Addr) (c1 : Nat) (l1 : List (List Int)) (r1 : List (List Int)) (r2 : Bool) (w : World) (hr0 : Kd.C (Kd.int .i64) w A0 l0.length l0) (hc0 : l0.length ≤ c0) (hr1 : Kd.C (Kd.slice 3 (Kd.int .i64)) w A1 l1.length l1) (hc1 : l1.length ≤ c1) (h : spec_ReverseOfHooks.f k l0 l1 = some (r1, r2)) :
  Calls Try.prog 10 #[.slice A0 l0.length c0, .slice A1 l1.length c1] w fun e w' => ∃ v0_ : Value, e = .returned (.tuple #[v0_, .bool r2]) ∧ Kd.S (Kd.slice 3 (Kd.int .i64)) 24 w' w.heap.size (fun _ => True) v0_ r1 ∧ Below w.heap.size w w' := by
 have HR0 := ax hr0
 have HC0 := ax hc0
 clear hr0 hc0
 have HR1 := ax hr1
 have HC1 := ax hc1
 clear hr1 hc1
 have HB := ax (Below.refl w.heap.size w)
 have H : ((spec_HookWeight.f k l0 l1).bind fun t457 => ((spec_l1In.f t457 0 20).bind fun t458 => (if t458 = true then ((spec_l27Zeros.f k l0).bind fun t462 => (spec_ReverseOfHooks.l0 k l0 l1 t462 9)) else (some ((([] : List (List Int))), false))))) = some (r1, r2) := h
 clear h
 obtain ⟨t457, A3, H⟩ := xI H
 obtain ⟨t458, A4, H⟩ := xI H
 by_cases c5 : t458 = true
 ·subst c5
  rw [if_pos rfl] at H
  obtain ⟨t462, A6, H⟩ := xI H
  have H' := ax H
  clear H
  go_enter Try.func10, Try.ntmps10
  go_wp2_with (first | ((with_reducible refine gate_callee (f := 19) rfl ?_); refine goesL_ (some 12) rfl rfl Try.func19 (by kernel_rfl) rfl #[.slice A0 l0.length c0, .slice A1 l1.length c1] rfl xm ?_; (with_reducible refine (spec_HookWeight.calls k _ _ l0 _ _ l1 t457 _ ?side1 ?side2 ?side3 ?side4 A3.out).mono ?_); (case side1 => exact xc HR0.out); (case side2 => exact HC0.out); (case side3 => exact xc HR1.out); (case side4 => exact HC1.out); rintro e w7 ⟨rfl, hb⟩; refine ⟨_, rfl, ?_⟩; replace HB := yB HB hb; (try clear hb)) | ((with_reducible refine gate_callee (f := 33) rfl ?_); refine goesL_ (some 13) rfl rfl Try.func33 (by kernel_rfl) rfl #[.int .i64 t457, .int .i64 0, .int .i64 20] rfl xm ?_; (with_reducible refine (spec_l1In.calls t457 0 20 true _ A4.out).mono ?_); rintro e w' ⟨rfl, ⟨nd, rfl⟩⟩; refine ⟨_, rfl, ?_⟩) | ((with_reducible refine gate_callee (f := 29) rfl ?_); refine goesL_ (some 17) rfl rfl Try.func29 (by kernel_rfl) rfl #[.slice A0 l0.length c0] rfl xm ?_; (with_reducible refine (spec_l27Zeros.calls k _ _ l0 t462 _ ?side1 ?side2 A6.out).mono ?_); (case side1 => exact xc (Kd.C_below HR0.out (xb HB.out))); (case side2 => exact HC0.out); rintro e w8 ⟨v463, rfl, ho0, hb⟩; refine ⟨_, rfl, ?_⟩; have HO464 := ax (Kd.S_lower ho0 (below_size (xb HB.out))); replace HB := yB HB hb; (try clear hb); (try clear ho0)))
  go_loopg [7] k (fun kq v7 w' => ∃ (x6_1 : List (List Int)) (x7_1 : Int), v7 = .int .i64 x7_1 ∧ Aside0 (spec_ReverseOfHooks.l0 kq l0 l1 x6_1 x7_1 = some (r1, r2)) ∧ Aside0 (kq ≤ k) ∧ Aside0 (Kd.S (Kd.slice 3 (Kd.int .i64)) 24 w' w.heap.size (fun _ => True) v463 x6_1) ∧ Aside0 (Below w.heap.size w w'))
  case atStart => exact ⟨(t462), (9), xr, H', ⟨Nat.le_refl _⟩, ⟨xS HO464.out⟩, ⟨xb HB.out⟩⟩
  case round =>
   clear H'
   (try clear c1); (try clear c5)
   obtain ⟨x6_1, x7_1, rfl, HA, HK1, HO_6, HB⟩ := hrel
   cases gk with
   | zero => exact absurd HA.out (by simp [spec_ReverseOfHooks.l0])
   | succ k1 =>
    have H := HA.out
    clear HA
    simp only [spec_ReverseOfHooks.l0] at H
    by_cases c9 : x7_1 ≥ 0
    ·rw [if_pos c9] at H
     have c9b0 : decide (0 ≤ x7_1) = true := decide_eq_true c9
     clear c9
     have H' := ax H
     clear H
     go_wp2
     go_loopg [8] k1 (fun kq v8 w' => ∃ (x6_2 : List (List Int)) (x8_2 : Int), v8 = .int .i64 x8_2 ∧ Aside0 (spec_ReverseOfHooks.l1 kq l0 l1 x6_2 x7_1 x8_2 = some (r1, r2)) ∧ Aside0 (kq ≤ k1) ∧ Aside0 (Kd.S (Kd.slice 3 (Kd.int .i64)) 24 w' w.heap.size (fun _ => True) v463 x6_2) ∧ Aside0 (Below w.heap.size w w'))
     case atStart => exact ⟨(x6_1), (0), xr, H', ⟨Nat.le_refl _⟩, ⟨xS HO_6.out⟩, ⟨xb HB.out⟩⟩
     case round =>
      clear H'
      (try clear c1); (try clear c5); (try clear c9); (try clear c9b0)
      obtain ⟨x6_2, x8_2, rfl, HA, HK2, HO_6, HB⟩ := hrel
      cases gk with
      | zero => exact absurd HA.out (by simp [spec_ReverseOfHooks.l1])
      | succ k2 =>
       have H := HA.out
       clear HA
       simp only [spec_ReverseOfHooks.l1] at H
       by_cases c10 : x8_2 < (l0.length : Int)
       ·rw [if_pos c10] at H
        have c10b0 := decide_eq_true c10
        clear c10
        have H' := ax H
        clear H
        go_wp2
        go_loopg [9] k2 (fun kq v9 w' => ∃ (x6_3 : List (List Int)) (x9_3 : Int), v9 = .int .i64 x9_3 ∧ Aside0 (spec_ReverseOfHooks.l2 kq l0 l1 x6_3 x7_1 x8_2 x9_3 = some (r1, r2)) ∧ Aside0 (kq ≤ k2) ∧ Aside0 (Kd.S (Kd.slice 3 (Kd.int .i64)) 24 w' w.heap.size (fun _ => True) v463 x6_3) ∧ Aside0 (Below w.heap.size w w'))
        case atStart => exact ⟨(x6_2), (0), xr, H', ⟨Nat.le_refl _⟩, ⟨xS HO_6.out⟩, ⟨xb HB.out⟩⟩
        case round =>
         clear H'
         (try clear c1); (try clear c5); (try clear c9); (try clear c9b0); (try clear c10); (try clear c10b0)
         obtain ⟨x6_3, x9_3, rfl, HA, HK3, HO_6, HB⟩ := hrel
         cases gk with
         | zero => exact absurd HA.out (by simp [spec_ReverseOfHooks.l2])
         | succ k3 =>
          have H := HA.out
          clear HA
          simp only [spec_ReverseOfHooks.l2] at H
          obtain ⟨c11b0, H⟩ := xq H
          obtain ⟨c12b0, H⟩ := xq H
          by_cases c13 : x7_1 < (rd l0 x8_2)
          ·rw [if_pos c13] at H
           have c13b0 := decide_eq_true c13
           clear c13
           obtain ⟨c14b0, H⟩ := xq H
           obtain ⟨c15b0, H⟩ := xq H
           obtain ⟨c16b0, H⟩ := xq H
           by_cases c17 : x9_3 < (rd (rd_L2 l1 x8_2) x7_1)
           ·rw [if_pos c17] at H
            have c17b0 := decide_eq_true c17
            clear c17
            obtain ⟨t472, A18, H⟩ := xI H
            have H' := ax H
            clear H
            have p469 : 0 ≤ (x8_2 : Int) := xd
            have q469 : x8_2 < (l0.length : Int) := xd
            obtain ⟨ad469, e469, hx469_0⟩ := Kd.at_int HR0.out x8_2 p469 q469
            cases e469
            (try replace hx469_0 := (HB.out.cell (World.block_lt_of_cell? w _ hx469_0)).trans hx469_0)
            replace p469 := eq_true p469
            replace q469 := eq_true q469
            have p470 : 0 ≤ (x8_2 : Int) := xd
            have q470 : x8_2 < (l1.length : Int) := xd
            obtain ⟨ad470, A470_0, c470_0, e470, hx470_0, hl470_0, hi470_0⟩ := at_L2 HR1.out x8_2 p470 q470
            cases e470
            (try replace hx470_0 := (HB.out.cell (World.block_lt_of_cell? w _ hx470_0)).trans hx470_0)
            have HR470_0 := ax hi470_0
            have HC470_0 := ax hl470_0
            clear hi470_0 hl470_0
            replace p470 := eq_true p470
            replace q470 := eq_true q470
            have p471 : 0 ≤ (x7_1 : Int) := xd
            have q471 : x7_1 < ((rd_L2 l1 x8_2).length : Int) := xd
            obtain ⟨ad471, e471, hx471_0⟩ := Kd.at_int HR470_0.out x7_1 p471 q471
            cases e471
            (try replace hx471_0 := (HB.out.cell (World.block_lt_of_cell? w _ hx471_0)).trans hx471_0)
            replace p471 := eq_true p471
            replace q471 := eq_true q471
            obtain ⟨Ao19, co19, eo19⟩ := Kd.S_slice HO_6.out
            subst eo19
            go_wp2_with (first | ((with_reducible refine gate_callee (f := 34) rfl ?_); refine goesL_ (some 51) rfl rfl Try.func34 (by kernel_rfl) rfl #[.slice (some ad469) l0.length c0, .slice Ao19 x6_3.length co19, .int .i64 x8_2, .int .i64 x7_1] rfl xm ?_; (with_reducible refine (spec_l27Back.calls k3 _ _ l0 (.slice Ao19 x6_3.length co19) x6_3 x8_2 x7_1 t472 w _ ?side1 ?side2 ?side3 ?side4 A18.out).mono ?_); (case side1 => exact xb HB.out); (case side2 => exact HR0.out); (case side3 => exact HC0.out); (case side4 => first | exact HO_6.out | ((with_reducible repeat (first | apply Kd.S_alloc | apply Kd.S_drewN | apply Kd.S_drew)); exact HO_6.out)); rintro e w20 ⟨rfl, hy0, hb⟩; refine ⟨_, rfl, ?_⟩; replace HO_6 := ax (hy0); replace HB := ax (hb); (try clear hb); (try clear hkp); (try clear hy0)))
            go_roundg k3
            case measure => have := HK1.out; have := HK2.out; have := HK3.out; omega
            case rel => exact ⟨(t472), (wrap64 (x9_3 + 1)), xr, H', ⟨by have := HK1.out; have := HK2.out; have := HK3.out; omega⟩, ⟨xS HO_6.out⟩, ⟨xb HB.out⟩⟩
           ·rw [if_neg c17] at H
            have c17b0 := decide_eq_false c17
            clear c17
            have H' := ax H
            clear H
            have p469 : 0 ≤ (x8_2 : Int) := xd
            have q469 : x8_2 < (l0.length : Int) := xd
            obtain ⟨ad469, e469, hx469_0⟩ := Kd.at_int HR0.out x8_2 p469 q469
            cases e469
            (try replace hx469_0 := (HB.out.cell (World.block_lt_of_cell? w _ hx469_0)).trans hx469_0)
            replace p469 := eq_true p469
            replace q469 := eq_true q469
            have p470 : 0 ≤ (x8_2 : Int) := xd
            have q470 : x8_2 < (l1.length : Int) := xd
            obtain ⟨ad470, A470_0, c470_0, e470, hx470_0, hl470_0, hi470_0⟩ := at_L2 HR1.out x8_2 p470 q470
            cases e470
            (try replace hx470_0 := (HB.out.cell (World.block_lt_of_cell? w _ hx470_0)).trans hx470_0)
            have HR470_0 := ax hi470_0
            have HC470_0 := ax hl470_0
            clear hi470_0 hl470_0
            replace p470 := eq_true p470
            replace q470 := eq_true q470
            have p471 : 0 ≤ (x7_1 : Int) := xd
            have q471 : x7_1 < ((rd_L2 l1 x8_2).length : Int) := xd
            obtain ⟨ad471, e471, hx471_0⟩ := Kd.at_int HR470_0.out x7_1 p471 q471
            cases e471
            (try replace hx471_0 := (HB.out.cell (World.block_lt_of_cell? w _ hx471_0)).trans hx471_0)
            replace p471 := eq_true p471
            replace q471 := eq_true q471
            go_wp2
            go_roundg k3
            case measure => have := HK1.out; have := HK2.out; have := HK3.out; omega
            case rel => exact ⟨(x6_3), (wrap64 (x8_2 + 1)), xr, H', ⟨by have := HK1.out; have := HK2.out; have := HK3.out; omega⟩, ⟨xS HO_6.out⟩, ⟨xb HB.out⟩⟩
          ·rw [if_neg c13] at H
           have c13b0 := decide_eq_false c13
           clear c13
           have H' := ax H
           clear H
           have p469 : 0 ≤ (x8_2 : Int) := xd
           have q469 : x8_2 < (l0.length : Int) := xd
           obtain ⟨ad469, e469, hx469_0⟩ := Kd.at_int HR0.out x8_2 p469 q469
           cases e469
           (try replace hx469_0 := (HB.out.cell (World.block_lt_of_cell? w _ hx469_0)).trans hx469_0)
           replace p469 := eq_true p469
           replace q469 := eq_true q469
           go_wp2
           go_roundg k3
           case measure => have := HK1.out; have := HK2.out; have := HK3.out; omega
           case rel => exact ⟨(x6_3), (wrap64 (x8_2 + 1)), xr, H', ⟨by have := HK1.out; have := HK2.out; have := HK3.out; omega⟩, ⟨xS HO_6.out⟩, ⟨xb HB.out⟩⟩
       ·rw [if_neg c10] at H
        have c10b0 := decide_eq_false c10
        clear c10
        have H' := ax H
        clear H
        go_wp2
        go_roundg k2
        case measure => have := HK1.out; have := HK2.out; omega
        case rel => exact ⟨(x6_2), (wrap64 (x7_1 - 1)), xr, H', ⟨by have := HK1.out; have := HK2.out; omega⟩, ⟨xS HO_6.out⟩, ⟨xb HB.out⟩⟩
    ·rw [if_neg c9] at H
     have c9b0 : decide (0 ≤ x7_1) = false := decide_eq_false c9
     clear c9
     obtain ⟨t465, A21, H⟩ := xI H
     by_cases c22 : t465 = true
     ·subst c22
      rw [if_pos rfl] at H
      simp only [Option.some.injEq, Prod.mk.injEq] at H
      obtain ⟨rfl, rfl⟩ := H
      obtain ⟨Ao23, co23, eo23⟩ := Kd.S_slice HO_6.out
      subst eo23
      go_wp2_with (first | ((with_reducible refine gate_callee (f := 17) rfl ?_); refine goesL_ (some 54) rfl rfl Try.func17 (by kernel_rfl) rfl #[.slice A0 l0.length c0, .slice Ao23 x6_1.length co23] rfl xm ?_; (with_reducible refine (spec_IsFilling.calls k1 _ _ l0 _ _ x6_1 true _ ?side1 ?side2 ?side3 ?side4 A21.out).mono ?_); (case side1 => exact xz HR0.out HB.out); (case side2 => exact HC0.out); (case side3 => exact xc (Kd.S_reads' HO_6.out).2.2); (case side4 => exact (Kd.S_reads' HO_6.out).2.1); rintro e w24 ⟨rfl, hb⟩; refine ⟨_, rfl, ?_⟩; replace HO_6 := ax (Kd.S_below (xS HO_6.out) hb); replace HB := yB HB hb; (try clear hb)))
      go_ret2
      exact ⟨_, xe, xS HO_6.out, xb HB.out⟩
     ·replace c22 := Bool.eq_false_iff.mpr c22
      subst c22
      rw [if_neg (show ¬ (false = true) by decide)] at H
      obtain ⟨y466, hy466⟩ : ∃ y_ : List (List Int), y_ = (([] : List (List Int))) := ⟨_, rfl⟩
      replace H : (some (y466, false)) = some (r1, r2) := xv hy466 H
      have Ny466 := ax hy466
      clear hy466
      simp only [Option.some.injEq, Prod.mk.injEq] at H
      obtain ⟨rfl, rfl⟩ := H
      obtain ⟨Ao25, co25, eo25⟩ := Kd.S_slice HO_6.out
      subst eo25
      go_wp2_with (first | ((with_reducible refine gate_callee (f := 17) rfl ?_); refine goesL_ (some 54) rfl rfl Try.func17 (by kernel_rfl) rfl #[.slice A0 l0.length c0, .slice Ao25 x6_1.length co25] rfl xm ?_; (with_reducible refine (spec_IsFilling.calls k1 _ _ l0 _ _ x6_1 false _ ?side1 ?side2 ?side3 ?side4 A21.out).mono ?_); (case side1 => exact xz HR0.out HB.out); (case side2 => exact HC0.out); (case side3 => exact xc (Kd.S_reads' HO_6.out).2.2); (case side4 => exact (Kd.S_reads' HO_6.out).2.1); rintro e w26 ⟨rfl, hb⟩; refine ⟨_, rfl, ?_⟩; replace HO_6 := ax (Kd.S_below (xS HO_6.out) hb); replace HB := yB HB hb; (try clear hb)) | ((with_reducible refine gate_dst (N := 56) rfl ?_); refine Kd.S_lit (Kd.slice 3 (Kd.int .i64)) _ 24 ?hg (N := 56) ?hd (xs := ([] : List (List Int))) (inner := []) (ok := fun _ => True) (okp := fun _ => True) ?hr ?hp (fun _ hk => hk) trivial (Below.refl _ _) (Nat.le_refl _) (by simp) ?_; (case hd => rfl); (case hg => rfl); (case hr => first | (go_simp; done) | (go_simp; rfl)); (case hp => exact (Reps.none _ _)); intro v467 w27 ho28 hb hg_ hnew_; clear hg_ hnew_; (first | rw [← Ny466.out] at ho28 | (simp only [Int.reduceToNat] at ho28; rw [← Ny466.out] at ho28)); have HO468 := ax (Kd.S_lower (Kd.S_new' ho28 (Kd.S_lt (xS HO_6.out))) (below_size (xb HB.out))); replace HO_6 := ax (Kd.S_elder' (xS HO_6.out) (Kd.S_base ho28) hb); replace HB := yB HB hb; clear hb ho28))
      go_ret2
      exact ⟨_, xe, by (with_reducible repeat (first | apply Kd.S_alloc | apply Kd.S_drewN | apply Kd.S_drew)); exact Kd.S_mono HO468.out (fun _ hk => trivial), xb HB.out⟩
 ·replace c5 := Bool.eq_false_iff.mpr c5
  subst c5
  rw [if_neg (show ¬ (false = true) by decide)] at H
  obtain ⟨y459, hy459⟩ : ∃ y_ : List (List Int), y_ = (([] : List (List Int))) := ⟨_, rfl⟩
  replace H : (some (y459, false)) = some (r1, r2) := xv hy459 H
  have Ny459 := ax hy459
  clear hy459
  simp only [Option.some.injEq, Prod.mk.injEq] at H
  obtain ⟨rfl, rfl⟩ := H
  go_enter Try.func10, Try.ntmps10
  go_wp2_with (first | ((with_reducible refine gate_callee (f := 19) rfl ?_); refine goesL_ (some 12) rfl rfl Try.func19 (by kernel_rfl) rfl #[.slice A0 l0.length c0, .slice A1 l1.length c1] rfl xm ?_; (with_reducible refine (spec_HookWeight.calls k _ _ l0 _ _ l1 t457 _ ?side1 ?side2 ?side3 ?side4 A3.out).mono ?_); (case side1 => exact xc HR0.out); (case side2 => exact HC0.out); (case side3 => exact xc HR1.out); (case side4 => exact HC1.out); rintro e w29 ⟨rfl, hb⟩; refine ⟨_, rfl, ?_⟩; replace HB := yB HB hb; (try clear hb)) | ((with_reducible refine gate_callee (f := 33) rfl ?_); refine goesL_ (some 13) rfl rfl Try.func33 (by kernel_rfl) rfl #[.int .i64 t457, .int .i64 0, .int .i64 20] rfl xm ?_; (with_reducible refine (spec_l1In.calls t457 0 20 false _ A4.out).mono ?_); rintro e w' ⟨rfl, ⟨nd, rfl⟩⟩; refine ⟨_, rfl, ?_⟩) | ((with_reducible refine gate_dst (N := 15) rfl ?_); refine Kd.S_lit (Kd.slice 3 (Kd.int .i64)) _ 24 ?hg (N := 15) ?hd (xs := ([] : List (List Int))) (inner := []) (ok := fun _ => True) (okp := fun _ => True) ?hr ?hp (fun _ hk => hk) trivial (Below.refl _ _) (Nat.le_refl _) (by simp) ?_; (case hd => rfl); (case hg => rfl); (case hr => first | (go_simp; done) | (go_simp; rfl)); (case hp => exact (Reps.none _ _)); intro v460 w30 ho31 hb hg_ hnew_; clear hg_ hnew_; (first | rw [← Ny459.out] at ho31 | (simp only [Int.reduceToNat] at ho31; rw [← Ny459.out] at ho31)); have HO461 := ax (Kd.S_lower ho31 (below_size (xb HB.out))); replace HB := yB HB hb; clear hb ho31))
  go_ret2
  exact ⟨_, xe, xS HO461.out, xb HB.out⟩

/-! ### spec_DrawIsReverse: function 11 -/
def spec_DrawIsReverse.f (k : Nat) (l0 : List Int) : Option (List Int × (List (List Int))) := (spec_l27Case.f k l0 true).bind fun bt473 => (some (bt473.1, bt473.2))
theorem spec_DrawIsReverse.mono : ∀ a0 k, LeO (spec_DrawIsReverse.f k a0) (spec_DrawIsReverse.f (k + 1) a0) := by
 intro a0 k
 unfold spec_DrawIsReverse.f
 repeat' with_reducible first | exact spec_l27Case.mono _ _ _ | exact xl | refine LeO.ite ?_ ?_ | refine LeO.bind ?_ fun _ => ?_
theorem spec_DrawIsReverse.calls (k : Nat) (A0 : Option Addr) (c0 : Nat) (l0 : List Int) (r1 : List Int) (r2 : List (List Int)) (w : World) (hr0 : Kd.C (Kd.int .u8) w A0 l0.length l0) (hc0 : l0.length ≤ c0) (h : spec_DrawIsReverse.f k l0 = some (r1, r2)) :
  Calls Try.prog 11 #[.slice A0 l0.length c0] w fun e w' => ∃ v0_ v1_ : Value, e = .returned (.tuple #[v0_, v1_]) ∧ Kd.R (Kd.int .i64) 3 w' w.heap.size (fun _ => True) v0_ r1 ∧ Kd.S (Kd.slice 3 (Kd.int .i64)) 24 w' w.heap.size (fun k_ => some k_ ≠ (v0_ : Value).ownBlock) v1_ r2 ∧ Below w.heap.size w w' := by
 have HR0 := ax hr0
 have HC0 := ax hc0
 clear hr0 hc0
 have HB := ax (Below.refl w.heap.size w)
 have H : ((spec_l27Case.f k l0 true).bind fun bt473 => (some (bt473.1, bt473.2))) = some (r1, r2) := h
 clear h
 obtain ⟨⟨t473, t474⟩, A2, H⟩ := xI H
 dsimp only at H
 simp only [Option.some.injEq, Prod.mk.injEq] at H
 obtain ⟨rfl, rfl⟩ := H
 go_enter Try.func11, Try.ntmps11
 go_wp2_with (first | ((with_reducible refine gate_callee (f := 21) rfl ?_); refine goesL_ (some 8) rfl rfl Try.func21 (by kernel_rfl) rfl #[.slice A0 l0.length c0, .bool true] rfl xm ?_; (with_reducible refine (spec_l27Case.calls k _ _ l0 true t473 t474 _ ?side1 ?side2 A2.out).mono ?_); (case side1 => exact xc HR0.out); (case side2 => exact HC0.out); rintro e w3 ⟨v475, v477, rfl, ho0, ho1, hb⟩; refine ⟨_, rfl, ?_⟩; have HO476 := ax (Kd.R_lower ho0 (below_size (xb HB.out))); have HO478 := ax (Kd.S_lower ho1 (below_size (xb HB.out))); replace HB := yB HB hb; (try clear hb); (try clear ho0); (try clear ho1)))
 go_ret2
 exact ⟨_, _, xe, xR HO476.out, xS HO478.out, xb HB.out⟩

/-! ### spec_DrawHookWeight: function 12 -/
def spec_DrawHookWeight.f (k : Nat) (l0 : List Int) : Option (List Int × (List (List Int))) := (spec_l27Case.f k l0 false).bind fun bt479 => (some (bt479.1, bt479.2))
theorem spec_DrawHookWeight.mono : ∀ a0 k, LeO (spec_DrawHookWeight.f k a0) (spec_DrawHookWeight.f (k + 1) a0) := by
 intro a0 k
 unfold spec_DrawHookWeight.f
 repeat' with_reducible first | exact spec_l27Case.mono _ _ _ | exact xl | refine LeO.ite ?_ ?_ | refine LeO.bind ?_ fun _ => ?_
theorem spec_DrawHookWeight.calls (k : Nat) (A0 : Option Addr) (c0 : Nat) (l0 : List Int) (r1 : List Int) (r2 : List (List Int)) (w : World) (hr0 : Kd.C (Kd.int .u8) w A0 l0.length l0) (hc0 : l0.length ≤ c0) (h : spec_DrawHookWeight.f k l0 = some (r1, r2)) :
  Calls Try.prog 12 #[.slice A0 l0.length c0] w fun e w' => ∃ v0_ v1_ : Value, e = .returned (.tuple #[v0_, v1_]) ∧ Kd.R (Kd.int .i64) 3 w' w.heap.size (fun _ => True) v0_ r1 ∧ Kd.S (Kd.slice 3 (Kd.int .i64)) 24 w' w.heap.size (fun k_ => some k_ ≠ (v0_ : Value).ownBlock) v1_ r2 ∧ Below w.heap.size w w' := by
 have HR0 := ax hr0
 have HC0 := ax hc0
 clear hr0 hc0
 have HB := ax (Below.refl w.heap.size w)
 have H : ((spec_l27Case.f k l0 false).bind fun bt479 => (some (bt479.1, bt479.2))) = some (r1, r2) := h
 clear h
 obtain ⟨⟨t479, t480⟩, A2, H⟩ := xI H
 dsimp only at H
 simp only [Option.some.injEq, Prod.mk.injEq] at H
 obtain ⟨rfl, rfl⟩ := H
 go_enter Try.func12, Try.ntmps12
 go_wp2_with (first | ((with_reducible refine gate_callee (f := 21) rfl ?_); refine goesL_ (some 8) rfl rfl Try.func21 (by kernel_rfl) rfl #[.slice A0 l0.length c0, .bool false] rfl xm ?_; (with_reducible refine (spec_l27Case.calls k _ _ l0 false t479 t480 _ ?side1 ?side2 A2.out).mono ?_); (case side1 => exact xc HR0.out); (case side2 => exact HC0.out); rintro e w3 ⟨v481, v483, rfl, ho0, ho1, hb⟩; refine ⟨_, rfl, ?_⟩; have HO482 := ax (Kd.R_lower ho0 (below_size (xb HB.out))); have HO484 := ax (Kd.S_lower ho1 (below_size (xb HB.out))); replace HB := yB HB hb; (try clear hb); (try clear ho0); (try clear ho1)))
 go_ret2
 exact ⟨_, _, xe, xR HO482.out, xS HO484.out, xb HB.out⟩

/-! ### laws_sameInts: function 35 -/
def laws_sameInts.l0 : Nat → List Int → List Int → Int → Option (Bool)
 | 0, _, _, _ => none
 | k + 1, x0, x1, x5 => if x5 < (x0.length : Int) then (if 0 ≤ x5 then (if x5 < (x1.length : Int) then (if (rd x0 x5) = (rd x1 x5) then (laws_sameInts.l0 k x0 x1 (wrap64 (x5 + 1))) else (some false)) else (none)) else (none)) else (some true)
def laws_sameInts.f (k : Nat) (l0 : List Int) (l1 : List Int) : Option (Bool) := if (l0.length : Int) = (l1.length : Int) then (laws_sameInts.l0 k l0 l1 0) else (some false)
theorem laws_sameInts.mono_l : ∀ k, (∀ y0 y1 y2, LeO (laws_sameInts.l0 k y0 y1 y2) (laws_sameInts.l0 (k + 1) y0 y1 y2))
 | 0 => fun _ _ _ r h => by simp [laws_sameInts.l0] at h
 | k + 1 => by
  have ih0 := laws_sameInts.mono_l k
  ·intro y0 y1 y2
   unfold laws_sameInts.l0
   repeat' with_reducible first | exact ih0 _ _ _ | exact xl | refine LeO.ite ?_ ?_ | refine LeO.bind ?_ fun _ => ?_
theorem laws_sameInts.mono : ∀ a0 a1 k, LeO (laws_sameInts.f k a0 a1) (laws_sameInts.f (k + 1) a0 a1) := by
 intro a0 a1 k
 have ih0 := laws_sameInts.mono_l k
 unfold laws_sameInts.f
 repeat' with_reducible first | exact ih0 _ _ _ | exact xl | refine LeO.ite ?_ ?_ | refine LeO.bind ?_ fun _ => ?_
theorem laws_sameInts.calls (k : Nat) (A0 : Option Addr) (c0 : Nat) (l0 : List Int) (A1 : Option Addr) (c1 : Nat) (l1 : List Int) (r : Bool) (w : World) (hr0 : Kd.C (Kd.int .i64) w A0 l0.length l0) (hc0 : l0.length ≤ c0) (hr1 : Kd.C (Kd.int .i64) w A1 l1.length l1) (hc1 : l1.length ≤ c1) (h : laws_sameInts.f k l0 l1 = some r) :
  Calls Try.prog 35 #[.slice A0 l0.length c0, .slice A1 l1.length c1] w fun e w' => e = .returned (.bool r) ∧ Drawn0 w w' := by
 have HR0 := ax hr0
 have HC0 := ax hc0
 clear hr0 hc0
 have HR1 := ax hr1
 have HC1 := ax hc1
 clear hr1 hc1
 have H : (if (l0.length : Int) = (l1.length : Int) then (laws_sameInts.l0 k l0 l1 0) else (some false)) = some r := h
 clear h
 by_cases c3 : (l0.length : Int) = (l1.length : Int)
 ·rw [if_pos c3] at H
  have c3b0 : ((l0.length : Int) == (l1.length : Int)) = true := beq_iff_eq.mpr c3
  have c3b1 : ((l0.length : Int) != (l1.length : Int)) = false := bne_eq_false_iff_eq.mpr c3
  have c3b2 : (l0.length == l1.length) = true := by first | simpa using c3 | (simp at c3 ⊢; omega)
  clear c3
  have H' := ax H
  clear H
  go_enter Try.func35, Try.ntmps35
  go_wp2
  repeat (go_quiet (fail); try go_wp2)
  go_loopg [5] k (fun kq v5 w' => ∃ (x5_1 : Int), v5 = .int .i64 x5_1 ∧ Aside0 (laws_sameInts.l0 kq l0 l1 x5_1 = some r) ∧ Aside0 (kq ≤ k) ∧ Drawn0 w w')
  case atStart => exact ⟨(0), xr, H', ⟨Nat.le_refl _⟩, by repeat (first | exact Drawn0.refl _ | apply Drawn0.step)⟩
  case round =>
   clear H'
   (try clear c1); (try clear c3); (try clear c3b0); (try clear c3b1); (try clear c3b2)
   obtain ⟨x5_1, rfl, HA, HK1, ⟨m1, rfl⟩⟩ := hrel
   cases gk with
   | zero => exact absurd HA.out (by simp [laws_sameInts.l0])
   | succ k1 =>
    have H := HA.out
    clear HA
    simp only [laws_sameInts.l0] at H
    by_cases c4 : x5_1 < (l0.length : Int)
    ·rw [if_pos c4] at H
     have c4b0 := decide_eq_true c4
     clear c4
     obtain ⟨c5b0, H⟩ := xq H
     obtain ⟨c6b0, H⟩ := xq H
     by_cases c7 : (rd l0 x5_1) = (rd l1 x5_1)
     ·rw [if_pos c7] at H
      have c7b0 : ((rd l0 x5_1) == (rd l1 x5_1)) = true := beq_iff_eq.mpr c7
      have c7b1 : ((rd l0 x5_1) != (rd l1 x5_1)) = false := bne_eq_false_iff_eq.mpr c7
      clear c7
      have H' := ax H
      clear H
      have p485 : 0 ≤ (x5_1 : Int) := xd
      have q485 : x5_1 < (l0.length : Int) := xd
      obtain ⟨ad485, e485, hx485_0⟩ := Kd.at_int HR0.out x5_1 p485 q485
      cases e485
      replace p485 := eq_true p485
      replace q485 := eq_true q485
      have p486 : 0 ≤ (x5_1 : Int) := xd
      have q486 : x5_1 < (l1.length : Int) := xd
      obtain ⟨ad486, e486, hx486_0⟩ := Kd.at_int HR1.out x5_1 p486 q486
      cases e486
      replace p486 := eq_true p486
      replace q486 := eq_true q486
      go_wp2
      repeat (go_quiet (fail); try go_wp2)
      go_roundg k1
      case measure => have := HK1.out; omega
      case rel => exact ⟨(wrap64 (x5_1 + 1)), xr, H', ⟨by have := HK1.out; omega⟩, by repeat (first | exact Drawn0.refl _ | apply Drawn0.step)⟩
     ·rw [if_neg c7] at H
      have c7b0 : ((rd l0 x5_1) == (rd l1 x5_1)) = false := beq_eq_false_iff_ne.mpr c7
      have c7b1 : ((rd l0 x5_1) != (rd l1 x5_1)) = true := bne_iff_ne.mpr c7
      obtain rfl := Option.some.inj H
      have p485 : 0 ≤ (x5_1 : Int) := xd
      have q485 : x5_1 < (l0.length : Int) := xd
      obtain ⟨ad485, e485, hx485_0⟩ := Kd.at_int HR0.out x5_1 p485 q485
      cases e485
      replace p485 := eq_true p485
      replace q485 := eq_true q485
      have p486 : 0 ≤ (x5_1 : Int) := xd
      have q486 : x5_1 < (l1.length : Int) := xd
      obtain ⟨ad486, e486, hx486_0⟩ := Kd.at_int HR1.out x5_1 p486 q486
      cases e486
      replace p486 := eq_true p486
      replace q486 := eq_true q486
      go_wp2
      repeat (go_quiet (fail); try go_wp2)
      go_ret
      exact ⟨by first | rfl | (simp; done) | (simp [*]; done), by repeat (first | exact Drawn0.refl _ | apply Drawn0.step)⟩
    ·rw [if_neg c4] at H
     have c4b0 := decide_eq_false c4
     clear c4
     obtain rfl := Option.some.inj H
     go_wp2
     repeat (go_quiet (fail); try go_wp2)
     go_ret
     exact ⟨by first | rfl | (simp; done) | (simp [*]; done), by repeat (first | exact Drawn0.refl _ | apply Drawn0.step)⟩
 ·rw [if_neg c3] at H
  have c3b0 : ((l0.length : Int) == (l1.length : Int)) = false := beq_eq_false_iff_ne.mpr c3
  have c3b1 : ((l0.length : Int) != (l1.length : Int)) = true := bne_iff_ne.mpr c3
  have c3b2 : (l0.length == l1.length) = false := by first | simpa using c3 | (simp at c3 ⊢; omega)
  obtain rfl := Option.some.inj H
  go_enter Try.func35, Try.ntmps35
  go_wp2
  repeat (go_quiet (fail); try go_wp2)
  go_ret
  exact ⟨by first | rfl | (simp; done) | (simp [*]; done), by repeat (first | exact Drawn0.refl _ | apply Drawn0.step)⟩

/-! ### laws_sameLists: function 13 -/
def laws_sameLists.l0 : Nat → List (List Int) → List (List Int) → Int → Option (Bool)
 | 0, _, _, _ => none
 | k + 1, x0, x1, x5 => if x5 < (x0.length : Int) then (if 0 ≤ x5 then (if x5 < (x1.length : Int) then ((laws_sameInts.f k (rd_L2 x0 x5) (rd_L2 x1 x5)).bind fun t489 => (if t489 = true then (laws_sameLists.l0 k x0 x1 (wrap64 (x5 + 1))) else (some false))) else (none)) else (none)) else (some true)
def laws_sameLists.f (k : Nat) (l0 : List (List Int)) (l1 : List (List Int)) : Option (Bool) := if (l0.length : Int) = (l1.length : Int) then (laws_sameLists.l0 k l0 l1 0) else (some false)
theorem laws_sameLists.mono_l : ∀ k, (∀ y0 y1 y2, LeO (laws_sameLists.l0 k y0 y1 y2) (laws_sameLists.l0 (k + 1) y0 y1 y2))
 | 0 => fun _ _ _ r h => by simp [laws_sameLists.l0] at h
 | k + 1 => by
  have ih0 := laws_sameLists.mono_l k
  ·intro y0 y1 y2
   unfold laws_sameLists.l0
   repeat' with_reducible first | exact ih0 _ _ _ | exact laws_sameInts.mono _ _ _ | exact xl | refine LeO.ite ?_ ?_ | refine LeO.bind ?_ fun _ => ?_
theorem laws_sameLists.mono : ∀ a0 a1 k, LeO (laws_sameLists.f k a0 a1) (laws_sameLists.f (k + 1) a0 a1) := by
 intro a0 a1 k
 have ih0 := laws_sameLists.mono_l k
 unfold laws_sameLists.f
 repeat' with_reducible first | exact ih0 _ _ _ | exact laws_sameInts.mono _ _ _ | exact xl | refine LeO.ite ?_ ?_ | refine LeO.bind ?_ fun _ => ?_
theorem laws_sameLists.calls (k : Nat) (A0 : Option Addr) (c0 : Nat) (l0 : List (List Int)) (A1 : Option Addr) (c1 : Nat) (l1 : List (List Int)) (r : Bool) (w : World) (hr0 : Kd.C (Kd.slice 3 (Kd.int .i64)) w A0 l0.length l0) (hc0 : l0.length ≤ c0) (hr1 : Kd.C (Kd.slice 3 (Kd.int .i64)) w A1 l1.length l1) (hc1 : l1.length ≤ c1) (h : laws_sameLists.f k l0 l1 = some r) :
  Calls Try.prog 13 #[.slice A0 l0.length c0, .slice A1 l1.length c1] w fun e w' => e = .returned (.bool r) ∧ Drawn0 w w' := by
 have HR0 := ax hr0
 have HC0 := ax hc0
 clear hr0 hc0
 have HR1 := ax hr1
 have HC1 := ax hc1
 clear hr1 hc1
 have H : (if (l0.length : Int) = (l1.length : Int) then (laws_sameLists.l0 k l0 l1 0) else (some false)) = some r := h
 clear h
 by_cases c3 : (l0.length : Int) = (l1.length : Int)
 ·rw [if_pos c3] at H
  have c3b0 : ((l0.length : Int) == (l1.length : Int)) = true := beq_iff_eq.mpr c3
  have c3b1 : ((l0.length : Int) != (l1.length : Int)) = false := bne_eq_false_iff_eq.mpr c3
  have c3b2 : (l0.length == l1.length) = true := by first | simpa using c3 | (simp at c3 ⊢; omega)
  clear c3
  have H' := ax H
  clear H
  go_enter Try.func13, Try.ntmps13
  go_wp2
  repeat (go_quiet (fail); try go_wp2)
  go_loopg [5] k (fun kq v5 w' => ∃ (x5_1 : Int), v5 = .int .i64 x5_1 ∧ Aside0 (laws_sameLists.l0 kq l0 l1 x5_1 = some r) ∧ Aside0 (kq ≤ k) ∧ Drawn0 w w')
  case atStart => exact ⟨(0), xr, H', ⟨Nat.le_refl _⟩, by repeat (first | exact Drawn0.refl _ | apply Drawn0.step)⟩
  case round =>
   clear H'
   (try clear c1); (try clear c3); (try clear c3b0); (try clear c3b1); (try clear c3b2)
   obtain ⟨x5_1, rfl, HA, HK1, ⟨m1, rfl⟩⟩ := hrel
   cases gk with
   | zero => exact absurd HA.out (by simp [laws_sameLists.l0])
   | succ k1 =>
    have H := HA.out
    clear HA
    simp only [laws_sameLists.l0] at H
    by_cases c4 : x5_1 < (l0.length : Int)
    ·rw [if_pos c4] at H
     have c4b0 := decide_eq_true c4
     clear c4
     obtain ⟨c5b0, H⟩ := xq H
     obtain ⟨c6b0, H⟩ := xq H
     obtain ⟨t489, A7, H⟩ := xI H
     by_cases c8 : t489 = true
     ·subst c8
      rw [if_pos rfl] at H
      have H' := ax H
      clear H
      have p487 : 0 ≤ (x5_1 : Int) := xd
      have q487 : x5_1 < (l0.length : Int) := xd
      obtain ⟨ad487, A487_0, c487_0, e487, hx487_0, hl487_0, hi487_0⟩ := at_L2 HR0.out x5_1 p487 q487
      cases e487
      have HR487_0 := ax hi487_0
      have HC487_0 := ax hl487_0
      clear hi487_0 hl487_0
      replace p487 := eq_true p487
      replace q487 := eq_true q487
      have p488 : 0 ≤ (x5_1 : Int) := xd
      have q488 : x5_1 < (l1.length : Int) := xd
      obtain ⟨ad488, A488_0, c488_0, e488, hx488_0, hl488_0, hi488_0⟩ := at_L2 HR1.out x5_1 p488 q488
      cases e488
      have HR488_0 := ax hi488_0
      have HC488_0 := ax hl488_0
      clear hi488_0 hl488_0
      replace p488 := eq_true p488
      replace q488 := eq_true q488
      go_wp2_with (first | (go_at_call 35; (with_reducible refine (laws_sameInts.calls k1 _ _ (rd_L2 l0 x5_1) _ _ (rd_L2 l1 x5_1) true _ ?side1 ?side2 ?side3 ?side4 A7.out).mono ?_); (case side1 => exact xc HR487_0.out); (case side2 => exact HC487_0.out); (case side3 => exact xc HR488_0.out); (case side4 => exact HC488_0.out); rintro e w' ⟨rfl, ⟨nd, rfl⟩⟩; (try first | exact ⟨rfl, _, World.drewN_drewN _ _ _⟩ | exact ⟨rfl, _, Eq.trans (World.drewN_drewN _ _ _) (congrArg (World.drewN _) (Nat.add_assoc _ _ _))⟩)))
      repeat (go_quiet (first | (go_at_call 35; (with_reducible refine (laws_sameInts.calls k1 _ _ (rd_L2 l0 x5_1) _ _ (rd_L2 l1 x5_1) true _ ?side1 ?side2 ?side3 ?side4 A7.out).mono ?_); (case side1 => exact xc HR487_0.out); (case side2 => exact HC487_0.out); (case side3 => exact xc HR488_0.out); (case side4 => exact HC488_0.out); rintro e w' ⟨rfl, ⟨nd, rfl⟩⟩; (try first | exact ⟨rfl, _, World.drewN_drewN _ _ _⟩ | exact ⟨rfl, _, Eq.trans (World.drewN_drewN _ _ _) (congrArg (World.drewN _) (Nat.add_assoc _ _ _))⟩))); try go_wp2_with (first | (go_at_call 35; (with_reducible refine (laws_sameInts.calls k1 _ _ (rd_L2 l0 x5_1) _ _ (rd_L2 l1 x5_1) true _ ?side1 ?side2 ?side3 ?side4 A7.out).mono ?_); (case side1 => exact xc HR487_0.out); (case side2 => exact HC487_0.out); (case side3 => exact xc HR488_0.out); (case side4 => exact HC488_0.out); rintro e w' ⟨rfl, ⟨nd, rfl⟩⟩; (try first | exact ⟨rfl, _, World.drewN_drewN _ _ _⟩ | exact ⟨rfl, _, Eq.trans (World.drewN_drewN _ _ _) (congrArg (World.drewN _) (Nat.add_assoc _ _ _))⟩))))
      go_roundg k1
      case measure => have := HK1.out; omega
      case rel => exact ⟨(wrap64 (x5_1 + 1)), xr, H', ⟨by have := HK1.out; omega⟩, by repeat (first | exact Drawn0.refl _ | apply Drawn0.step)⟩
     ·replace c8 := Bool.eq_false_iff.mpr c8
      subst c8
      rw [if_neg (show ¬ (false = true) by decide)] at H
      obtain rfl := Option.some.inj H
      have p487 : 0 ≤ (x5_1 : Int) := xd
      have q487 : x5_1 < (l0.length : Int) := xd
      obtain ⟨ad487, A487_0, c487_0, e487, hx487_0, hl487_0, hi487_0⟩ := at_L2 HR0.out x5_1 p487 q487
      cases e487
      have HR487_0 := ax hi487_0
      have HC487_0 := ax hl487_0
      clear hi487_0 hl487_0
      replace p487 := eq_true p487
      replace q487 := eq_true q487
      have p488 : 0 ≤ (x5_1 : Int) := xd
      have q488 : x5_1 < (l1.length : Int) := xd
      obtain ⟨ad488, A488_0, c488_0, e488, hx488_0, hl488_0, hi488_0⟩ := at_L2 HR1.out x5_1 p488 q488
      cases e488
      have HR488_0 := ax hi488_0
      have HC488_0 := ax hl488_0
      clear hi488_0 hl488_0
      replace p488 := eq_true p488
      replace q488 := eq_true q488
      go_wp2_with (first | (go_at_call 35; (with_reducible refine (laws_sameInts.calls k1 _ _ (rd_L2 l0 x5_1) _ _ (rd_L2 l1 x5_1) false _ ?side1 ?side2 ?side3 ?side4 A7.out).mono ?_); (case side1 => exact xc HR487_0.out); (case side2 => exact HC487_0.out); (case side3 => exact xc HR488_0.out); (case side4 => exact HC488_0.out); rintro e w' ⟨rfl, ⟨nd, rfl⟩⟩; (try first | exact ⟨rfl, _, World.drewN_drewN _ _ _⟩ | exact ⟨rfl, _, Eq.trans (World.drewN_drewN _ _ _) (congrArg (World.drewN _) (Nat.add_assoc _ _ _))⟩)))
      repeat (go_quiet (first | (go_at_call 35; (with_reducible refine (laws_sameInts.calls k1 _ _ (rd_L2 l0 x5_1) _ _ (rd_L2 l1 x5_1) false _ ?side1 ?side2 ?side3 ?side4 A7.out).mono ?_); (case side1 => exact xc HR487_0.out); (case side2 => exact HC487_0.out); (case side3 => exact xc HR488_0.out); (case side4 => exact HC488_0.out); rintro e w' ⟨rfl, ⟨nd, rfl⟩⟩; (try first | exact ⟨rfl, _, World.drewN_drewN _ _ _⟩ | exact ⟨rfl, _, Eq.trans (World.drewN_drewN _ _ _) (congrArg (World.drewN _) (Nat.add_assoc _ _ _))⟩))); try go_wp2_with (first | (go_at_call 35; (with_reducible refine (laws_sameInts.calls k1 _ _ (rd_L2 l0 x5_1) _ _ (rd_L2 l1 x5_1) false _ ?side1 ?side2 ?side3 ?side4 A7.out).mono ?_); (case side1 => exact xc HR487_0.out); (case side2 => exact HC487_0.out); (case side3 => exact xc HR488_0.out); (case side4 => exact HC488_0.out); rintro e w' ⟨rfl, ⟨nd, rfl⟩⟩; (try first | exact ⟨rfl, _, World.drewN_drewN _ _ _⟩ | exact ⟨rfl, _, Eq.trans (World.drewN_drewN _ _ _) (congrArg (World.drewN _) (Nat.add_assoc _ _ _))⟩))))
      go_ret
      exact ⟨by first | rfl | (simp; done) | (simp [*]; done), by repeat (first | exact Drawn0.refl _ | apply Drawn0.step)⟩
    ·rw [if_neg c4] at H
     have c4b0 := decide_eq_false c4
     clear c4
     obtain rfl := Option.some.inj H
     go_wp2
     repeat (go_quiet (fail); try go_wp2)
     go_ret
     exact ⟨by first | rfl | (simp; done) | (simp [*]; done), by repeat (first | exact Drawn0.refl _ | apply Drawn0.step)⟩
 ·rw [if_neg c3] at H
  have c3b0 : ((l0.length : Int) == (l1.length : Int)) = false := beq_eq_false_iff_ne.mpr c3
  have c3b1 : ((l0.length : Int) != (l1.length : Int)) = true := bne_iff_ne.mpr c3
  have c3b2 : (l0.length == l1.length) = false := by first | simpa using c3 | (simp at c3 ⊢; omega)
  obtain rfl := Option.some.inj H
  go_enter Try.func13, Try.ntmps13
  go_wp2
  repeat (go_quiet (fail); try go_wp2)
  go_ret
  exact ⟨by first | rfl | (simp; done) | (simp [*]; done), by repeat (first | exact Drawn0.refl _ | apply Drawn0.step)⟩

end Go.Proofs.Ytnfcdaojglicfab.PFnFillings
