import Derived.Test.YtnfcdaojglicfabPFnFillingsx8
namespace Go.Proofs.Ytnfcdaojglicfab.PFnFillings
open Go.RowKit Go.Proofs.YtnfcdaojglicfabW.PrintWords Go.Proofs.YtnfcdaojglicfabW.PrintLast Go.Proofs.YtnfcdaojglicfabW.PrintMore
set_option linter.unusedVariables false
set_option linter.unusedSimpArgs false
set_option maxHeartbeats 8000000
set_option maxRecDepth 100000
/-! ### spec_IsReverse: function 15 -/
mutual
def spec_IsReverse.l0 : Nat → List Int → List (List Int) → Int → Option (Bool)
 | 0, _, _, _ => none
 | k + 1, x0, x1, x5 => if x5 < (x0.length : Int) then (spec_IsReverse.l1 k x0 x1 x5 0) else (some true)
def spec_IsReverse.l1 : Nat → List Int → List (List Int) → Int → Int → Option (Bool)
 | 0, _, _, _, _ => none
 | k + 1, x0, x1, x5, x6 => if 0 ≤ x5 then (if x5 < (x0.length : Int) then (if x6 < (rd x0 x5) then (if x6 > 0 then (if x5 < (x1.length : Int) then (if 0 ≤ x6 then (if x6 < ((rd_L2 x1 x5).length : Int) then (if 0 ≤ (wrap64 (x6 - 1)) then (if (wrap64 (x6 - 1)) < ((rd_L2 x1 x5).length : Int) then (if (rd (rd_L2 x1 x5) x6) < (rd (rd_L2 x1 x5) (wrap64 (x6 - 1))) then (some false) else (if x5 > 0 then (if 0 ≤ (wrap64 (x5 - 1)) then (if (wrap64 (x5 - 1)) < (x1.length : Int) then (if x6 < ((rd_L2 x1 (wrap64 (x5 - 1))).length : Int) then (if (rd (rd_L2 x1 x5) x6) < (rd (rd_L2 x1 (wrap64 (x5 - 1))) x6) then (some false) else (spec_IsReverse.l1 k x0 x1 x5 (wrap64 (x6 + 1)))) else (none)) else (none)) else (none)) else (spec_IsReverse.l1 k x0 x1 x5 (wrap64 (x6 + 1))))) else (none)) else (none)) else (none)) else (none)) else (none)) else (if x5 > 0 then (if x5 < (x1.length : Int) then (if 0 ≤ x6 then (if x6 < ((rd_L2 x1 x5).length : Int) then (if 0 ≤ (wrap64 (x5 - 1)) then (if (wrap64 (x5 - 1)) < (x1.length : Int) then (if x6 < ((rd_L2 x1 (wrap64 (x5 - 1))).length : Int) then (if (rd (rd_L2 x1 x5) x6) < (rd (rd_L2 x1 (wrap64 (x5 - 1))) x6) then (some false) else (spec_IsReverse.l1 k x0 x1 x5 (wrap64 (x6 + 1)))) else (none)) else (none)) else (none)) else (none)) else (none)) else (none)) else (spec_IsReverse.l1 k x0 x1 x5 (wrap64 (x6 + 1))))) else (spec_IsReverse.l0 k x0 x1 (wrap64 (x5 + 1)))) else (none)) else (none)
end
def spec_IsReverse.f (k : Nat) (l0 : List Int) (l1 : List (List Int)) : Option (Bool) := (spec_IsFilling.f k l0 l1).bind fun t347 => (if t347 = true then (spec_IsReverse.l0 k l0 l1 0) else (some false))
theorem spec_IsReverse.mono_l : ∀ k, (∀ y0 y1 y2, LeO (spec_IsReverse.l0 k y0 y1 y2) (spec_IsReverse.l0 (k + 1) y0 y1 y2)) ∧ (∀ y0 y1 y2 y3, LeO (spec_IsReverse.l1 k y0 y1 y2 y3) (spec_IsReverse.l1 (k + 1) y0 y1 y2 y3))
 | 0 => ⟨fun _ _ _ r h => by simp [spec_IsReverse.l0] at h, fun _ _ _ _ r h => by simp [spec_IsReverse.l1] at h⟩
 | k + 1 => by
  obtain ⟨ih0, ih1⟩ := spec_IsReverse.mono_l k
  refine ⟨?_, ?_⟩
  ·intro y0 y1 y2
   unfold spec_IsReverse.l0
   repeat' with_reducible first | exact ih0 _ _ _ | exact ih1 _ _ _ _ | exact spec_IsFilling.mono _ _ _ | exact xl | refine LeO.ite ?_ ?_ | refine LeO.bind ?_ fun _ => ?_
  ·intro y0 y1 y2 y3
   unfold spec_IsReverse.l1
   repeat' with_reducible first | exact ih0 _ _ _ | exact ih1 _ _ _ _ | exact spec_IsFilling.mono _ _ _ | exact xl | refine LeO.ite ?_ ?_ | refine LeO.bind ?_ fun _ => ?_
theorem spec_IsReverse.mono : ∀ a0 a1 k, LeO (spec_IsReverse.f k a0 a1) (spec_IsReverse.f (k + 1) a0 a1) := by
 intro a0 a1 k
 obtain ⟨ih0, ih1⟩ := spec_IsReverse.mono_l k
 unfold spec_IsReverse.f
 repeat' with_reducible first | exact ih0 _ _ _ | exact ih1 _ _ _ _ | exact spec_IsFilling.mono _ _ _ | exact xl | refine LeO.ite ?_ ?_ | refine LeO.bind ?_ fun _ => ?_
theorem spec_IsReverse.calls (k : Nat) (A0 : Option Addr) (c0 : Nat) (l0 : List Int) (A1 : Option Addr) (c1 : Nat) (l1 : List (List Int)) (r : Bool) (w : World) (hr0 : Kd.C (Kd.int .i64) w A0 l0.length l0) (hc0 : l0.length ≤ c0) (hr1 : Kd.C (Kd.slice 3 (Kd.int .i64)) w A1 l1.length l1) (hc1 : l1.length ≤ c1) (h : spec_IsReverse.f k l0 l1 = some r) :
  Calls Try.prog 15 #[.slice A0 l0.length c0, .slice A1 l1.length c1] w fun e w' => e = .returned (.bool r) ∧ Below w.heap.size w w' := by
 have HR0 := ax hr0
 have HC0 := ax hc0
 clear hr0 hc0
 have HR1 := ax hr1
 have HC1 := ax hc1
 clear hr1 hc1
 have HB := ax (Below.refl w.heap.size w)
 have H : ((spec_IsFilling.f k l0 l1).bind fun t347 => (if t347 = true then (spec_IsReverse.l0 k l0 l1 0) else (some false))) = some r := h
 clear h
 obtain ⟨t347, A3, H⟩ := xI H
 by_cases c4 : t347 = true
 ·subst c4
  rw [if_pos rfl] at H
  have H' := ax H
  clear H
  go_enter Try.func15, Try.ntmps15
  go_wp2_with (first | (go_at_call 17; (with_reducible refine (spec_IsFilling.calls k _ _ l0 _ _ l1 true _ ?side1 ?side2 ?side3 ?side4 A3.out).mono ?_); (case side1 => exact xc HR0.out); (case side2 => exact HC0.out); (case side3 => exact xc HR1.out); (case side4 => exact HC1.out); rintro e w5 ⟨rfl, hb⟩; replace HB := yB HB hb; (try clear hb)))
  repeat (go_quiet (first | (go_at_call 17; (with_reducible refine (spec_IsFilling.calls k _ _ l0 _ _ l1 true _ ?side1 ?side2 ?side3 ?side4 A3.out).mono ?_); (case side1 => exact xc HR0.out); (case side2 => exact HC0.out); (case side3 => exact xc HR1.out); (case side4 => exact HC1.out); rintro e w5 ⟨rfl, hb⟩; replace HB := yB HB hb; (try clear hb))); try go_wp2_with (first | (go_at_call 17; (with_reducible refine (spec_IsFilling.calls k _ _ l0 _ _ l1 true _ ?side1 ?side2 ?side3 ?side4 A3.out).mono ?_); (case side1 => exact xc HR0.out); (case side2 => exact HC0.out); (case side3 => exact xc HR1.out); (case side4 => exact HC1.out); rintro e w5 ⟨rfl, hb⟩; replace HB := yB HB hb; (try clear hb))))
  go_loopg [5] k (fun kq v5 w' => ∃ (x5_1 : Int), v5 = .int .i64 x5_1 ∧ Aside0 (spec_IsReverse.l0 kq l0 l1 x5_1 = some r) ∧ Aside0 (kq ≤ k) ∧ Aside0 (Below w.heap.size w w'))
  case atStart => exact ⟨(0), xr, H', ⟨Nat.le_refl _⟩, ⟨xb HB.out⟩⟩
  case round =>
   clear H'
   (try clear c1); (try clear c4)
   obtain ⟨x5_1, rfl, HA, HK1, HB⟩ := hrel
   cases gk with
   | zero => exact absurd HA.out (by simp [spec_IsReverse.l0])
   | succ k1 =>
    have H := HA.out
    clear HA
    simp only [spec_IsReverse.l0] at H
    by_cases c6 : x5_1 < (l0.length : Int)
    ·rw [if_pos c6] at H
     have c6b0 := decide_eq_true c6
     clear c6
     have H' := ax H
     clear H
     go_wp2
     repeat (go_quiet (fail); try go_wp2)
     go_loopg [6] k1 (fun kq v6 w' => ∃ (x6_2 : Int), v6 = .int .i64 x6_2 ∧ Aside0 (spec_IsReverse.l1 kq l0 l1 x5_1 x6_2 = some r) ∧ Aside0 (kq ≤ k1) ∧ Aside0 (Below w.heap.size w w'))
     case atStart => exact ⟨(0), xr, H', ⟨Nat.le_refl _⟩, ⟨xb HB.out⟩⟩
     case round =>
      clear H'
      (try clear c1); (try clear c4); (try clear c6); (try clear c6b0)
      obtain ⟨x6_2, rfl, HA, HK2, HB⟩ := hrel
      cases gk with
      | zero => exact absurd HA.out (by simp [spec_IsReverse.l1])
      | succ k2 =>
       have H := HA.out
       clear HA
       simp only [spec_IsReverse.l1] at H
       obtain ⟨c7b0, H⟩ := xq H
       obtain ⟨c8b0, H⟩ := xq H
       by_cases c9 : x6_2 < (rd l0 x5_1)
       ·rw [if_pos c9] at H
        have c9b0 := decide_eq_true c9
        clear c9
        by_cases c10 : x6_2 > 0
        ·rw [if_pos c10] at H
         have c10b0 : decide (0 < x6_2) = true := decide_eq_true c10
         clear c10
         obtain ⟨c11b0, H⟩ := xq H
         obtain ⟨c12b0, H⟩ := xq H
         obtain ⟨c13b0, H⟩ := xq H
         obtain ⟨ji14, hji14⟩ : ∃ j_ : Int, (wrap64 (x6_2 - 1)) = j_ := ⟨_, rfl⟩
         replace H : (if 0 ≤ (ji14) then (if (ji14) < ((rd_L2 l1 x5_1).length : Int) then (if (rd (rd_L2 l1 x5_1) x6_2) < (rd (rd_L2 l1 x5_1) (ji14)) then (some false) else (if x5_1 > 0 then (if 0 ≤ (wrap64 (x5_1 - 1)) then (if (wrap64 (x5_1 - 1)) < (l1.length : Int) then (if x6_2 < ((rd_L2 l1 (wrap64 (x5_1 - 1))).length : Int) then (if (rd (rd_L2 l1 x5_1) x6_2) < (rd (rd_L2 l1 (wrap64 (x5_1 - 1))) x6_2) then (some false) else (spec_IsReverse.l1 k2 l0 l1 x5_1 (wrap64 (x6_2 + 1)))) else (none)) else (none)) else (none)) else (spec_IsReverse.l1 k2 l0 l1 x5_1 (wrap64 (x6_2 + 1))))) else (none)) else (none)) = some r := by first | (rw [hji14] at H; exact H) | (simp only [hji14] at H ⊢; exact H)
         have hji14w : (IntKind.i64.wrap (x6_2 - 1)) = ji14 := (i64_w _).trans hji14
         obtain ⟨c15b0, H⟩ := xq H
         obtain ⟨c16b0, H⟩ := xq H
         by_cases c17 : (rd (rd_L2 l1 x5_1) x6_2) < (rd (rd_L2 l1 x5_1) (ji14))
         ·rw [if_pos c17] at H
          have c17b0 := decide_eq_true c17
          clear c17
          obtain rfl := Option.some.inj H
          have p348 : 0 ≤ (x5_1 : Int) := xd
          have q348 : x5_1 < (l0.length : Int) := xd
          obtain ⟨ad348, e348, hx348_0⟩ := Kd.at_int HR0.out x5_1 p348 q348
          cases e348
          (try replace hx348_0 := (HB.out.cell (World.block_lt_of_cell? w _ hx348_0)).trans hx348_0)
          replace p348 := eq_true p348
          replace q348 := eq_true q348
          have p349 : 0 ≤ (x5_1 : Int) := xd
          have q349 : x5_1 < (l1.length : Int) := xd
          obtain ⟨ad349, A349_0, c349_0, e349, hx349_0, hl349_0, hi349_0⟩ := at_L2 HR1.out x5_1 p349 q349
          cases e349
          (try replace hx349_0 := (HB.out.cell (World.block_lt_of_cell? w _ hx349_0)).trans hx349_0)
          have HR349_0 := ax hi349_0
          have HC349_0 := ax hl349_0
          clear hi349_0 hl349_0
          replace p349 := eq_true p349
          replace q349 := eq_true q349
          have p350 : 0 ≤ (x6_2 : Int) := xd
          have q350 : x6_2 < ((rd_L2 l1 x5_1).length : Int) := xd
          obtain ⟨ad350, e350, hx350_0⟩ := Kd.at_int HR349_0.out x6_2 p350 q350
          cases e350
          (try replace hx350_0 := (HB.out.cell (World.block_lt_of_cell? w _ hx350_0)).trans hx350_0)
          replace p350 := eq_true p350
          replace q350 := eq_true q350
          have p351 : 0 ≤ (x5_1 : Int) := xd
          have q351 : x5_1 < (l1.length : Int) := xd
          obtain ⟨ad351, A351_0, c351_0, e351, hx351_0, hl351_0, hi351_0⟩ := at_L2 HR1.out x5_1 p351 q351
          obtain rfl : ad349 = ad351 := (by injection e351)
          (try replace hx351_0 := (HB.out.cell (World.block_lt_of_cell? w _ hx351_0)).trans hx351_0)
          have HR351_0 := ax hi351_0
          have HC351_0 := ax hl351_0
          clear hi351_0 hl351_0
          replace p351 := eq_true p351
          replace q351 := eq_true q351
          have ea_ := Option.some.inj (hx349_0.symm.trans hx351_0)
          injection ea_ with ea_ en_ ec_
          subst ea_
          subst ec_
          clear en_
          have p352 : 0 ≤ ((ji14) : Int) := xd
          have q352 : (ji14) < ((rd_L2 l1 x5_1).length : Int) := xd
          obtain ⟨ad352, e352, hx352_0⟩ := Kd.at_int HR351_0.out (ji14) p352 q352
          cases e352
          (try replace hx352_0 := (HB.out.cell (World.block_lt_of_cell? w _ hx352_0)).trans hx352_0)
          replace p352 := eq_true p352
          replace q352 := eq_true q352
          go_wp2
          repeat (go_quiet (fail); try go_wp2)
          go_ret
          exact ⟨by first | rfl | (simp [errW_none, errW_some] <;> rfl) | (simp only [← hji14]; first | rfl | (simp [errW_none, errW_some] <;> rfl)) | (simp [*, errW_none, errW_some] <;> rfl), xb HB.out⟩
         ·rw [if_neg c17] at H
          have c17b0 := decide_eq_false c17
          clear c17
          by_cases c18 : x5_1 > 0
          ·rw [if_pos c18] at H
           have c18b0 : decide (0 < x5_1) = true := decide_eq_true c18
           clear c18
           obtain ⟨ji19, hji19⟩ : ∃ j_ : Int, (wrap64 (x5_1 - 1)) = j_ := ⟨_, rfl⟩
           replace H : (if 0 ≤ (ji19) then (if (ji19) < (l1.length : Int) then (if x6_2 < ((rd_L2 l1 (ji19)).length : Int) then (if (rd (rd_L2 l1 x5_1) x6_2) < (rd (rd_L2 l1 (ji19)) x6_2) then (some false) else (spec_IsReverse.l1 k2 l0 l1 x5_1 (wrap64 (x6_2 + 1)))) else (none)) else (none)) else (none)) = some r := by first | (rw [hji19] at H; exact H) | (simp only [hji19] at H ⊢; exact H)
           have hji19w : (IntKind.i64.wrap (x5_1 - 1)) = ji19 := (i64_w _).trans hji19
           obtain ⟨c20b0, H⟩ := xq H
           obtain ⟨c21b0, H⟩ := xq H
           obtain ⟨c22b0, H⟩ := xq H
           by_cases c23 : (rd (rd_L2 l1 x5_1) x6_2) < (rd (rd_L2 l1 (ji19)) x6_2)
           ·rw [if_pos c23] at H
            have c23b0 := decide_eq_true c23
            clear c23
            obtain rfl := Option.some.inj H
            have p348 : 0 ≤ (x5_1 : Int) := xd
            have q348 : x5_1 < (l0.length : Int) := xd
            obtain ⟨ad348, e348, hx348_0⟩ := Kd.at_int HR0.out x5_1 p348 q348
            cases e348
            (try replace hx348_0 := (HB.out.cell (World.block_lt_of_cell? w _ hx348_0)).trans hx348_0)
            replace p348 := eq_true p348
            replace q348 := eq_true q348
            have p349 : 0 ≤ (x5_1 : Int) := xd
            have q349 : x5_1 < (l1.length : Int) := xd
            obtain ⟨ad349, A349_0, c349_0, e349, hx349_0, hl349_0, hi349_0⟩ := at_L2 HR1.out x5_1 p349 q349
            cases e349
            (try replace hx349_0 := (HB.out.cell (World.block_lt_of_cell? w _ hx349_0)).trans hx349_0)
            have HR349_0 := ax hi349_0
            have HC349_0 := ax hl349_0
            clear hi349_0 hl349_0
            replace p349 := eq_true p349
            replace q349 := eq_true q349
            have p350 : 0 ≤ (x6_2 : Int) := xd
            have q350 : x6_2 < ((rd_L2 l1 x5_1).length : Int) := xd
            obtain ⟨ad350, e350, hx350_0⟩ := Kd.at_int HR349_0.out x6_2 p350 q350
            cases e350
            (try replace hx350_0 := (HB.out.cell (World.block_lt_of_cell? w _ hx350_0)).trans hx350_0)
            replace p350 := eq_true p350
            replace q350 := eq_true q350
            have p351 : 0 ≤ (x5_1 : Int) := xd
            have q351 : x5_1 < (l1.length : Int) := xd
            obtain ⟨ad351, A351_0, c351_0, e351, hx351_0, hl351_0, hi351_0⟩ := at_L2 HR1.out x5_1 p351 q351
            obtain rfl : ad349 = ad351 := (by injection e351)
            (try replace hx351_0 := (HB.out.cell (World.block_lt_of_cell? w _ hx351_0)).trans hx351_0)
            have HR351_0 := ax hi351_0
            have HC351_0 := ax hl351_0
            clear hi351_0 hl351_0
            replace p351 := eq_true p351
            replace q351 := eq_true q351
            have ea_ := Option.some.inj (hx349_0.symm.trans hx351_0)
            injection ea_ with ea_ en_ ec_
            subst ea_
            subst ec_
            clear en_
            have p352 : 0 ≤ ((ji14) : Int) := xd
            have q352 : (ji14) < ((rd_L2 l1 x5_1).length : Int) := xd
            obtain ⟨ad352, e352, hx352_0⟩ := Kd.at_int HR351_0.out (ji14) p352 q352
            cases e352
            (try replace hx352_0 := (HB.out.cell (World.block_lt_of_cell? w _ hx352_0)).trans hx352_0)
            replace p352 := eq_true p352
            replace q352 := eq_true q352
            have p353 : 0 ≤ (x5_1 : Int) := xd
            have q353 : x5_1 < (l1.length : Int) := xd
            obtain ⟨ad353, A353_0, c353_0, e353, hx353_0, hl353_0, hi353_0⟩ := at_L2 HR1.out x5_1 p353 q353
            obtain rfl : ad349 = ad353 := (by injection e353)
            (try replace hx353_0 := (HB.out.cell (World.block_lt_of_cell? w _ hx353_0)).trans hx353_0)
            have HR353_0 := ax hi353_0
            have HC353_0 := ax hl353_0
            clear hi353_0 hl353_0
            replace p353 := eq_true p353
            replace q353 := eq_true q353
            have ea_ := Option.some.inj (hx349_0.symm.trans hx353_0)
            injection ea_ with ea_ en_ ec_
            subst ea_
            subst ec_
            clear en_
            have p354 : 0 ≤ (x6_2 : Int) := xd
            have q354 : x6_2 < ((rd_L2 l1 x5_1).length : Int) := xd
            obtain ⟨ad354, e354, hx354_0⟩ := Kd.at_int HR353_0.out x6_2 p354 q354
            cases e354
            (try replace hx354_0 := (HB.out.cell (World.block_lt_of_cell? w _ hx354_0)).trans hx354_0)
            replace p354 := eq_true p354
            replace q354 := eq_true q354
            have p355 : 0 ≤ ((ji19) : Int) := xd
            have q355 : (ji19) < (l1.length : Int) := xd
            obtain ⟨ad355, A355_0, c355_0, e355, hx355_0, hl355_0, hi355_0⟩ := at_L2 HR1.out (ji19) p355 q355
            obtain rfl : ad349 = ad355 := (by injection e355)
            (try replace hx355_0 := (HB.out.cell (World.block_lt_of_cell? w _ hx355_0)).trans hx355_0)
            have HR355_0 := ax hi355_0
            have HC355_0 := ax hl355_0
            clear hi355_0 hl355_0
            replace p355 := eq_true p355
            replace q355 := eq_true q355
            have p356 : 0 ≤ (x6_2 : Int) := xd
            have q356 : x6_2 < ((rd_L2 l1 (ji19)).length : Int) := xd
            obtain ⟨ad356, e356, hx356_0⟩ := Kd.at_int HR355_0.out x6_2 p356 q356
            cases e356
            (try replace hx356_0 := (HB.out.cell (World.block_lt_of_cell? w _ hx356_0)).trans hx356_0)
            replace p356 := eq_true p356
            replace q356 := eq_true q356
            go_wp2
            repeat (go_quiet (fail); try go_wp2)
            go_ret
            exact ⟨by first | rfl | (simp [errW_none, errW_some] <;> rfl) | (simp only [← hji14, ← hji19]; first | rfl | (simp [errW_none, errW_some] <;> rfl)) | (simp [*, errW_none, errW_some] <;> rfl), xb HB.out⟩
           ·rw [if_neg c23] at H
            have c23b0 := decide_eq_false c23
            clear c23
            have H' := ax H
            clear H
            have p348 : 0 ≤ (x5_1 : Int) := xd
            have q348 : x5_1 < (l0.length : Int) := xd
            obtain ⟨ad348, e348, hx348_0⟩ := Kd.at_int HR0.out x5_1 p348 q348
            cases e348
            (try replace hx348_0 := (HB.out.cell (World.block_lt_of_cell? w _ hx348_0)).trans hx348_0)
            replace p348 := eq_true p348
            replace q348 := eq_true q348
            have p349 : 0 ≤ (x5_1 : Int) := xd
            have q349 : x5_1 < (l1.length : Int) := xd
            obtain ⟨ad349, A349_0, c349_0, e349, hx349_0, hl349_0, hi349_0⟩ := at_L2 HR1.out x5_1 p349 q349
            cases e349
            (try replace hx349_0 := (HB.out.cell (World.block_lt_of_cell? w _ hx349_0)).trans hx349_0)
            have HR349_0 := ax hi349_0
            have HC349_0 := ax hl349_0
            clear hi349_0 hl349_0
            replace p349 := eq_true p349
            replace q349 := eq_true q349
            have p350 : 0 ≤ (x6_2 : Int) := xd
            have q350 : x6_2 < ((rd_L2 l1 x5_1).length : Int) := xd
            obtain ⟨ad350, e350, hx350_0⟩ := Kd.at_int HR349_0.out x6_2 p350 q350
            cases e350
            (try replace hx350_0 := (HB.out.cell (World.block_lt_of_cell? w _ hx350_0)).trans hx350_0)
            replace p350 := eq_true p350
            replace q350 := eq_true q350
            have p351 : 0 ≤ (x5_1 : Int) := xd
            have q351 : x5_1 < (l1.length : Int) := xd
            obtain ⟨ad351, A351_0, c351_0, e351, hx351_0, hl351_0, hi351_0⟩ := at_L2 HR1.out x5_1 p351 q351
            obtain rfl : ad349 = ad351 := (by injection e351)
            (try replace hx351_0 := (HB.out.cell (World.block_lt_of_cell? w _ hx351_0)).trans hx351_0)
            have HR351_0 := ax hi351_0
            have HC351_0 := ax hl351_0
            clear hi351_0 hl351_0
            replace p351 := eq_true p351
            replace q351 := eq_true q351
            have ea_ := Option.some.inj (hx349_0.symm.trans hx351_0)
            injection ea_ with ea_ en_ ec_
            subst ea_
            subst ec_
            clear en_
            have p352 : 0 ≤ ((ji14) : Int) := xd
            have q352 : (ji14) < ((rd_L2 l1 x5_1).length : Int) := xd
            obtain ⟨ad352, e352, hx352_0⟩ := Kd.at_int HR351_0.out (ji14) p352 q352
            cases e352
            (try replace hx352_0 := (HB.out.cell (World.block_lt_of_cell? w _ hx352_0)).trans hx352_0)
            replace p352 := eq_true p352
            replace q352 := eq_true q352
            have p353 : 0 ≤ (x5_1 : Int) := xd
            have q353 : x5_1 < (l1.length : Int) := xd
            obtain ⟨ad353, A353_0, c353_0, e353, hx353_0, hl353_0, hi353_0⟩ := at_L2 HR1.out x5_1 p353 q353
            obtain rfl : ad349 = ad353 := (by injection e353)
            (try replace hx353_0 := (HB.out.cell (World.block_lt_of_cell? w _ hx353_0)).trans hx353_0)
            have HR353_0 := ax hi353_0
            have HC353_0 := ax hl353_0
            clear hi353_0 hl353_0
            replace p353 := eq_true p353
            replace q353 := eq_true q353
            have ea_ := Option.some.inj (hx349_0.symm.trans hx353_0)
            injection ea_ with ea_ en_ ec_
            subst ea_
            subst ec_
            clear en_
            have p354 : 0 ≤ (x6_2 : Int) := xd
            have q354 : x6_2 < ((rd_L2 l1 x5_1).length : Int) := xd
            obtain ⟨ad354, e354, hx354_0⟩ := Kd.at_int HR353_0.out x6_2 p354 q354
            cases e354
            (try replace hx354_0 := (HB.out.cell (World.block_lt_of_cell? w _ hx354_0)).trans hx354_0)
            replace p354 := eq_true p354
            replace q354 := eq_true q354
            have p355 : 0 ≤ ((ji19) : Int) := xd
            have q355 : (ji19) < (l1.length : Int) := xd
            obtain ⟨ad355, A355_0, c355_0, e355, hx355_0, hl355_0, hi355_0⟩ := at_L2 HR1.out (ji19) p355 q355
            obtain rfl : ad349 = ad355 := (by injection e355)
            (try replace hx355_0 := (HB.out.cell (World.block_lt_of_cell? w _ hx355_0)).trans hx355_0)
            have HR355_0 := ax hi355_0
            have HC355_0 := ax hl355_0
            clear hi355_0 hl355_0
            replace p355 := eq_true p355
            replace q355 := eq_true q355
            have p356 : 0 ≤ (x6_2 : Int) := xd
            have q356 : x6_2 < ((rd_L2 l1 (ji19)).length : Int) := xd
            obtain ⟨ad356, e356, hx356_0⟩ := Kd.at_int HR355_0.out x6_2 p356 q356
            cases e356
            (try replace hx356_0 := (HB.out.cell (World.block_lt_of_cell? w _ hx356_0)).trans hx356_0)
            replace p356 := eq_true p356
            replace q356 := eq_true q356
            go_wp2
            repeat (go_quiet (fail); try go_wp2)
            go_roundg k2
            case measure => have := HK1.out; have := HK2.out; omega
            case rel => exact ⟨(wrap64 (x6_2 + 1)), xr, H', ⟨by have := HK1.out; have := HK2.out; omega⟩, ⟨xb HB.out⟩⟩
          ·rw [if_neg c18] at H
           have c18b0 : decide (0 < x5_1) = false := decide_eq_false c18
           clear c18
           have H' := ax H
           clear H
           have p348 : 0 ≤ (x5_1 : Int) := xd
           have q348 : x5_1 < (l0.length : Int) := xd
           obtain ⟨ad348, e348, hx348_0⟩ := Kd.at_int HR0.out x5_1 p348 q348
           cases e348
           (try replace hx348_0 := (HB.out.cell (World.block_lt_of_cell? w _ hx348_0)).trans hx348_0)
           replace p348 := eq_true p348
           replace q348 := eq_true q348
           have p349 : 0 ≤ (x5_1 : Int) := xd
           have q349 : x5_1 < (l1.length : Int) := xd
           obtain ⟨ad349, A349_0, c349_0, e349, hx349_0, hl349_0, hi349_0⟩ := at_L2 HR1.out x5_1 p349 q349
           cases e349
           (try replace hx349_0 := (HB.out.cell (World.block_lt_of_cell? w _ hx349_0)).trans hx349_0)
           have HR349_0 := ax hi349_0
           have HC349_0 := ax hl349_0
           clear hi349_0 hl349_0
           replace p349 := eq_true p349
           replace q349 := eq_true q349
           have p350 : 0 ≤ (x6_2 : Int) := xd
           have q350 : x6_2 < ((rd_L2 l1 x5_1).length : Int) := xd
           obtain ⟨ad350, e350, hx350_0⟩ := Kd.at_int HR349_0.out x6_2 p350 q350
           cases e350
           (try replace hx350_0 := (HB.out.cell (World.block_lt_of_cell? w _ hx350_0)).trans hx350_0)
           replace p350 := eq_true p350
           replace q350 := eq_true q350
           have p351 : 0 ≤ (x5_1 : Int) := xd
           have q351 : x5_1 < (l1.length : Int) := xd
           obtain ⟨ad351, A351_0, c351_0, e351, hx351_0, hl351_0, hi351_0⟩ := at_L2 HR1.out x5_1 p351 q351
           obtain rfl : ad349 = ad351 := (by injection e351)
           (try replace hx351_0 := (HB.out.cell (World.block_lt_of_cell? w _ hx351_0)).trans hx351_0)
           have HR351_0 := ax hi351_0
           have HC351_0 := ax hl351_0
           clear hi351_0 hl351_0
           replace p351 := eq_true p351
           replace q351 := eq_true q351
           have ea_ := Option.some.inj (hx349_0.symm.trans hx351_0)
           injection ea_ with ea_ en_ ec_
           subst ea_
           subst ec_
           clear en_
           have p352 : 0 ≤ ((ji14) : Int) := xd
           have q352 : (ji14) < ((rd_L2 l1 x5_1).length : Int) := xd
           obtain ⟨ad352, e352, hx352_0⟩ := Kd.at_int HR351_0.out (ji14) p352 q352
           cases e352
           (try replace hx352_0 := (HB.out.cell (World.block_lt_of_cell? w _ hx352_0)).trans hx352_0)
           replace p352 := eq_true p352
           replace q352 := eq_true q352
           go_wp2
           repeat (go_quiet (fail); try go_wp2)
           go_roundg k2
           case measure => have := HK1.out; have := HK2.out; omega
           case rel => exact ⟨(wrap64 (x6_2 + 1)), xr, H', ⟨by have := HK1.out; have := HK2.out; omega⟩, ⟨xb HB.out⟩⟩
        ·rw [if_neg c10] at H
         have c10b0 : decide (0 < x6_2) = false := decide_eq_false c10
         clear c10
         by_cases c24 : x5_1 > 0
         ·rw [if_pos c24] at H
          have c24b0 : decide (0 < x5_1) = true := decide_eq_true c24
          clear c24
          obtain ⟨c25b0, H⟩ := xq H
          obtain ⟨c26b0, H⟩ := xq H
          obtain ⟨c27b0, H⟩ := xq H
          obtain ⟨ji28, hji28⟩ : ∃ j_ : Int, (wrap64 (x5_1 - 1)) = j_ := ⟨_, rfl⟩
          replace H : (if 0 ≤ (ji28) then (if (ji28) < (l1.length : Int) then (if x6_2 < ((rd_L2 l1 (ji28)).length : Int) then (if (rd (rd_L2 l1 x5_1) x6_2) < (rd (rd_L2 l1 (ji28)) x6_2) then (some false) else (spec_IsReverse.l1 k2 l0 l1 x5_1 (wrap64 (x6_2 + 1)))) else (none)) else (none)) else (none)) = some r := by first | (rw [hji28] at H; exact H) | (simp only [hji28] at H ⊢; exact H)
          have hji28w : (IntKind.i64.wrap (x5_1 - 1)) = ji28 := (i64_w _).trans hji28
          obtain ⟨c29b0, H⟩ := xq H
          obtain ⟨c30b0, H⟩ := xq H
          obtain ⟨c31b0, H⟩ := xq H
          by_cases c32 : (rd (rd_L2 l1 x5_1) x6_2) < (rd (rd_L2 l1 (ji28)) x6_2)
          ·rw [if_pos c32] at H
           have c32b0 := decide_eq_true c32
           clear c32
           obtain rfl := Option.some.inj H
           have p348 : 0 ≤ (x5_1 : Int) := xd
           have q348 : x5_1 < (l0.length : Int) := xd
           obtain ⟨ad348, e348, hx348_0⟩ := Kd.at_int HR0.out x5_1 p348 q348
           cases e348
           (try replace hx348_0 := (HB.out.cell (World.block_lt_of_cell? w _ hx348_0)).trans hx348_0)
           replace p348 := eq_true p348
           replace q348 := eq_true q348
           have p357 : 0 ≤ (x5_1 : Int) := xd
           have q357 : x5_1 < (l1.length : Int) := xd
           obtain ⟨ad357, A357_0, c357_0, e357, hx357_0, hl357_0, hi357_0⟩ := at_L2 HR1.out x5_1 p357 q357
           cases e357
           (try replace hx357_0 := (HB.out.cell (World.block_lt_of_cell? w _ hx357_0)).trans hx357_0)
           have HR357_0 := ax hi357_0
           have HC357_0 := ax hl357_0
           clear hi357_0 hl357_0
           replace p357 := eq_true p357
           replace q357 := eq_true q357
           have p358 : 0 ≤ (x6_2 : Int) := xd
           have q358 : x6_2 < ((rd_L2 l1 x5_1).length : Int) := xd
           obtain ⟨ad358, e358, hx358_0⟩ := Kd.at_int HR357_0.out x6_2 p358 q358
           cases e358
           (try replace hx358_0 := (HB.out.cell (World.block_lt_of_cell? w _ hx358_0)).trans hx358_0)
           replace p358 := eq_true p358
           replace q358 := eq_true q358
           have p359 : 0 ≤ ((ji28) : Int) := xd
           have q359 : (ji28) < (l1.length : Int) := xd
           obtain ⟨ad359, A359_0, c359_0, e359, hx359_0, hl359_0, hi359_0⟩ := at_L2 HR1.out (ji28) p359 q359
           obtain rfl : ad357 = ad359 := (by injection e359)
           (try replace hx359_0 := (HB.out.cell (World.block_lt_of_cell? w _ hx359_0)).trans hx359_0)
           have HR359_0 := ax hi359_0
           have HC359_0 := ax hl359_0
           clear hi359_0 hl359_0
           replace p359 := eq_true p359
           replace q359 := eq_true q359
           have p360 : 0 ≤ (x6_2 : Int) := xd
           have q360 : x6_2 < ((rd_L2 l1 (ji28)).length : Int) := xd
           obtain ⟨ad360, e360, hx360_0⟩ := Kd.at_int HR359_0.out x6_2 p360 q360
           cases e360
           (try replace hx360_0 := (HB.out.cell (World.block_lt_of_cell? w _ hx360_0)).trans hx360_0)
           replace p360 := eq_true p360
           replace q360 := eq_true q360
           go_wp2
           repeat (go_quiet (fail); try go_wp2)
           go_ret
           exact ⟨by first | rfl | (simp [errW_none, errW_some] <;> rfl) | (simp only [← hji28]; first | rfl | (simp [errW_none, errW_some] <;> rfl)) | (simp [*, errW_none, errW_some] <;> rfl), xb HB.out⟩
          ·rw [if_neg c32] at H
           have c32b0 := decide_eq_false c32
           clear c32
           have H' := ax H
           clear H
           have p348 : 0 ≤ (x5_1 : Int) := xd
           have q348 : x5_1 < (l0.length : Int) := xd
           obtain ⟨ad348, e348, hx348_0⟩ := Kd.at_int HR0.out x5_1 p348 q348
           cases e348
           (try replace hx348_0 := (HB.out.cell (World.block_lt_of_cell? w _ hx348_0)).trans hx348_0)
           replace p348 := eq_true p348
           replace q348 := eq_true q348
           have p357 : 0 ≤ (x5_1 : Int) := xd
           have q357 : x5_1 < (l1.length : Int) := xd
           obtain ⟨ad357, A357_0, c357_0, e357, hx357_0, hl357_0, hi357_0⟩ := at_L2 HR1.out x5_1 p357 q357
           cases e357
           (try replace hx357_0 := (HB.out.cell (World.block_lt_of_cell? w _ hx357_0)).trans hx357_0)
           have HR357_0 := ax hi357_0
           have HC357_0 := ax hl357_0
           clear hi357_0 hl357_0
           replace p357 := eq_true p357
           replace q357 := eq_true q357
           have p358 : 0 ≤ (x6_2 : Int) := xd
           have q358 : x6_2 < ((rd_L2 l1 x5_1).length : Int) := xd
           obtain ⟨ad358, e358, hx358_0⟩ := Kd.at_int HR357_0.out x6_2 p358 q358
           cases e358
           (try replace hx358_0 := (HB.out.cell (World.block_lt_of_cell? w _ hx358_0)).trans hx358_0)
           replace p358 := eq_true p358
           replace q358 := eq_true q358
           have p359 : 0 ≤ ((ji28) : Int) := xd
           have q359 : (ji28) < (l1.length : Int) := xd
           obtain ⟨ad359, A359_0, c359_0, e359, hx359_0, hl359_0, hi359_0⟩ := at_L2 HR1.out (ji28) p359 q359
           obtain rfl : ad357 = ad359 := (by injection e359)
           (try replace hx359_0 := (HB.out.cell (World.block_lt_of_cell? w _ hx359_0)).trans hx359_0)
           have HR359_0 := ax hi359_0
           have HC359_0 := ax hl359_0
           clear hi359_0 hl359_0
           replace p359 := eq_true p359
           replace q359 := eq_true q359
           have p360 : 0 ≤ (x6_2 : Int) := xd
           have q360 : x6_2 < ((rd_L2 l1 (ji28)).length : Int) := xd
           obtain ⟨ad360, e360, hx360_0⟩ := Kd.at_int HR359_0.out x6_2 p360 q360
           cases e360
           (try replace hx360_0 := (HB.out.cell (World.block_lt_of_cell? w _ hx360_0)).trans hx360_0)
           replace p360 := eq_true p360
           replace q360 := eq_true q360
           go_wp2
           repeat (go_quiet (fail); try go_wp2)
           go_roundg k2
           case measure => have := HK1.out; have := HK2.out; omega
           case rel => exact ⟨(wrap64 (x6_2 + 1)), xr, H', ⟨by have := HK1.out; have := HK2.out; omega⟩, ⟨xb HB.out⟩⟩
         ·rw [if_neg c24] at H
          have c24b0 : decide (0 < x5_1) = false := decide_eq_false c24
          clear c24
          have H' := ax H
          clear H
          have p348 : 0 ≤ (x5_1 : Int) := xd
          have q348 : x5_1 < (l0.length : Int) := xd
          obtain ⟨ad348, e348, hx348_0⟩ := Kd.at_int HR0.out x5_1 p348 q348
          cases e348
          (try replace hx348_0 := (HB.out.cell (World.block_lt_of_cell? w _ hx348_0)).trans hx348_0)
          replace p348 := eq_true p348
          replace q348 := eq_true q348
          go_wp2
          repeat (go_quiet (fail); try go_wp2)
          go_roundg k2
          case measure => have := HK1.out; have := HK2.out; omega
          case rel => exact ⟨(wrap64 (x6_2 + 1)), xr, H', ⟨by have := HK1.out; have := HK2.out; omega⟩, ⟨xb HB.out⟩⟩
       ·rw [if_neg c9] at H
        have c9b0 := decide_eq_false c9
        clear c9
        have H' := ax H
        clear H
        have p348 : 0 ≤ (x5_1 : Int) := xd
        have q348 : x5_1 < (l0.length : Int) := xd
        obtain ⟨ad348, e348, hx348_0⟩ := Kd.at_int HR0.out x5_1 p348 q348
        cases e348
        (try replace hx348_0 := (HB.out.cell (World.block_lt_of_cell? w _ hx348_0)).trans hx348_0)
        replace p348 := eq_true p348
        replace q348 := eq_true q348
        go_wp2
        repeat (go_quiet (fail); try go_wp2)
        go_roundg k2
        case measure => have := HK1.out; have := HK2.out; omega
        case rel => exact ⟨(wrap64 (x5_1 + 1)), xr, H', ⟨by have := HK1.out; have := HK2.out; omega⟩, ⟨xb HB.out⟩⟩
    ·rw [if_neg c6] at H
     have c6b0 := decide_eq_false c6
     clear c6
     obtain rfl := Option.some.inj H
     go_wp2
     repeat (go_quiet (fail); try go_wp2)
     go_ret
     exact ⟨xe, xb HB.out⟩
 ·replace c4 := Bool.eq_false_iff.mpr c4
  subst c4
  rw [if_neg (show ¬ (false = true) by decide)] at H
  obtain rfl := Option.some.inj H
  go_enter Try.func15, Try.ntmps15
  go_wp2_with (first | (go_at_call 17; (with_reducible refine (spec_IsFilling.calls k _ _ l0 _ _ l1 false _ ?side1 ?side2 ?side3 ?side4 A3.out).mono ?_); (case side1 => exact xc HR0.out); (case side2 => exact HC0.out); (case side3 => exact xc HR1.out); (case side4 => exact HC1.out); rintro e w33 ⟨rfl, hb⟩; replace HB := yB HB hb; (try clear hb)))
  repeat (go_quiet (first | (go_at_call 17; (with_reducible refine (spec_IsFilling.calls k _ _ l0 _ _ l1 false _ ?side1 ?side2 ?side3 ?side4 A3.out).mono ?_); (case side1 => exact xc HR0.out); (case side2 => exact HC0.out); (case side3 => exact xc HR1.out); (case side4 => exact HC1.out); rintro e w33 ⟨rfl, hb⟩; replace HB := yB HB hb; (try clear hb))); try go_wp2_with (first | (go_at_call 17; (with_reducible refine (spec_IsFilling.calls k _ _ l0 _ _ l1 false _ ?side1 ?side2 ?side3 ?side4 A3.out).mono ?_); (case side1 => exact xc HR0.out); (case side2 => exact HC0.out); (case side3 => exact xc HR1.out); (case side4 => exact HC1.out); rintro e w33 ⟨rfl, hb⟩; replace HB := yB HB hb; (try clear hb))))
  go_ret
  exact ⟨xe, xb HB.out⟩

/-! ### spec_l12Total: function 50 -/
def spec_l12Total.l0 : Nat → List Int → Int → Int → Option (Int)
 | 0, _, _, _ => none
 | k + 1, x0, x3, x4 => if x4 < (x0.length : Int) then (if 0 ≤ x4 then (spec_l12Total.l0 k x0 (wrap64 (x3 + (rd x0 x4))) (wrap64 (x4 + 1))) else (none)) else (some x3)
def spec_l12Total.f (k : Nat) (l0 : List Int) : Option (Int) := spec_l12Total.l0 k l0 0 0
theorem spec_l12Total.mono_l : ∀ k, (∀ y0 y1 y2, LeO (spec_l12Total.l0 k y0 y1 y2) (spec_l12Total.l0 (k + 1) y0 y1 y2))
 | 0 => fun _ _ _ r h => by simp [spec_l12Total.l0] at h
 | k + 1 => by
  have ih0 := spec_l12Total.mono_l k
  ·intro y0 y1 y2
   unfold spec_l12Total.l0
   repeat' with_reducible first | exact ih0 _ _ _ | exact xl | refine LeO.ite ?_ ?_ | refine LeO.bind ?_ fun _ => ?_
theorem spec_l12Total.mono : ∀ a0 k, LeO (spec_l12Total.f k a0) (spec_l12Total.f (k + 1) a0) := by
 intro a0 k
 have ih0 := spec_l12Total.mono_l k
 unfold spec_l12Total.f
 repeat' with_reducible first | exact ih0 _ _ _ | exact xl | refine LeO.ite ?_ ?_ | refine LeO.bind ?_ fun _ => ?_
theorem spec_l12Total.calls (k : Nat) (A0 : Option Addr) (c0 : Nat) (l0 : List Int) (r : Int) (w : World) (hr0 : Kd.C (Kd.int .i64) w A0 l0.length l0) (hc0 : l0.length ≤ c0) (h : spec_l12Total.f k l0 = some r) :
  Calls Try.prog 50 #[.slice A0 l0.length c0] w fun e w' => e = .returned (.int .i64 r) ∧ Drawn0 w w' := by
 have HR0 := ax hr0
 have HC0 := ax hc0
 clear hr0 hc0
 have H : (spec_l12Total.l0 k l0 0 0) = some r := h
 clear h
 have H' := ax H
 clear H
 go_enter Try.func50, Try.ntmps50
 go_wp2
 go_loopg [3, 4] k (fun kq v3 v4 w' => ∃ (x3_1 : Int) (x4_1 : Int), v3 = .int .i64 x3_1 ∧ v4 = .int .i64 x4_1 ∧ Aside0 (spec_l12Total.l0 kq l0 x3_1 x4_1 = some r) ∧ Aside0 (kq ≤ k) ∧ Drawn0 w w')
 case atStart => exact ⟨(0), (0), xr, xr, H', ⟨Nat.le_refl _⟩, by repeat (first | exact Drawn0.refl _ | apply Drawn0.step)⟩
 case round =>
  clear H'
  obtain ⟨x3_1, x4_1, rfl, rfl, HA, HK1, ⟨m1, rfl⟩⟩ := hrel
  cases gk with
  | zero => exact absurd HA.out (by simp [spec_l12Total.l0])
  | succ k1 =>
   have H := HA.out
   clear HA
   simp only [spec_l12Total.l0] at H
   by_cases c2 : x4_1 < (l0.length : Int)
   ·rw [if_pos c2] at H
    have c2b0 := decide_eq_true c2
    clear c2
    obtain ⟨c3b0, H⟩ := xq H
    have H' := ax H
    clear H
    have p361 : 0 ≤ (x4_1 : Int) := xd
    have q361 : x4_1 < (l0.length : Int) := xd
    obtain ⟨ad361, e361, hx361_0⟩ := Kd.at_int HR0.out x4_1 p361 q361
    cases e361
    replace p361 := eq_true p361
    replace q361 := eq_true q361
    go_wp2
    go_roundg k1
    case measure => have := HK1.out; omega
    case rel => exact ⟨(wrap64 (x3_1 + (rd l0 x4_1))), (wrap64 (x4_1 + 1)), xr, xr, H', ⟨by have := HK1.out; omega⟩, by repeat (first | exact Drawn0.refl _ | apply Drawn0.step)⟩
   ·rw [if_neg c2] at H
    have c2b0 := decide_eq_false c2
    clear c2
    obtain rfl := Option.some.inj H
    go_wp2
    go_ret
    exact ⟨by first | rfl | (simp; done) | (simp [*]; done), by repeat (first | exact Drawn0.refl _ | apply Drawn0.step)⟩

end Go.Proofs.Ytnfcdaojglicfab.PFnFillings
