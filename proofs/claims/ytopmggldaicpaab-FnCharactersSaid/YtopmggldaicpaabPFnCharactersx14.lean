-- Written by a program of this session (wip/print/xprint.py).
import Derived.Test.YtopmggldaicpaabPFnCharactersx0
import Derived.Test.YtopmggldaicpaabPFnCharactersx1
import Derived.Test.YtopmggldaicpaabPFnCharactersx8
import Derived.Test.YtopmggldaicpaabPFnCharactersx13
namespace Go.Proofs.Ytopmggldaicpaab.PFnCharacters
open Go.RowKit Go.Proofs.YtopmggldaicpaabW.PrintWords Go.Proofs.YtopmggldaicpaabW.PrintLast Go.Proofs.YtopmggldaicpaabW.PrintMore
attribute [local go_sem] max2_int min2_int max_two min_two max_three min_three max_four min_four   -- for this text's walks alone
set_option linter.unusedVariables false
set_option linter.unusedSimpArgs false

/-! ### spec_l22Character: function 42 -/
mutual
def spec_l22Character.l0 : Nat → List Int → Int → List (S46) → Int → Option (Int)
 | 0, _, _, _, _ => none
 | k + 1, x1, x5, x6, x7 => if x7 < (x6.length : Int) then (if 0 ≤ x7 then (if 1 ≤ (x1.length : Int) then ((spec_l22Character.f k ((rd_T46 x6 x7).f1) (x1.drop 1)).bind fun t525 => ((spec_RibbonHeight.f k ((rd_T46 x6 x7).f0) ((rd_T46 x6 x7).f1)).bind fun t527 => (if (Int.tmod t527 2) = 1 then (spec_l22Character.l0 k x1 (wrap64 (x5 + (wrap64 (-t525)))) x6 (wrap64 (x7 + 1))) else (spec_l22Character.l0 k x1 (wrap64 (x5 + t525)) x6 (wrap64 (x7 + 1)))))) else (none)) else (none)) else (some x5)
def spec_l22Character.f : Nat → List Int → List Int → Option (Int)
 | 0, _, _ => none
 | k + 1, l0, l1 => if (l1.length : Int) = 0 then (some 1) else (if 0 < (l1.length : Int) then ((spec_RibbonsInside.f k l0 (rd l1 0)).bind fun t520 => (spec_l22Character.l0 k l1 0 t520 0)) else (none))
end
theorem spec_l22Character.mono_l : ∀ k, (∀ y0 y1, LeO (spec_l22Character.f k y0 y1) (spec_l22Character.f (k + 1) y0 y1)) ∧ (∀ y0 y1 y2 y3, LeO (spec_l22Character.l0 k y0 y1 y2 y3) (spec_l22Character.l0 (k + 1) y0 y1 y2 y3))
 | 0 => ⟨fun _ _ r h => by simp [spec_l22Character.f] at h, fun _ _ _ _ r h => by simp [spec_l22Character.l0] at h⟩
 | k + 1 => by
  obtain ⟨ih0, ih1⟩ := spec_l22Character.mono_l k
  refine ⟨?_, ?_⟩
  ·intro y0 y1
   unfold spec_l22Character.f
   repeat' with_reducible first | exact ih0 _ _ | exact ih1 _ _ _ _ | exact spec_RibbonHeight.mono _ _ _ | exact spec_RibbonsInside.mono _ _ _ | exact xl | refine LeO.ite ?_ ?_ | refine LeO.bind ?_ fun _ => ?_
  ·intro y0 y1 y2 y3
   unfold spec_l22Character.l0
   repeat' with_reducible first | exact ih0 _ _ | exact ih1 _ _ _ _ | exact spec_RibbonHeight.mono _ _ _ | exact spec_RibbonsInside.mono _ _ _ | exact xl | refine LeO.ite ?_ ?_ | refine LeO.bind ?_ fun _ => ?_
theorem spec_l22Character.mono : ∀ a0 a1 k, LeO (spec_l22Character.f k a0 a1) (spec_l22Character.f (k + 1) a0 a1) := by
 intro a0 a1 k
 obtain ⟨ih0, ih1⟩ := spec_l22Character.mono_l k
 exact ih0 a0 a1
def spec_l22Character.T8 : Bool × List (List Nat × List Nat) := (true, [([], []), ([], []), ([0, 1], [0, 1]), ([2], [2]), ([3], [3]), ([], []), ([5], [5]), ([4, 6], [4, 6]), ([7, 7, 0, 1, 2, 3, 4, 5, 6, 7], [7])])
def spec_l22Character.B8 : List Nat := [0, 0, 3, 7, 15, 0, 32, 127, 255]
theorem spec_l22Character.tab8 : rtab .any (opsOf Try.f42 8) = spec_l22Character.T8 := by kernel_rfl
theorem spec_l22Character.bits8 : waitsOk spec_l22Character.T8.2 spec_l22Character.B8 = true := by kernel_rfl
set_option maxHeartbeats 8000000 in
set_option maxRecDepth 100000 in
theorem spec_l22Character.calls (k : Nat) : ∀ (A0 : Option Addr) (c0 : Nat) (l0 : List Int) (A1 : Option Addr) (c1 : Nat) (l1 : List Int) (r : Int) (w : World) (hr0 : Kd.C (Kd.int .i64) w A0 l0.length l0) (hc0 : l0.length ≤ c0) (hr1 : Kd.C (Kd.int .i64) w A1 l1.length l1) (hc1 : l1.length ≤ c1) (h : spec_l22Character.f k l0 l1 = some r),
  Calls Try.prog 42 #[.slice A0 l0.length c0, .slice A1 l1.length c1] w fun e w' => e = .returned (.int .i64 r) ∧ Below w.heap.size w w' := by
 induction k using Nat.strongRecOn with
 | _ k ih =>
 intro A0 c0 l0 A1 c1 l1 r w hr0 hc0 hr1 hc1 h
 cases k with
 | zero => exact absurd h (by simp [spec_l22Character.f])
 | succ k =>
 simp only [spec_l22Character.f] at h
 have hu46 := Try.underlying46
 have HR0 := ax hr0
 have HC0 := ax hc0
 clear hr0 hc0
 have HR1 := ax hr1
 have HC1 := ax hc1
 clear hr1 hc1
 have HB := ax (Below.refl w.heap.size w)
 have H : (if (l1.length : Int) = 0 then (some 1) else (if 0 < (l1.length : Int) then ((spec_RibbonsInside.f k l0 (rd l1 0)).bind fun t520 => (spec_l22Character.l0 k l1 0 t520 0)) else (none))) = some r := h
 clear h
 by_cases c3 : (l1.length : Int) = 0
 ·rw [if_pos c3] at H
  have c3b0 : ((l1.length : Int) == 0) = true := beq_iff_eq.mpr c3
  have c3b1 : ((l1.length : Int) != 0) = false := bne_eq_false_iff_eq.mpr c3
  clear c3
  obtain rfl := Option.some.inj H
  go_enter Try.func42, Try.ntmps42
  go_wp2
  go_ret
  exact ⟨xe, xb HB.out⟩
 ·rw [if_neg c3] at H
  have c3b0 : ((l1.length : Int) == 0) = false := beq_eq_false_iff_ne.mpr c3
  have c3b1 : ((l1.length : Int) != 0) = true := bne_iff_ne.mpr c3
  have c3b2 : ¬ (l1 = []) := fun h_ => c3 (by rw [h_]; rfl)
  obtain ⟨c4, H⟩ := xp H
  have c4b0 := decide_eq_true c4
  have c4b1 : decide (0 < l1.length) = true := decide_eq_true (by omega)
  clear c4
  obtain ⟨t520, A5, H⟩ := xI H
  have H' := ax H
  clear H
  have p519 : 0 ≤ (0 : Int) := (by omega)
  have q519 : 0 < (l1.length : Int) := xd
  obtain ⟨ad519, e519, hx519_0⟩ := Kd.at_int HR1.out 0 p519 q519
  cases e519
  have qi519 : (0 < l1.length) = True := eq_true (by omega)
  (try rw [show ((0 : Int)).toNat = 0 from rfl] at hx519_0)
  (try rw [Addr.add_zero'] at hx519_0)
  replace p519 := eq_true p519
  replace q519 := eq_true q519
  go_enter Try.func42, Try.ntmps42
  go_wp2_with (first | ((with_reducible refine gate_callee (f := 57) rfl ?_); refine goesL_ (some 16) rfl rfl Try.func57 (by kernel_rfl) rfl #[.slice A0 l0.length c0, .int .i64 (rd l1 0)] rfl xm ?_; (with_reducible refine (spec_RibbonsInside.calls k _ _ l0 (rd l1 0) t520 _ ?side1 ?side2 A5.out).mono ?_); (case side1 => exact xc HR0.out); (case side2 => exact HC0.out); rintro e w6 ⟨v521, rfl, ho0, hb⟩; refine ⟨_, rfl, ?_⟩; have HO522 := ax (Kd.N_lower (Kd.N_mono (ok' := fun k_ => True) ho0 (fun k_ hk_ => trivial)) (below_size (xb HB.out))); replace HB := ax (below_step (xb HB.out) hb); (try clear hb); (try clear hb2); (try clear hk); (try clear hi); (try clear ho0)))
  go_loopg [5, 7] k (fun kq v5 v7 w' => ∃ (x5_1 : Int) (x7_1 : Int), v5 = .int .i64 x5_1 ∧ v7 = .int .i64 x7_1 ∧ Aside0 (spec_l22Character.l0 kq l1 x5_1 t520 x7_1 = some r) ∧ Aside0 (kq ≤ k) ∧ Aside0 (Kd.N k46 46 w' w.heap.size (fun _ => True) v521 t520) ∧ Aside0 (Below w.heap.size w w'))
  case atStart => exact ⟨(0), (0), xr, xr, H', ⟨Nat.le_refl _⟩, ⟨xN HO522.out⟩, ⟨xb HB.out⟩⟩
  case round =>
   clear H'
   (try clear c1); (try clear p2); (try clear c3); (try clear c3b0); (try clear c3b1); (try clear c3b2); (try clear c4); (try clear c4b0); (try clear c4b1); (try clear c5); (try clear p5); (try clear q5); (try clear hx5); (try clear qi5); (try clear hx519_0); (try clear p519); (try clear q519)
   obtain ⟨x5_1, x7_1, rfl, rfl, HA, HK1, HO_6, HB⟩ := hrel
   cases gk with
   | zero => exact absurd HA.out (by simp [spec_l22Character.l0])
   | succ k1 =>
    have H := HA.out
    clear HA
    simp only [spec_l22Character.l0] at H
    by_cases c7 : x7_1 < (t520.length : Int)
    ·rw [if_pos c7] at H
     have c7b0 := decide_eq_true c7
     clear c7
     obtain ⟨c8, H⟩ := xp H
     have c8b0 := decide_eq_true c8
     clear c8
     obtain ⟨c9, H⟩ := xp H
     have c9b0 := eq_true c9
     have c9b1 := decide_eq_true c9
     clear c9
     obtain ⟨t525, A10, H⟩ := xI H
     obtain ⟨t527, A11, H⟩ := xI H
     by_cases c12 : (Int.tmod t527 2) = 1
     ·rw [if_pos c12] at H
      have c12b0 : ((Int.tmod t527 2) == 1) = true := beq_iff_eq.mpr c12
      have c12b1 : ((Int.tmod t527 2) != 1) = false := bne_eq_false_iff_eq.mpr c12
      clear c12
      have H' := ax H
      clear H
      obtain ⟨Ao13, co13, eo13⟩ := Kd.N_slice HO_6.out
      subst eo13
      try go_wp2
      replace HO_6 := ax (Kd.N_drew HO_6.out); replace HB := ax (below_drew1 HB.out)
      have p523 : 0 ≤ (x7_1 : Int) := xd
      have q523 : x7_1 < (t520.length : Int) := xd
      obtain ⟨ad523, A523_0, c523_0, A523_1, c523_1, e523, hx523_0, hx523_1, hl523_0, hi523_0, hl523_1, hi523_1⟩ := at_T46 (Kd.N_reads' HO_6.out).2.2 x7_1 p523 q523
      cases e523
      obtain ⟨ce523, hce523, hMe523, hcc523⟩ := Kd.N_get HO_6.out z46 x7_1 p523 (by first | exact q523 | exact xd | (have e_ := (Kd.N_reads' HO_6.out).1; omega))
      obtain ⟨ua523_0, uc523_0, ua523_1, uc523_1, rfl, ul523_0, ge523_0, ul523_1, ge523_1⟩ := k46_openF hMe523
      have hv523_0 := hcc523 0 _ rfl
      rw [Nat.add_zero] at hv523_0
      replace hv523_0 := Option.some.inj (hv523_0.symm.trans hx523_0)
      injection hv523_0 with hva_ hvn_ hvc_
      rw [hva_] at ge523_0
      rw [hvc_] at ul523_0
      have HL523_0 := ax (show Kd.V (Kd.int .i64) 3 _ w.heap.size _ _ ((rd_T46 t520 x7_1).f0) from Kd.V_mk ul523_0 ge523_0)
      clear hva_ hvn_ hvc_ ge523_0 ul523_0
      have hv523_1 := hcc523 1 _ rfl
      rw [add_field _ _ 1 (by omega)] at hv523_1
      replace hv523_1 := Option.some.inj (hv523_1.symm.trans hx523_1)
      injection hv523_1 with hva_ hvn_ hvc_
      rw [hva_] at ge523_1
      rw [hvc_] at ul523_1
      have HL523_1 := ax (show Kd.V (Kd.int .i64) 3 _ w.heap.size _ _ ((rd_T46 t520 x7_1).f1) from Kd.V_mk ul523_1 ge523_1)
      clear hva_ hvn_ hvc_ ge523_1 ul523_1 hcc523 hce523
      have HR523_0 := ax hi523_0
      have HC523_0 := ax hl523_0
      clear hi523_0 hl523_0
      have HR523_1 := ax hi523_1
      have HC523_1 := ax hl523_1
      clear hi523_1 hl523_1
      replace p523 := eq_true p523
      replace q523 := eq_true q523
      obtain ⟨i015, hi015, _, hsz15, _⟩ := info_parts info3
      obtain ⟨A15, hcut15, hA15, hC15⟩ := print_drop_of (P := Try.prog) (Value.int .i64) 0 24 3 .i64 Try.underlying24 hi015 hsz15 (some ad519) c1 l1 1 (by omega) (xd) HC1.out
      have HR524 := ax (Kd.C_of_reads (h1 := fun _ => rfl) (hA15 _ (Kd.reads_of_C HR1.out)))
      have HC524 := ax hC15
      clear hA15 hC15 hi015 hsz15
      refine start_ (n := 9) (S := fun w' => w'.cell? (ad523.add ((x7_1).toNat * 2)) = some (.slice A523_0 ((rd_T46 t520 x7_1).f0).length c523_0) ∧ w'.cell? ⟨(ad523.add ((x7_1).toNat * 2)).block, (ad523.add ((x7_1).toNat * 2)).off + 1, none⟩ = some (.slice A523_1 ((rd_T46 t520 x7_1).f1).length c523_1)) (ds := []) (xB 9 0) (by kernel_rfl) rfl (by kernel_rfl) ⟨hx523_0, hx523_1⟩ (fun hHeld => ?_); refine with_tabW spec_l22Character.tab8 spec_l22Character.bits8 (fun HT_ HW_ => ?_)
      generalize wr.drew = w14 at HO_6 HB HL523_0 HL523_1 HR523_0 HR523_1 HR524 hx523_0 hx523_1 hHeld ⊢
      refine pu (i := 0) (N := some 23) (xB 9 1) HT_.out ?_
      refine pu (i := 1) (N := some 24) (xB 9 3) HT_.out ?_
      refine pu (i := 2) (N := some 25) (xB 9 7) HT_.out ?_
      refine pu (i := 3) (N := some 26) (xB 9 15) HT_.out ?_
      refine pu (i := 5) (N := some 28) (xB 9 47) HT_.out ?_
      refine pu (i := 6) (N := some 29) (xB 9 111) HT_.out ?_
      refine tk (i := 4) (N := some 27) (xB 9 127) HT_.out HW_.out hHeld ?_
      refine one_ (i := 7) (N := some 30) (xB 9 255) rfl rfl (one_of HT_.out (by kernel_rfl)) (by decide) (fun K hK => ?_)
      refine goes_ Try.func42 (by kernel_rfl) rfl #[.slice A523_1 ((rd_T46 t520 x7_1).f1).length c523_1, .slice A15 (l1.drop 1).length (c1 - 1)] (by rfl) rfl rfl (by (try simp only [List.map_toArray, List.map_cons, List.map_nil]); first | done | (rw [show (l1.drop 1).length = (l1.length - 1) from List.length_drop] <;> rfl) | rfl | (simp only [List.length_drop, List.length_take]; rfl)) ?_
      with_reducible refine (ih k1 (by have := HK1.out; omega) _ _ ((rd_T46 t520 x7_1).f1) _ _ (l1.drop 1) t525 _ ?side1 ?side2 ?side3 ?side4 A10.out).mono ?_
      (case side1 => exact xw HR523_1.out)
      (case side2 => exact HC523_1.out)
      (case side3 => exact xz HR524.out (Kd.C_below · HB.out))
      (case side4 => exact HC524.out)
      rintro e w16 ⟨rfl, hb⟩
      have HS0_ := (hb.cell (World.block_lt_of_cell? _ _ (hHeld.1))).trans (hHeld.1)
      have HS1_ := (hb.cell (World.block_lt_of_cell? _ _ (hHeld.2))).trans (hHeld.2)
      refine ⟨_, rfl, ?_⟩
      replace HO_6 := ax (Kd.N_below (xN HO_6.out) hb); replace HL523_0 := ax (Kd.V_below (xV HL523_0.out) hb); replace HL523_1 := ax (Kd.V_below (xV HL523_1.out) hb); replace HR523_0 := ax (Kd.C_below (xw HR523_0.out) hb); replace HR523_1 := ax (Kd.C_below (xw HR523_1.out) hb); replace HB := ax (below_step (xb HB.out) hb)
      (try clear hb)
      (try clear hb2)
      (try clear hk)
      (try clear hi)
      refine hK.out _ _ ⟨HS0_, HS1_⟩ (fun hHeld => ?_)
      clear hK K
      refine norm_ (a' := ?_) ?_ ?_
      rotate_left
      ·show Act.put _ (some 30) _ = _
       simp only [Act.put, List.setIfInBounds_toArray, List.set_cons_zero, List.set_cons_succ, i64_w, i32_w]
       rfl
      refine pu (i := 8) (N := some 8) (xB 9 511) HT_.out ?_
      refine done_ (done_of HT_.out (by kernel_rfl)) ?_
      have p526 : 0 ≤ (x7_1 : Int) := xd
      have q526 : x7_1 < (t520.length : Int) := xd
      obtain ⟨ad526, A526_0, c526_0, A526_1, c526_1, e526, hx526_0, hx526_1, hl526_0, hi526_0, hl526_1, hi526_1⟩ := at_T46 (Kd.N_reads' HO_6.out).2.2 x7_1 p526 q526
      obtain rfl : ad523 = ad526 := (by injection e526)
      obtain ⟨rfl, rfl⟩ : A523_0 = A526_0 ∧ c523_0 = c526_0 := by first | exact xsame hx523_0 hx526_0 | exact xsame HS0_ hx526_0 | exact xsame HS1_ hx526_0 | exact xsame HS2_ hx526_0 | exact xsame hHeld hx526_0 | exact xsame hHeld.1 hx526_0 | exact xsame hHeld.2 hx526_0 | exact xsame hHeld.2.1 hx526_0 | exact xsame hHeld.2.2 hx526_0 | exact xsame hHeld.2.2.1 hx526_0 | exact xsame hHeld.2.2.2 hx526_0 | exact xsame hHeld.2.2.2.1 hx526_0 | exact xsame hHeld.2.2.2.2 hx526_0 | exact xsame hHeld.2.2.2.2.1 hx526_0 | exact xsame hHeld.2.2.2.2.2 hx526_0
      obtain ⟨rfl, rfl⟩ : A523_1 = A526_1 ∧ c523_1 = c526_1 := by first | exact xsame hx523_1 hx526_1 | exact xsame HS0_ hx526_1 | exact xsame HS1_ hx526_1 | exact xsame HS2_ hx526_1 | exact xsame hHeld hx526_1 | exact xsame hHeld.1 hx526_1 | exact xsame hHeld.2 hx526_1 | exact xsame hHeld.2.1 hx526_1 | exact xsame hHeld.2.2 hx526_1 | exact xsame hHeld.2.2.1 hx526_1 | exact xsame hHeld.2.2.2 hx526_1 | exact xsame hHeld.2.2.2.1 hx526_1 | exact xsame hHeld.2.2.2.2 hx526_1 | exact xsame hHeld.2.2.2.2.1 hx526_1 | exact xsame hHeld.2.2.2.2.2 hx526_1
      obtain ⟨ce526, hce526, hMe526, hcc526⟩ := Kd.N_get HO_6.out z46 x7_1 p526 (by first | exact q526 | exact xd | (have e_ := (Kd.N_reads' HO_6.out).1; omega))
      obtain ⟨ua526_0, uc526_0, ua526_1, uc526_1, rfl, ul526_0, ge526_0, ul526_1, ge526_1⟩ := k46_openF hMe526
      have hv526_0 := hcc526 0 _ rfl
      rw [Nat.add_zero] at hv526_0
      replace hv526_0 := Option.some.inj (hv526_0.symm.trans hx526_0)
      injection hv526_0 with hva_ hvn_ hvc_
      rw [hva_] at ge526_0
      rw [hvc_] at ul526_0
      have HL526_0 := ax (show Kd.V (Kd.int .i64) 3 _ w.heap.size _ _ ((rd_T46 t520 x7_1).f0) from Kd.V_mk ul526_0 ge526_0)
      clear hva_ hvn_ hvc_ ge526_0 ul526_0
      have hv526_1 := hcc526 1 _ rfl
      rw [add_field _ _ 1 (by omega)] at hv526_1
      replace hv526_1 := Option.some.inj (hv526_1.symm.trans hx526_1)
      injection hv526_1 with hva_ hvn_ hvc_
      rw [hva_] at ge526_1
      rw [hvc_] at ul526_1
      have HL526_1 := ax (show Kd.V (Kd.int .i64) 3 _ w.heap.size _ _ ((rd_T46 t520 x7_1).f1) from Kd.V_mk ul526_1 ge526_1)
      clear hva_ hvn_ hvc_ ge526_1 ul526_1 hcc526 hce526
      have HR526_0 := ax hi526_0
      have HC526_0 := ax hl526_0
      clear hi526_0 hl526_0
      have HR526_1 := ax hi526_1
      have HC526_1 := ax hl526_1
      clear hi526_1 hl526_1
      replace p526 := eq_true p526
      replace q526 := eq_true q526
      try go_wp2_with (first | ((with_reducible refine gate_callee (f := 58) rfl ?_); refine goesL_ (some 35) rfl rfl Try.func58 (by kernel_rfl) rfl #[.agg #[.slice A523_0 ((rd_T46 t520 x7_1).f0).length c523_0, .slice A523_1 ((rd_T46 t520 x7_1).f1).length c523_1]] rfl xm ?_; (with_reducible refine (spec_RibbonHeight.calls k1 _ _ ((rd_T46 t520 x7_1).f0) _ _ ((rd_T46 t520 x7_1).f1) t527 _ ?side1 ?side2 ?side3 ?side4 A11.out).mono ?_); (case side1 => exact xw HR526_0.out); (case side2 => exact HC526_0.out); (case side3 => exact xw HR526_1.out); (case side4 => exact HC526_1.out); rintro e w17 ⟨rfl, hb⟩; refine ⟨_, rfl, ?_⟩; replace HO_6 := ax (Kd.N_below (xN HO_6.out) hb); replace HL523_0 := ax (Kd.V_below (xV HL523_0.out) hb); replace HL523_1 := ax (Kd.V_below (xV HL523_1.out) hb); replace HL526_0 := ax (Kd.V_below (xV HL526_0.out) hb); replace HL526_1 := ax (Kd.V_below (xV HL526_1.out) hb); replace HR523_0 := ax (Kd.C_below (xw HR523_0.out) hb); replace HR523_1 := ax (Kd.C_below (xw HR523_1.out) hb); replace HR526_0 := ax (Kd.C_below (xw HR526_0.out) hb); replace HR526_1 := ax (Kd.C_below (xw HR526_1.out) hb); replace HB := ax (below_step (xb HB.out) hb); (try clear hb); (try clear hb2); (try clear hk); (try clear hi)))
      go_roundg k1
      case measure => have := HK1.out; omega
      case rel => exact ⟨(wrap64 (x5_1 + (wrap64 (-t525)))), (wrap64 (x7_1 + 1)), xr, xr, H', ⟨by have := HK1.out; omega⟩, ⟨xN HO_6.out⟩, ⟨xb HB.out⟩⟩
     ·rw [if_neg c12] at H
      have c12b0 : ((Int.tmod t527 2) == 1) = false := beq_eq_false_iff_ne.mpr c12
      have c12b1 : ((Int.tmod t527 2) != 1) = true := bne_iff_ne.mpr c12
      have H' := ax H
      clear H
      obtain ⟨Ao18, co18, eo18⟩ := Kd.N_slice HO_6.out
      subst eo18
      try go_wp2
      replace HO_6 := ax (Kd.N_drew HO_6.out); replace HB := ax (below_drew1 HB.out)
      have p523 : 0 ≤ (x7_1 : Int) := xd
      have q523 : x7_1 < (t520.length : Int) := xd
      obtain ⟨ad523, A523_0, c523_0, A523_1, c523_1, e523, hx523_0, hx523_1, hl523_0, hi523_0, hl523_1, hi523_1⟩ := at_T46 (Kd.N_reads' HO_6.out).2.2 x7_1 p523 q523
      cases e523
      obtain ⟨ce523, hce523, hMe523, hcc523⟩ := Kd.N_get HO_6.out z46 x7_1 p523 (by first | exact q523 | exact xd | (have e_ := (Kd.N_reads' HO_6.out).1; omega))
      obtain ⟨ua523_0, uc523_0, ua523_1, uc523_1, rfl, ul523_0, ge523_0, ul523_1, ge523_1⟩ := k46_openF hMe523
      have hv523_0 := hcc523 0 _ rfl
      rw [Nat.add_zero] at hv523_0
      replace hv523_0 := Option.some.inj (hv523_0.symm.trans hx523_0)
      injection hv523_0 with hva_ hvn_ hvc_
      rw [hva_] at ge523_0
      rw [hvc_] at ul523_0
      have HL523_0 := ax (show Kd.V (Kd.int .i64) 3 _ w.heap.size _ _ ((rd_T46 t520 x7_1).f0) from Kd.V_mk ul523_0 ge523_0)
      clear hva_ hvn_ hvc_ ge523_0 ul523_0
      have hv523_1 := hcc523 1 _ rfl
      rw [add_field _ _ 1 (by omega)] at hv523_1
      replace hv523_1 := Option.some.inj (hv523_1.symm.trans hx523_1)
      injection hv523_1 with hva_ hvn_ hvc_
      rw [hva_] at ge523_1
      rw [hvc_] at ul523_1
      have HL523_1 := ax (show Kd.V (Kd.int .i64) 3 _ w.heap.size _ _ ((rd_T46 t520 x7_1).f1) from Kd.V_mk ul523_1 ge523_1)
      clear hva_ hvn_ hvc_ ge523_1 ul523_1 hcc523 hce523
      have HR523_0 := ax hi523_0
      have HC523_0 := ax hl523_0
      clear hi523_0 hl523_0
      have HR523_1 := ax hi523_1
      have HC523_1 := ax hl523_1
      clear hi523_1 hl523_1
      replace p523 := eq_true p523
      replace q523 := eq_true q523
      obtain ⟨i020, hi020, _, hsz20, _⟩ := info_parts info3
      obtain ⟨A20, hcut20, hA20, hC20⟩ := print_drop_of (P := Try.prog) (Value.int .i64) 0 24 3 .i64 Try.underlying24 hi020 hsz20 (some ad519) c1 l1 1 (by omega) (xd) HC1.out
      have HR524 := ax (Kd.C_of_reads (h1 := fun _ => rfl) (hA20 _ (Kd.reads_of_C HR1.out)))
      have HC524 := ax hC20
      clear hA20 hC20 hi020 hsz20
      refine start_ (n := 9) (S := fun w' => w'.cell? (ad523.add ((x7_1).toNat * 2)) = some (.slice A523_0 ((rd_T46 t520 x7_1).f0).length c523_0) ∧ w'.cell? ⟨(ad523.add ((x7_1).toNat * 2)).block, (ad523.add ((x7_1).toNat * 2)).off + 1, none⟩ = some (.slice A523_1 ((rd_T46 t520 x7_1).f1).length c523_1)) (ds := []) (xB 9 0) (by kernel_rfl) rfl (by kernel_rfl) ⟨hx523_0, hx523_1⟩ (fun hHeld => ?_); refine with_tabW spec_l22Character.tab8 spec_l22Character.bits8 (fun HT_ HW_ => ?_)
      generalize wr.drew = w19 at HO_6 HB HL523_0 HL523_1 HR523_0 HR523_1 HR524 hx523_0 hx523_1 hHeld ⊢
      refine pu (i := 0) (N := some 23) (xB 9 1) HT_.out ?_
      refine pu (i := 1) (N := some 24) (xB 9 3) HT_.out ?_
      refine pu (i := 2) (N := some 25) (xB 9 7) HT_.out ?_
      refine pu (i := 3) (N := some 26) (xB 9 15) HT_.out ?_
      refine pu (i := 5) (N := some 28) (xB 9 47) HT_.out ?_
      refine pu (i := 6) (N := some 29) (xB 9 111) HT_.out ?_
      refine tk (i := 4) (N := some 27) (xB 9 127) HT_.out HW_.out hHeld ?_
      refine one_ (i := 7) (N := some 30) (xB 9 255) rfl rfl (one_of HT_.out (by kernel_rfl)) (by decide) (fun K hK => ?_)
      refine goes_ Try.func42 (by kernel_rfl) rfl #[.slice A523_1 ((rd_T46 t520 x7_1).f1).length c523_1, .slice A20 (l1.drop 1).length (c1 - 1)] (by rfl) rfl rfl (by (try simp only [List.map_toArray, List.map_cons, List.map_nil]); first | done | (rw [show (l1.drop 1).length = (l1.length - 1) from List.length_drop] <;> rfl) | rfl | (simp only [List.length_drop, List.length_take]; rfl)) ?_
      with_reducible refine (ih k1 (by have := HK1.out; omega) _ _ ((rd_T46 t520 x7_1).f1) _ _ (l1.drop 1) t525 _ ?side1 ?side2 ?side3 ?side4 A10.out).mono ?_
      (case side1 => exact xw HR523_1.out)
      (case side2 => exact HC523_1.out)
      (case side3 => exact xz HR524.out (Kd.C_below · HB.out))
      (case side4 => exact HC524.out)
      rintro e w21 ⟨rfl, hb⟩
      have HS0_ := (hb.cell (World.block_lt_of_cell? _ _ (hHeld.1))).trans (hHeld.1)
      have HS1_ := (hb.cell (World.block_lt_of_cell? _ _ (hHeld.2))).trans (hHeld.2)
      refine ⟨_, rfl, ?_⟩
      replace HO_6 := ax (Kd.N_below (xN HO_6.out) hb); replace HL523_0 := ax (Kd.V_below (xV HL523_0.out) hb); replace HL523_1 := ax (Kd.V_below (xV HL523_1.out) hb); replace HR523_0 := ax (Kd.C_below (xw HR523_0.out) hb); replace HR523_1 := ax (Kd.C_below (xw HR523_1.out) hb); replace HB := ax (below_step (xb HB.out) hb)
      (try clear hb)
      (try clear hb2)
      (try clear hk)
      (try clear hi)
      refine hK.out _ _ ⟨HS0_, HS1_⟩ (fun hHeld => ?_)
      clear hK K
      refine norm_ (a' := ?_) ?_ ?_
      rotate_left
      ·show Act.put _ (some 30) _ = _
       simp only [Act.put, List.setIfInBounds_toArray, List.set_cons_zero, List.set_cons_succ, i64_w, i32_w]
       rfl
      refine pu (i := 8) (N := some 8) (xB 9 511) HT_.out ?_
      refine done_ (done_of HT_.out (by kernel_rfl)) ?_
      have p526 : 0 ≤ (x7_1 : Int) := xd
      have q526 : x7_1 < (t520.length : Int) := xd
      obtain ⟨ad526, A526_0, c526_0, A526_1, c526_1, e526, hx526_0, hx526_1, hl526_0, hi526_0, hl526_1, hi526_1⟩ := at_T46 (Kd.N_reads' HO_6.out).2.2 x7_1 p526 q526
      obtain rfl : ad523 = ad526 := (by injection e526)
      obtain ⟨rfl, rfl⟩ : A523_0 = A526_0 ∧ c523_0 = c526_0 := by first | exact xsame hx523_0 hx526_0 | exact xsame HS0_ hx526_0 | exact xsame HS1_ hx526_0 | exact xsame HS2_ hx526_0 | exact xsame hHeld hx526_0 | exact xsame hHeld.1 hx526_0 | exact xsame hHeld.2 hx526_0 | exact xsame hHeld.2.1 hx526_0 | exact xsame hHeld.2.2 hx526_0 | exact xsame hHeld.2.2.1 hx526_0 | exact xsame hHeld.2.2.2 hx526_0 | exact xsame hHeld.2.2.2.1 hx526_0 | exact xsame hHeld.2.2.2.2 hx526_0 | exact xsame hHeld.2.2.2.2.1 hx526_0 | exact xsame hHeld.2.2.2.2.2 hx526_0
      obtain ⟨rfl, rfl⟩ : A523_1 = A526_1 ∧ c523_1 = c526_1 := by first | exact xsame hx523_1 hx526_1 | exact xsame HS0_ hx526_1 | exact xsame HS1_ hx526_1 | exact xsame HS2_ hx526_1 | exact xsame hHeld hx526_1 | exact xsame hHeld.1 hx526_1 | exact xsame hHeld.2 hx526_1 | exact xsame hHeld.2.1 hx526_1 | exact xsame hHeld.2.2 hx526_1 | exact xsame hHeld.2.2.1 hx526_1 | exact xsame hHeld.2.2.2 hx526_1 | exact xsame hHeld.2.2.2.1 hx526_1 | exact xsame hHeld.2.2.2.2 hx526_1 | exact xsame hHeld.2.2.2.2.1 hx526_1 | exact xsame hHeld.2.2.2.2.2 hx526_1
      obtain ⟨ce526, hce526, hMe526, hcc526⟩ := Kd.N_get HO_6.out z46 x7_1 p526 (by first | exact q526 | exact xd | (have e_ := (Kd.N_reads' HO_6.out).1; omega))
      obtain ⟨ua526_0, uc526_0, ua526_1, uc526_1, rfl, ul526_0, ge526_0, ul526_1, ge526_1⟩ := k46_openF hMe526
      have hv526_0 := hcc526 0 _ rfl
      rw [Nat.add_zero] at hv526_0
      replace hv526_0 := Option.some.inj (hv526_0.symm.trans hx526_0)
      injection hv526_0 with hva_ hvn_ hvc_
      rw [hva_] at ge526_0
      rw [hvc_] at ul526_0
      have HL526_0 := ax (show Kd.V (Kd.int .i64) 3 _ w.heap.size _ _ ((rd_T46 t520 x7_1).f0) from Kd.V_mk ul526_0 ge526_0)
      clear hva_ hvn_ hvc_ ge526_0 ul526_0
      have hv526_1 := hcc526 1 _ rfl
      rw [add_field _ _ 1 (by omega)] at hv526_1
      replace hv526_1 := Option.some.inj (hv526_1.symm.trans hx526_1)
      injection hv526_1 with hva_ hvn_ hvc_
      rw [hva_] at ge526_1
      rw [hvc_] at ul526_1
      have HL526_1 := ax (show Kd.V (Kd.int .i64) 3 _ w.heap.size _ _ ((rd_T46 t520 x7_1).f1) from Kd.V_mk ul526_1 ge526_1)
      clear hva_ hvn_ hvc_ ge526_1 ul526_1 hcc526 hce526
      have HR526_0 := ax hi526_0
      have HC526_0 := ax hl526_0
      clear hi526_0 hl526_0
      have HR526_1 := ax hi526_1
      have HC526_1 := ax hl526_1
      clear hi526_1 hl526_1
      replace p526 := eq_true p526
      replace q526 := eq_true q526
      try go_wp2_with (first | ((with_reducible refine gate_callee (f := 58) rfl ?_); refine goesL_ (some 35) rfl rfl Try.func58 (by kernel_rfl) rfl #[.agg #[.slice A523_0 ((rd_T46 t520 x7_1).f0).length c523_0, .slice A523_1 ((rd_T46 t520 x7_1).f1).length c523_1]] rfl xm ?_; (with_reducible refine (spec_RibbonHeight.calls k1 _ _ ((rd_T46 t520 x7_1).f0) _ _ ((rd_T46 t520 x7_1).f1) t527 _ ?side1 ?side2 ?side3 ?side4 A11.out).mono ?_); (case side1 => exact xw HR526_0.out); (case side2 => exact HC526_0.out); (case side3 => exact xw HR526_1.out); (case side4 => exact HC526_1.out); rintro e w22 ⟨rfl, hb⟩; refine ⟨_, rfl, ?_⟩; replace HO_6 := ax (Kd.N_below (xN HO_6.out) hb); replace HL523_0 := ax (Kd.V_below (xV HL523_0.out) hb); replace HL523_1 := ax (Kd.V_below (xV HL523_1.out) hb); replace HL526_0 := ax (Kd.V_below (xV HL526_0.out) hb); replace HL526_1 := ax (Kd.V_below (xV HL526_1.out) hb); replace HR523_0 := ax (Kd.C_below (xw HR523_0.out) hb); replace HR523_1 := ax (Kd.C_below (xw HR523_1.out) hb); replace HR526_0 := ax (Kd.C_below (xw HR526_0.out) hb); replace HR526_1 := ax (Kd.C_below (xw HR526_1.out) hb); replace HB := ax (below_step (xb HB.out) hb); (try clear hb); (try clear hb2); (try clear hk); (try clear hi)))
      go_roundg k1
      case measure => have := HK1.out; omega
      case rel => exact ⟨(wrap64 (x5_1 + t525)), (wrap64 (x7_1 + 1)), xr, xr, H', ⟨by have := HK1.out; omega⟩, ⟨xN HO_6.out⟩, ⟨xb HB.out⟩⟩
    ·rw [if_neg c7] at H
     have c7b0 := decide_eq_false c7
     clear c7
     obtain rfl := Option.some.inj H
     obtain ⟨Ao23, co23, eo23⟩ := Kd.N_slice HO_6.out
     subst eo23
     go_wp2
     go_ret
     exact ⟨xe, xb HB.out⟩

/-! ### spec_CharacterOf: function 12 -/
def spec_CharacterOf.f (k : Nat) (l0 : List Int) (l1 : List Int) : Option (Int) := (spec_SizeOf.f k l0).bind fun t528 => (if t528 < 0 then (some 0) else ((spec_SizeOf.f k l0).bind fun t529 => ((spec_SizeOf.f k l1).bind fun t530 => (if t529 = t530 then ((spec_l22Character.f k l0 l1).bind fun t531 => (some t531)) else (some 0)))))
theorem spec_CharacterOf.mono : ∀ a0 a1 k, LeO (spec_CharacterOf.f k a0 a1) (spec_CharacterOf.f (k + 1) a0 a1) := by
 intro a0 a1 k
 unfold spec_CharacterOf.f
 repeat' with_reducible first | exact spec_SizeOf.mono _ _ | exact spec_l22Character.mono _ _ _ | exact xl | refine LeO.ite ?_ ?_ | refine LeO.bind ?_ fun _ => ?_
set_option maxHeartbeats 8000000 in
set_option maxRecDepth 100000 in
theorem spec_CharacterOf.calls (k : Nat) (A0 : Option Addr) (c0 : Nat) (l0 : List Int) (A1 : Option Addr) (c1 : Nat) (l1 : List Int) (r : Int) (w : World) (hr0 : Kd.C (Kd.int .i64) w A0 l0.length l0) (hc0 : l0.length ≤ c0) (hr1 : Kd.C (Kd.int .i64) w A1 l1.length l1) (hc1 : l1.length ≤ c1) (h : spec_CharacterOf.f k l0 l1 = some r) :
  Calls Try.prog 12 #[.slice A0 l0.length c0, .slice A1 l1.length c1] w fun e w' => e = .returned (.int .i64 r) ∧ Below w.heap.size w w' := by
 have HR0 := ax hr0
 have HC0 := ax hc0
 clear hr0 hc0
 have HR1 := ax hr1
 have HC1 := ax hc1
 clear hr1 hc1
 have HB := ax (Below.refl w.heap.size w)
 have H : ((spec_SizeOf.f k l0).bind fun t528 => (if t528 < 0 then (some 0) else ((spec_SizeOf.f k l0).bind fun t529 => ((spec_SizeOf.f k l1).bind fun t530 => (if t529 = t530 then ((spec_l22Character.f k l0 l1).bind fun t531 => (some t531)) else (some 0)))))) = some r := h
 clear h
 obtain ⟨t528, A3, H⟩ := xI H
 by_cases c4 : t528 < 0
 ·rw [if_pos c4] at H
  have c4b0 := decide_eq_true c4
  clear c4
  obtain rfl := Option.some.inj H
  go_enter Try.func12, Try.ntmps12
  go_wp2_with (first | ((with_reducible refine gate_callee (f := 21) rfl ?_); refine goesL_ (some 6) rfl rfl Try.func21 (by kernel_rfl) rfl #[.slice A0 l0.length c0] rfl xm ?_; (with_reducible refine (spec_SizeOf.calls k _ _ l0 t528 _ ?side1 ?side2 A3.out).mono ?_); (case side1 => exact xc HR0.out); (case side2 => exact HC0.out); rintro e w5 ⟨rfl, hb⟩; refine ⟨_, rfl, ?_⟩; replace HB := ax (below_step (xb HB.out) hb); (try clear hb); (try clear hb2); (try clear hk); (try clear hi)))
  go_ret
  exact ⟨xe, xb HB.out⟩
 ·rw [if_neg c4] at H
  have c4b0 := decide_eq_false c4
  clear c4
  obtain ⟨t529, A6, H⟩ := xI H
  obtain ⟨t530, A7, H⟩ := xI H
  by_cases c8 : t529 = t530
  ·rw [if_pos c8] at H
   have c8b0 : (t529 == t530) = true := beq_iff_eq.mpr c8
   have c8b1 : (t529 != t530) = false := bne_eq_false_iff_eq.mpr c8
   clear c8
   obtain ⟨t531, A9, H⟩ := xI H
   obtain rfl := Option.some.inj H
   go_enter Try.func12, Try.ntmps12
   go_wp2_with (first | ((with_reducible refine gate_callee (f := 21) rfl ?_); refine goesL_ (some 6) rfl rfl Try.func21 (by kernel_rfl) rfl #[.slice A0 l0.length c0] rfl xm ?_; (with_reducible refine (spec_SizeOf.calls k _ _ l0 t528 _ ?side1 ?side2 A3.out).mono ?_); (case side1 => exact xc HR0.out); (case side2 => exact HC0.out); rintro e w10 ⟨rfl, hb⟩; refine ⟨_, rfl, ?_⟩; replace HB := ax (below_step (xb HB.out) hb); (try clear hb); (try clear hb2); (try clear hk); (try clear hi)) | (go_at_call 21; (with_reducible refine (spec_SizeOf.calls k _ _ l0 t529 _ ?side1 ?side2 A6.out).mono ?_); (case side1 => exact xz HR0.out (Kd.C_below · HB.out)); (case side2 => exact HC0.out); rintro e w11 ⟨rfl, hb⟩; replace HB := ax (below_step (xb HB.out) hb); (try clear hb); (try clear hb2); (try clear hk); (try clear hi)) | (go_at_call 21; (with_reducible refine (spec_SizeOf.calls k _ _ l1 t530 _ ?side1 ?side2 A7.out).mono ?_); (case side1 => exact xz HR1.out (Kd.C_below · HB.out)); (case side2 => exact HC1.out); rintro e w12 ⟨rfl, hb⟩; replace HB := ax (below_step (xb HB.out) hb); (try clear hb); (try clear hb2); (try clear hk); (try clear hi)) | ((with_reducible refine gate_callee (f := 42) rfl ?_); refine goesL_ (some 17) rfl rfl Try.func42 (by kernel_rfl) rfl #[.slice A0 l0.length c0, .slice A1 l1.length c1] rfl xm ?_; (with_reducible refine (spec_l22Character.calls k _ _ l0 _ _ l1 t531 _ ?side1 ?side2 ?side3 ?side4 A9.out).mono ?_); (case side1 => exact xz HR0.out (Kd.C_below · HB.out)); (case side2 => exact HC0.out); (case side3 => exact xz HR1.out (Kd.C_below · HB.out)); (case side4 => exact HC1.out); rintro e w13 ⟨rfl, hb⟩; refine ⟨_, rfl, ?_⟩; replace HB := ax (below_step (xb HB.out) hb); (try clear hb); (try clear hb2); (try clear hk); (try clear hi)))
   go_ret
   exact ⟨xe, xb HB.out⟩
  ·rw [if_neg c8] at H
   have c8b0 : (t529 == t530) = false := beq_eq_false_iff_ne.mpr c8
   have c8b1 : (t529 != t530) = true := bne_iff_ne.mpr c8
   obtain rfl := Option.some.inj H
   go_enter Try.func12, Try.ntmps12
   go_wp2_with (first | ((with_reducible refine gate_callee (f := 21) rfl ?_); refine goesL_ (some 6) rfl rfl Try.func21 (by kernel_rfl) rfl #[.slice A0 l0.length c0] rfl xm ?_; (with_reducible refine (spec_SizeOf.calls k _ _ l0 t528 _ ?side1 ?side2 A3.out).mono ?_); (case side1 => exact xc HR0.out); (case side2 => exact HC0.out); rintro e w14 ⟨rfl, hb⟩; refine ⟨_, rfl, ?_⟩; replace HB := ax (below_step (xb HB.out) hb); (try clear hb); (try clear hb2); (try clear hk); (try clear hi)) | (go_at_call 21; (with_reducible refine (spec_SizeOf.calls k _ _ l0 t529 _ ?side1 ?side2 A6.out).mono ?_); (case side1 => exact xz HR0.out (Kd.C_below · HB.out)); (case side2 => exact HC0.out); rintro e w15 ⟨rfl, hb⟩; replace HB := ax (below_step (xb HB.out) hb); (try clear hb); (try clear hb2); (try clear hk); (try clear hi)) | (go_at_call 21; (with_reducible refine (spec_SizeOf.calls k _ _ l1 t530 _ ?side1 ?side2 A7.out).mono ?_); (case side1 => exact xz HR1.out (Kd.C_below · HB.out)); (case side2 => exact HC1.out); rintro e w16 ⟨rfl, hb⟩; replace HB := ax (below_step (xb HB.out) hb); (try clear hb); (try clear hb2); (try clear hk); (try clear hi)))
   go_ret
   exact ⟨xe, xb HB.out⟩

/-! ### laws_sameInts: function 13 -/
def laws_sameInts.l0 : Nat → List Int → List Int → Int → Option (Bool)
 | 0, _, _, _ => none
 | k + 1, x0, x1, x5 => if x5 < (x0.length : Int) then (if 0 ≤ x5 then (if x5 < (x1.length : Int) then (if (rd x0 x5) = (rd x1 x5) then (laws_sameInts.l0 k x0 x1 (wrap64 (x5 + 1))) else (some false)) else (none)) else (none)) else (some true)
def laws_sameInts.f (k : Nat) (l0 : List Int) (l1 : List Int) : Option (Bool) := if (l0.length : Int) = (l1.length : Int) then (laws_sameInts.l0 k l0 l1 0) else (some false)
theorem laws_sameInts.mono_l : ∀ k, (∀ y0 y1 y2, LeO (laws_sameInts.l0 k y0 y1 y2) (laws_sameInts.l0 (k + 1) y0 y1 y2))
 | 0 => fun _ _ _ r h => by simp [laws_sameInts.l0] at h
 | k + 1 => by
  have ih0 := laws_sameInts.mono_l k
  ·intro y0 y1 y2
   unfold laws_sameInts.l0
   repeat' with_reducible first | exact ih0 _ _ _ | exact xl | refine LeO.ite ?_ ?_ | refine LeO.bind ?_ fun _ => ?_
theorem laws_sameInts.mono : ∀ a0 a1 k, LeO (laws_sameInts.f k a0 a1) (laws_sameInts.f (k + 1) a0 a1) := by
 intro a0 a1 k
 have ih0 := laws_sameInts.mono_l k
 unfold laws_sameInts.f
 repeat' with_reducible first | exact ih0 _ _ _ | exact xl | refine LeO.ite ?_ ?_ | refine LeO.bind ?_ fun _ => ?_
set_option maxHeartbeats 8000000 in
set_option maxRecDepth 100000 in
theorem laws_sameInts.calls (k : Nat) (A0 : Option Addr) (c0 : Nat) (l0 : List Int) (A1 : Option Addr) (c1 : Nat) (l1 : List Int) (r : Bool) (w : World) (hr0 : Kd.C (Kd.int .i64) w A0 l0.length l0) (hc0 : l0.length ≤ c0) (hr1 : Kd.C (Kd.int .i64) w A1 l1.length l1) (hc1 : l1.length ≤ c1) (h : laws_sameInts.f k l0 l1 = some r) :
  Calls Try.prog 13 #[.slice A0 l0.length c0, .slice A1 l1.length c1] w fun e w' => e = .returned (.bool r) ∧ Drawn0 w w' := by
 have HR0 := ax hr0
 have HC0 := ax hc0
 clear hr0 hc0
 have HR1 := ax hr1
 have HC1 := ax hc1
 clear hr1 hc1
 have H : (if (l0.length : Int) = (l1.length : Int) then (laws_sameInts.l0 k l0 l1 0) else (some false)) = some r := h
 clear h
 by_cases c3 : (l0.length : Int) = (l1.length : Int)
 ·rw [if_pos c3] at H
  have c3b0 : ((l0.length : Int) == (l1.length : Int)) = true := beq_iff_eq.mpr c3
  have c3b1 : ((l0.length : Int) != (l1.length : Int)) = false := bne_eq_false_iff_eq.mpr c3
  have c3b2 : (l0.length == l1.length) = true := by first | simpa using c3 | (simp at c3 ⊢; omega)
  clear c3
  have H' := ax H
  clear H
  go_enter Try.func13, Try.ntmps13
  go_wp2
  repeat (go_quiet (fail); try go_wp2)
  go_loopg [5] k (fun kq v5 w' => ∃ (x5_1 : Int), v5 = .int .i64 x5_1 ∧ Aside0 (laws_sameInts.l0 kq l0 l1 x5_1 = some r) ∧ Aside0 (kq ≤ k) ∧ Drawn0 w w')
  case atStart => exact ⟨(0), xr, H', ⟨Nat.le_refl _⟩, by repeat (first | exact Drawn0.refl _ | apply Drawn0.step)⟩
  case round =>
   clear H'
   (try clear c1); (try clear p2); (try clear c3); (try clear c3b0); (try clear c3b1); (try clear c3b2)
   obtain ⟨x5_1, rfl, HA, HK1, ⟨m1, rfl⟩⟩ := hrel
   cases gk with
   | zero => exact absurd HA.out (by simp [laws_sameInts.l0])
   | succ k1 =>
    have H := HA.out
    clear HA
    simp only [laws_sameInts.l0] at H
    by_cases c4 : x5_1 < (l0.length : Int)
    ·rw [if_pos c4] at H
     have c4b0 := decide_eq_true c4
     clear c4
     obtain ⟨c5, H⟩ := xp H
     have c5b0 := decide_eq_true c5
     clear c5
     obtain ⟨c6, H⟩ := xp H
     have c6b0 := decide_eq_true c6
     clear c6
     by_cases c7 : (rd l0 x5_1) = (rd l1 x5_1)
     ·rw [if_pos c7] at H
      have c7b0 : ((rd l0 x5_1) == (rd l1 x5_1)) = true := beq_iff_eq.mpr c7
      have c7b1 : ((rd l0 x5_1) != (rd l1 x5_1)) = false := bne_eq_false_iff_eq.mpr c7
      clear c7
      have H' := ax H
      clear H
      have p532 : 0 ≤ (x5_1 : Int) := xd
      have q532 : x5_1 < (l0.length : Int) := xd
      obtain ⟨ad532, e532, hx532_0⟩ := Kd.at_int HR0.out x5_1 p532 q532
      cases e532
      replace p532 := eq_true p532
      replace q532 := eq_true q532
      have p533 : 0 ≤ (x5_1 : Int) := xd
      have q533 : x5_1 < (l1.length : Int) := xd
      obtain ⟨ad533, e533, hx533_0⟩ := Kd.at_int HR1.out x5_1 p533 q533
      cases e533
      replace p533 := eq_true p533
      replace q533 := eq_true q533
      go_wp2
      repeat (go_quiet (fail); try go_wp2)
      go_roundg k1
      case measure => have := HK1.out; omega
      case rel => exact ⟨(wrap64 (x5_1 + 1)), xr, H', ⟨by have := HK1.out; omega⟩, by repeat (first | exact Drawn0.refl _ | apply Drawn0.step)⟩
     ·rw [if_neg c7] at H
      have c7b0 : ((rd l0 x5_1) == (rd l1 x5_1)) = false := beq_eq_false_iff_ne.mpr c7
      have c7b1 : ((rd l0 x5_1) != (rd l1 x5_1)) = true := bne_iff_ne.mpr c7
      obtain rfl := Option.some.inj H
      have p532 : 0 ≤ (x5_1 : Int) := xd
      have q532 : x5_1 < (l0.length : Int) := xd
      obtain ⟨ad532, e532, hx532_0⟩ := Kd.at_int HR0.out x5_1 p532 q532
      cases e532
      replace p532 := eq_true p532
      replace q532 := eq_true q532
      have p533 : 0 ≤ (x5_1 : Int) := xd
      have q533 : x5_1 < (l1.length : Int) := xd
      obtain ⟨ad533, e533, hx533_0⟩ := Kd.at_int HR1.out x5_1 p533 q533
      cases e533
      replace p533 := eq_true p533
      replace q533 := eq_true q533
      go_wp2
      repeat (go_quiet (fail); try go_wp2)
      go_ret
      exact ⟨by first | rfl | (simp; done) | (simp [*]; done), by repeat (first | exact Drawn0.refl _ | apply Drawn0.step)⟩
    ·rw [if_neg c4] at H
     have c4b0 := decide_eq_false c4
     clear c4
     obtain rfl := Option.some.inj H
     go_wp2
     repeat (go_quiet (fail); try go_wp2)
     go_ret
     exact ⟨by first | rfl | (simp; done) | (simp [*]; done), by repeat (first | exact Drawn0.refl _ | apply Drawn0.step)⟩
 ·rw [if_neg c3] at H
  have c3b0 : ((l0.length : Int) == (l1.length : Int)) = false := beq_eq_false_iff_ne.mpr c3
  have c3b1 : ((l0.length : Int) != (l1.length : Int)) = true := bne_iff_ne.mpr c3
  have c3b2 : (l0.length == l1.length) = false := by first | simpa using c3 | (simp at c3 ⊢; omega)
  obtain rfl := Option.some.inj H
  go_enter Try.func13, Try.ntmps13
  go_wp2
  repeat (go_quiet (fail); try go_wp2)
  go_ret
  exact ⟨by first | rfl | (simp; done) | (simp [*]; done), by repeat (first | exact Drawn0.refl _ | apply Drawn0.step)⟩

/-! ### spec_l21Fine: function 43 -/
def spec_l21Fine.f (k : Nat) (l0 : List Int) : Option (Bool) := (spec_IsPartition.f k l0).bind fun t534 => (if t534 = true then ((spec_l2Size.f k l0).bind fun t535 => (some (decide (t535 ≤ 6)))) else (some false))
theorem spec_l21Fine.mono : ∀ a0 k, LeO (spec_l21Fine.f k a0) (spec_l21Fine.f (k + 1) a0) := by
 intro a0 k
 unfold spec_l21Fine.f
 repeat' with_reducible first | exact spec_IsPartition.mono _ _ | exact spec_l2Size.mono _ _ | exact xl | refine LeO.ite ?_ ?_ | refine LeO.bind ?_ fun _ => ?_
set_option maxHeartbeats 8000000 in
set_option maxRecDepth 100000 in
theorem spec_l21Fine.calls (k : Nat) (A0 : Option Addr) (c0 : Nat) (l0 : List Int) (r : Bool) (w : World) (hr0 : Kd.C (Kd.int .i64) w A0 l0.length l0) (hc0 : l0.length ≤ c0) (h : spec_l21Fine.f k l0 = some r) :
  Calls Try.prog 43 #[.slice A0 l0.length c0] w fun e w' => e = .returned (.bool r) ∧ Below w.heap.size w w' := by
 have HR0 := ax hr0
 have HC0 := ax hc0
 clear hr0 hc0
 have HB := ax (Below.refl w.heap.size w)
 have H : ((spec_IsPartition.f k l0).bind fun t534 => (if t534 = true then ((spec_l2Size.f k l0).bind fun t535 => (some (decide (t535 ≤ 6)))) else (some false))) = some r := h
 clear h
 obtain ⟨t534, A2, H⟩ := xI H
 by_cases c3 : t534 = true
 ·subst c3
  rw [if_pos rfl] at H
  obtain ⟨t535, A4, H⟩ := xI H
  obtain rfl := Option.some.inj H
  go_enter Try.func43, Try.ntmps43
  go_wp2_with (first | ((with_reducible refine gate_callee (f := 19) rfl ?_); refine goesL_ (some 4) rfl rfl Try.func19 (by kernel_rfl) rfl #[.slice A0 l0.length c0] rfl xm ?_; (with_reducible refine (spec_IsPartition.calls k _ _ l0 true _ ?side1 ?side2 A2.out).mono ?_); (case side1 => exact xc HR0.out); (case side2 => exact HC0.out); rintro e w5 ⟨rfl, hb⟩; refine ⟨_, rfl, ?_⟩; replace HB := ax (below_step (xb HB.out) hb); (try clear hb); (try clear hb2); (try clear hk); (try clear hi)) | (go_at_call 28; (with_reducible refine (spec_l2Size.calls k _ _ l0 t535 _ ?side1 ?side2 A4.out).mono ?_); (case side1 => exact xz HR0.out (Kd.C_below · HB.out)); (case side2 => exact HC0.out); rintro e w' ⟨rfl, ⟨nd, rfl⟩⟩))
  go_ret
  exact ⟨xe, xb HB.out⟩
 ·replace c3 := Bool.eq_false_iff.mpr c3
  subst c3
  rw [if_neg (show ¬ (false = true) by decide)] at H
  obtain rfl := Option.some.inj H
  go_enter Try.func43, Try.ntmps43
  go_wp2_with (first | ((with_reducible refine gate_callee (f := 19) rfl ?_); refine goesL_ (some 4) rfl rfl Try.func19 (by kernel_rfl) rfl #[.slice A0 l0.length c0] rfl xm ?_; (with_reducible refine (spec_IsPartition.calls k _ _ l0 false _ ?side1 ?side2 A2.out).mono ?_); (case side1 => exact xc HR0.out); (case side2 => exact HC0.out); rintro e w6 ⟨rfl, hb⟩; refine ⟨_, rfl, ?_⟩; replace HB := ax (below_step (xb HB.out) hb); (try clear hb); (try clear hb2); (try clear hk); (try clear hi)))
  go_ret
  exact ⟨xe, xb HB.out⟩

end Go.Proofs.Ytopmggldaicpaab.PFnCharacters
