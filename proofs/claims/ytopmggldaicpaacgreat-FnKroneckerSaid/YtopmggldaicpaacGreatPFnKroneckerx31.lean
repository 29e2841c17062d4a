import Derived.Test.YtopmggldaicpaacGreatPFnKroneckerx30
namespace Go.Proofs.YtopmggldaicpaacGreat.PFnKronecker
open Go.RowKit Go.Proofs.YtopmggldaicpaacGreatW.PrintWords Go.Proofs.YtopmggldaicpaacGreatW.PrintLast Go.Proofs.YtopmggldaicpaacGreatW.PrintMore
set_option linter.unusedVariables false
set_option linter.unusedSimpArgs false
set_option maxHeartbeats 8000000
set_option maxRecDepth 100000
/-! ### spec_l22Character: function 41 -/
mutual
def spec_l22Character.l0 : Nat → List Int → Int → List (S61) → Int → Option (Int)
 | 0, _, _, _, _ => none
 | k + 1, x1, x5, x6, x7 => if x7 < (x6.length : Int) then (if 0 ≤ x7 then (if 1 ≤ (x1.length : Int) then ((spec_l22Character.f k ((rd_T61 x6 x7).f1) (x1.drop 1)).bind fun t840 => ((spec_RibbonHeight.f k ((rd_T61 x6 x7).f0) ((rd_T61 x6 x7).f1)).bind fun t842 => (if (Int.tmod t842 2) = 1 then (spec_l22Character.l0 k x1 (wrap64 (x5 + (wrap64 (-t840)))) x6 (wrap64 (x7 + 1))) else (spec_l22Character.l0 k x1 (wrap64 (x5 + t840)) x6 (wrap64 (x7 + 1)))))) else (none)) else (none)) else (some x5)
def spec_l22Character.f : Nat → List Int → List Int → Option (Int)
 | 0, _, _ => none
 | k + 1, l0, l1 => if (l1.length : Int) = 0 then (some 1) else (if 0 < (l1.length : Int) then ((spec_RibbonsInside.f k l0 (rd l1 0)).bind fun t835 => (spec_l22Character.l0 k l1 0 t835 0)) else (none))
end
theorem spec_l22Character.mono_l : ∀ k, (∀ y0 y1, LeO (spec_l22Character.f k y0 y1) (spec_l22Character.f (k + 1) y0 y1)) ∧ (∀ y0 y1 y2 y3, LeO (spec_l22Character.l0 k y0 y1 y2 y3) (spec_l22Character.l0 (k + 1) y0 y1 y2 y3))
 | 0 => ⟨fun _ _ r h => by simp [spec_l22Character.f] at h, fun _ _ _ _ r h => by simp [spec_l22Character.l0] at h⟩
 | k + 1 => by
  obtain ⟨ih0, ih1⟩ := spec_l22Character.mono_l k
  refine ⟨?_, ?_⟩
  ·intro y0 y1
   unfold spec_l22Character.f
   repeat' with_reducible first | exact ih0 _ _ | exact ih1 _ _ _ _ | exact spec_RibbonHeight.mono _ _ _ | exact spec_RibbonsInside.mono _ _ _ | exact xl | refine LeO.ite ?_ ?_ | refine LeO.bind ?_ fun _ => ?_
  ·intro y0 y1 y2 y3
   unfold spec_l22Character.l0
   repeat' with_reducible first | exact ih0 _ _ | exact ih1 _ _ _ _ | exact spec_RibbonHeight.mono _ _ _ | exact spec_RibbonsInside.mono _ _ _ | exact xl | refine LeO.ite ?_ ?_ | refine LeO.bind ?_ fun _ => ?_
theorem spec_l22Character.mono : ∀ a0 a1 k, LeO (spec_l22Character.f k a0 a1) (spec_l22Character.f (k + 1) a0 a1) := by
 intro a0 a1 k
 obtain ⟨ih0, ih1⟩ := spec_l22Character.mono_l k
 exact ih0 a0 a1
def spec_l22Character.T8 : Bool × List (List Nat × List Nat) := (true, [([], []), ([], []), ([0, 1], [0, 1]), ([2], [2]), ([3], [3]), ([], []), ([5], [5]), ([4, 6], [4, 6]), ([7, 7, 0, 1, 2, 3, 4, 5, 6, 7], [7])])
def spec_l22Character.B8 : List Nat := [0, 0, 3, 7, 15, 0, 32, 127, 255]
theorem spec_l22Character.tab8 : rtab .any (opsOf Tryz.f41 8) = spec_l22Character.T8 := by kernel_rfl
theorem spec_l22Character.bits8 : waitsOk spec_l22Character.T8.2 spec_l22Character.B8 = true := by kernel_rfl
theorem spec_l22Character.calls (k : Nat) : ∀ (A0 : Option Addr) (c0 : Nat) (l0 : List Int) (A1 : Option Addr) (c1 : Nat) (l1 : List Int) (r : Int) (w : World) (hr0 : Kd.C (Kd.int .i64) w A0 l0.length l0) (hc0 : l0.length ≤ c0) (hr1 : Kd.C (Kd.int .i64) w A1 l1.length l1) (hc1 : l1.length ≤ c1) (h : spec_l22Character.f k l0 l1 = some r),
  Calls Tryz.prog 41 #[.slice A0 l0.length c0, .slice A1 l1.length c1] w fun e w' => e = .returned (.int .i64 r) ∧ Below w.heap.size w w' := by
 induction k using Nat.strongRecOn with
 | _ k ih =>
 intro A0 c0 l0 A1 c1 l1 r w hr0 hc0 hr1 hc1 h
 cases k with
 | zero => exact absurd h (by simp [spec_l22Character.f])
 | succ k =>
 simp only [spec_l22Character.f] at h
 have hu61 := Tryz.underlying61
 have HR0 := ax hr0
 have HC0 := ax hc0
 clear hr0 hc0
 have HR1 := ax hr1
 have HC1 := ax hc1
 clear hr1 hc1
 have HB := ax (Below.refl w.heap.size w)
 have H : (if (l1.length : Int) = 0 then (some 1) else (if 0 < (l1.length : Int) then ((spec_RibbonsInside.f k l0 (rd l1 0)).bind fun t835 => (spec_l22Character.l0 k l1 0 t835 0)) else (none))) = some r := h
 clear h
 by_cases c3 : (l1.length : Int) = 0
 ·rw [if_pos c3] at H
  have c3b0 : ((l1.length : Int) == 0) = true := beq_iff_eq.mpr c3
  have c3b1 : ((l1.length : Int) != 0) = false := bne_eq_false_iff_eq.mpr c3
  clear c3
  obtain rfl := Option.some.inj H
  go_enter Tryz.func41, Tryz.ntmps41
  go_wp2
  go_ret
  exact ⟨xe, xb HB.out⟩
 ·rw [if_neg c3] at H
  have c3b0 : ((l1.length : Int) == 0) = false := beq_eq_false_iff_ne.mpr c3
  have c3b1 : ((l1.length : Int) != 0) = true := bne_iff_ne.mpr c3
  have c3b2 : ¬ (l1 = []) := fun h_ => c3 (by rw [h_]; rfl)
  obtain ⟨c4, H⟩ := xp H
  have c4b0 := decide_eq_true c4
  have c4b1 : decide (0 < l1.length) = true := decide_eq_true (by omega)
  clear c4
  obtain ⟨t835, A5, H⟩ := xI H
  have H' := ax H
  clear H
  have p834 : 0 ≤ (0 : Int) := (by omega)
  have q834 : 0 < (l1.length : Int) := xd
  obtain ⟨ad834, e834, hx834_0⟩ := Kd.at_int HR1.out 0 p834 q834
  cases e834
  have qi834 : (0 < l1.length) = True := eq_true (by omega)
  (try rw [show ((0 : Int)).toNat = 0 from rfl] at hx834_0)
  (try rw [Addr.add_zero'] at hx834_0)
  replace p834 := eq_true p834
  replace q834 := eq_true q834
  go_enter Tryz.func41, Tryz.ntmps41
  go_wp2_with (first | ((with_reducible refine gate_callee (f := 61) rfl ?_); refine goesL_ (some 16) rfl rfl Tryz.func61 (by kernel_rfl) rfl #[.slice A0 l0.length c0, .int .i64 (rd l1 0)] rfl xm ?_; (with_reducible refine (spec_RibbonsInside.calls k _ _ l0 (rd l1 0) t835 _ ?side1 ?side2 A5.out).mono ?_); (case side1 => exact xc HR0.out); (case side2 => exact HC0.out); rintro e w6 ⟨v836, rfl, ho0, hb⟩; refine ⟨_, rfl, ?_⟩; have HO837 := ax (Kd.N_lower (Kd.N_mono (ok' := fun k_ => True) ho0 (fun k_ hk_ => trivial)) (below_size (xb HB.out))); replace HB := yB HB hb; (try clear hb); (try clear ho0)))
  go_loopg [5, 7] k (fun kq v5 v7 w' => ∃ (x5_1 : Int) (x7_1 : Int), v5 = .int .i64 x5_1 ∧ v7 = .int .i64 x7_1 ∧ Aside0 (spec_l22Character.l0 kq l1 x5_1 t835 x7_1 = some r) ∧ Aside0 (kq ≤ k) ∧ Aside0 (Kd.N k61 61 w' w.heap.size (fun _ => True) v836 t835) ∧ Aside0 (Below w.heap.size w w'))
  case atStart => exact ⟨(0), (0), xr, xr, H', ⟨Nat.le_refl _⟩, ⟨xN HO837.out⟩, ⟨xb HB.out⟩⟩
  case round =>
   clear H'
   (try clear c1); (try clear c3); (try clear c3b0); (try clear c3b1); (try clear c3b2); (try clear c4); (try clear c4b0); (try clear c4b1); (try clear hx834_0); (try clear p834); (try clear q834)
   obtain ⟨x5_1, x7_1, rfl, rfl, HA, HK1, HO_6, HB⟩ := hrel
   cases gk with
   | zero => exact absurd HA.out (by simp [spec_l22Character.l0])
   | succ k1 =>
    have H := HA.out
    clear HA
    simp only [spec_l22Character.l0] at H
    by_cases c7 : x7_1 < (t835.length : Int)
    ·rw [if_pos c7] at H
     have c7b0 := decide_eq_true c7
     clear c7
     obtain ⟨c8b0, H⟩ := xq H
     obtain ⟨c9, H⟩ := xp H
     have c9b0 := eq_true c9
     have c9b1 := decide_eq_true c9
     clear c9
     obtain ⟨t840, A10, H⟩ := xI H
     obtain ⟨t842, A11, H⟩ := xI H
     by_cases c12 : (Int.tmod t842 2) = 1
     ·rw [if_pos c12] at H
      have c12b0 : ((Int.tmod t842 2) == 1) = true := beq_iff_eq.mpr c12
      have c12b1 : ((Int.tmod t842 2) != 1) = false := bne_eq_false_iff_eq.mpr c12
      clear c12
      have H' := ax H
      clear H
      obtain ⟨Ao13, co13, eo13⟩ := Kd.N_slice HO_6.out
      subst eo13
      try go_wp2
      replace HO_6 := ax (Kd.N_drew HO_6.out); replace HB := ax (below_drew1 HB.out)
      have p838 : 0 ≤ (x7_1 : Int) := xd
      have q838 : x7_1 < (t835.length : Int) := xd
      obtain ⟨ad838, A838_0, c838_0, A838_1, c838_1, e838, hx838_0, hx838_1, hl838_0, hi838_0, hl838_1, hi838_1⟩ := at_T61 (Kd.N_reads' HO_6.out).2.2 x7_1 p838 q838
      cases e838
      obtain ⟨ce838, hce838, hMe838, hcc838⟩ := Kd.N_get HO_6.out z61 x7_1 p838 (by first | exact q838 | exact xd | (have e_ := (Kd.N_reads' HO_6.out).1; omega))
      obtain ⟨ua838_0, uc838_0, ua838_1, uc838_1, rfl, ul838_0, ge838_0, ul838_1, ge838_1⟩ := k61_openF hMe838
      have hv838_0 := hcc838 0 _ rfl
      rw [Nat.add_zero] at hv838_0
      replace hv838_0 := Option.some.inj (hv838_0.symm.trans hx838_0)
      injection hv838_0 with hva_ hvn_ hvc_
      rw [hva_] at ge838_0
      rw [hvc_] at ul838_0
      have HL838_0 := ax (show Kd.V (Kd.int .i64) 3 _ w.heap.size _ _ ((rd_T61 t835 x7_1).f0) from Kd.V_mk ul838_0 ge838_0)
      clear hva_ hvn_ hvc_ ge838_0 ul838_0
      have hv838_1 := hcc838 1 _ rfl
      rw [add_field _ _ 1 (by omega)] at hv838_1
      replace hv838_1 := Option.some.inj (hv838_1.symm.trans hx838_1)
      injection hv838_1 with hva_ hvn_ hvc_
      rw [hva_] at ge838_1
      rw [hvc_] at ul838_1
      have HL838_1 := ax (show Kd.V (Kd.int .i64) 3 _ w.heap.size _ _ ((rd_T61 t835 x7_1).f1) from Kd.V_mk ul838_1 ge838_1)
      clear hva_ hvn_ hvc_ ge838_1 ul838_1 hcc838 hce838
      have HR838_0 := ax hi838_0
      have HC838_0 := ax hl838_0
      clear hi838_0 hl838_0
      have HR838_1 := ax hi838_1
      have HC838_1 := ax hl838_1
      clear hi838_1 hl838_1
      replace p838 := eq_true p838
      replace q838 := eq_true q838
      obtain ⟨i015, hi015, _, hsz15, _⟩ := info_parts info3
      obtain ⟨A15, hcut15, hA15, hC15⟩ := print_drop_of (P := Tryz.prog) (Value.int .i64) 0 24 3 .i64 Tryz.underlying24 hi015 hsz15 (some ad834) c1 l1 1 (by omega) (xd) HC1.out
      have HR839 := ax (Kd.C_of_reads (h1 := fun _ => rfl) (hA15 _ (Kd.reads_of_C HR1.out)))
      have HC839 := ax hC15
      clear hA15 hC15 hi015 hsz15
      refine start_ (n := 9) (S := fun w' => w'.cell? (ad838.add ((x7_1).toNat * 2)) = some (.slice A838_0 ((rd_T61 t835 x7_1).f0).length c838_0) ∧ w'.cell? ⟨(ad838.add ((x7_1).toNat * 2)).block, (ad838.add ((x7_1).toNat * 2)).off + 1, none⟩ = some (.slice A838_1 ((rd_T61 t835 x7_1).f1).length c838_1)) (ds := []) (xB 9 0) (by kernel_rfl) rfl (by kernel_rfl) ⟨hx838_0, hx838_1⟩ (fun hHeld => ?_); refine with_tabW spec_l22Character.tab8 spec_l22Character.bits8 (fun HT_ HW_ => ?_)
      generalize wr.drew = w14 at HO_6 HB HL838_0 HL838_1 HR838_0 HR838_1 HR839 hx838_0 hx838_1 hHeld ⊢
      refine pu (i := 0) (N := some 23) (xB 9 1) HT_.out ?_
      refine pu (i := 1) (N := some 24) (xB 9 3) HT_.out ?_
      refine pu (i := 2) (N := some 25) (xB 9 7) HT_.out ?_
      refine pu (i := 3) (N := some 26) (xB 9 15) HT_.out ?_
      refine pu (i := 5) (N := some 28) (xB 9 47) HT_.out ?_
      refine pu (i := 6) (N := some 29) (xB 9 111) HT_.out ?_
      refine tk (i := 4) (N := some 27) (xB 9 127) HT_.out HW_.out hHeld ?_
      refine one_ (i := 7) (N := some 30) (xB 9 255) rfl rfl (one_of HT_.out (by kernel_rfl)) (by decide) (fun K hK => ?_)
      refine goes_ Tryz.func41 (by kernel_rfl) rfl #[.slice A838_1 ((rd_T61 t835 x7_1).f1).length c838_1, .slice A15 (l1.drop 1).length (c1 - 1)] (by rfl) rfl rfl (by (try simp only [List.map_toArray, List.map_cons, List.map_nil]); first | done | (rw [show (l1.drop 1).length = (l1.length - 1) from List.length_drop] <;> rfl) | rfl | (simp only [List.length_drop, List.length_take]; rfl)) ?_
      with_reducible refine (ih k1 (by have := HK1.out; omega) _ _ ((rd_T61 t835 x7_1).f1) _ _ (l1.drop 1) t840 _ ?side1 ?side2 ?side3 ?side4 A10.out).mono ?_
      (case side1 => exact xw HR838_1.out)
      (case side2 => exact HC838_1.out)
      (case side3 => exact xz HR839.out HB.out)
      (case side4 => exact HC839.out)
      rintro e w16 ⟨rfl, hb⟩
      have HS0_ := (hb.cell (World.block_lt_of_cell? _ _ (hHeld.1))).trans (hHeld.1)
      have HS1_ := (hb.cell (World.block_lt_of_cell? _ _ (hHeld.2))).trans (hHeld.2)
      refine ⟨_, rfl, ?_⟩
      replace HO_6 := ax (Kd.N_below (xN HO_6.out) hb); replace HL838_0 := yV HL838_0 hb; replace HL838_1 := yV HL838_1 hb; replace HR838_0 := ax (Kd.C_below (xw HR838_0.out) hb); replace HR838_1 := ax (Kd.C_below (xw HR838_1.out) hb); replace HB := yB HB hb
      (try clear hb)
      refine hK.out _ _ ⟨HS0_, HS1_⟩ (fun hHeld => ?_)
      clear hK K
      refine nm ?_
      refine pu (i := 8) (N := some 8) (xB 9 511) HT_.out ?_
      refine done_ (done_of HT_.out (by kernel_rfl)) ?_
      have p841 : 0 ≤ (x7_1 : Int) := xd
      have q841 : x7_1 < (t835.length : Int) := xd
      obtain ⟨ad841, A841_0, c841_0, A841_1, c841_1, e841, hx841_0, hx841_1, hl841_0, hi841_0, hl841_1, hi841_1⟩ := at_T61 (Kd.N_reads' HO_6.out).2.2 x7_1 p841 q841
      obtain rfl : ad838 = ad841 := (by injection e841)
      obtain ⟨rfl, rfl⟩ : A838_0 = A841_0 ∧ c838_0 = c841_0 := by first | exact xsame hx838_0 hx841_0 | exact xsame HS0_ hx841_0 | exact xsame HS1_ hx841_0 | exact xsame HS2_ hx841_0 | exact xsame hHeld hx841_0 | exact xsame hHeld.1 hx841_0 | exact xsame hHeld.2 hx841_0 | exact xsame hHeld.2.1 hx841_0 | exact xsame hHeld.2.2 hx841_0 | exact xsame hHeld.2.2.1 hx841_0 | exact xsame hHeld.2.2.2 hx841_0 | exact xsame hHeld.2.2.2.1 hx841_0 | exact xsame hHeld.2.2.2.2 hx841_0 | exact xsame hHeld.2.2.2.2.1 hx841_0 | exact xsame hHeld.2.2.2.2.2 hx841_0
      obtain ⟨rfl, rfl⟩ : A838_1 = A841_1 ∧ c838_1 = c841_1 := by first | exact xsame hx838_1 hx841_1 | exact xsame HS0_ hx841_1 | exact xsame HS1_ hx841_1 | exact xsame HS2_ hx841_1 | exact xsame hHeld hx841_1 | exact xsame hHeld.1 hx841_1 | exact xsame hHeld.2 hx841_1 | exact xsame hHeld.2.1 hx841_1 | exact xsame hHeld.2.2 hx841_1 | exact xsame hHeld.2.2.1 hx841_1 | exact xsame hHeld.2.2.2 hx841_1 | exact xsame hHeld.2.2.2.1 hx841_1 | exact xsame hHeld.2.2.2.2 hx841_1 | exact xsame hHeld.2.2.2.2.1 hx841_1 | exact xsame hHeld.2.2.2.2.2 hx841_1
      obtain ⟨ce841, hce841, hMe841, hcc841⟩ := Kd.N_get HO_6.out z61 x7_1 p841 (by first | exact q841 | exact xd | (have e_ := (Kd.N_reads' HO_6.out).1; omega))
      obtain ⟨ua841_0, uc841_0, ua841_1, uc841_1, rfl, ul841_0, ge841_0, ul841_1, ge841_1⟩ := k61_openF hMe841
      have hv841_0 := hcc841 0 _ rfl
      rw [Nat.add_zero] at hv841_0
      replace hv841_0 := Option.some.inj (hv841_0.symm.trans hx841_0)
      injection hv841_0 with hva_ hvn_ hvc_
      rw [hva_] at ge841_0
      rw [hvc_] at ul841_0
      have HL841_0 := ax (show Kd.V (Kd.int .i64) 3 _ w.heap.size _ _ ((rd_T61 t835 x7_1).f0) from Kd.V_mk ul841_0 ge841_0)
      clear hva_ hvn_ hvc_ ge841_0 ul841_0
      have hv841_1 := hcc841 1 _ rfl
      rw [add_field _ _ 1 (by omega)] at hv841_1
      replace hv841_1 := Option.some.inj (hv841_1.symm.trans hx841_1)
      injection hv841_1 with hva_ hvn_ hvc_
      rw [hva_] at ge841_1
      rw [hvc_] at ul841_1
      have HL841_1 := ax (show Kd.V (Kd.int .i64) 3 _ w.heap.size _ _ ((rd_T61 t835 x7_1).f1) from Kd.V_mk ul841_1 ge841_1)
      clear hva_ hvn_ hvc_ ge841_1 ul841_1 hcc841 hce841
      have HR841_0 := ax hi841_0
      have HC841_0 := ax hl841_0
      clear hi841_0 hl841_0
      have HR841_1 := ax hi841_1
      have HC841_1 := ax hl841_1
      clear hi841_1 hl841_1
      replace p841 := eq_true p841
      replace q841 := eq_true q841
      try go_wp2_with (first | ((with_reducible refine gate_callee (f := 62) rfl ?_); refine goesL_ (some 35) rfl rfl Tryz.func62 (by kernel_rfl) rfl #[.agg #[.slice A838_0 ((rd_T61 t835 x7_1).f0).length c838_0, .slice A838_1 ((rd_T61 t835 x7_1).f1).length c838_1]] rfl xm ?_; (with_reducible refine (spec_RibbonHeight.calls k1 _ _ ((rd_T61 t835 x7_1).f0) _ _ ((rd_T61 t835 x7_1).f1) t842 _ ?side1 ?side2 ?side3 ?side4 A11.out).mono ?_); (case side1 => exact xw HR841_0.out); (case side2 => exact HC841_0.out); (case side3 => exact xw HR841_1.out); (case side4 => exact HC841_1.out); rintro e w17 ⟨rfl, hb⟩; refine ⟨_, rfl, ?_⟩; replace HO_6 := ax (Kd.N_below (xN HO_6.out) hb); replace HL838_0 := yV HL838_0 hb; replace HL838_1 := yV HL838_1 hb; replace HL841_0 := yV HL841_0 hb; replace HL841_1 := yV HL841_1 hb; replace HR838_0 := ax (Kd.C_below (xw HR838_0.out) hb); replace HR838_1 := ax (Kd.C_below (xw HR838_1.out) hb); replace HR841_0 := ax (Kd.C_below (xw HR841_0.out) hb); replace HR841_1 := ax (Kd.C_below (xw HR841_1.out) hb); replace HB := yB HB hb; (try clear hb)))
      go_roundg k1
      case measure => have := HK1.out; omega
      case rel => exact ⟨(wrap64 (x5_1 + (wrap64 (-t840)))), (wrap64 (x7_1 + 1)), xr, xr, H', ⟨by have := HK1.out; omega⟩, ⟨xN HO_6.out⟩, ⟨xb HB.out⟩⟩
     ·rw [if_neg c12] at H
      have c12b0 : ((Int.tmod t842 2) == 1) = false := beq_eq_false_iff_ne.mpr c12
      have c12b1 : ((Int.tmod t842 2) != 1) = true := bne_iff_ne.mpr c12
      have H' := ax H
      clear H
      obtain ⟨Ao18, co18, eo18⟩ := Kd.N_slice HO_6.out
      subst eo18
      try go_wp2
      replace HO_6 := ax (Kd.N_drew HO_6.out); replace HB := ax (below_drew1 HB.out)
      have p838 : 0 ≤ (x7_1 : Int) := xd
      have q838 : x7_1 < (t835.length : Int) := xd
      obtain ⟨ad838, A838_0, c838_0, A838_1, c838_1, e838, hx838_0, hx838_1, hl838_0, hi838_0, hl838_1, hi838_1⟩ := at_T61 (Kd.N_reads' HO_6.out).2.2 x7_1 p838 q838
      cases e838
      obtain ⟨ce838, hce838, hMe838, hcc838⟩ := Kd.N_get HO_6.out z61 x7_1 p838 (by first | exact q838 | exact xd | (have e_ := (Kd.N_reads' HO_6.out).1; omega))
      obtain ⟨ua838_0, uc838_0, ua838_1, uc838_1, rfl, ul838_0, ge838_0, ul838_1, ge838_1⟩ := k61_openF hMe838
      have hv838_0 := hcc838 0 _ rfl
      rw [Nat.add_zero] at hv838_0
      replace hv838_0 := Option.some.inj (hv838_0.symm.trans hx838_0)
      injection hv838_0 with hva_ hvn_ hvc_
      rw [hva_] at ge838_0
      rw [hvc_] at ul838_0
      have HL838_0 := ax (show Kd.V (Kd.int .i64) 3 _ w.heap.size _ _ ((rd_T61 t835 x7_1).f0) from Kd.V_mk ul838_0 ge838_0)
      clear hva_ hvn_ hvc_ ge838_0 ul838_0
      have hv838_1 := hcc838 1 _ rfl
      rw [add_field _ _ 1 (by omega)] at hv838_1
      replace hv838_1 := Option.some.inj (hv838_1.symm.trans hx838_1)
      injection hv838_1 with hva_ hvn_ hvc_
      rw [hva_] at ge838_1
      rw [hvc_] at ul838_1
      have HL838_1 := ax (show Kd.V (Kd.int .i64) 3 _ w.heap.size _ _ ((rd_T61 t835 x7_1).f1) from Kd.V_mk ul838_1 ge838_1)
      clear hva_ hvn_ hvc_ ge838_1 ul838_1 hcc838 hce838
      have HR838_0 := ax hi838_0
      have HC838_0 := ax hl838_0
      clear hi838_0 hl838_0
      have HR838_1 := ax hi838_1
      have HC838_1 := ax hl838_1
      clear hi838_1 hl838_1
      replace p838 := eq_true p838
      replace q838 := eq_true q838
      obtain ⟨i020, hi020, _, hsz20, _⟩ := info_parts info3
      obtain ⟨A20, hcut20, hA20, hC20⟩ := print_drop_of (P := Tryz.prog) (Value.int .i64) 0 24 3 .i64 Tryz.underlying24 hi020 hsz20 (some ad834) c1 l1 1 (by omega) (xd) HC1.out
      have HR839 := ax (Kd.C_of_reads (h1 := fun _ => rfl) (hA20 _ (Kd.reads_of_C HR1.out)))
      have HC839 := ax hC20
      clear hA20 hC20 hi020 hsz20
      refine start_ (n := 9) (S := fun w' => w'.cell? (ad838.add ((x7_1).toNat * 2)) = some (.slice A838_0 ((rd_T61 t835 x7_1).f0).length c838_0) ∧ w'.cell? ⟨(ad838.add ((x7_1).toNat * 2)).block, (ad838.add ((x7_1).toNat * 2)).off + 1, none⟩ = some (.slice A838_1 ((rd_T61 t835 x7_1).f1).length c838_1)) (ds := []) (xB 9 0) (by kernel_rfl) rfl (by kernel_rfl) ⟨hx838_0, hx838_1⟩ (fun hHeld => ?_); refine with_tabW spec_l22Character.tab8 spec_l22Character.bits8 (fun HT_ HW_ => ?_)
      generalize wr.drew = w19 at HO_6 HB HL838_0 HL838_1 HR838_0 HR838_1 HR839 hx838_0 hx838_1 hHeld ⊢
      refine pu (i := 0) (N := some 23) (xB 9 1) HT_.out ?_
      refine pu (i := 1) (N := some 24) (xB 9 3) HT_.out ?_
      refine pu (i := 2) (N := some 25) (xB 9 7) HT_.out ?_
      refine pu (i := 3) (N := some 26) (xB 9 15) HT_.out ?_
      refine pu (i := 5) (N := some 28) (xB 9 47) HT_.out ?_
      refine pu (i := 6) (N := some 29) (xB 9 111) HT_.out ?_
      refine tk (i := 4) (N := some 27) (xB 9 127) HT_.out HW_.out hHeld ?_
      refine one_ (i := 7) (N := some 30) (xB 9 255) rfl rfl (one_of HT_.out (by kernel_rfl)) (by decide) (fun K hK => ?_)
      refine goes_ Tryz.func41 (by kernel_rfl) rfl #[.slice A838_1 ((rd_T61 t835 x7_1).f1).length c838_1, .slice A20 (l1.drop 1).length (c1 - 1)] (by rfl) rfl rfl (by (try simp only [List.map_toArray, List.map_cons, List.map_nil]); first | done | (rw [show (l1.drop 1).length = (l1.length - 1) from List.length_drop] <;> rfl) | rfl | (simp only [List.length_drop, List.length_take]; rfl)) ?_
      with_reducible refine (ih k1 (by have := HK1.out; omega) _ _ ((rd_T61 t835 x7_1).f1) _ _ (l1.drop 1) t840 _ ?side1 ?side2 ?side3 ?side4 A10.out).mono ?_
      (case side1 => exact xw HR838_1.out)
      (case side2 => exact HC838_1.out)
      (case side3 => exact xz HR839.out HB.out)
      (case side4 => exact HC839.out)
      rintro e w21 ⟨rfl, hb⟩
      have HS0_ := (hb.cell (World.block_lt_of_cell? _ _ (hHeld.1))).trans (hHeld.1)
      have HS1_ := (hb.cell (World.block_lt_of_cell? _ _ (hHeld.2))).trans (hHeld.2)
      refine ⟨_, rfl, ?_⟩
      replace HO_6 := ax (Kd.N_below (xN HO_6.out) hb); replace HL838_0 := yV HL838_0 hb; replace HL838_1 := yV HL838_1 hb; replace HR838_0 := ax (Kd.C_below (xw HR838_0.out) hb); replace HR838_1 := ax (Kd.C_below (xw HR838_1.out) hb); replace HB := yB HB hb
      (try clear hb)
      refine hK.out _ _ ⟨HS0_, HS1_⟩ (fun hHeld => ?_)
      clear hK K
      refine nm ?_
      refine pu (i := 8) (N := some 8) (xB 9 511) HT_.out ?_
      refine done_ (done_of HT_.out (by kernel_rfl)) ?_
      have p841 : 0 ≤ (x7_1 : Int) := xd
      have q841 : x7_1 < (t835.length : Int) := xd
      obtain ⟨ad841, A841_0, c841_0, A841_1, c841_1, e841, hx841_0, hx841_1, hl841_0, hi841_0, hl841_1, hi841_1⟩ := at_T61 (Kd.N_reads' HO_6.out).2.2 x7_1 p841 q841
      obtain rfl : ad838 = ad841 := (by injection e841)
      obtain ⟨rfl, rfl⟩ : A838_0 = A841_0 ∧ c838_0 = c841_0 := by first | exact xsame hx838_0 hx841_0 | exact xsame HS0_ hx841_0 | exact xsame HS1_ hx841_0 | exact xsame HS2_ hx841_0 | exact xsame hHeld hx841_0 | exact xsame hHeld.1 hx841_0 | exact xsame hHeld.2 hx841_0 | exact xsame hHeld.2.1 hx841_0 | exact xsame hHeld.2.2 hx841_0 | exact xsame hHeld.2.2.1 hx841_0 | exact xsame hHeld.2.2.2 hx841_0 | exact xsame hHeld.2.2.2.1 hx841_0 | exact xsame hHeld.2.2.2.2 hx841_0 | exact xsame hHeld.2.2.2.2.1 hx841_0 | exact xsame hHeld.2.2.2.2.2 hx841_0
      obtain ⟨rfl, rfl⟩ : A838_1 = A841_1 ∧ c838_1 = c841_1 := by first | exact xsame hx838_1 hx841_1 | exact xsame HS0_ hx841_1 | exact xsame HS1_ hx841_1 | exact xsame HS2_ hx841_1 | exact xsame hHeld hx841_1 | exact xsame hHeld.1 hx841_1 | exact xsame hHeld.2 hx841_1 | exact xsame hHeld.2.1 hx841_1 | exact xsame hHeld.2.2 hx841_1 | exact xsame hHeld.2.2.1 hx841_1 | exact xsame hHeld.2.2.2 hx841_1 | exact xsame hHeld.2.2.2.1 hx841_1 | exact xsame hHeld.2.2.2.2 hx841_1 | exact xsame hHeld.2.2.2.2.1 hx841_1 | exact xsame hHeld.2.2.2.2.2 hx841_1
      obtain ⟨ce841, hce841, hMe841, hcc841⟩ := Kd.N_get HO_6.out z61 x7_1 p841 (by first | exact q841 | exact xd | (have e_ := (Kd.N_reads' HO_6.out).1; omega))
      obtain ⟨ua841_0, uc841_0, ua841_1, uc841_1, rfl, ul841_0, ge841_0, ul841_1, ge841_1⟩ := k61_openF hMe841
      have hv841_0 := hcc841 0 _ rfl
      rw [Nat.add_zero] at hv841_0
      replace hv841_0 := Option.some.inj (hv841_0.symm.trans hx841_0)
      injection hv841_0 with hva_ hvn_ hvc_
      rw [hva_] at ge841_0
      rw [hvc_] at ul841_0
      have HL841_0 := ax (show Kd.V (Kd.int .i64) 3 _ w.heap.size _ _ ((rd_T61 t835 x7_1).f0) from Kd.V_mk ul841_0 ge841_0)
      clear hva_ hvn_ hvc_ ge841_0 ul841_0
      have hv841_1 := hcc841 1 _ rfl
      rw [add_field _ _ 1 (by omega)] at hv841_1
      replace hv841_1 := Option.some.inj (hv841_1.symm.trans hx841_1)
      injection hv841_1 with hva_ hvn_ hvc_
      rw [hva_] at ge841_1
      rw [hvc_] at ul841_1
      have HL841_1 := ax (show Kd.V (Kd.int .i64) 3 _ w.heap.size _ _ ((rd_T61 t835 x7_1).f1) from Kd.V_mk ul841_1 ge841_1)
      clear hva_ hvn_ hvc_ ge841_1 ul841_1 hcc841 hce841
      have HR841_0 := ax hi841_0
      have HC841_0 := ax hl841_0
      clear hi841_0 hl841_0
      have HR841_1 := ax hi841_1
      have HC841_1 := ax hl841_1
      clear hi841_1 hl841_1
      replace p841 := eq_true p841
      replace q841 := eq_true q841
      try go_wp2_with (first | ((with_reducible refine gate_callee (f := 62) rfl ?_); refine goesL_ (some 35) rfl rfl Tryz.func62 (by kernel_rfl) rfl #[.agg #[.slice A838_0 ((rd_T61 t835 x7_1).f0).length c838_0, .slice A838_1 ((rd_T61 t835 x7_1).f1).length c838_1]] rfl xm ?_; (with_reducible refine (spec_RibbonHeight.calls k1 _ _ ((rd_T61 t835 x7_1).f0) _ _ ((rd_T61 t835 x7_1).f1) t842 _ ?side1 ?side2 ?side3 ?side4 A11.out).mono ?_); (case side1 => exact xw HR841_0.out); (case side2 => exact HC841_0.out); (case side3 => exact xw HR841_1.out); (case side4 => exact HC841_1.out); rintro e w22 ⟨rfl, hb⟩; refine ⟨_, rfl, ?_⟩; replace HO_6 := ax (Kd.N_below (xN HO_6.out) hb); replace HL838_0 := yV HL838_0 hb; replace HL838_1 := yV HL838_1 hb; replace HL841_0 := yV HL841_0 hb; replace HL841_1 := yV HL841_1 hb; replace HR838_0 := ax (Kd.C_below (xw HR838_0.out) hb); replace HR838_1 := ax (Kd.C_below (xw HR838_1.out) hb); replace HR841_0 := ax (Kd.C_below (xw HR841_0.out) hb); replace HR841_1 := ax (Kd.C_below (xw HR841_1.out) hb); replace HB := yB HB hb; (try clear hb)))
      go_roundg k1
      case measure => have := HK1.out; omega
      case rel => exact ⟨(wrap64 (x5_1 + t840)), (wrap64 (x7_1 + 1)), xr, xr, H', ⟨by have := HK1.out; omega⟩, ⟨xN HO_6.out⟩, ⟨xb HB.out⟩⟩
    ·rw [if_neg c7] at H
     have c7b0 := decide_eq_false c7
     clear c7
     obtain rfl := Option.some.inj H
     obtain ⟨Ao23, co23, eo23⟩ := Kd.N_slice HO_6.out
     subst eo23
     go_wp2
     go_ret
     exact ⟨xe, xb HB.out⟩

end Go.Proofs.YtopmggldaicpaacGreat.PFnKronecker
