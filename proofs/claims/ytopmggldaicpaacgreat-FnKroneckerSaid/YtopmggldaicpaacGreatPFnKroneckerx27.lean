import Derived.Test.YtopmggldaicpaacGreatPFnKroneckerx25
import Derived.Test.YtopmggldaicpaacGreatPFnKroneckerx26
namespace Go.Proofs.YtopmggldaicpaacGreat.PFnKronecker
open Go.RowKit Go.Proofs.YtopmggldaicpaacGreatW.PrintWords Go.Proofs.YtopmggldaicpaacGreatW.PrintLast Go.Proofs.YtopmggldaicpaacGreatW.PrintMore
set_option linter.unusedVariables false
set_option linter.unusedSimpArgs false
set_option maxHeartbeats 8000000
set_option maxRecDepth 100000
/-! ### spec_IsRibbon: function 85 -/
mutual
def spec_IsRibbon.j0 : Nat → Int → Int → Bool → List Int → List Int → Option (Bool)
 | 0, _, _, _, _, _ => none
 | k + 1, x3, x4, x17, x738000, x738001 => if x17 = true then (some false) else (spec_IsRibbon.l0 k x4 (wrap64 (x3 + 1)) x738000 x738001)
def spec_IsRibbon.l0 : Nat → Int → Int → List Int → List Int → Option (Bool)
 | 0, _, _, _, _ => none
 | k + 1, x4, x5, x738000, x738001 => if x5 ≤ x4 then (if 0 ≤ x5 then (if x5 < (x738000.length : Int) then ((spec_l2At.f x738001 x5).bind fun t742 => (if (rd x738000 x5) ≤ t742 then (some false) else ((spec_l2At.f x738001 (wrap64 (x5 - 1))).bind fun t744 => (if (rd x738000 x5) = (wrap64 (t744 + 1)) then (spec_IsRibbon.l0 k x4 (wrap64 (x5 + 1)) x738000 x738001) else (some false))))) else (none)) else (none)) else (some true)
end
def spec_IsRibbon.f (k : Nat) (l0_0 : List Int) (l0_1 : List Int) : Option (Bool) := (spec_l4Rows.f k l0_0 l0_1).bind fun bt738 => ((spec_IsShape.f k l0_0 l0_1).bind fun t740 => (if t740 = true then (spec_IsRibbon.j0 k bt738.1 bt738.2 (decide (bt738.1 < 0)) l0_0 l0_1) else (spec_IsRibbon.j0 k bt738.1 bt738.2 true l0_0 l0_1)))
theorem spec_IsRibbon.mono_l : ∀ k, (∀ y0 y1 y2 y3 y4, LeO (spec_IsRibbon.j0 k y0 y1 y2 y3 y4) (spec_IsRibbon.j0 (k + 1) y0 y1 y2 y3 y4)) ∧ (∀ y0 y1 y2 y3, LeO (spec_IsRibbon.l0 k y0 y1 y2 y3) (spec_IsRibbon.l0 (k + 1) y0 y1 y2 y3))
 | 0 => ⟨fun _ _ _ _ _ r h => by simp [spec_IsRibbon.j0] at h, fun _ _ _ _ r h => by simp [spec_IsRibbon.l0] at h⟩
 | k + 1 => by
  obtain ⟨ih0, ih1⟩ := spec_IsRibbon.mono_l k
  refine ⟨?_, ?_⟩
  ·intro y0 y1 y2 y3 y4
   unfold spec_IsRibbon.j0
   repeat' with_reducible first | exact ih0 _ _ _ _ _ | exact ih1 _ _ _ _ | exact spec_IsShape.mono _ _ _ | exact spec_l4Rows.mono _ _ _ | exact xl | refine LeO.ite ?_ ?_ | refine LeO.bind ?_ fun _ => ?_
  ·intro y0 y1 y2 y3
   unfold spec_IsRibbon.l0
   repeat' with_reducible first | exact ih0 _ _ _ _ _ | exact ih1 _ _ _ _ | exact spec_IsShape.mono _ _ _ | exact spec_l4Rows.mono _ _ _ | exact xl | refine LeO.ite ?_ ?_ | refine LeO.bind ?_ fun _ => ?_
theorem spec_IsRibbon.mono : ∀ a0 a1 k, LeO (spec_IsRibbon.f k a0 a1) (spec_IsRibbon.f (k + 1) a0 a1) := by
 intro a0 a1 k
 obtain ⟨ih0, ih1⟩ := spec_IsRibbon.mono_l k
 unfold spec_IsRibbon.f
 repeat' with_reducible first | exact ih0 _ _ _ _ _ | exact ih1 _ _ _ _ | exact spec_IsShape.mono _ _ _ | exact spec_l4Rows.mono _ _ _ | exact xl | refine LeO.ite ?_ ?_ | refine LeO.bind ?_ fun _ => ?_
def spec_IsRibbon.T7 : Bool × List (List Nat × List Nat) := (true, [([], []), ([0], [0]), ([], []), ([1, 2], [1, 2]), ([3], [3]), ([], []), ([5], [5]), ([], []), ([6, 7], [6, 7]), ([4, 8], [4, 8]), ([9, 8], [9]), ([10], [10]), ([11, 10], [10, 11]), ([10], [10]), ([12, 13, 10], [10, 12, 13]), ([14, 10], [10, 14]), ([10], [10]), ([16, 10], [10, 16]), ([10], [10]), ([18, 10], [10, 18]), ([17, 19, 10, 10], [10, 17, 19]), ([20, 10], [10, 20]), ([15, 21, 10], [10, 15, 21]), ([10, 22], [10, 22])])
def spec_IsRibbon.B7 : List Nat := [0, 1, 0, 7, 15, 0, 32, 0, 224, 511, 1023, 2047, 4095, 2047, 16383, 32767, 2047, 67583, 2047, 264191, 985087, 2033663, 4194303, 8388607]
theorem spec_IsRibbon.tab7 : rtab .any (opsOf Tryz.f85 7) = spec_IsRibbon.T7 := by kernel_rfl
theorem spec_IsRibbon.bits7 : waitsOk spec_IsRibbon.T7.2 spec_IsRibbon.B7 = true := by kernel_rfl
theorem spec_IsRibbon.calls (k : Nat) (A0_0 : Option Addr) (c0_0 : Nat) (l0_0 : List Int) (A0_1 : Option Addr) (c0_1 : Nat) (l0_1 : List Int) (r : Bool) (w : World) (hr0_0 : Kd.C (Kd.int .i64) w A0_0 l0_0.length l0_0) (hc0_0 : l0_0.length ≤ c0_0) (hr0_1 : Kd.C (Kd.int .i64) w A0_1 l0_1.length l0_1) (hc0_1 : l0_1.length ≤ c0_1) (h : spec_IsRibbon.f k l0_0 l0_1 = some r) :
  Calls Tryz.prog 85 #[.agg #[.slice A0_0 l0_0.length c0_0, .slice A0_1 l0_1.length c0_1]] w fun e w' => e = .returned (.bool r) ∧ Below w.heap.size w w' := by
 have hu61 := Tryz.underlying61
 have HR0_0 := ax hr0_0
 have HC0_0 := ax hc0_0
 clear hr0_0 hc0_0
 have HR0_1 := ax hr0_1
 have HC0_1 := ax hc0_1
 clear hr0_1 hc0_1
 have HB := ax (Below.refl w.heap.size w)
 have H : ((spec_l4Rows.f k l0_0 l0_1).bind fun bt738 => ((spec_IsShape.f k l0_0 l0_1).bind fun t740 => (if t740 = true then (spec_IsRibbon.j0 k bt738.1 bt738.2 (decide (bt738.1 < 0)) l0_0 l0_1) else (spec_IsRibbon.j0 k bt738.1 bt738.2 true l0_0 l0_1)))) = some r := h
 clear h
 obtain ⟨⟨t738, t739⟩, A2, H⟩ := xI H
 dsimp only at H
 have HC3 := ax H
 clear H
 go_enter Tryz.func85, Tryz.ntmps85
 go_upto_region 2 with (first | ((with_reducible refine gate_dst (N := 1) rfl ?_); refine box_event ?hg (N := 1) ?hd (cs := #[.slice A0_0 l0_0.length c0_0, .slice A0_1 l0_1.length c0_1]) (t := 61) ?hr ?_; (case hd => rfl); (case hg => rfl); (case hr => first | (go_simp; done) | (go_simp; rfl)); intro gb737 hg w4 hbox hb; have BK737 := ax (hbox); have GW737 := ax ((by rw [hg]; exact (below_size (xb HB.out)) : w.heap.size ≤ gb737)); have GE737 := ax ((by rw [hg]; exact (below_size (xb HB.out)) : w.heap.size ≤ gb737)); replace HB := yB HB hb; clear hb hbox hg; have hcz5_0 : w4.cell? ⟨gb737, 0, none⟩ = some (.slice A0_0 l0_0.length c0_0) := (blk_cell BK737.out 0).trans rfl; have hcz5_1 : w4.cell? ⟨gb737, 1, none⟩ = some (.slice A0_1 l0_1.length c0_1) := (blk_cell BK737.out 1).trans rfl; have hfz5_0 := blk_frozen BK737.out 0; have hfz5_1 := blk_frozen BK737.out 1) | ((with_reducible refine gate_callee (f := 86) rfl ?_); refine goesL_ (some 8) rfl rfl Tryz.func86 (by kernel_rfl) rfl #[.agg #[.slice A0_0 l0_0.length c0_0, .slice A0_1 l0_1.length c0_1]] rfl xm ?_; (with_reducible refine (spec_l4Rows.calls k _ _ l0_0 _ _ l0_1 t738 t739 _ ?side1 ?side2 ?side3 ?side4 A2.out).mono ?_); (case side1 => exact xz HR0_0.out HB.out); (case side2 => exact HC0_0.out); (case side3 => exact xz HR0_1.out HB.out); (case side4 => exact HC0_1.out); rintro e w6 ⟨rfl, hb⟩; refine ⟨_, rfl, ?_⟩; replace BK737 := ax (blk_below (g := gb737) (o := .cells #[.slice A0_0 l0_0.length c0_0, .slice A0_1 l0_1.length c0_1] 61 (0, 0)) (xk BK737.out) hb); replace HB := ax (below_step (xs HB.out GE737.out) hb); (try clear hb)))
 (try simp only [Act.put, List.setIfInBounds_toArray, List.set_cons_zero, List.set_cons_succ])
 go_cut [17] (fun v17 wc => ∃ (kq : Nat) (x17_2 : Bool), v17 = .bool x17_2 ∧ Aside0 (spec_IsRibbon.j0 kq t738 t739 x17_2 l0_0 l0_1 = some r) ∧ Aside0 (kq ≤ k) ∧ Aside0 (wc.heap[gb737]? = some (.cells #[(.slice A0_0 l0_0.length c0_0), (.slice A0_1 l0_1.length c0_1)] 61 (0, 0))) ∧ Aside0 (Below w.heap.size w wc))
 case first =>
  have H := HC3.out
  clear HC3
  obtain ⟨t740, A7, H⟩ := xI H
  by_cases c8 : t740 = true
  ·subst c8
   rw [if_pos rfl] at H
   have H' := ax H
   clear H
   have hcz9_0 : w6.cell? ⟨gb737, 0, none⟩ = some (.slice A0_0 l0_0.length c0_0) := (blk_cell BK737.out 0).trans rfl
   have hcz9_1 : w6.cell? ⟨gb737, 1, none⟩ = some (.slice A0_1 l0_1.length c0_1) := (blk_cell BK737.out 1).trans rfl
   have hfz9_0 := blk_frozen BK737.out 0
   have hfz9_1 := blk_frozen BK737.out 1
   go_wp2_with (first | ((with_reducible refine gate_callee (f := 101) rfl ?_); refine goesL_ (some 12) rfl rfl Tryz.func101 (by kernel_rfl) rfl #[.agg #[.slice A0_0 l0_0.length c0_0, .slice A0_1 l0_1.length c0_1]] rfl xm ?_; (with_reducible refine (spec_IsShape.calls k _ _ l0_0 _ _ l0_1 true _ ?side1 ?side2 ?side3 ?side4 A7.out).mono ?_); (case side1 => exact xz HR0_0.out HB.out); (case side2 => exact HC0_0.out); (case side3 => exact xz HR0_1.out HB.out); (case side4 => exact HC0_1.out); rintro e w10 ⟨rfl, hb⟩; refine ⟨_, rfl, ?_⟩; replace BK737 := ax (blk_below (g := gb737) (o := .cells #[.slice A0_0 l0_0.length c0_0, .slice A0_1 l0_1.length c0_1] 61 (0, 0)) (xk BK737.out) hb); replace HB := ax (below_step (xs HB.out GE737.out) hb); (try clear hb)))
   go_meet
   case rel => exact ⟨_, (decide (t738 < 0)), xr, H', ⟨by first | omega | exact Nat.le_refl _⟩, ⟨xk BK737.out⟩, ⟨xs HB.out GE737.out⟩⟩
  ·replace c8 := Bool.eq_false_iff.mpr c8
   subst c8
   rw [if_neg (show ¬ (false = true) by decide)] at H
   have H' := ax H
   clear H
   have hcz11_0 : w6.cell? ⟨gb737, 0, none⟩ = some (.slice A0_0 l0_0.length c0_0) := (blk_cell BK737.out 0).trans rfl
   have hcz11_1 : w6.cell? ⟨gb737, 1, none⟩ = some (.slice A0_1 l0_1.length c0_1) := (blk_cell BK737.out 1).trans rfl
   have hfz11_0 := blk_frozen BK737.out 0
   have hfz11_1 := blk_frozen BK737.out 1
   go_wp2_with (first | ((with_reducible refine gate_callee (f := 101) rfl ?_); refine goesL_ (some 12) rfl rfl Tryz.func101 (by kernel_rfl) rfl #[.agg #[.slice A0_0 l0_0.length c0_0, .slice A0_1 l0_1.length c0_1]] rfl xm ?_; (with_reducible refine (spec_IsShape.calls k _ _ l0_0 _ _ l0_1 false _ ?side1 ?side2 ?side3 ?side4 A7.out).mono ?_); (case side1 => exact xz HR0_0.out HB.out); (case side2 => exact HC0_0.out); (case side3 => exact xz HR0_1.out HB.out); (case side4 => exact HC0_1.out); rintro e w12 ⟨rfl, hb⟩; refine ⟨_, rfl, ?_⟩; replace BK737 := ax (blk_below (g := gb737) (o := .cells #[.slice A0_0 l0_0.length c0_0, .slice A0_1 l0_1.length c0_1] 61 (0, 0)) (xk BK737.out) hb); replace HB := ax (below_step (xs HB.out GE737.out) hb); (try clear hb)))
   go_meet
   case rel => exact ⟨_, (true), xr, H', ⟨by first | omega | exact Nat.le_refl _⟩, ⟨xk BK737.out⟩, ⟨xs HB.out GE737.out⟩⟩
 case rest =>
  clear HC3
  (try clear c8); (try clear hcz11_0); (try clear hcz11_1); (try clear hcz5_0); (try clear hcz5_1); (try clear hcz9_0); (try clear hcz9_1); (try clear hfz11_0); (try clear hfz11_1); (try clear hfz5_0); (try clear hfz5_1); (try clear hfz9_0); (try clear hfz9_1)
  obtain ⟨kq, x17_2, rfl, HA, HJ2, BK737, HB⟩ := hcut
  cases kq with
  | zero => exact absurd HA.out (by simp [spec_IsRibbon.j0])
  | succ kj2 =>
   have H := HA.out
   clear HA
   simp only [spec_IsRibbon.j0] at H
   by_cases c13 : x17_2 = true
   ·subst c13
    rw [if_pos rfl] at H
    obtain rfl := Option.some.inj H
    go_wp2
    go_ret
    exact ⟨xe, xs HB.out GE737.out⟩
   ·replace c13 := Bool.eq_false_iff.mpr c13
    subst c13
    rw [if_neg (show ¬ (false = true) by decide)] at H
    have H' := ax H
    clear H
    go_wp2
    go_loopg [5] kj2 (fun kq v5 w' => ∃ (x5_2 : Int), v5 = .int .i64 x5_2 ∧ Aside0 (spec_IsRibbon.l0 kq t739 x5_2 l0_0 l0_1 = some r) ∧ Aside0 (kq ≤ kj2) ∧ Aside0 (w'.heap[gb737]? = some (.cells #[(.slice A0_0 l0_0.length c0_0), (.slice A0_1 l0_1.length c0_1)] 61 (0, 0))) ∧ Aside0 (Below w.heap.size w w'))
    case atStart => exact ⟨(wrap64 (t738 + 1)), xr, H', ⟨Nat.le_refl _⟩, ⟨xk BK737.out⟩, ⟨xs HB.out GE737.out⟩⟩
    case round =>
     clear H'
     (try clear c8); (try clear c13); (try clear hcz11_0); (try clear hcz11_1); (try clear hcz5_0); (try clear hcz5_1); (try clear hcz9_0); (try clear hcz9_1); (try clear hfz11_0); (try clear hfz11_1); (try clear hfz5_0); (try clear hfz5_1); (try clear hfz9_0); (try clear hfz9_1)
     obtain ⟨x5_2, rfl, HA, HK2, BK737, HB⟩ := hrel
     cases gk with
     | zero => exact absurd HA.out (by simp [spec_IsRibbon.l0])
     | succ k2 =>
      have H := HA.out
      clear HA
      simp only [spec_IsRibbon.l0] at H
      by_cases c14 : x5_2 ≤ t739
      ·rw [if_pos c14] at H
       have c14b0 := decide_eq_true c14
       clear c14
       obtain ⟨c15b0, H⟩ := xq H
       obtain ⟨c16b0, H⟩ := xq H
       obtain ⟨t742, A17, H⟩ := xI H
       by_cases c18 : (rd l0_0 x5_2) ≤ t742
       ·rw [if_pos c18] at H
        have c18b0 := decide_eq_true c18
        clear c18
        obtain rfl := Option.some.inj H
        try go_wp2
        replace BK737 := ax (blk_drew BK737.out); replace HB := ax (below_drew1 HB.out)
        have p741 : 0 ≤ (x5_2 : Int) := xd
        have q741 : x5_2 < (l0_0.length : Int) := xd
        obtain ⟨ad741, e741, hx741_0⟩ := Kd.at_int HR0_0.out x5_2 p741 q741
        have hw741_0 := hx741_0
        cases e741
        (try replace hx741_0 := (HB.out.cell (World.block_lt_of_cell? w _ hx741_0)).trans hx741_0)
        replace p741 := eq_true p741
        replace q741 := eq_true q741
        refine start_ (n := 24) (S := fun w' => w'.cell? ⟨gb737, 0, none⟩ = some (.slice (some ad741) l0_0.length c0_0) ∧ w'.cell? ⟨gb737, 1, none⟩ = some (.slice A0_1 l0_1.length c0_1) ∧ w'.cell? (ad741.add (x5_2).toNat) = some (.int .i64 (rd l0_0 x5_2))) (ds := []) (xB 24 0) (by kernel_rfl) rfl (by kernel_rfl) ⟨(blk_cell BK737.out 0).trans rfl, (blk_cell BK737.out 1).trans rfl, ((HB.out.cell (World.block_lt_of_cell? w _ hw741_0)).trans hw741_0)⟩ (fun hHeld => ?_); refine with_tabW spec_IsRibbon.tab7 spec_IsRibbon.bits7 (fun HT_ HW_ => ?_)
        generalize wr.drew = w19 at BK737 HB hx741_0 hHeld ⊢
        refine pu (i := 0) (N := some 25) (xB 24 1) HT_.out ?_
        refine pu (i := 2) (N := some 27) (xB 24 5) HT_.out ?_
        refine pu (i := 5) (N := some 30) (xB 24 37) HT_.out ?_
        refine pu (i := 7) (N := some 32) (xB 24 165) HT_.out ?_
        refine tk (i := 1) (N := some 26) (xB 24 167) HT_.out HW_.out hHeld ?_
        refine pu (i := 3) (N := some 28) (xB 24 175) HT_.out ?_
        refine tk (i := 4) (N := some 29) (xB 24 191) HT_.out HW_.out hHeld ?_
        refine tk (i := 6) (N := some 31) (xB 24 255) HT_.out HW_.out hHeld ?_
        refine one_ (i := 8) (N := some 33) (xB 24 511) rfl rfl (one_of HT_.out (by kernel_rfl)) (by decide) (fun K hK => ?_)
        refine goes_ Tryz.func102 (by kernel_rfl) rfl #[.slice A0_1 l0_1.length c0_1, .int .i64 x5_2] (by rfl) rfl rfl xm ?_
        with_reducible refine (spec_l2At.calls _ _ l0_1 x5_2 t742 _ ?side1 ?side2 A17.out).mono ?_
        (case side1 => exact xz HR0_1.out HB.out)
        (case side2 => exact HC0_1.out)
        rintro e w' ⟨rfl, ⟨nd, rfl⟩⟩
        refine ⟨_, rfl, ?_⟩
        refine hK.out _ _ ⟨(blk_cell BK737.out 0).trans rfl, (blk_cell BK737.out 1).trans rfl, ((HB.out.cell (World.block_lt_of_cell? w _ hw741_0)).trans hw741_0)⟩ (fun hHeld => ?_)
        clear hK K
        refine nm ?_
        refine pu (i := 9) (N := some 34) (xB 24 1023) HT_.out ?_
        refine pu (i := 10) (N := some 35) (xB 24 2047) HT_.out ?_
        refine pn (i := 11) (N := some 36) (xB 24 4095) HT_.out ?_
        refine pn (i := 12) (N := some 37) (xB 24 8191) HT_.out ?_
        refine pn (i := 13) (N := some 38) (xB 24 16383) HT_.out ?_
        refine pn (i := 14) (N := some 39) (xB 24 32767) HT_.out ?_
        refine pn (i := 15) (N := some 40) (xB 24 65535) HT_.out ?_
        refine pn (i := 16) (N := some 41) (xB 24 131071) HT_.out ?_
        refine pn (i := 17) (N := some 42) (xB 24 262143) HT_.out ?_
        refine pn (i := 18) (N := some 43) (xB 24 524287) HT_.out ?_
        refine pn (i := 19) (N := some 44) (xB 24 1048575) HT_.out ?_
        refine pn (i := 20) (N := some 45) (xB 24 2097151) HT_.out ?_
        refine pn (i := 21) (N := some 46) (xB 24 4194303) HT_.out ?_
        refine pn (i := 22) (N := some 47) (xB 24 8388607) HT_.out ?_
        refine pu (i := 23) (N := some 48) (xB 24 16777215) HT_.out ?_
        refine done_ (done_of HT_.out (by kernel_rfl)) ?_
        try go_wp2
        go_ret
        exact ⟨xe, xs HB.out GE737.out⟩
       ·rw [if_neg c18] at H
        have c18b0 := decide_eq_false c18
        clear c18
        obtain ⟨t744, A20, H⟩ := xI H
        by_cases c21 : (rd l0_0 x5_2) = (wrap64 (t744 + 1))
        ·rw [if_pos c21] at H
         have c21b0 : ((rd l0_0 x5_2) == (wrap64 (t744 + 1))) = true := beq_iff_eq.mpr c21
         have c21b1 : ((rd l0_0 x5_2) != (wrap64 (t744 + 1))) = false := bne_eq_false_iff_eq.mpr c21
         clear c21
         have H' := ax H
         clear H
         try go_wp2
         replace BK737 := ax (blk_drew BK737.out); replace HB := ax (below_drew1 HB.out)
         have p741 : 0 ≤ (x5_2 : Int) := xd
         have q741 : x5_2 < (l0_0.length : Int) := xd
         obtain ⟨ad741, e741, hx741_0⟩ := Kd.at_int HR0_0.out x5_2 p741 q741
         have hw741_0 := hx741_0
         cases e741
         (try replace hx741_0 := (HB.out.cell (World.block_lt_of_cell? w _ hx741_0)).trans hx741_0)
         replace p741 := eq_true p741
         replace q741 := eq_true q741
         have p743 : 0 ≤ (x5_2 : Int) := xd
         have q743 : x5_2 < (l0_0.length : Int) := xd
         obtain ⟨ad743, e743, hx743_0⟩ := Kd.at_int HR0_0.out x5_2 p743 q743
         have hw743_0 := hx743_0
         obtain rfl : ad741 = ad743 := (by injection e743)
         (try replace hx743_0 := (HB.out.cell (World.block_lt_of_cell? w _ hx743_0)).trans hx743_0)
         replace p743 := eq_true p743
         replace q743 := eq_true q743
         refine start_ (n := 24) (S := fun w' => w'.cell? ⟨gb737, 0, none⟩ = some (.slice (some ad741) l0_0.length c0_0) ∧ w'.cell? ⟨gb737, 1, none⟩ = some (.slice A0_1 l0_1.length c0_1) ∧ w'.cell? (ad741.add (x5_2).toNat) = some (.int .i64 (rd l0_0 x5_2)) ∧ w'.cell? (ad741.add (x5_2).toNat) = some (.int .i64 (rd l0_0 x5_2))) (ds := []) (xB 24 0) (by kernel_rfl) rfl (by kernel_rfl) ⟨(blk_cell BK737.out 0).trans rfl, (blk_cell BK737.out 1).trans rfl, ((HB.out.cell (World.block_lt_of_cell? w _ hw741_0)).trans hw741_0), ((HB.out.cell (World.block_lt_of_cell? w _ hw743_0)).trans hw743_0)⟩ (fun hHeld => ?_); refine with_tabW spec_IsRibbon.tab7 spec_IsRibbon.bits7 (fun HT_ HW_ => ?_)
         generalize wr.drew = w22 at BK737 HB hx741_0 hx743_0 hHeld ⊢
         refine pu (i := 0) (N := some 25) (xB 24 1) HT_.out ?_
         refine pu (i := 2) (N := some 27) (xB 24 5) HT_.out ?_
         refine pu (i := 5) (N := some 30) (xB 24 37) HT_.out ?_
         refine pu (i := 7) (N := some 32) (xB 24 165) HT_.out ?_
         refine tk (i := 1) (N := some 26) (xB 24 167) HT_.out HW_.out hHeld ?_
         refine pu (i := 3) (N := some 28) (xB 24 175) HT_.out ?_
         refine tk (i := 4) (N := some 29) (xB 24 191) HT_.out HW_.out hHeld ?_
         refine tk (i := 6) (N := some 31) (xB 24 255) HT_.out HW_.out hHeld ?_
         refine one_ (i := 8) (N := some 33) (xB 24 511) rfl rfl (one_of HT_.out (by kernel_rfl)) (by decide) (fun K hK => ?_)
         refine goes_ Tryz.func102 (by kernel_rfl) rfl #[.slice A0_1 l0_1.length c0_1, .int .i64 x5_2] (by rfl) rfl rfl xm ?_
         with_reducible refine (spec_l2At.calls _ _ l0_1 x5_2 t742 _ ?side1 ?side2 A17.out).mono ?_
         (case side1 => exact xz HR0_1.out HB.out)
         (case side2 => exact HC0_1.out)
         rintro e w' ⟨rfl, ⟨nd, rfl⟩⟩
         refine ⟨_, rfl, ?_⟩
         refine hK.out _ _ ⟨(blk_cell BK737.out 0).trans rfl, (blk_cell BK737.out 1).trans rfl, ((HB.out.cell (World.block_lt_of_cell? w _ hw741_0)).trans hw741_0), ((HB.out.cell (World.block_lt_of_cell? w _ hw743_0)).trans hw743_0)⟩ (fun hHeld => ?_)
         clear hK K
         refine nm ?_
         refine pu (i := 9) (N := some 34) (xB 24 1023) HT_.out ?_
         refine pu (i := 10) (N := some 35) (xB 24 2047) HT_.out ?_
         refine pu (i := 11) (N := some 36) (xB 24 4095) HT_.out ?_
         refine pu (i := 13) (N := some 38) (xB 24 12287) HT_.out ?_
         refine pu (i := 16) (N := some 41) (xB 24 77823) HT_.out ?_
         refine pu (i := 18) (N := some 43) (xB 24 339967) HT_.out ?_
         refine pu (i := 19) (N := some 44) (xB 24 864255) HT_.out ?_
         refine tk (i := 12) (N := some 37) (xB 24 868351) HT_.out HW_.out hHeld ?_
         refine pu (i := 14) (N := some 39) (xB 24 884735) HT_.out ?_
         refine tk (i := 15) (N := some 40) (xB 24 917503) HT_.out HW_.out hHeld ?_
         refine tk (i := 17) (N := some 42) (xB 24 1048575) HT_.out HW_.out hHeld ?_
         refine one_ (i := 20) (N := some 45) (xB 24 2097151) rfl rfl (one_of HT_.out (by kernel_rfl)) (by decide) (fun K hK => ?_)
         refine goes_ Tryz.func102 (by kernel_rfl) rfl #[.slice A0_1 l0_1.length c0_1, .int .i64 (wrap64 (x5_2 - 1))] (by rfl) rfl rfl xm ?_
         with_reducible refine (spec_l2At.calls _ _ l0_1 (wrap64 (x5_2 - 1)) t744 _ ?side1 ?side2 A20.out).mono ?_
         (case side1 => repeat (first | exact (Kd.C_below HR0_1.out (xs HB.out GE737.out)) | (with_reducible refine Kd.C_alloc ?_ _) | (with_reducible refine Kd.C_drewN ?_ _) | (with_reducible refine Kd.C_drew ?_)))
         (case side2 => exact HC0_1.out)
         rintro e w' ⟨rfl, ⟨nd, rfl⟩⟩
         refine ⟨_, rfl, ?_⟩
         refine hK.out _ _ ⟨(blk_cell BK737.out 0).trans rfl, (blk_cell BK737.out 1).trans rfl, ((HB.out.cell (World.block_lt_of_cell? w _ hw741_0)).trans hw741_0), ((HB.out.cell (World.block_lt_of_cell? w _ hw743_0)).trans hw743_0)⟩ (fun hHeld => ?_)
         clear hK K
         refine nm ?_
         refine pu (i := 21) (N := some 46) (xB 24 4194303) HT_.out ?_
         refine pu (i := 22) (N := some 47) (xB 24 8388607) HT_.out ?_
         refine pu (i := 23) (N := some 48) (xB 24 16777215) HT_.out ?_
         refine done_ (done_of HT_.out (by kernel_rfl)) ?_
         try go_wp2
         go_roundg k2
         case measure => have := HJ2.out; have := HK2.out; omega
         case rel => exact ⟨(wrap64 (x5_2 + 1)), xr, H', ⟨by have := HJ2.out; have := HK2.out; omega⟩, ⟨xk BK737.out⟩, ⟨xs HB.out GE737.out⟩⟩
        ·rw [if_neg c21] at H
         have c21b0 : ((rd l0_0 x5_2) == (wrap64 (t744 + 1))) = false := beq_eq_false_iff_ne.mpr c21
         have c21b1 : ((rd l0_0 x5_2) != (wrap64 (t744 + 1))) = true := bne_iff_ne.mpr c21
         obtain rfl := Option.some.inj H
         try go_wp2
         replace BK737 := ax (blk_drew BK737.out); replace HB := ax (below_drew1 HB.out)
         have p741 : 0 ≤ (x5_2 : Int) := xd
         have q741 : x5_2 < (l0_0.length : Int) := xd
         obtain ⟨ad741, e741, hx741_0⟩ := Kd.at_int HR0_0.out x5_2 p741 q741
         have hw741_0 := hx741_0
         cases e741
         (try replace hx741_0 := (HB.out.cell (World.block_lt_of_cell? w _ hx741_0)).trans hx741_0)
         replace p741 := eq_true p741
         replace q741 := eq_true q741
         have p743 : 0 ≤ (x5_2 : Int) := xd
         have q743 : x5_2 < (l0_0.length : Int) := xd
         obtain ⟨ad743, e743, hx743_0⟩ := Kd.at_int HR0_0.out x5_2 p743 q743
         have hw743_0 := hx743_0
         obtain rfl : ad741 = ad743 := (by injection e743)
         (try replace hx743_0 := (HB.out.cell (World.block_lt_of_cell? w _ hx743_0)).trans hx743_0)
         replace p743 := eq_true p743
         replace q743 := eq_true q743
         refine start_ (n := 24) (S := fun w' => w'.cell? ⟨gb737, 0, none⟩ = some (.slice (some ad741) l0_0.length c0_0) ∧ w'.cell? ⟨gb737, 1, none⟩ = some (.slice A0_1 l0_1.length c0_1) ∧ w'.cell? (ad741.add (x5_2).toNat) = some (.int .i64 (rd l0_0 x5_2)) ∧ w'.cell? (ad741.add (x5_2).toNat) = some (.int .i64 (rd l0_0 x5_2))) (ds := []) (xB 24 0) (by kernel_rfl) rfl (by kernel_rfl) ⟨(blk_cell BK737.out 0).trans rfl, (blk_cell BK737.out 1).trans rfl, ((HB.out.cell (World.block_lt_of_cell? w _ hw741_0)).trans hw741_0), ((HB.out.cell (World.block_lt_of_cell? w _ hw743_0)).trans hw743_0)⟩ (fun hHeld => ?_); refine with_tabW spec_IsRibbon.tab7 spec_IsRibbon.bits7 (fun HT_ HW_ => ?_)
         generalize wr.drew = w23 at BK737 HB hx741_0 hx743_0 hHeld ⊢
         refine pu (i := 0) (N := some 25) (xB 24 1) HT_.out ?_
         refine pu (i := 2) (N := some 27) (xB 24 5) HT_.out ?_
         refine pu (i := 5) (N := some 30) (xB 24 37) HT_.out ?_
         refine pu (i := 7) (N := some 32) (xB 24 165) HT_.out ?_
         refine tk (i := 1) (N := some 26) (xB 24 167) HT_.out HW_.out hHeld ?_
         refine pu (i := 3) (N := some 28) (xB 24 175) HT_.out ?_
         refine tk (i := 4) (N := some 29) (xB 24 191) HT_.out HW_.out hHeld ?_
         refine tk (i := 6) (N := some 31) (xB 24 255) HT_.out HW_.out hHeld ?_
         refine one_ (i := 8) (N := some 33) (xB 24 511) rfl rfl (one_of HT_.out (by kernel_rfl)) (by decide) (fun K hK => ?_)
         refine goes_ Tryz.func102 (by kernel_rfl) rfl #[.slice A0_1 l0_1.length c0_1, .int .i64 x5_2] (by rfl) rfl rfl xm ?_
         with_reducible refine (spec_l2At.calls _ _ l0_1 x5_2 t742 _ ?side1 ?side2 A17.out).mono ?_
         (case side1 => exact xz HR0_1.out HB.out)
         (case side2 => exact HC0_1.out)
         rintro e w' ⟨rfl, ⟨nd, rfl⟩⟩
         refine ⟨_, rfl, ?_⟩
         refine hK.out _ _ ⟨(blk_cell BK737.out 0).trans rfl, (blk_cell BK737.out 1).trans rfl, ((HB.out.cell (World.block_lt_of_cell? w _ hw741_0)).trans hw741_0), ((HB.out.cell (World.block_lt_of_cell? w _ hw743_0)).trans hw743_0)⟩ (fun hHeld => ?_)
         clear hK K
         refine nm ?_
         refine pu (i := 9) (N := some 34) (xB 24 1023) HT_.out ?_
         refine pu (i := 10) (N := some 35) (xB 24 2047) HT_.out ?_
         refine pu (i := 11) (N := some 36) (xB 24 4095) HT_.out ?_
         refine pu (i := 13) (N := some 38) (xB 24 12287) HT_.out ?_
         refine pu (i := 16) (N := some 41) (xB 24 77823) HT_.out ?_
         refine pu (i := 18) (N := some 43) (xB 24 339967) HT_.out ?_
         refine pu (i := 19) (N := some 44) (xB 24 864255) HT_.out ?_
         refine tk (i := 12) (N := some 37) (xB 24 868351) HT_.out HW_.out hHeld ?_
         refine pu (i := 14) (N := some 39) (xB 24 884735) HT_.out ?_
         refine tk (i := 15) (N := some 40) (xB 24 917503) HT_.out HW_.out hHeld ?_
         refine tk (i := 17) (N := some 42) (xB 24 1048575) HT_.out HW_.out hHeld ?_
         refine one_ (i := 20) (N := some 45) (xB 24 2097151) rfl rfl (one_of HT_.out (by kernel_rfl)) (by decide) (fun K hK => ?_)
         refine goes_ Tryz.func102 (by kernel_rfl) rfl #[.slice A0_1 l0_1.length c0_1, .int .i64 (wrap64 (x5_2 - 1))] (by rfl) rfl rfl xm ?_
         with_reducible refine (spec_l2At.calls _ _ l0_1 (wrap64 (x5_2 - 1)) t744 _ ?side1 ?side2 A20.out).mono ?_
         (case side1 => repeat (first | exact (Kd.C_below HR0_1.out (xs HB.out GE737.out)) | (with_reducible refine Kd.C_alloc ?_ _) | (with_reducible refine Kd.C_drewN ?_ _) | (with_reducible refine Kd.C_drew ?_)))
         (case side2 => exact HC0_1.out)
         rintro e w' ⟨rfl, ⟨nd, rfl⟩⟩
         refine ⟨_, rfl, ?_⟩
         refine hK.out _ _ ⟨(blk_cell BK737.out 0).trans rfl, (blk_cell BK737.out 1).trans rfl, ((HB.out.cell (World.block_lt_of_cell? w _ hw741_0)).trans hw741_0), ((HB.out.cell (World.block_lt_of_cell? w _ hw743_0)).trans hw743_0)⟩ (fun hHeld => ?_)
         clear hK K
         refine nm ?_
         refine pu (i := 21) (N := some 46) (xB 24 4194303) HT_.out ?_
         refine pu (i := 22) (N := some 47) (xB 24 8388607) HT_.out ?_
         refine pu (i := 23) (N := some 48) (xB 24 16777215) HT_.out ?_
         refine done_ (done_of HT_.out (by kernel_rfl)) ?_
         try go_wp2
         go_ret
         exact ⟨xe, xs HB.out GE737.out⟩
      ·rw [if_neg c14] at H
       have c14b0 := decide_eq_false c14
       clear c14
       obtain rfl := Option.some.inj H
       go_wp2
       go_ret
       exact ⟨xe, xs HB.out GE737.out⟩

end Go.Proofs.YtopmggldaicpaacGreat.PFnKronecker
