-- Written by a program of this session (wip/print/xprint.py).
import Derived.Test.YtopmggldaicpaabPFnCharactersx0
import Derived.Test.YtopmggldaicpaabPFnCharactersx1
import Derived.Test.YtopmggldaicpaabPFnCharactersx2
import Derived.Test.YtopmggldaicpaabPFnCharactersx5
namespace Go.Proofs.Ytopmggldaicpaab.PFnCharacters
open Go.RowKit Go.Proofs.YtopmggldaicpaabW.PrintWords Go.Proofs.YtopmggldaicpaabW.PrintLast Go.Proofs.YtopmggldaicpaabW.PrintMore
attribute [local go_sem] max2_int min2_int max_two min_two max_three min_three max_four min_four   -- for this text's walks alone
set_option linter.unusedVariables false
set_option linter.unusedSimpArgs false

/-! ### impl_CharacterOf: function 6 -/
mutual
def impl_CharacterOf.j0 : Nat → List Int → List Int → Bool → Option (Int)
 | 0, _, _, _ => none
 | k + 1, x0, x1, x18 => if x18 = true then (some 0) else (if (x1.length : Int) = 0 then (some 1) else (if 0 < (x1.length : Int) then ((impl_RibbonsInside.f k x0 (rd x1 0)).bind fun t303 => (impl_CharacterOf.l0 k x1 0 t303 (t303.length : Int) 0)) else (none)))
def impl_CharacterOf.l0 : Nat → List Int → Int → List (S46) → Int → Int → Option (Int)
 | 0, _, _, _, _, _ => none
 | k + 1, x1, x5, x26, x27, x28 => if x28 < x27 then (if 0 ≤ x28 then (if x28 < (x26.length : Int) then (if 1 ≤ (x1.length : Int) then ((impl_CharacterOf.f k ((rd_T46 x26 x28).f1) (x1.drop 1)).bind fun t309 => ((impl_RibbonHeight.f k ((rd_T46 x26 x28).f0) ((rd_T46 x26 x28).f1)).bind fun t310 => (if (Int.tmod t310 2) = 1 then (impl_CharacterOf.l0 k x1 (wrap64 (x5 + (wrap64 (-t309)))) x26 x27 (wrap64 (x28 + 1))) else (impl_CharacterOf.l0 k x1 (wrap64 (x5 + t309)) x26 x27 (wrap64 (x28 + 1)))))) else (none)) else (none)) else (none)) else (some x5)
def impl_CharacterOf.f : Nat → List Int → List Int → Option (Int)
 | 0, _, _ => none
 | k + 1, l0, l1 => (impl_SizeOf.f k l0).bind fun t299 => ((impl_SizeOf.f k l1).bind fun t300 => (if t299 = t300 then ((impl_SizeOf.f k l0).bind fun t301 => (impl_CharacterOf.j0 k l0 l1 (decide (t301 < 0)))) else (impl_CharacterOf.j0 k l0 l1 true)))
end
theorem impl_CharacterOf.mono_l : ∀ k, (∀ y0 y1, LeO (impl_CharacterOf.f k y0 y1) (impl_CharacterOf.f (k + 1) y0 y1)) ∧ (∀ y0 y1 y2, LeO (impl_CharacterOf.j0 k y0 y1 y2) (impl_CharacterOf.j0 (k + 1) y0 y1 y2)) ∧ (∀ y0 y1 y2 y3 y4, LeO (impl_CharacterOf.l0 k y0 y1 y2 y3 y4) (impl_CharacterOf.l0 (k + 1) y0 y1 y2 y3 y4))
 | 0 => ⟨fun _ _ r h => by simp [impl_CharacterOf.f] at h, fun _ _ _ r h => by simp [impl_CharacterOf.j0] at h, fun _ _ _ _ _ r h => by simp [impl_CharacterOf.l0] at h⟩
 | k + 1 => by
  obtain ⟨ih0, ih1, ih2⟩ := impl_CharacterOf.mono_l k
  refine ⟨?_, ?_, ?_⟩
  ·intro y0 y1
   unfold impl_CharacterOf.f
   repeat' with_reducible first | exact ih0 _ _ | exact ih1 _ _ _ | exact ih2 _ _ _ _ _ | exact impl_RibbonHeight.mono _ _ _ | exact impl_RibbonsInside.mono _ _ _ | exact impl_SizeOf.mono _ _ | exact xl | refine LeO.ite ?_ ?_ | refine LeO.bind ?_ fun _ => ?_
  ·intro y0 y1 y2
   unfold impl_CharacterOf.j0
   repeat' with_reducible first | exact ih0 _ _ | exact ih1 _ _ _ | exact ih2 _ _ _ _ _ | exact impl_RibbonHeight.mono _ _ _ | exact impl_RibbonsInside.mono _ _ _ | exact impl_SizeOf.mono _ _ | exact xl | refine LeO.ite ?_ ?_ | refine LeO.bind ?_ fun _ => ?_
  ·intro y0 y1 y2 y3 y4
   unfold impl_CharacterOf.l0
   repeat' with_reducible first | exact ih0 _ _ | exact ih1 _ _ _ | exact ih2 _ _ _ _ _ | exact impl_RibbonHeight.mono _ _ _ | exact impl_RibbonsInside.mono _ _ _ | exact impl_SizeOf.mono _ _ | exact xl | refine LeO.ite ?_ ?_ | refine LeO.bind ?_ fun _ => ?_
theorem impl_CharacterOf.mono : ∀ a0 a1 k, LeO (impl_CharacterOf.f k a0 a1) (impl_CharacterOf.f (k + 1) a0 a1) := by
 intro a0 a1 k
 obtain ⟨ih0, ih1, ih2⟩ := impl_CharacterOf.mono_l k
 exact ih0 a0 a1
set_option maxHeartbeats 8000000 in
set_option maxRecDepth 100000 in
theorem impl_CharacterOf.calls (k : Nat) : ∀ (A0 : Option Addr) (c0 : Nat) (l0 : List Int) (A1 : Option Addr) (c1 : Nat) (l1 : List Int) (r : Int) (w : World) (hr0 : Kd.C (Kd.int .i64) w A0 l0.length l0) (hc0 : l0.length ≤ c0) (hr1 : Kd.C (Kd.int .i64) w A1 l1.length l1) (hc1 : l1.length ≤ c1) (h : impl_CharacterOf.f k l0 l1 = some r),
  Calls Try.prog 6 #[.slice A0 l0.length c0, .slice A1 l1.length c1] w fun e w' => e = .returned (.int .i64 r) ∧ Below w.heap.size w w' := by
 induction k using Nat.strongRecOn with
 | _ k ih =>
 intro A0 c0 l0 A1 c1 l1 r w hr0 hc0 hr1 hc1 h
 cases k with
 | zero => exact absurd h (by simp [impl_CharacterOf.f])
 | succ k =>
 simp only [impl_CharacterOf.f] at h
 have hu46 := Try.underlying46
 have HR0 := ax hr0
 have HC0 := ax hc0
 clear hr0 hc0
 have HR1 := ax hr1
 have HC1 := ax hc1
 clear hr1 hc1
 have HB := ax (Below.refl w.heap.size w)
 have H : ((impl_SizeOf.f k l0).bind fun t299 => ((impl_SizeOf.f k l1).bind fun t300 => (if t299 = t300 then ((impl_SizeOf.f k l0).bind fun t301 => (impl_CharacterOf.j0 k l0 l1 (decide (t301 < 0)))) else (impl_CharacterOf.j0 k l0 l1 true)))) = some r := h
 clear h
 have HC3 := ax H
 clear H
 go_enter Try.func6, Try.ntmps6
 go_upto_region 1 with (fail)
 go_cut [18] (fun v18 wc => ∃ (kq : Nat) (x18_2 : Bool), v18 = .bool x18_2 ∧ Aside0 (impl_CharacterOf.j0 kq l0 l1 x18_2 = some r) ∧ Aside0 (kq ≤ k) ∧ Aside0 (Below w.heap.size w wc))
 case first =>
  have H := HC3.out
  clear HC3
  obtain ⟨t299, A4, H⟩ := xI H
  obtain ⟨t300, A5, H⟩ := xI H
  by_cases c6 : t299 = t300
  ·rw [if_pos c6] at H
   have c6b0 : (t299 == t300) = true := beq_iff_eq.mpr c6
   have c6b1 : (t299 != t300) = false := bne_eq_false_iff_eq.mpr c6
   clear c6
   (first | rw [c6b0] | (simp only [i64_w, i32_w]; rw [c6b0]) | skip)
   obtain ⟨t301, A7, H⟩ := xI H
   have H' := ax H
   clear H
   go_wp2_with (first | ((with_reducible refine gate_callee (f := 32) rfl ?_); refine goesL_ (some 10) rfl rfl Try.func32 (by kernel_rfl) rfl #[.slice A0 l0.length c0] rfl xm ?_; (with_reducible refine (impl_SizeOf.calls k _ _ l0 t299 _ ?side1 ?side2 A4.out).mono ?_); (case side1 => exact xz HR0.out (Kd.C_below · HB.out)); (case side2 => exact HC0.out); rintro e w' ⟨rfl, ⟨nd, rfl⟩⟩; refine ⟨_, rfl, ?_⟩) | ((with_reducible refine gate_callee (f := 32) rfl ?_); refine goesL_ (some 12) rfl rfl Try.func32 (by kernel_rfl) rfl #[.slice A1 l1.length c1] rfl xm ?_; (with_reducible refine (impl_SizeOf.calls k _ _ l1 t300 _ ?side1 ?side2 A5.out).mono ?_); (case side1 => exact xc (Kd.C_below HR1.out (xb HB.out))); (case side2 => exact HC1.out); rintro e w' ⟨rfl, ⟨nd, rfl⟩⟩; refine ⟨_, rfl, ?_⟩) | (go_at_call 32; (with_reducible refine (impl_SizeOf.calls k _ _ l0 t301 _ ?side1 ?side2 A7.out).mono ?_); (case side1 => exact xc (Kd.C_below HR0.out (xb HB.out))); (case side2 => exact HC0.out); rintro e w' ⟨rfl, ⟨nd, rfl⟩⟩))
   go_meet
   case rel => exact ⟨_, (decide (t301 < 0)), xr, H', ⟨by first | omega | exact Nat.le_refl _⟩, ⟨xb HB.out⟩⟩
  ·rw [if_neg c6] at H
   have c6b0 : (t299 == t300) = false := beq_eq_false_iff_ne.mpr c6
   have c6b1 : (t299 != t300) = true := bne_iff_ne.mpr c6
   (first | rw [c6b0] | (simp only [i64_w, i32_w]; rw [c6b0]) | skip)
   have H' := ax H
   clear H
   go_wp2_with (first | ((with_reducible refine gate_callee (f := 32) rfl ?_); refine goesL_ (some 10) rfl rfl Try.func32 (by kernel_rfl) rfl #[.slice A0 l0.length c0] rfl xm ?_; (with_reducible refine (impl_SizeOf.calls k _ _ l0 t299 _ ?side1 ?side2 A4.out).mono ?_); (case side1 => exact xz HR0.out (Kd.C_below · HB.out)); (case side2 => exact HC0.out); rintro e w' ⟨rfl, ⟨nd, rfl⟩⟩; refine ⟨_, rfl, ?_⟩) | ((with_reducible refine gate_callee (f := 32) rfl ?_); refine goesL_ (some 12) rfl rfl Try.func32 (by kernel_rfl) rfl #[.slice A1 l1.length c1] rfl xm ?_; (with_reducible refine (impl_SizeOf.calls k _ _ l1 t300 _ ?side1 ?side2 A5.out).mono ?_); (case side1 => exact xc (Kd.C_below HR1.out (xb HB.out))); (case side2 => exact HC1.out); rintro e w' ⟨rfl, ⟨nd, rfl⟩⟩; refine ⟨_, rfl, ?_⟩))
   go_meet
   case rel => exact ⟨_, (true), xr, H', ⟨by first | omega | exact Nat.le_refl _⟩, ⟨xb HB.out⟩⟩
 case rest =>
  clear HC3
  (try clear c1); (try clear p2); (try clear c3); (try clear c6); (try clear c6b0); (try clear c6b1)
  obtain ⟨kq, x18_2, rfl, HA, HJ2, HB⟩ := hcut
  cases kq with
  | zero => exact absurd HA.out (by simp [impl_CharacterOf.j0])
  | succ kj2 =>
   have H := HA.out
   clear HA
   simp only [impl_CharacterOf.j0] at H
   by_cases c8 : x18_2 = true
   ·subst c8
    rw [if_pos rfl] at H
    obtain rfl := Option.some.inj H
    go_wp2
    go_ret
    exact ⟨xe, xb HB.out⟩
   ·replace c8 := Bool.eq_false_iff.mpr c8
    subst c8
    rw [if_neg (show ¬ (false = true) by decide)] at H
    by_cases c9 : (l1.length : Int) = 0
    ·rw [if_pos c9] at H
     have c9b0 : ((l1.length : Int) == 0) = true := beq_iff_eq.mpr c9
     have c9b1 : ((l1.length : Int) != 0) = false := bne_eq_false_iff_eq.mpr c9
     clear c9
     obtain rfl := Option.some.inj H
     go_wp2
     go_ret
     exact ⟨xe, xb HB.out⟩
    ·rw [if_neg c9] at H
     have c9b0 : ((l1.length : Int) == 0) = false := beq_eq_false_iff_ne.mpr c9
     have c9b1 : ((l1.length : Int) != 0) = true := bne_iff_ne.mpr c9
     have c9b2 : ¬ (l1 = []) := fun h_ => c9 (by rw [h_]; rfl)
     obtain ⟨c10, H⟩ := xp H
     have c10b0 := decide_eq_true c10
     have c10b1 : decide (0 < l1.length) = true := decide_eq_true (by omega)
     clear c10
     obtain ⟨t303, A11, H⟩ := xI H
     have H' := ax H
     clear H
     have p302 : 0 ≤ (0 : Int) := (by omega)
     have q302 : 0 < (l1.length : Int) := xd
     obtain ⟨ad302, e302, hx302_0⟩ := Kd.at_int HR1.out 0 p302 q302
     cases e302
     have qi302 : (0 < l1.length) = True := eq_true (by omega)
     (try rw [show ((0 : Int)).toNat = 0 from rfl] at hx302_0)
     (try rw [Addr.add_zero'] at hx302_0)
     (try replace hx302_0 := (HB.out.cell (World.block_lt_of_cell? w _ hx302_0)).trans hx302_0)
     replace p302 := eq_true p302
     replace q302 := eq_true q302
     go_wp2_with (first | ((with_reducible refine gate_callee (f := 33) rfl ?_); refine goesL_ (some 26) rfl rfl Try.func33 (by kernel_rfl) rfl #[.slice A0 l0.length c0, .int .i64 (rd l1 0)] rfl xm ?_; (with_reducible refine (impl_RibbonsInside.calls kj2 _ _ l0 (rd l1 0) t303 _ ?side1 ?side2 A11.out).mono ?_); (case side1 => exact xz HR0.out (Kd.C_below · HB.out)); (case side2 => exact HC0.out); rintro e w12 ⟨v304, rfl, ho0, hb⟩; refine ⟨_, rfl, ?_⟩; have HO305 := ax (Kd.N_lower (Kd.N_mono (ok' := fun k_ => True) ho0 (fun k_ hk_ => trivial)) (below_size (xb HB.out))); replace HB := ax (below_step (xb HB.out) hb); (try clear hb); (try clear hb2); (try clear hk); (try clear hi); (try clear ho0); obtain ⟨Ao13, co13, eo13⟩ := Kd.N_slice HO305.out; subst eo13))
     go_loopg [5, 28] kj2 (fun kq v5 v28 w' => ∃ (x5_2 : Int) (x28_2 : Int), v5 = .int .i64 x5_2 ∧ v28 = .int .i64 x28_2 ∧ Aside0 (impl_CharacterOf.l0 kq l1 x5_2 t303 (t303.length : Int) x28_2 = some r) ∧ Aside0 (kq ≤ kj2) ∧ Aside0 (Kd.N k46 46 w' w.heap.size (fun _ => True) (.slice Ao13 t303.length co13) t303) ∧ Aside0 (Below w.heap.size w w'))
     case atStart => exact ⟨(0), (0), xr, xr, H', ⟨Nat.le_refl _⟩, ⟨xN HO305.out⟩, ⟨xb HB.out⟩⟩
     case round =>
      clear H'
      (try clear c1); (try clear p2); (try clear c3); (try clear p3); (try clear q3); (try clear hx3); (try clear qi3); (try clear c6); (try clear c6b0); (try clear c6b1); (try clear c8); (try clear c9); (try clear c9b0); (try clear c9b1); (try clear c9b2); (try clear c10); (try clear c10b0); (try clear c10b1); (try clear hx302_0); (try clear p2); (try clear p302); (try clear q302)
      obtain ⟨x5_2, x28_2, rfl, rfl, HA, HK2, HO_26, HB⟩ := hrel
      cases gk with
      | zero => exact absurd HA.out (by simp [impl_CharacterOf.l0])
      | succ k2 =>
       have H := HA.out
       clear HA
       simp only [impl_CharacterOf.l0] at H
       by_cases c14 : x28_2 < (t303.length : Int)
       ·rw [if_pos c14] at H
        have c14b0 := decide_eq_true c14
        clear c14
        obtain ⟨c15, H⟩ := xp H
        have c15b0 := decide_eq_true c15
        clear c15
        obtain ⟨c16, H⟩ := xp H
        have c16b0 := decide_eq_true c16
        clear c16
        obtain ⟨c17, H⟩ := xp H
        have c17b0 := eq_true c17
        have c17b1 := decide_eq_true c17
        clear c17
        obtain ⟨t309, A18, H⟩ := xI H
        obtain ⟨t310, A19, H⟩ := xI H
        by_cases c20 : (Int.tmod t310 2) = 1
        ·rw [if_pos c20] at H
         have c20b0 : ((Int.tmod t310 2) == 1) = true := beq_iff_eq.mpr c20
         have c20b1 : ((Int.tmod t310 2) != 1) = false := bne_eq_false_iff_eq.mpr c20
         clear c20
         have H' := ax H
         clear H
         have p306 : 0 ≤ (x28_2 : Int) := xd
         have q306 : x28_2 < (t303.length : Int) := xd
         obtain ⟨ad306, A306_0, c306_0, A306_1, c306_1, e306, hx306_0, hx306_1, hl306_0, hi306_0, hl306_1, hi306_1⟩ := at_T46 (Kd.N_reads' HO_26.out).2.2 x28_2 p306 q306
         cases e306
         obtain ⟨ce306, hce306, hMe306, hcc306⟩ := Kd.N_get HO_26.out z46 x28_2 p306 (by first | exact q306 | exact xd | (have e_ := (Kd.N_reads' HO_26.out).1; omega))
         obtain ⟨ua306_0, uc306_0, ua306_1, uc306_1, rfl, ul306_0, ge306_0, ul306_1, ge306_1⟩ := k46_openF hMe306
         have hv306_0 := hcc306 0 _ rfl
         rw [Nat.add_zero] at hv306_0
         replace hv306_0 := Option.some.inj (hv306_0.symm.trans hx306_0)
         injection hv306_0 with hva_ hvn_ hvc_
         rw [hva_] at ge306_0
         rw [hvc_] at ul306_0
         have HL306_0 := ax (show Kd.V (Kd.int .i64) 3 _ w.heap.size _ _ ((rd_T46 t303 x28_2).f0) from Kd.V_mk ul306_0 ge306_0)
         clear hva_ hvn_ hvc_ ge306_0 ul306_0
         have hv306_1 := hcc306 1 _ rfl
         rw [add_field _ _ 1 (by omega)] at hv306_1
         replace hv306_1 := Option.some.inj (hv306_1.symm.trans hx306_1)
         injection hv306_1 with hva_ hvn_ hvc_
         rw [hva_] at ge306_1
         rw [hvc_] at ul306_1
         have HL306_1 := ax (show Kd.V (Kd.int .i64) 3 _ w.heap.size _ _ ((rd_T46 t303 x28_2).f1) from Kd.V_mk ul306_1 ge306_1)
         clear hva_ hvn_ hvc_ ge306_1 ul306_1 hcc306 hce306
         have HR306_0 := ax hi306_0
         have HC306_0 := ax hl306_0
         clear hi306_0 hl306_0
         have HR306_1 := ax hi306_1
         have HC306_1 := ax hl306_1
         clear hi306_1 hl306_1
         replace p306 := eq_true p306
         replace q306 := eq_true q306
         try go_wp2_with (first | ((with_reducible refine gate_dst (N := 7) rfl ?_); refine box_event ?hg (N := 7) ?hd (cs := #[.slice none 0 0, .slice none 0 0]) (t := 46) ?hr ?_; (case hd => rfl); (case hg => rfl); (case hr => first | (go_simp; done) | (go_simp; rfl)); intro gb307 hg w21 hbox hb; replace HO_26 := ax (Kd.N_below (Kd.N_elderB (xN HO_26.out) gb307 (Nat.le_of_eq hg.symm)) hb); replace HL306_0 := ax (Kd.V_below (Kd.V_elderB (xV HL306_0.out) gb307 (Nat.le_of_eq hg.symm)) hb); replace HL306_1 := ax (Kd.V_below (Kd.V_elderB (xV HL306_1.out) gb307 (Nat.le_of_eq hg.symm)) hb); replace HR306_0 := ax (Kd.C_below (xw HR306_0.out) hb); replace HR306_1 := ax (Kd.C_below (xw HR306_1.out) hb); have BK307 := ax (hbox); have GW307 := ax ((by rw [hg]; exact (below_size (xb HB.out)) : w.heap.size ≤ gb307)); have GE307 := ax ((by rw [hg]; exact (below_size (xb HB.out)) : w.heap.size ≤ gb307)); replace HB := ax (below_step (xb HB.out) hb); clear hb hbox hg; have hcz22_0 : w21.cell? ⟨gb307, 0, none⟩ = some (.slice none 0 0) := (blk_cell BK307.out 0).trans rfl; have hcz22_1 : w21.cell? ⟨gb307, 1, none⟩ = some (.slice none 0 0) := (blk_cell BK307.out 1).trans rfl; have hfz22_0 := blk_frozen BK307.out 0; have hfz22_1 := blk_frozen BK307.out 1))
         have n0_ : Aside0 (Kd.N k46 46 ((w21.setCell ⟨gb307, 0, none⟩ (.slice A306_0 ((rd_T46 t303 x28_2).f0).length c306_0)).setCell ⟨gb307, 1, none⟩ (.slice A306_1 ((rd_T46 t303 x28_2).f1).length c306_1)) w.heap.size (fun k_ => k_ ≠ gb307) (.slice (some ad306) t303.length co13) t303) := ⟨by (with_reducible repeat (first | apply Kd.N_alloc | apply Kd.N_drewN | apply Kd.N_drew)); exact Kd.N_mono (Kd.N_far (p := ⟨gb307, 1, none⟩) (Kd.N_far (p := ⟨gb307, 0, none⟩) (Kd.N_mono HO_26.out (fun k_ hk => (⟨hk, hk.2⟩ : _ ∧ k_ ≠ gb307))) (fun _ hk => hk.2) (.slice A306_0 ((rd_T46 t303 x28_2).f0).length c306_0)) (fun _ hk => hk.2) (.slice A306_1 ((rd_T46 t303 x28_2).f1).length c306_1)) (fun _ hk => hk.1.2)⟩
         have n1_ : Aside0 (Kd.V (Kd.int .i64) 3 ((w21.setCell ⟨gb307, 0, none⟩ (.slice A306_0 ((rd_T46 t303 x28_2).f0).length c306_0)).setCell ⟨gb307, 1, none⟩ (.slice A306_1 ((rd_T46 t303 x28_2).f1).length c306_1)) w.heap.size (fun k_ => some k_ ≠ (.slice (some ad306) t303.length co13 : Value).ownBlock ∧ k_ ≠ gb307) (.slice A306_0 ((rd_T46 t303 x28_2).f0).length c306_0) ((rd_T46 t303 x28_2).f0)) := ⟨by (with_reducible repeat (first | apply Kd.V_alloc | apply Kd.V_drewN | apply Kd.V_drew)); exact Kd.V_mono (Kd.V_far (p := ⟨gb307, 1, none⟩) (Kd.V_far (p := ⟨gb307, 0, none⟩) (Kd.V_mono HL306_0.out (fun k_ hk => (⟨hk, hk.2⟩ : _ ∧ k_ ≠ gb307))) (fun _ hk => hk.2) (.slice A306_0 ((rd_T46 t303 x28_2).f0).length c306_0)) (fun _ hk => hk.2) (.slice A306_1 ((rd_T46 t303 x28_2).f1).length c306_1)) (fun _ hk => ⟨hk.1.1.2, hk.1.2⟩)⟩
         have n2_ : Aside0 (Kd.V (Kd.int .i64) 3 ((w21.setCell ⟨gb307, 0, none⟩ (.slice A306_0 ((rd_T46 t303 x28_2).f0).length c306_0)).setCell ⟨gb307, 1, none⟩ (.slice A306_1 ((rd_T46 t303 x28_2).f1).length c306_1)) w.heap.size (fun k_ => some k_ ≠ (.slice (some ad306) t303.length co13 : Value).ownBlock ∧ k_ ≠ gb307) (.slice A306_1 ((rd_T46 t303 x28_2).f1).length c306_1) ((rd_T46 t303 x28_2).f1)) := ⟨by (with_reducible repeat (first | apply Kd.V_alloc | apply Kd.V_drewN | apply Kd.V_drew)); exact Kd.V_mono (Kd.V_far (p := ⟨gb307, 1, none⟩) (Kd.V_far (p := ⟨gb307, 0, none⟩) (Kd.V_mono HL306_1.out (fun k_ hk => (⟨hk, hk.2⟩ : _ ∧ k_ ≠ gb307))) (fun _ hk => hk.2) (.slice A306_0 ((rd_T46 t303 x28_2).f0).length c306_0)) (fun _ hk => hk.2) (.slice A306_1 ((rd_T46 t303 x28_2).f1).length c306_1)) (fun _ hk => ⟨hk.1.1.2, hk.1.2⟩)⟩
         have n3_ : Aside0 (((w21.setCell ⟨gb307, 0, none⟩ (.slice A306_0 ((rd_T46 t303 x28_2).f0).length c306_0)).setCell ⟨gb307, 1, none⟩ (.slice A306_1 ((rd_T46 t303 x28_2).f1).length c306_1)).heap[gb307]? = some (.cells #[.slice A306_0 ((rd_T46 t303 x28_2).f0).length c306_0, .slice A306_1 ((rd_T46 t303 x28_2).f1).length c306_1] 46 (0, 0))) := ⟨by (with_reducible repeat (first | refine blk_drewN ?_ _ | refine blk_drew ?_ | refine blk_alloc ?_ _)); refine blk_put (cs := #[.slice A306_0 ((rd_T46 t303 x28_2).f0).length c306_0, .slice none 0 0]) ?_ 1 _ rfl; (with_reducible repeat (first | refine blk_drewN ?_ _ | refine blk_drew ?_ | refine blk_alloc ?_ _)); refine blk_put (cs := #[.slice none 0 0, .slice none 0 0]) ?_ 0 _ rfl; (with_reducible repeat (first | refine blk_drewN ?_ _ | refine blk_drew ?_ | refine blk_alloc ?_ _)); exact BK307.out⟩
         have n4_ : Aside0 (Below w.heap.size w ((w21.setCell ⟨gb307, 0, none⟩ (.slice A306_0 ((rd_T46 t303 x28_2).f0).length c306_0)).setCell ⟨gb307, 1, none⟩ (.slice A306_1 ((rd_T46 t303 x28_2).f1).length c306_1))) := ⟨xs HB.out GE307.out⟩
         (try clear HO_26)
         (try clear HL306_0)
         (try clear HL306_1)
         (try clear BK307)
         (try clear HB)
         generalize ((w21.setCell ⟨gb307, 0, none⟩ (.slice A306_0 ((rd_T46 t303 x28_2).f0).length c306_0)).setCell ⟨gb307, 1, none⟩ (.slice A306_1 ((rd_T46 t303 x28_2).f1).length c306_1)) = w23 at n0_ n1_ n2_ n3_ n4_ ⊢
         have HO_26 := n0_
         have HL306_0 := n1_
         have HL306_1 := n2_
         have BK307 := n3_
         have HB := n4_
         clear n0_ n1_ n2_ n3_ n4_
         replace HO_26 := ax (Kd.N_drew HO_26.out); replace HL306_0 := ax (Kd.V_drew HL306_0.out); replace HL306_1 := ax (Kd.V_drew HL306_1.out); replace BK307 := ax (blk_drew BK307.out); replace HB := ax (below_drew1 HB.out)
         obtain ⟨i025, hi025, _, hsz25, _⟩ := info_parts info3
         obtain ⟨A25, hcut25, hA25, hC25⟩ := print_drop_of (P := Try.prog) (Value.int .i64) 0 24 3 .i64 Try.underlying24 hi025 hsz25 (some ad302) c1 l1 1 (by omega) (xd) HC1.out
         have HR308 := ax (Kd.C_of_reads (h1 := fun _ => rfl) (hA25 _ (Kd.reads_of_C HR1.out)))
         have HC308 := ax hC25
         clear hA25 hC25 hi025 hsz25
         refine start_ (n := 6) (S := fun w' => w'.cell? ⟨gb307, 0, none⟩ = some (.slice A306_0 ((rd_T46 t303 x28_2).f0).length c306_0) ∧ w'.cell? ⟨gb307, 1, none⟩ = some (.slice A306_1 ((rd_T46 t303 x28_2).f1).length c306_1)) (ds := []) (xB 6 0) (by kernel_rfl) rfl (by kernel_rfl) ⟨(blk_cell BK307.out 0).trans rfl, (blk_cell BK307.out 1).trans rfl⟩ (fun hHeld => ?_)
         generalize w23.drew = w24 at HO_26 HL306_0 HL306_1 BK307 HB HR308 hHeld ⊢
         refine pure_ (i := 0) (N := some 32) (v := ?_) (a' := ?_) (xB 6 1) rfl rfl (by kernel_rfl) (fun _ _ _ h => h) (Or.inl ⟨by rfl, ?_⟩) ?_ ?_
         rotate_left
         ·intro w'
          go_simp
          with_reducible rfl
         rotate_left
         ·simp only [Act.put, List.setIfInBounds_toArray, List.set_cons_zero, List.set_cons_succ, i64_w, i32_w]
          rfl
         refine pure_ (i := 2) (N := some 34) (v := ?_) (a' := ?_) (xB 6 5) rfl rfl (by kernel_rfl) (fun _ _ _ h => h) (Or.inl ⟨by rfl, ?_⟩) ?_ ?_
         rotate_left
         ·intro w'
          go_simp
          with_reducible rfl
         rotate_left
         ·simp only [Act.put, List.setIfInBounds_toArray, List.set_cons_zero, List.set_cons_succ, i64_w, i32_w]
          rfl
         refine pure_ (i := 3) (N := some 35) (v := ?_) (a' := ?_) (xB 6 13) rfl rfl (by kernel_rfl) (fun _ _ _ h => h) (Or.inl ⟨by rfl, ?_⟩) ?_ ?_
         rotate_left
         ·intro w'
          go_simp
          with_reducible rfl
         rotate_left
         ·simp only [Act.put, List.setIfInBounds_toArray, List.set_cons_zero, List.set_cons_succ, i64_w, i32_w]
          rfl
         refine take_ (i := 1) (N := some 33) (v := ?_) (a' := ?_) (xB 6 15) rfl rfl (by kernel_rfl) (fun _ _ _ h => h) (Or.inl ⟨by rfl, ?_⟩) hHeld ?_ ?_
         rotate_left
         ·rintro w' ⟨s0, s1⟩
          go_simp
          with_reducible rfl
         rotate_left
         ·simp only [Act.put, List.setIfInBounds_toArray, List.set_cons_zero, List.set_cons_succ, i64_w, i32_w]
          rfl
         refine one_ (i := 4) (N := some 36) (xB 6 31) rfl rfl (by kernel_rfl) (by decide) (fun K hK => ?_)
         refine goes_ Try.func6 (by kernel_rfl) rfl #[.slice A306_1 ((rd_T46 t303 x28_2).f1).length c306_1, .slice A25 (l1.drop 1).length (c1 - 1)] (by rfl) rfl rfl (by (try simp only [List.map_toArray, List.map_cons, List.map_nil]); first | done | (rw [show (l1.drop 1).length = (l1.length - 1) from List.length_drop] <;> rfl) | rfl | (simp only [List.length_drop, List.length_take]; rfl)) ?_
         with_reducible refine (ih k2 (by have := HJ2.out; have := HK2.out; omega) _ _ ((rd_T46 t303 x28_2).f1) _ _ (l1.drop 1) t309 _ ?side1 ?side2 ?side3 ?side4 A18.out).mono ?_
         (case side1 => repeat (first | exact ((Kd.V_reads' (xV HL306_1.out)).2.2) | (with_reducible refine Kd.C_alloc ?_ _) | (with_reducible refine Kd.C_drewN ?_ _) | (with_reducible refine Kd.C_drew ?_)))
         (case side2 => exact HC306_1.out)
         (case side3 => exact xz HR308.out (Kd.C_below · HB.out))
         (case side4 => exact HC308.out)
         rintro e w26 ⟨rfl, hb⟩
         refine ⟨_, rfl, ?_⟩
         replace HO_26 := ax (Kd.N_below (xN HO_26.out) hb); replace HL306_0 := ax (Kd.V_below (xV HL306_0.out) hb); replace HL306_1 := ax (Kd.V_below (xV HL306_1.out) hb); replace BK307 := ax (blk_below (g := gb307) (o := .cells #[.slice A306_0 ((rd_T46 t303 x28_2).f0).length c306_0, .slice A306_1 ((rd_T46 t303 x28_2).f1).length c306_1] 46 (0, 0)) (xk BK307.out) hb); replace HB := ax (below_step (xs HB.out GE307.out) hb)
         (try clear hb)
         (try clear hb2)
         (try clear hk)
         (try clear hi)
         refine hK.out _ _ ⟨(blk_cell BK307.out 0).trans rfl, (blk_cell BK307.out 1).trans rfl⟩ (fun hHeld => ?_)
         clear hK K
         refine norm_ (a' := ?_) ?_ ?_
         rotate_left
         ·show Act.put _ (some 36) _ = _
          simp only [Act.put, List.setIfInBounds_toArray, List.set_cons_zero, List.set_cons_succ, i64_w, i32_w]
          rfl
         refine pure_ (i := 5) (N := some 8) (v := ?_) (a' := ?_) (xB 6 63) rfl rfl (by kernel_rfl) (fun _ _ _ h => h) (Or.inl ⟨by rfl, ?_⟩) ?_ ?_
         rotate_left
         ·intro w'
          go_simp
          with_reducible rfl
         rotate_left
         ·simp only [Act.put, List.setIfInBounds_toArray, List.set_cons_zero, List.set_cons_succ, i64_w, i32_w]
          rfl
         refine done_ (by kernel_rfl) ?_
         have hcz27_0 : w26.cell? ⟨gb307, 0, none⟩ = some (.slice A306_0 ((rd_T46 t303 x28_2).f0).length c306_0) := (blk_cell BK307.out 0).trans rfl
         have hcz27_1 : w26.cell? ⟨gb307, 1, none⟩ = some (.slice A306_1 ((rd_T46 t303 x28_2).f1).length c306_1) := (blk_cell BK307.out 1).trans rfl
         have hfz27_0 := blk_frozen BK307.out 0
         have hfz27_1 := blk_frozen BK307.out 1
         try go_wp2_with (first | ((with_reducible refine gate_callee (f := 34) rfl ?_); refine goesL_ (some 38) rfl rfl Try.func34 (by kernel_rfl) rfl #[.agg #[.slice A306_0 ((rd_T46 t303 x28_2).f0).length c306_0, .slice A306_1 ((rd_T46 t303 x28_2).f1).length c306_1]] rfl xm ?_; (with_reducible refine (impl_RibbonHeight.calls k2 _ _ ((rd_T46 t303 x28_2).f0) _ _ ((rd_T46 t303 x28_2).f1) t310 _ ?side1 ?side2 ?side3 ?side4 A19.out).mono ?_); (case side1 => repeat (first | exact ((Kd.V_reads' (xV HL306_0.out)).2.2) | (with_reducible refine Kd.C_alloc ?_ _) | (with_reducible refine Kd.C_drewN ?_ _) | (with_reducible refine Kd.C_drew ?_))); (case side2 => exact HC306_0.out); (case side3 => repeat (first | exact ((Kd.V_reads' (xV HL306_1.out)).2.2) | (with_reducible refine Kd.C_alloc ?_ _) | (with_reducible refine Kd.C_drewN ?_ _) | (with_reducible refine Kd.C_drew ?_))); (case side4 => exact HC306_1.out); rintro e w28 ⟨rfl, hb⟩; refine ⟨_, rfl, ?_⟩; replace HO_26 := ax (Kd.N_below (xN HO_26.out) hb); replace HL306_0 := ax (Kd.V_below (xV HL306_0.out) hb); replace HL306_1 := ax (Kd.V_below (xV HL306_1.out) hb); replace BK307 := ax (blk_below (g := gb307) (o := .cells #[.slice A306_0 ((rd_T46 t303 x28_2).f0).length c306_0, .slice A306_1 ((rd_T46 t303 x28_2).f1).length c306_1] 46 (0, 0)) (xk BK307.out) hb); replace HB := ax (below_step (xs HB.out GE307.out) hb); (try clear hb); (try clear hb2); (try clear hk); (try clear hi)))
         go_roundg k2
         case measure => have := HJ2.out; have := HK2.out; omega
         case rel => exact ⟨(wrap64 (x5_2 + (wrap64 (-t309)))), (wrap64 (x28_2 + 1)), xr, xr, H', ⟨by have := HJ2.out; have := HK2.out; omega⟩, ⟨by (with_reducible repeat (first | apply Kd.N_alloc | apply Kd.N_drewN | apply Kd.N_drew)); exact Kd.N_mono HO_26.out (fun _ hk => trivial)⟩, ⟨xs HB.out GE307.out⟩⟩
        ·rw [if_neg c20] at H
         have c20b0 : ((Int.tmod t310 2) == 1) = false := beq_eq_false_iff_ne.mpr c20
         have c20b1 : ((Int.tmod t310 2) != 1) = true := bne_iff_ne.mpr c20
         have H' := ax H
         clear H
         have p306 : 0 ≤ (x28_2 : Int) := xd
         have q306 : x28_2 < (t303.length : Int) := xd
         obtain ⟨ad306, A306_0, c306_0, A306_1, c306_1, e306, hx306_0, hx306_1, hl306_0, hi306_0, hl306_1, hi306_1⟩ := at_T46 (Kd.N_reads' HO_26.out).2.2 x28_2 p306 q306
         cases e306
         obtain ⟨ce306, hce306, hMe306, hcc306⟩ := Kd.N_get HO_26.out z46 x28_2 p306 (by first | exact q306 | exact xd | (have e_ := (Kd.N_reads' HO_26.out).1; omega))
         obtain ⟨ua306_0, uc306_0, ua306_1, uc306_1, rfl, ul306_0, ge306_0, ul306_1, ge306_1⟩ := k46_openF hMe306
         have hv306_0 := hcc306 0 _ rfl
         rw [Nat.add_zero] at hv306_0
         replace hv306_0 := Option.some.inj (hv306_0.symm.trans hx306_0)
         injection hv306_0 with hva_ hvn_ hvc_
         rw [hva_] at ge306_0
         rw [hvc_] at ul306_0
         have HL306_0 := ax (show Kd.V (Kd.int .i64) 3 _ w.heap.size _ _ ((rd_T46 t303 x28_2).f0) from Kd.V_mk ul306_0 ge306_0)
         clear hva_ hvn_ hvc_ ge306_0 ul306_0
         have hv306_1 := hcc306 1 _ rfl
         rw [add_field _ _ 1 (by omega)] at hv306_1
         replace hv306_1 := Option.some.inj (hv306_1.symm.trans hx306_1)
         injection hv306_1 with hva_ hvn_ hvc_
         rw [hva_] at ge306_1
         rw [hvc_] at ul306_1
         have HL306_1 := ax (show Kd.V (Kd.int .i64) 3 _ w.heap.size _ _ ((rd_T46 t303 x28_2).f1) from Kd.V_mk ul306_1 ge306_1)
         clear hva_ hvn_ hvc_ ge306_1 ul306_1 hcc306 hce306
         have HR306_0 := ax hi306_0
         have HC306_0 := ax hl306_0
         clear hi306_0 hl306_0
         have HR306_1 := ax hi306_1
         have HC306_1 := ax hl306_1
         clear hi306_1 hl306_1
         replace p306 := eq_true p306
         replace q306 := eq_true q306
         try go_wp2_with (first | ((with_reducible refine gate_dst (N := 7) rfl ?_); refine box_event ?hg (N := 7) ?hd (cs := #[.slice none 0 0, .slice none 0 0]) (t := 46) ?hr ?_; (case hd => rfl); (case hg => rfl); (case hr => first | (go_simp; done) | (go_simp; rfl)); intro gb307 hg w29 hbox hb; replace HO_26 := ax (Kd.N_below (Kd.N_elderB (xN HO_26.out) gb307 (Nat.le_of_eq hg.symm)) hb); replace HL306_0 := ax (Kd.V_below (Kd.V_elderB (xV HL306_0.out) gb307 (Nat.le_of_eq hg.symm)) hb); replace HL306_1 := ax (Kd.V_below (Kd.V_elderB (xV HL306_1.out) gb307 (Nat.le_of_eq hg.symm)) hb); replace HR306_0 := ax (Kd.C_below (xw HR306_0.out) hb); replace HR306_1 := ax (Kd.C_below (xw HR306_1.out) hb); have BK307 := ax (hbox); have GW307 := ax ((by rw [hg]; exact (below_size (xb HB.out)) : w.heap.size ≤ gb307)); have GE307 := ax ((by rw [hg]; exact (below_size (xb HB.out)) : w.heap.size ≤ gb307)); replace HB := ax (below_step (xb HB.out) hb); clear hb hbox hg; have hcz30_0 : w29.cell? ⟨gb307, 0, none⟩ = some (.slice none 0 0) := (blk_cell BK307.out 0).trans rfl; have hcz30_1 : w29.cell? ⟨gb307, 1, none⟩ = some (.slice none 0 0) := (blk_cell BK307.out 1).trans rfl; have hfz30_0 := blk_frozen BK307.out 0; have hfz30_1 := blk_frozen BK307.out 1))
         have n0_ : Aside0 (Kd.N k46 46 ((w29.setCell ⟨gb307, 0, none⟩ (.slice A306_0 ((rd_T46 t303 x28_2).f0).length c306_0)).setCell ⟨gb307, 1, none⟩ (.slice A306_1 ((rd_T46 t303 x28_2).f1).length c306_1)) w.heap.size (fun k_ => k_ ≠ gb307) (.slice (some ad306) t303.length co13) t303) := ⟨by (with_reducible repeat (first | apply Kd.N_alloc | apply Kd.N_drewN | apply Kd.N_drew)); exact Kd.N_mono (Kd.N_far (p := ⟨gb307, 1, none⟩) (Kd.N_far (p := ⟨gb307, 0, none⟩) (Kd.N_mono HO_26.out (fun k_ hk => (⟨hk, hk.2⟩ : _ ∧ k_ ≠ gb307))) (fun _ hk => hk.2) (.slice A306_0 ((rd_T46 t303 x28_2).f0).length c306_0)) (fun _ hk => hk.2) (.slice A306_1 ((rd_T46 t303 x28_2).f1).length c306_1)) (fun _ hk => hk.1.2)⟩
         have n1_ : Aside0 (Kd.V (Kd.int .i64) 3 ((w29.setCell ⟨gb307, 0, none⟩ (.slice A306_0 ((rd_T46 t303 x28_2).f0).length c306_0)).setCell ⟨gb307, 1, none⟩ (.slice A306_1 ((rd_T46 t303 x28_2).f1).length c306_1)) w.heap.size (fun k_ => some k_ ≠ (.slice (some ad306) t303.length co13 : Value).ownBlock ∧ k_ ≠ gb307) (.slice A306_0 ((rd_T46 t303 x28_2).f0).length c306_0) ((rd_T46 t303 x28_2).f0)) := ⟨by (with_reducible repeat (first | apply Kd.V_alloc | apply Kd.V_drewN | apply Kd.V_drew)); exact Kd.V_mono (Kd.V_far (p := ⟨gb307, 1, none⟩) (Kd.V_far (p := ⟨gb307, 0, none⟩) (Kd.V_mono HL306_0.out (fun k_ hk => (⟨hk, hk.2⟩ : _ ∧ k_ ≠ gb307))) (fun _ hk => hk.2) (.slice A306_0 ((rd_T46 t303 x28_2).f0).length c306_0)) (fun _ hk => hk.2) (.slice A306_1 ((rd_T46 t303 x28_2).f1).length c306_1)) (fun _ hk => ⟨hk.1.1.2, hk.1.2⟩)⟩
         have n2_ : Aside0 (Kd.V (Kd.int .i64) 3 ((w29.setCell ⟨gb307, 0, none⟩ (.slice A306_0 ((rd_T46 t303 x28_2).f0).length c306_0)).setCell ⟨gb307, 1, none⟩ (.slice A306_1 ((rd_T46 t303 x28_2).f1).length c306_1)) w.heap.size (fun k_ => some k_ ≠ (.slice (some ad306) t303.length co13 : Value).ownBlock ∧ k_ ≠ gb307) (.slice A306_1 ((rd_T46 t303 x28_2).f1).length c306_1) ((rd_T46 t303 x28_2).f1)) := ⟨by (with_reducible repeat (first | apply Kd.V_alloc | apply Kd.V_drewN | apply Kd.V_drew)); exact Kd.V_mono (Kd.V_far (p := ⟨gb307, 1, none⟩) (Kd.V_far (p := ⟨gb307, 0, none⟩) (Kd.V_mono HL306_1.out (fun k_ hk => (⟨hk, hk.2⟩ : _ ∧ k_ ≠ gb307))) (fun _ hk => hk.2) (.slice A306_0 ((rd_T46 t303 x28_2).f0).length c306_0)) (fun _ hk => hk.2) (.slice A306_1 ((rd_T46 t303 x28_2).f1).length c306_1)) (fun _ hk => ⟨hk.1.1.2, hk.1.2⟩)⟩
         have n3_ : Aside0 (((w29.setCell ⟨gb307, 0, none⟩ (.slice A306_0 ((rd_T46 t303 x28_2).f0).length c306_0)).setCell ⟨gb307, 1, none⟩ (.slice A306_1 ((rd_T46 t303 x28_2).f1).length c306_1)).heap[gb307]? = some (.cells #[.slice A306_0 ((rd_T46 t303 x28_2).f0).length c306_0, .slice A306_1 ((rd_T46 t303 x28_2).f1).length c306_1] 46 (0, 0))) := ⟨by (with_reducible repeat (first | refine blk_drewN ?_ _ | refine blk_drew ?_ | refine blk_alloc ?_ _)); refine blk_put (cs := #[.slice A306_0 ((rd_T46 t303 x28_2).f0).length c306_0, .slice none 0 0]) ?_ 1 _ rfl; (with_reducible repeat (first | refine blk_drewN ?_ _ | refine blk_drew ?_ | refine blk_alloc ?_ _)); refine blk_put (cs := #[.slice none 0 0, .slice none 0 0]) ?_ 0 _ rfl; (with_reducible repeat (first | refine blk_drewN ?_ _ | refine blk_drew ?_ | refine blk_alloc ?_ _)); exact BK307.out⟩
         have n4_ : Aside0 (Below w.heap.size w ((w29.setCell ⟨gb307, 0, none⟩ (.slice A306_0 ((rd_T46 t303 x28_2).f0).length c306_0)).setCell ⟨gb307, 1, none⟩ (.slice A306_1 ((rd_T46 t303 x28_2).f1).length c306_1))) := ⟨xs HB.out GE307.out⟩
         (try clear HO_26)
         (try clear HL306_0)
         (try clear HL306_1)
         (try clear BK307)
         (try clear HB)
         generalize ((w29.setCell ⟨gb307, 0, none⟩ (.slice A306_0 ((rd_T46 t303 x28_2).f0).length c306_0)).setCell ⟨gb307, 1, none⟩ (.slice A306_1 ((rd_T46 t303 x28_2).f1).length c306_1)) = w31 at n0_ n1_ n2_ n3_ n4_ ⊢
         have HO_26 := n0_
         have HL306_0 := n1_
         have HL306_1 := n2_
         have BK307 := n3_
         have HB := n4_
         clear n0_ n1_ n2_ n3_ n4_
         replace HO_26 := ax (Kd.N_drew HO_26.out); replace HL306_0 := ax (Kd.V_drew HL306_0.out); replace HL306_1 := ax (Kd.V_drew HL306_1.out); replace BK307 := ax (blk_drew BK307.out); replace HB := ax (below_drew1 HB.out)
         obtain ⟨i033, hi033, _, hsz33, _⟩ := info_parts info3
         obtain ⟨A33, hcut33, hA33, hC33⟩ := print_drop_of (P := Try.prog) (Value.int .i64) 0 24 3 .i64 Try.underlying24 hi033 hsz33 (some ad302) c1 l1 1 (by omega) (xd) HC1.out
         have HR308 := ax (Kd.C_of_reads (h1 := fun _ => rfl) (hA33 _ (Kd.reads_of_C HR1.out)))
         have HC308 := ax hC33
         clear hA33 hC33 hi033 hsz33
         refine start_ (n := 6) (S := fun w' => w'.cell? ⟨gb307, 0, none⟩ = some (.slice A306_0 ((rd_T46 t303 x28_2).f0).length c306_0) ∧ w'.cell? ⟨gb307, 1, none⟩ = some (.slice A306_1 ((rd_T46 t303 x28_2).f1).length c306_1)) (ds := []) (xB 6 0) (by kernel_rfl) rfl (by kernel_rfl) ⟨(blk_cell BK307.out 0).trans rfl, (blk_cell BK307.out 1).trans rfl⟩ (fun hHeld => ?_)
         generalize w31.drew = w32 at HO_26 HL306_0 HL306_1 BK307 HB HR308 hHeld ⊢
         refine pure_ (i := 0) (N := some 32) (v := ?_) (a' := ?_) (xB 6 1) rfl rfl (by kernel_rfl) (fun _ _ _ h => h) (Or.inl ⟨by rfl, ?_⟩) ?_ ?_
         rotate_left
         ·intro w'
          go_simp
          with_reducible rfl
         rotate_left
         ·simp only [Act.put, List.setIfInBounds_toArray, List.set_cons_zero, List.set_cons_succ, i64_w, i32_w]
          rfl
         refine pure_ (i := 2) (N := some 34) (v := ?_) (a' := ?_) (xB 6 5) rfl rfl (by kernel_rfl) (fun _ _ _ h => h) (Or.inl ⟨by rfl, ?_⟩) ?_ ?_
         rotate_left
         ·intro w'
          go_simp
          with_reducible rfl
         rotate_left
         ·simp only [Act.put, List.setIfInBounds_toArray, List.set_cons_zero, List.set_cons_succ, i64_w, i32_w]
          rfl
         refine pure_ (i := 3) (N := some 35) (v := ?_) (a' := ?_) (xB 6 13) rfl rfl (by kernel_rfl) (fun _ _ _ h => h) (Or.inl ⟨by rfl, ?_⟩) ?_ ?_
         rotate_left
         ·intro w'
          go_simp
          with_reducible rfl
         rotate_left
         ·simp only [Act.put, List.setIfInBounds_toArray, List.set_cons_zero, List.set_cons_succ, i64_w, i32_w]
          rfl
         refine take_ (i := 1) (N := some 33) (v := ?_) (a' := ?_) (xB 6 15) rfl rfl (by kernel_rfl) (fun _ _ _ h => h) (Or.inl ⟨by rfl, ?_⟩) hHeld ?_ ?_
         rotate_left
         ·rintro w' ⟨s0, s1⟩
          go_simp
          with_reducible rfl
         rotate_left
         ·simp only [Act.put, List.setIfInBounds_toArray, List.set_cons_zero, List.set_cons_succ, i64_w, i32_w]
          rfl
         refine one_ (i := 4) (N := some 36) (xB 6 31) rfl rfl (by kernel_rfl) (by decide) (fun K hK => ?_)
         refine goes_ Try.func6 (by kernel_rfl) rfl #[.slice A306_1 ((rd_T46 t303 x28_2).f1).length c306_1, .slice A33 (l1.drop 1).length (c1 - 1)] (by rfl) rfl rfl (by (try simp only [List.map_toArray, List.map_cons, List.map_nil]); first | done | (rw [show (l1.drop 1).length = (l1.length - 1) from List.length_drop] <;> rfl) | rfl | (simp only [List.length_drop, List.length_take]; rfl)) ?_
         with_reducible refine (ih k2 (by have := HJ2.out; have := HK2.out; omega) _ _ ((rd_T46 t303 x28_2).f1) _ _ (l1.drop 1) t309 _ ?side1 ?side2 ?side3 ?side4 A18.out).mono ?_
         (case side1 => repeat (first | exact ((Kd.V_reads' (xV HL306_1.out)).2.2) | (with_reducible refine Kd.C_alloc ?_ _) | (with_reducible refine Kd.C_drewN ?_ _) | (with_reducible refine Kd.C_drew ?_)))
         (case side2 => exact HC306_1.out)
         (case side3 => exact xz HR308.out (Kd.C_below · HB.out))
         (case side4 => exact HC308.out)
         rintro e w34 ⟨rfl, hb⟩
         refine ⟨_, rfl, ?_⟩
         replace HO_26 := ax (Kd.N_below (xN HO_26.out) hb); replace HL306_0 := ax (Kd.V_below (xV HL306_0.out) hb); replace HL306_1 := ax (Kd.V_below (xV HL306_1.out) hb); replace BK307 := ax (blk_below (g := gb307) (o := .cells #[.slice A306_0 ((rd_T46 t303 x28_2).f0).length c306_0, .slice A306_1 ((rd_T46 t303 x28_2).f1).length c306_1] 46 (0, 0)) (xk BK307.out) hb); replace HB := ax (below_step (xs HB.out GE307.out) hb)
         (try clear hb)
         (try clear hb2)
         (try clear hk)
         (try clear hi)
         refine hK.out _ _ ⟨(blk_cell BK307.out 0).trans rfl, (blk_cell BK307.out 1).trans rfl⟩ (fun hHeld => ?_)
         clear hK K
         refine norm_ (a' := ?_) ?_ ?_
         rotate_left
         ·show Act.put _ (some 36) _ = _
          simp only [Act.put, List.setIfInBounds_toArray, List.set_cons_zero, List.set_cons_succ, i64_w, i32_w]
          rfl
         refine pure_ (i := 5) (N := some 8) (v := ?_) (a' := ?_) (xB 6 63) rfl rfl (by kernel_rfl) (fun _ _ _ h => h) (Or.inl ⟨by rfl, ?_⟩) ?_ ?_
         rotate_left
         ·intro w'
          go_simp
          with_reducible rfl
         rotate_left
         ·simp only [Act.put, List.setIfInBounds_toArray, List.set_cons_zero, List.set_cons_succ, i64_w, i32_w]
          rfl
         refine done_ (by kernel_rfl) ?_
         have hcz35_0 : w34.cell? ⟨gb307, 0, none⟩ = some (.slice A306_0 ((rd_T46 t303 x28_2).f0).length c306_0) := (blk_cell BK307.out 0).trans rfl
         have hcz35_1 : w34.cell? ⟨gb307, 1, none⟩ = some (.slice A306_1 ((rd_T46 t303 x28_2).f1).length c306_1) := (blk_cell BK307.out 1).trans rfl
         have hfz35_0 := blk_frozen BK307.out 0
         have hfz35_1 := blk_frozen BK307.out 1
         try go_wp2_with (first | ((with_reducible refine gate_callee (f := 34) rfl ?_); refine goesL_ (some 38) rfl rfl Try.func34 (by kernel_rfl) rfl #[.agg #[.slice A306_0 ((rd_T46 t303 x28_2).f0).length c306_0, .slice A306_1 ((rd_T46 t303 x28_2).f1).length c306_1]] rfl xm ?_; (with_reducible refine (impl_RibbonHeight.calls k2 _ _ ((rd_T46 t303 x28_2).f0) _ _ ((rd_T46 t303 x28_2).f1) t310 _ ?side1 ?side2 ?side3 ?side4 A19.out).mono ?_); (case side1 => repeat (first | exact ((Kd.V_reads' (xV HL306_0.out)).2.2) | (with_reducible refine Kd.C_alloc ?_ _) | (with_reducible refine Kd.C_drewN ?_ _) | (with_reducible refine Kd.C_drew ?_))); (case side2 => exact HC306_0.out); (case side3 => repeat (first | exact ((Kd.V_reads' (xV HL306_1.out)).2.2) | (with_reducible refine Kd.C_alloc ?_ _) | (with_reducible refine Kd.C_drewN ?_ _) | (with_reducible refine Kd.C_drew ?_))); (case side4 => exact HC306_1.out); rintro e w36 ⟨rfl, hb⟩; refine ⟨_, rfl, ?_⟩; replace HO_26 := ax (Kd.N_below (xN HO_26.out) hb); replace HL306_0 := ax (Kd.V_below (xV HL306_0.out) hb); replace HL306_1 := ax (Kd.V_below (xV HL306_1.out) hb); replace BK307 := ax (blk_below (g := gb307) (o := .cells #[.slice A306_0 ((rd_T46 t303 x28_2).f0).length c306_0, .slice A306_1 ((rd_T46 t303 x28_2).f1).length c306_1] 46 (0, 0)) (xk BK307.out) hb); replace HB := ax (below_step (xs HB.out GE307.out) hb); (try clear hb); (try clear hb2); (try clear hk); (try clear hi)))
         go_roundg k2
         case measure => have := HJ2.out; have := HK2.out; omega
         case rel => exact ⟨(wrap64 (x5_2 + t309)), (wrap64 (x28_2 + 1)), xr, xr, H', ⟨by have := HJ2.out; have := HK2.out; omega⟩, ⟨by (with_reducible repeat (first | apply Kd.N_alloc | apply Kd.N_drewN | apply Kd.N_drew)); exact Kd.N_mono HO_26.out (fun _ hk => trivial)⟩, ⟨xs HB.out GE307.out⟩⟩
       ·rw [if_neg c14] at H
        have c14b0 := decide_eq_false c14
        clear c14
        obtain rfl := Option.some.inj H
        go_wp2
        go_ret
        exact ⟨xe, xb HB.out⟩

/-! ### spec_l21Draw: function 35 -/
def spec_l21Draw.f (k : Nat) (s0_0 : List Int) (s0_1 : Int) (s0_2 : Int) : Option (List Int × Int × Int) := (spec_l1Once.f s0_0 s0_1 s0_2 12).bind fun bt311 => (if bt311.1 = true then ((spec_l2Bent.f k s0_0 bt311.2.1 bt311.2.2 9).bind fun bt314 => (some (bt314.1, bt314.2.1, bt314.2.2))) else ((spec_l2Draw.f k s0_0 bt311.2.1 bt311.2.2 5).bind fun bt319 => (some (bt319.1, bt319.2.1, bt319.2.2))))
theorem spec_l21Draw.mono : ∀ a0 a1 a2 k, LeO (spec_l21Draw.f k a0 a1 a2) (spec_l21Draw.f (k + 1) a0 a1 a2) := by
 intro a0 a1 a2 k
 unfold spec_l21Draw.f
 repeat' with_reducible first | exact spec_l2Bent.mono _ _ _ _ _ | exact spec_l2Draw.mono _ _ _ _ _ | exact xl | refine LeO.ite ?_ ?_ | refine LeO.bind ?_ fun _ => ?_
set_option maxHeartbeats 8000000 in
set_option maxRecDepth 100000 in
theorem spec_l21Draw.calls (k : Nat) (g : Nat) (s0_0 : List Int) (s0_1 : Int) (s0_2 : Int) (r1 : List Int) (r2 : Int) (r3 : Int) (w0 w : World) (hI : IsS54 w0 w g s0_0 s0_1 s0_2) (hB : Below w0.heap.size w0 w) (h : spec_l21Draw.f k s0_0 s0_1 s0_2 = some (r1, r2, r3)) :
  Calls Try.prog 35 #[.pointer (some ⟨g, 0, none⟩)] w fun e w' => ∃ v0_ : Value, e = .returned (v0_) ∧ Kd.R (Kd.int .i64) 3 w' w.heap.size (fun _ => True) v0_ r1 ∧ IsS54 w0 w' g s0_0 r2 r3 ∧ Below w0.heap.size w0 w' ∧ KeepBut w w' g none := by
 have HI0 := ax hI
 have HK := ax (KeepBut.refl w g none)
 have HL := ax hB.size
 clear hI
 have HW0 := ax hB.size
 have HB := ax hB
 clear hB
 have H : ((spec_l1Once.f s0_0 s0_1 s0_2 12).bind fun bt311 => (if bt311.1 = true then ((spec_l2Bent.f k s0_0 bt311.2.1 bt311.2.2 9).bind fun bt314 => (some (bt314.1, bt314.2.1, bt314.2.2))) else ((spec_l2Draw.f k s0_0 bt311.2.1 bt311.2.2 5).bind fun bt319 => (some (bt319.1, bt319.2.1, bt319.2.2))))) = some (r1, r2, r3) := h
 clear h
 obtain ⟨⟨t311, t312, t313⟩, A2, H⟩ := xI H
 dsimp only at H
 by_cases c3 : t311 = true
 ·subst c3
  rw [if_pos rfl] at H
  obtain ⟨⟨t314, t317, t318⟩, A4, H⟩ := xI H
  dsimp only at H
  simp only [Option.some.injEq, Prod.mk.injEq] at H
  obtain ⟨rfl, rfl, rfl⟩ := H
  go_enter Try.func35, Try.ntmps35
  go_wp2_with (first | ((with_reducible refine gate_callee (f := 29) rfl ?_); refine goesL_ (some 4) rfl rfl Try.func29 (by kernel_rfl) rfl #[.pointer (some ⟨g, 0, none⟩), .int .i64 12] rfl xm ?_; (with_reducible refine (spec_l1Once.calls g s0_0 s0_1 s0_2 12 true t312 t313 w0 _ ?side1 ?side2 A2.out).mono ?_); (case side1 => repeat (first | (with_reducible first | exact HI0.out | apply IsS54.alloc | apply IsS54.drewN | apply IsS54.drew | apply IsS54.set_1 | apply IsS54.set_2) | exact HI0.out)); (case side2 => exact xs HB.out (IsS54.ge HI0.out)); rintro e w5 ⟨rfl, hi, hb, hk⟩; refine ⟨_, rfl, ?_⟩; replace HK := ax (KeepBut.trans (by repeat (first | (with_reducible first | exact HK.out | apply KeepBut.set_ | apply keep_drewN | apply keep_drew | apply keep_alloc) | exact HK.out)) hk (.inl rfl)); replace HB := ax (hb); replace HI0 := ax (hi); (try clear hb); (try clear hb2); (try clear hk); (try clear hi)) | ((with_reducible refine gate_callee (f := 30) rfl ?_); refine goesL_ (some 6) rfl rfl Try.func30 (by kernel_rfl) rfl #[.pointer (some ⟨g, 0, none⟩), .int .i64 9] rfl xm ?_; (with_reducible refine (spec_l2Bent.calls k g s0_0 t312 t313 9 t314 t317 t318 w0 _ ?side1 ?side2 A4.out).mono ?_); (case side1 => repeat (first | (with_reducible first | exact HI0.out | apply IsS54.alloc | apply IsS54.drewN | apply IsS54.drew | apply IsS54.set_1 | apply IsS54.set_2) | exact HI0.out)); (case side2 => exact xs HB.out (IsS54.ge HI0.out)); rintro e w6 ⟨v315, rfl, ho0, hi, hb, hk⟩; refine ⟨_, rfl, ?_⟩; have HO316 := ax (Kd.R_lower ho0 (keep_size (w := w) (g := g) (row := none) (by repeat (first | (with_reducible first | exact HK.out | apply KeepBut.set_ | apply keep_drewN | apply keep_drew | apply keep_alloc) | exact HK.out)))); replace HK := ax (KeepBut.trans (by repeat (first | (with_reducible first | exact HK.out | apply KeepBut.set_ | apply keep_drewN | apply keep_drew | apply keep_alloc) | exact HK.out)) hk (.inl rfl)); replace HB := ax (hb); replace HI0 := ax (hi); (try clear hb); (try clear hb2); (try clear hk); (try clear hi); (try clear ho0)))
  go_ret
  exact ⟨_, xe, xR HO316.out, by repeat (first | (with_reducible first | exact HI0.out | apply IsS54.alloc | apply IsS54.drewN | apply IsS54.drew | apply IsS54.set_1 | apply IsS54.set_2) | exact HI0.out), xs HB.out (IsS54.ge HI0.out), by repeat (first | (with_reducible first | exact HK.out | apply KeepBut.set_ | apply keep_drewN | apply keep_drew | apply keep_alloc) | exact HK.out)⟩
 ·replace c3 := Bool.eq_false_iff.mpr c3
  subst c3
  rw [if_neg (show ¬ (false = true) by decide)] at H
  obtain ⟨⟨t319, t322, t323⟩, A7, H⟩ := xI H
  dsimp only at H
  simp only [Option.some.injEq, Prod.mk.injEq] at H
  obtain ⟨rfl, rfl, rfl⟩ := H
  go_enter Try.func35, Try.ntmps35
  go_wp2_with (first | ((with_reducible refine gate_callee (f := 29) rfl ?_); refine goesL_ (some 4) rfl rfl Try.func29 (by kernel_rfl) rfl #[.pointer (some ⟨g, 0, none⟩), .int .i64 12] rfl xm ?_; (with_reducible refine (spec_l1Once.calls g s0_0 s0_1 s0_2 12 false t312 t313 w0 _ ?side1 ?side2 A2.out).mono ?_); (case side1 => repeat (first | (with_reducible first | exact HI0.out | apply IsS54.alloc | apply IsS54.drewN | apply IsS54.drew | apply IsS54.set_1 | apply IsS54.set_2) | exact HI0.out)); (case side2 => exact xs HB.out (IsS54.ge HI0.out)); rintro e w8 ⟨rfl, hi, hb, hk⟩; refine ⟨_, rfl, ?_⟩; replace HK := ax (KeepBut.trans (by repeat (first | (with_reducible first | exact HK.out | apply KeepBut.set_ | apply keep_drewN | apply keep_drew | apply keep_alloc) | exact HK.out)) hk (.inl rfl)); replace HB := ax (hb); replace HI0 := ax (hi); (try clear hb); (try clear hb2); (try clear hk); (try clear hi)) | ((with_reducible refine gate_callee (f := 27) rfl ?_); refine goesL_ (some 8) rfl rfl Try.func27 (by kernel_rfl) rfl #[.pointer (some ⟨g, 0, none⟩), .int .i64 5] rfl xm ?_; (with_reducible refine (spec_l2Draw.calls k g s0_0 t312 t313 5 t319 t322 t323 w0 _ ?side1 ?side2 A7.out).mono ?_); (case side1 => repeat (first | (with_reducible first | exact HI0.out | apply IsS54.alloc | apply IsS54.drewN | apply IsS54.drew | apply IsS54.set_1 | apply IsS54.set_2) | exact HI0.out)); (case side2 => exact xs HB.out (IsS54.ge HI0.out)); rintro e w9 ⟨v320, rfl, ho0, hi, hb, hk⟩; refine ⟨_, rfl, ?_⟩; have HO321 := ax (Kd.R_lower ho0 (keep_size (w := w) (g := g) (row := none) (by repeat (first | (with_reducible first | exact HK.out | apply KeepBut.set_ | apply keep_drewN | apply keep_drew | apply keep_alloc) | exact HK.out)))); replace HK := ax (KeepBut.trans (by repeat (first | (with_reducible first | exact HK.out | apply KeepBut.set_ | apply keep_drewN | apply keep_drew | apply keep_alloc) | exact HK.out)) hk (.inl rfl)); replace HB := ax (hb); replace HI0 := ax (hi); (try clear hb); (try clear hb2); (try clear hk); (try clear hi); (try clear ho0)))
  go_ret
  exact ⟨_, xe, xR HO321.out, by repeat (first | (with_reducible first | exact HI0.out | apply IsS54.alloc | apply IsS54.drewN | apply IsS54.drew | apply IsS54.set_1 | apply IsS54.set_2) | exact HI0.out), xs HB.out (IsS54.ge HI0.out), by repeat (first | (with_reducible first | exact HK.out | apply KeepBut.set_ | apply keep_drewN | apply keep_drew | apply keep_alloc) | exact HK.out)⟩

/-! ### spec_DrawSchurOfPower: function 7 -/
def spec_DrawSchurOfPower.f (k : Nat) (l0 : List Int) : Option (List Int) := (spec_l1New.f k l0).bind fun bt324 => ((spec_l21Draw.f k bt324.1 bt324.2.1 bt324.2.2).bind fun bt328 => (some bt328.1))
theorem spec_DrawSchurOfPower.mono : ∀ a0 k, LeO (spec_DrawSchurOfPower.f k a0) (spec_DrawSchurOfPower.f (k + 1) a0) := by
 intro a0 k
 unfold spec_DrawSchurOfPower.f
 repeat' with_reducible first | exact spec_l1New.mono _ _ | exact spec_l21Draw.mono _ _ _ _ | exact xl | refine LeO.ite ?_ ?_ | refine LeO.bind ?_ fun _ => ?_
set_option maxHeartbeats 8000000 in
set_option maxRecDepth 100000 in
theorem spec_DrawSchurOfPower.calls (k : Nat) (A0 : Option Addr) (c0 : Nat) (l0 : List Int) (r : List Int) (w : World) (hr0 : Kd.C (Kd.int .u8) w A0 l0.length l0) (hc0 : l0.length ≤ c0) (h : spec_DrawSchurOfPower.f k l0 = some r) :
  Calls Try.prog 7 #[.slice A0 l0.length c0] w fun e w' => ∃ v0_ : Value, e = .returned (v0_) ∧ Kd.R (Kd.int .i64) 3 w' w.heap.size (fun _ => True) v0_ r ∧ Below w.heap.size w w' := by
 have HR0 := ax hr0
 have HC0 := ax hc0
 clear hr0 hc0
 have HB := ax (Below.refl w.heap.size w)
 have H : ((spec_l1New.f k l0).bind fun bt324 => ((spec_l21Draw.f k bt324.1 bt324.2.1 bt324.2.2).bind fun bt328 => (some bt328.1))) = some r := h
 clear h
 obtain ⟨⟨t324, t325, t326⟩, A2, H⟩ := xI H
 dsimp only at H
 obtain ⟨⟨t328, t331, t332⟩, A3, H⟩ := xI H
 dsimp only at H
 obtain rfl := Option.some.inj H
 go_enter Try.func7, Try.ntmps7
 go_wp2_with (first | ((with_reducible refine gate_callee (f := 26) rfl ?_); refine goesL_ (some 4) rfl rfl Try.func26 (by kernel_rfl) rfl #[.slice A0 l0.length c0] rfl xm ?_; (with_reducible refine (spec_l1New.calls k _ _ l0 t324 t325 t326 w _ ?side1 ?side2 ?side3 A2.out).mono ?_); (case side1 => exact xb HB.out); (case side2 => exact HR0.out); (case side3 => exact HC0.out); rintro e w4 ⟨g327, rfl, hi, hb, hb2⟩; refine ⟨_, rfl, ?_⟩; replace HB := ax (hb); have HI327 := ax (hi); (try clear hb); (try clear hb2); (try clear hk); (try clear hi)) | ((with_reducible refine gate_callee (f := 35) rfl ?_); refine goesL_ (some 5) rfl rfl Try.func35 (by kernel_rfl) rfl #[.pointer (some ⟨g327, 0, none⟩)] rfl xm ?_; (with_reducible refine (spec_l21Draw.calls k g327 t324 t325 t326 t328 t331 t332 w _ ?side1 ?side2 A3.out).mono ?_); (case side1 => repeat (first | (with_reducible first | exact HI327.out | apply IsS54.alloc | apply IsS54.drewN | apply IsS54.drew | apply IsS54.set_1 | apply IsS54.set_2) | exact HI327.out)); (case side2 => exact xs HB.out (IsS54.ge HI327.out)); rintro e w5 ⟨v329, rfl, ho0, hi, hb, hk⟩; refine ⟨_, rfl, ?_⟩; have HO330 := ax (Kd.R_lower ho0 (below_size (xs HB.out (IsS54.ge HI327.out)))); replace HB := ax (hb); replace HI327 := ax (hi); (try clear hb); (try clear hb2); (try clear hk); (try clear hi); (try clear ho0)))
 go_ret
 exact ⟨_, xe, xR HO330.out, xs HB.out (IsS54.ge HI327.out)⟩

-- NOT PRINTED: function 36 (impl_vectorOf)

-- NOT PRINTED: function 37 (impl_SchurOfPower_1)

/-! ### impl_SchurOfPower_1__c: function 99 -/
def impl_SchurOfPower_1__c.f (k : Nat) (l0 : List Int) (l1 : List Int) : Option (Int) := (impl_CharacterOf.f k l0 l1).bind fun t334 => (some t334)
theorem impl_SchurOfPower_1__c.mono : ∀ a0 a1 k, LeO (impl_SchurOfPower_1__c.f k a0 a1) (impl_SchurOfPower_1__c.f (k + 1) a0 a1) := by
 intro a0 a1 k
 unfold impl_SchurOfPower_1__c.f
 repeat' with_reducible first | exact impl_CharacterOf.mono _ _ _ | exact xl | refine LeO.ite ?_ ?_ | refine LeO.bind ?_ fun _ => ?_
set_option maxHeartbeats 8000000 in
set_option maxRecDepth 100000 in
theorem impl_SchurOfPower_1__c.calls (k : Nat) (A0 : Option Addr) (c0 : Nat) (l0 : List Int) (g1 : Nat) (A1 : Option Addr) (c1 : Nat) (l1 : List Int) (r : Int) (w : World) (hr0 : Kd.C (Kd.int .i64) w A0 l0.length l0) (hc0 : l0.length ≤ c0) (hb1 : w.heap[g1]? = some (.cells #[.slice A1 l1.length c1] 24 (0, 0))) (hr1 : Kd.C (Kd.int .i64) w A1 l1.length l1) (hc1 : l1.length ≤ c1) (h : impl_SchurOfPower_1__c.f k l0 l1 = some r) :
  Calls Try.prog 37 #[.slice A0 l0.length c0, .pointer (some ⟨g1, 0, none⟩)] w fun e w' => e = .returned (.int .i64 r) ∧ Below w.heap.size w w' := by
 have HR0 := ax hr0
 have HC0 := ax hc0
 clear hr0 hc0
 have HR1 := ax hr1
 have HC1 := ax hc1
 clear hr1 hc1
 have HX1 := ax hb1
 clear hb1
 have HB := ax (Below.refl w.heap.size w)
 have H : ((impl_CharacterOf.f k l0 l1).bind fun t334 => (some t334)) = some r := h
 clear h
 obtain ⟨t334, A3, H⟩ := xI H
 obtain rfl := Option.some.inj H
 have hcz4_0 : w.cell? ⟨g1, 0, none⟩ = some (.slice A1 l1.length c1) := (blk_cell HX1.out 0).trans rfl
 have hfz4_0 := blk_frozen HX1.out 0
 go_enter Try.func37, Try.ntmps37
 go_wp2_with (first | ((with_reducible refine gate_callee (f := 6) rfl ?_); refine goesL_ (some 6) rfl rfl Try.func6 (by kernel_rfl) rfl #[.slice A0 l0.length c0, .slice A1 l1.length c1] rfl xm ?_; (with_reducible refine (impl_CharacterOf.calls k _ _ l0 _ _ l1 t334 _ ?side1 ?side2 ?side3 ?side4 A3.out).mono ?_); (case side1 => exact xc HR0.out); (case side2 => exact HC0.out); (case side3 => exact xc HR1.out); (case side4 => exact HC1.out); rintro e w5 ⟨rfl, hb⟩; refine ⟨_, rfl, ?_⟩; replace HX1 := ax (blk_below (g := g1) (o := .cells #[.slice A1 l1.length c1] 24 (0, 0)) (xk HX1.out) hb); replace HB := ax (below_step (xb HB.out) hb); (try clear hb); (try clear hb2); (try clear hk); (try clear hi)))
 go_ret
 exact ⟨xe, xb HB.out⟩

end Go.Proofs.Ytopmggldaicpaab.PFnCharacters
