import Derived.Test.YtopmggldaicpaacGreatPFnKroneckerx18
namespace Go.Proofs.YtopmggldaicpaacGreat.PFnKronecker
open Go.RowKit Go.Proofs.YtopmggldaicpaacGreatW.PrintWords Go.Proofs.YtopmggldaicpaacGreatW.PrintLast Go.Proofs.YtopmggldaicpaacGreatW.PrintMore
set_option linter.unusedVariables false
set_option linter.unusedSimpArgs false
set_option maxHeartbeats 8000000
set_option maxRecDepth 100000
/-! ### impl_CharacterOf: function 57 -/
mutual
def impl_CharacterOf.j0 : Nat → List Int → List Int → Bool → Option (Int)
 | 0, _, _, _ => none
 | k + 1, x0, x1, x18 => if x18 = true then (some 0) else (if (x1.length : Int) = 0 then (some 1) else (if 0 < (x1.length : Int) then ((impl_RibbonsInside.f k x0 (rd x1 0)).bind fun t584 => (impl_CharacterOf.l0 k x1 0 t584 (t584.length : Int) 0)) else (none)))
def impl_CharacterOf.l0 : Nat → List Int → Int → List (S61) → Int → Int → Option (Int)
 | 0, _, _, _, _, _ => none
 | k + 1, x1, x5, x26, x27, x28 => if x28 < x27 then (if 0 ≤ x28 then (if x28 < (x26.length : Int) then (if 1 ≤ (x1.length : Int) then ((impl_CharacterOf.f k ((rd_T61 x26 x28).f1) (x1.drop 1)).bind fun t590 => ((impl_RibbonHeight.f k ((rd_T61 x26 x28).f0) ((rd_T61 x26 x28).f1)).bind fun t591 => (if (Int.tmod t591 2) = 1 then (impl_CharacterOf.l0 k x1 (wrap64 (x5 + (wrap64 (-t590)))) x26 x27 (wrap64 (x28 + 1))) else (impl_CharacterOf.l0 k x1 (wrap64 (x5 + t590)) x26 x27 (wrap64 (x28 + 1)))))) else (none)) else (none)) else (none)) else (some x5)
def impl_CharacterOf.f : Nat → List Int → List Int → Option (Int)
 | 0, _, _ => none
 | k + 1, l0, l1 => (impl_SizeOf.f k l0).bind fun t580 => ((impl_SizeOf.f k l1).bind fun t581 => (if t580 = t581 then ((impl_SizeOf.f k l0).bind fun t582 => (impl_CharacterOf.j0 k l0 l1 (decide (t582 < 0)))) else (impl_CharacterOf.j0 k l0 l1 true)))
end
theorem impl_CharacterOf.mono_l : ∀ k, (∀ y0 y1, LeO (impl_CharacterOf.f k y0 y1) (impl_CharacterOf.f (k + 1) y0 y1)) ∧ (∀ y0 y1 y2, LeO (impl_CharacterOf.j0 k y0 y1 y2) (impl_CharacterOf.j0 (k + 1) y0 y1 y2)) ∧ (∀ y0 y1 y2 y3 y4, LeO (impl_CharacterOf.l0 k y0 y1 y2 y3 y4) (impl_CharacterOf.l0 (k + 1) y0 y1 y2 y3 y4))
 | 0 => ⟨fun _ _ r h => by simp [impl_CharacterOf.f] at h, fun _ _ _ r h => by simp [impl_CharacterOf.j0] at h, fun _ _ _ _ _ r h => by simp [impl_CharacterOf.l0] at h⟩
 | k + 1 => by
  obtain ⟨ih0, ih1, ih2⟩ := impl_CharacterOf.mono_l k
  refine ⟨?_, ?_, ?_⟩
  ·intro y0 y1
   unfold impl_CharacterOf.f
   repeat' with_reducible first | exact ih0 _ _ | exact ih1 _ _ _ | exact ih2 _ _ _ _ _ | exact impl_RibbonHeight.mono _ _ _ | exact impl_RibbonsInside.mono _ _ _ | exact impl_SizeOf.mono _ _ | exact xl | refine LeO.ite ?_ ?_ | refine LeO.bind ?_ fun _ => ?_
  ·intro y0 y1 y2
   unfold impl_CharacterOf.j0
   repeat' with_reducible first | exact ih0 _ _ | exact ih1 _ _ _ | exact ih2 _ _ _ _ _ | exact impl_RibbonHeight.mono _ _ _ | exact impl_RibbonsInside.mono _ _ _ | exact impl_SizeOf.mono _ _ | exact xl | refine LeO.ite ?_ ?_ | refine LeO.bind ?_ fun _ => ?_
  ·intro y0 y1 y2 y3 y4
   unfold impl_CharacterOf.l0
   repeat' with_reducible first | exact ih0 _ _ | exact ih1 _ _ _ | exact ih2 _ _ _ _ _ | exact impl_RibbonHeight.mono _ _ _ | exact impl_RibbonsInside.mono _ _ _ | exact impl_SizeOf.mono _ _ | exact xl | refine LeO.ite ?_ ?_ | refine LeO.bind ?_ fun _ => ?_
theorem impl_CharacterOf.mono : ∀ a0 a1 k, LeO (impl_CharacterOf.f k a0 a1) (impl_CharacterOf.f (k + 1) a0 a1) := by
 intro a0 a1 k
 obtain ⟨ih0, ih1, ih2⟩ := impl_CharacterOf.mono_l k
 exact ih0 a0 a1
theorem impl_CharacterOf.calls (k : Nat) : ∀ (A0 : Option Addr) (c0 : Nat) (l0 : List Int) (A1 : Option Addr) (c1 : Nat) (l1 : List Int) (r : Int) (w : World) (hr0 : Kd.C (Kd.int .i64) w A0 l0.length l0) (hc0 : l0.length ≤ c0) (hr1 : Kd.C (Kd.int .i64) w A1 l1.length l1) (hc1 : l1.length ≤ c1) (h : impl_CharacterOf.f k l0 l1 = some r),
  Calls Tryz.prog 57 #[.slice A0 l0.length c0, .slice A1 l1.length c1] w fun e w' => e = .returned (.int .i64 r) ∧ Below w.heap.size w w' := by
 induction k using Nat.strongRecOn with
 | _ k ih =>
 intro A0 c0 l0 A1 c1 l1 r w hr0 hc0 hr1 hc1 h
 cases k with
 | zero => exact absurd h (by simp [impl_CharacterOf.f])
 | succ k =>
 simp only [impl_CharacterOf.f] at h
 have hu61 := Tryz.underlying61
 have HR0 := ax hr0
 have HC0 := ax hc0
 clear hr0 hc0
 have HR1 := ax hr1
 have HC1 := ax hc1
 clear hr1 hc1
 have HB := ax (Below.refl w.heap.size w)
 have H : ((impl_SizeOf.f k l0).bind fun t580 => ((impl_SizeOf.f k l1).bind fun t581 => (if t580 = t581 then ((impl_SizeOf.f k l0).bind fun t582 => (impl_CharacterOf.j0 k l0 l1 (decide (t582 < 0)))) else (impl_CharacterOf.j0 k l0 l1 true)))) = some r := h
 clear h
 have HC3 := ax H
 clear H
 go_enter Tryz.func57, Tryz.ntmps57
 go_upto_region 1 with (fail)
 go_cut [18] (fun v18 wc => ∃ (kq : Nat) (x18_2 : Bool), v18 = .bool x18_2 ∧ Aside0 (impl_CharacterOf.j0 kq l0 l1 x18_2 = some r) ∧ Aside0 (kq ≤ k) ∧ Aside0 (Below w.heap.size w wc))
 case first =>
  have H := HC3.out
  clear HC3
  obtain ⟨t580, A4, H⟩ := xI H
  obtain ⟨t581, A5, H⟩ := xI H
  by_cases c6 : t580 = t581
  ·rw [if_pos c6] at H
   have c6b0 : (t580 == t581) = true := beq_iff_eq.mpr c6
   have c6b1 : (t580 != t581) = false := bne_eq_false_iff_eq.mpr c6
   clear c6
   (first | rw [c6b0] | (simp only [i64_w, i32_w]; rw [c6b0]) | skip)
   obtain ⟨t582, A7, H⟩ := xI H
   have H' := ax H
   clear H
   go_wp2_with (first | ((with_reducible refine gate_callee (f := 54) rfl ?_); refine goesL_ (some 10) rfl rfl Tryz.func54 (by kernel_rfl) rfl #[.slice A0 l0.length c0] rfl xm ?_; (with_reducible refine (impl_SizeOf.calls k _ _ l0 t580 _ ?side1 ?side2 A4.out).mono ?_); (case side1 => exact xz HR0.out HB.out); (case side2 => exact HC0.out); rintro e w' ⟨rfl, ⟨nd, rfl⟩⟩; refine ⟨_, rfl, ?_⟩) | ((with_reducible refine gate_callee (f := 54) rfl ?_); refine goesL_ (some 12) rfl rfl Tryz.func54 (by kernel_rfl) rfl #[.slice A1 l1.length c1] rfl xm ?_; (with_reducible refine (impl_SizeOf.calls k _ _ l1 t581 _ ?side1 ?side2 A5.out).mono ?_); (case side1 => exact xc (Kd.C_below HR1.out (xb HB.out))); (case side2 => exact HC1.out); rintro e w' ⟨rfl, ⟨nd, rfl⟩⟩; refine ⟨_, rfl, ?_⟩) | (go_at_call 54; (with_reducible refine (impl_SizeOf.calls k _ _ l0 t582 _ ?side1 ?side2 A7.out).mono ?_); (case side1 => exact xc (Kd.C_below HR0.out (xb HB.out))); (case side2 => exact HC0.out); rintro e w' ⟨rfl, ⟨nd, rfl⟩⟩))
   go_meet
   case rel => exact ⟨_, (decide (t582 < 0)), xr, H', ⟨by first | omega | exact Nat.le_refl _⟩, ⟨xb HB.out⟩⟩
  ·rw [if_neg c6] at H
   have c6b0 : (t580 == t581) = false := beq_eq_false_iff_ne.mpr c6
   have c6b1 : (t580 != t581) = true := bne_iff_ne.mpr c6
   (first | rw [c6b0] | (simp only [i64_w, i32_w]; rw [c6b0]) | skip)
   have H' := ax H
   clear H
   go_wp2_with (first | ((with_reducible refine gate_callee (f := 54) rfl ?_); refine goesL_ (some 10) rfl rfl Tryz.func54 (by kernel_rfl) rfl #[.slice A0 l0.length c0] rfl xm ?_; (with_reducible refine (impl_SizeOf.calls k _ _ l0 t580 _ ?side1 ?side2 A4.out).mono ?_); (case side1 => exact xz HR0.out HB.out); (case side2 => exact HC0.out); rintro e w' ⟨rfl, ⟨nd, rfl⟩⟩; refine ⟨_, rfl, ?_⟩) | ((with_reducible refine gate_callee (f := 54) rfl ?_); refine goesL_ (some 12) rfl rfl Tryz.func54 (by kernel_rfl) rfl #[.slice A1 l1.length c1] rfl xm ?_; (with_reducible refine (impl_SizeOf.calls k _ _ l1 t581 _ ?side1 ?side2 A5.out).mono ?_); (case side1 => exact xc (Kd.C_below HR1.out (xb HB.out))); (case side2 => exact HC1.out); rintro e w' ⟨rfl, ⟨nd, rfl⟩⟩; refine ⟨_, rfl, ?_⟩))
   go_meet
   case rel => exact ⟨_, (true), xr, H', ⟨by first | omega | exact Nat.le_refl _⟩, ⟨xb HB.out⟩⟩
 case rest =>
  clear HC3
  (try clear c1); (try clear c6); (try clear c6b0); (try clear c6b1)
  obtain ⟨kq, x18_2, rfl, HA, HJ2, HB⟩ := hcut
  cases kq with
  | zero => exact absurd HA.out (by simp [impl_CharacterOf.j0])
  | succ kj2 =>
   have H := HA.out
   clear HA
   simp only [impl_CharacterOf.j0] at H
   by_cases c8 : x18_2 = true
   ·subst c8
    rw [if_pos rfl] at H
    obtain rfl := Option.some.inj H
    go_wp2
    go_ret
    exact ⟨xe, xb HB.out⟩
   ·replace c8 := Bool.eq_false_iff.mpr c8
    subst c8
    rw [if_neg (show ¬ (false = true) by decide)] at H
    by_cases c9 : (l1.length : Int) = 0
    ·rw [if_pos c9] at H
     have c9b0 : ((l1.length : Int) == 0) = true := beq_iff_eq.mpr c9
     have c9b1 : ((l1.length : Int) != 0) = false := bne_eq_false_iff_eq.mpr c9
     clear c9
     obtain rfl := Option.some.inj H
     go_wp2
     go_ret
     exact ⟨xe, xb HB.out⟩
    ·rw [if_neg c9] at H
     have c9b0 : ((l1.length : Int) == 0) = false := beq_eq_false_iff_ne.mpr c9
     have c9b1 : ((l1.length : Int) != 0) = true := bne_iff_ne.mpr c9
     have c9b2 : ¬ (l1 = []) := fun h_ => c9 (by rw [h_]; rfl)
     obtain ⟨c10, H⟩ := xp H
     have c10b0 := decide_eq_true c10
     have c10b1 : decide (0 < l1.length) = true := decide_eq_true (by omega)
     clear c10
     obtain ⟨t584, A11, H⟩ := xI H
     have H' := ax H
     clear H
     have p583 : 0 ≤ (0 : Int) := (by omega)
     have q583 : 0 < (l1.length : Int) := xd
     obtain ⟨ad583, e583, hx583_0⟩ := Kd.at_int HR1.out 0 p583 q583
     cases e583
     have qi583 : (0 < l1.length) = True := eq_true (by omega)
     (try rw [show ((0 : Int)).toNat = 0 from rfl] at hx583_0)
     (try rw [Addr.add_zero'] at hx583_0)
     (try replace hx583_0 := (HB.out.cell (World.block_lt_of_cell? w _ hx583_0)).trans hx583_0)
     replace p583 := eq_true p583
     replace q583 := eq_true q583
     go_wp2_with (first | ((with_reducible refine gate_callee (f := 82) rfl ?_); refine goesL_ (some 26) rfl rfl Tryz.func82 (by kernel_rfl) rfl #[.slice A0 l0.length c0, .int .i64 (rd l1 0)] rfl xm ?_; (with_reducible refine (impl_RibbonsInside.calls kj2 _ _ l0 (rd l1 0) t584 _ ?side1 ?side2 A11.out).mono ?_); (case side1 => exact xz HR0.out HB.out); (case side2 => exact HC0.out); rintro e w12 ⟨v585, rfl, ho0, hb⟩; refine ⟨_, rfl, ?_⟩; have HO586 := ax (Kd.N_lower (Kd.N_mono (ok' := fun k_ => True) ho0 (fun k_ hk_ => trivial)) (below_size (xb HB.out))); replace HB := yB HB hb; (try clear hb); (try clear ho0); obtain ⟨Ao13, co13, eo13⟩ := Kd.N_slice HO586.out; subst eo13))
     go_loopg [5, 28] kj2 (fun kq v5 v28 w' => ∃ (x5_2 : Int) (x28_2 : Int), v5 = .int .i64 x5_2 ∧ v28 = .int .i64 x28_2 ∧ Aside0 (impl_CharacterOf.l0 kq l1 x5_2 t584 (t584.length : Int) x28_2 = some r) ∧ Aside0 (kq ≤ kj2) ∧ Aside0 (Kd.N k61 61 w' w.heap.size (fun _ => True) (.slice Ao13 t584.length co13) t584) ∧ Aside0 (Below w.heap.size w w'))
     case atStart => exact ⟨(0), (0), xr, xr, H', ⟨Nat.le_refl _⟩, ⟨xN HO586.out⟩, ⟨xb HB.out⟩⟩
     case round =>
      clear H'
      (try clear c1); (try clear c6); (try clear c6b0); (try clear c6b1); (try clear c8); (try clear c9); (try clear c9b0); (try clear c9b1); (try clear c9b2); (try clear c10); (try clear c10b0); (try clear c10b1); (try clear hx583_0); (try clear p583); (try clear q583)
      obtain ⟨x5_2, x28_2, rfl, rfl, HA, HK2, HO_26, HB⟩ := hrel
      cases gk with
      | zero => exact absurd HA.out (by simp [impl_CharacterOf.l0])
      | succ k2 =>
       have H := HA.out
       clear HA
       simp only [impl_CharacterOf.l0] at H
       by_cases c14 : x28_2 < (t584.length : Int)
       ·rw [if_pos c14] at H
        have c14b0 := decide_eq_true c14
        clear c14
        obtain ⟨c15b0, H⟩ := xq H
        obtain ⟨c16b0, H⟩ := xq H
        obtain ⟨c17, H⟩ := xp H
        have c17b0 := eq_true c17
        have c17b1 := decide_eq_true c17
        clear c17
        obtain ⟨t590, A18, H⟩ := xI H
        obtain ⟨t591, A19, H⟩ := xI H
        by_cases c20 : (Int.tmod t591 2) = 1
        ·rw [if_pos c20] at H
         have c20b0 : ((Int.tmod t591 2) == 1) = true := beq_iff_eq.mpr c20
         have c20b1 : ((Int.tmod t591 2) != 1) = false := bne_eq_false_iff_eq.mpr c20
         clear c20
         have H' := ax H
         clear H
         have p587 : 0 ≤ (x28_2 : Int) := xd
         have q587 : x28_2 < (t584.length : Int) := xd
         obtain ⟨ad587, A587_0, c587_0, A587_1, c587_1, e587, hx587_0, hx587_1, hl587_0, hi587_0, hl587_1, hi587_1⟩ := at_T61 (Kd.N_reads' HO_26.out).2.2 x28_2 p587 q587
         cases e587
         obtain ⟨ce587, hce587, hMe587, hcc587⟩ := Kd.N_get HO_26.out z61 x28_2 p587 (by first | exact q587 | exact xd | (have e_ := (Kd.N_reads' HO_26.out).1; omega))
         obtain ⟨ua587_0, uc587_0, ua587_1, uc587_1, rfl, ul587_0, ge587_0, ul587_1, ge587_1⟩ := k61_openF hMe587
         have hv587_0 := hcc587 0 _ rfl
         rw [Nat.add_zero] at hv587_0
         replace hv587_0 := Option.some.inj (hv587_0.symm.trans hx587_0)
         injection hv587_0 with hva_ hvn_ hvc_
         rw [hva_] at ge587_0
         rw [hvc_] at ul587_0
         have HL587_0 := ax (show Kd.V (Kd.int .i64) 3 _ w.heap.size _ _ ((rd_T61 t584 x28_2).f0) from Kd.V_mk ul587_0 ge587_0)
         clear hva_ hvn_ hvc_ ge587_0 ul587_0
         have hv587_1 := hcc587 1 _ rfl
         rw [add_field _ _ 1 (by omega)] at hv587_1
         replace hv587_1 := Option.some.inj (hv587_1.symm.trans hx587_1)
         injection hv587_1 with hva_ hvn_ hvc_
         rw [hva_] at ge587_1
         rw [hvc_] at ul587_1
         have HL587_1 := ax (show Kd.V (Kd.int .i64) 3 _ w.heap.size _ _ ((rd_T61 t584 x28_2).f1) from Kd.V_mk ul587_1 ge587_1)
         clear hva_ hvn_ hvc_ ge587_1 ul587_1 hcc587 hce587
         have HR587_0 := ax hi587_0
         have HC587_0 := ax hl587_0
         clear hi587_0 hl587_0
         have HR587_1 := ax hi587_1
         have HC587_1 := ax hl587_1
         clear hi587_1 hl587_1
         replace p587 := eq_true p587
         replace q587 := eq_true q587
         try go_wp2_with (first | ((with_reducible refine gate_dst (N := 7) rfl ?_); refine box_event ?hg (N := 7) ?hd (cs := #[.slice none 0 0, .slice none 0 0]) (t := 61) ?hr ?_; (case hd => rfl); (case hg => rfl); (case hr => first | (go_simp; done) | (go_simp; rfl)); intro gb588 hg w21 hbox hb; replace HO_26 := ax (Kd.N_below (Kd.N_elderB (xN HO_26.out) gb588 (Nat.le_of_eq hg.symm)) hb); replace HL587_0 := ax (Kd.V_below (Kd.V_elderB (xV HL587_0.out) gb588 (Nat.le_of_eq hg.symm)) hb); replace HL587_1 := ax (Kd.V_below (Kd.V_elderB (xV HL587_1.out) gb588 (Nat.le_of_eq hg.symm)) hb); replace HR587_0 := ax (Kd.C_below (xw HR587_0.out) hb); replace HR587_1 := ax (Kd.C_below (xw HR587_1.out) hb); have BK588 := ax (hbox); have GW588 := ax ((by rw [hg]; exact (below_size (xb HB.out)) : w.heap.size ≤ gb588)); have GE588 := ax ((by rw [hg]; exact (below_size (xb HB.out)) : w.heap.size ≤ gb588)); replace HB := yB HB hb; clear hb hbox hg; have hcz22_0 : w21.cell? ⟨gb588, 0, none⟩ = some (.slice none 0 0) := (blk_cell BK588.out 0).trans rfl; have hcz22_1 : w21.cell? ⟨gb588, 1, none⟩ = some (.slice none 0 0) := (blk_cell BK588.out 1).trans rfl; have hfz22_0 := blk_frozen BK588.out 0; have hfz22_1 := blk_frozen BK588.out 1))
         have n0_ : Aside0 (Kd.N k61 61 ((w21.setCell ⟨gb588, 0, none⟩ (.slice A587_0 ((rd_T61 t584 x28_2).f0).length c587_0)).setCell ⟨gb588, 1, none⟩ (.slice A587_1 ((rd_T61 t584 x28_2).f1).length c587_1)) w.heap.size (fun k_ => k_ ≠ gb588) (.slice (some ad587) t584.length co13) t584) := ⟨by (with_reducible repeat (first | apply Kd.N_alloc | apply Kd.N_drewN | apply Kd.N_drew)); exact Kd.N_mono (Kd.N_far (p := ⟨gb588, 1, none⟩) (Kd.N_far (p := ⟨gb588, 0, none⟩) (Kd.N_mono HO_26.out (fun k_ hk => (⟨hk, hk.2⟩ : _ ∧ k_ ≠ gb588))) (fun _ hk => hk.2) (.slice A587_0 ((rd_T61 t584 x28_2).f0).length c587_0)) (fun _ hk => hk.2) (.slice A587_1 ((rd_T61 t584 x28_2).f1).length c587_1)) (fun _ hk => hk.1.2)⟩
         have n1_ : Aside0 (Kd.V (Kd.int .i64) 3 ((w21.setCell ⟨gb588, 0, none⟩ (.slice A587_0 ((rd_T61 t584 x28_2).f0).length c587_0)).setCell ⟨gb588, 1, none⟩ (.slice A587_1 ((rd_T61 t584 x28_2).f1).length c587_1)) w.heap.size (fun k_ => some k_ ≠ (.slice (some ad587) t584.length co13 : Value).ownBlock ∧ k_ ≠ gb588) (.slice A587_0 ((rd_T61 t584 x28_2).f0).length c587_0) ((rd_T61 t584 x28_2).f0)) := ⟨by (with_reducible repeat (first | apply Kd.V_alloc | apply Kd.V_drewN | apply Kd.V_drew)); exact Kd.V_mono (Kd.V_far (p := ⟨gb588, 1, none⟩) (Kd.V_far (p := ⟨gb588, 0, none⟩) (Kd.V_mono HL587_0.out (fun k_ hk => (⟨hk, hk.2⟩ : _ ∧ k_ ≠ gb588))) (fun _ hk => hk.2) (.slice A587_0 ((rd_T61 t584 x28_2).f0).length c587_0)) (fun _ hk => hk.2) (.slice A587_1 ((rd_T61 t584 x28_2).f1).length c587_1)) (fun _ hk => ⟨hk.1.1.2, hk.1.2⟩)⟩
         have n2_ : Aside0 (Kd.V (Kd.int .i64) 3 ((w21.setCell ⟨gb588, 0, none⟩ (.slice A587_0 ((rd_T61 t584 x28_2).f0).length c587_0)).setCell ⟨gb588, 1, none⟩ (.slice A587_1 ((rd_T61 t584 x28_2).f1).length c587_1)) w.heap.size (fun k_ => some k_ ≠ (.slice (some ad587) t584.length co13 : Value).ownBlock ∧ k_ ≠ gb588) (.slice A587_1 ((rd_T61 t584 x28_2).f1).length c587_1) ((rd_T61 t584 x28_2).f1)) := ⟨by (with_reducible repeat (first | apply Kd.V_alloc | apply Kd.V_drewN | apply Kd.V_drew)); exact Kd.V_mono (Kd.V_far (p := ⟨gb588, 1, none⟩) (Kd.V_far (p := ⟨gb588, 0, none⟩) (Kd.V_mono HL587_1.out (fun k_ hk => (⟨hk, hk.2⟩ : _ ∧ k_ ≠ gb588))) (fun _ hk => hk.2) (.slice A587_0 ((rd_T61 t584 x28_2).f0).length c587_0)) (fun _ hk => hk.2) (.slice A587_1 ((rd_T61 t584 x28_2).f1).length c587_1)) (fun _ hk => ⟨hk.1.1.2, hk.1.2⟩)⟩
         have n3_ : Aside0 (((w21.setCell ⟨gb588, 0, none⟩ (.slice A587_0 ((rd_T61 t584 x28_2).f0).length c587_0)).setCell ⟨gb588, 1, none⟩ (.slice A587_1 ((rd_T61 t584 x28_2).f1).length c587_1)).heap[gb588]? = some (.cells #[.slice A587_0 ((rd_T61 t584 x28_2).f0).length c587_0, .slice A587_1 ((rd_T61 t584 x28_2).f1).length c587_1] 61 (0, 0))) := ⟨by (with_reducible repeat (first | refine blk_drewN ?_ _ | refine blk_drew ?_ | refine blk_alloc ?_ _)); refine blk_put (cs := #[.slice A587_0 ((rd_T61 t584 x28_2).f0).length c587_0, .slice none 0 0]) ?_ 1 _ rfl; (with_reducible repeat (first | refine blk_drewN ?_ _ | refine blk_drew ?_ | refine blk_alloc ?_ _)); refine blk_put (cs := #[.slice none 0 0, .slice none 0 0]) ?_ 0 _ rfl; (with_reducible repeat (first | refine blk_drewN ?_ _ | refine blk_drew ?_ | refine blk_alloc ?_ _)); exact BK588.out⟩
         have n4_ : Aside0 (Below w.heap.size w ((w21.setCell ⟨gb588, 0, none⟩ (.slice A587_0 ((rd_T61 t584 x28_2).f0).length c587_0)).setCell ⟨gb588, 1, none⟩ (.slice A587_1 ((rd_T61 t584 x28_2).f1).length c587_1))) := ⟨xs HB.out GE588.out⟩
         (try clear HO_26)
         (try clear HL587_0)
         (try clear HL587_1)
         (try clear BK588)
         (try clear HB)
         generalize ((w21.setCell ⟨gb588, 0, none⟩ (.slice A587_0 ((rd_T61 t584 x28_2).f0).length c587_0)).setCell ⟨gb588, 1, none⟩ (.slice A587_1 ((rd_T61 t584 x28_2).f1).length c587_1)) = w23 at n0_ n1_ n2_ n3_ n4_ ⊢
         have HO_26 := n0_
         have HL587_0 := n1_
         have HL587_1 := n2_
         have BK588 := n3_
         have HB := n4_
         clear n0_ n1_ n2_ n3_ n4_
         replace HO_26 := ax (Kd.N_drew HO_26.out); replace HL587_0 := ax (Kd.V_drew HL587_0.out); replace HL587_1 := ax (Kd.V_drew HL587_1.out); replace BK588 := ax (blk_drew BK588.out); replace HB := ax (below_drew1 HB.out)
         obtain ⟨i025, hi025, _, hsz25, _⟩ := info_parts info3
         obtain ⟨A25, hcut25, hA25, hC25⟩ := print_drop_of (P := Tryz.prog) (Value.int .i64) 0 24 3 .i64 Tryz.underlying24 hi025 hsz25 (some ad583) c1 l1 1 (by omega) (xd) HC1.out
         have HR589 := ax (Kd.C_of_reads (h1 := fun _ => rfl) (hA25 _ (Kd.reads_of_C HR1.out)))
         have HC589 := ax hC25
         clear hA25 hC25 hi025 hsz25
         refine start_ (n := 6) (S := fun w' => w'.cell? ⟨gb588, 0, none⟩ = some (.slice A587_0 ((rd_T61 t584 x28_2).f0).length c587_0) ∧ w'.cell? ⟨gb588, 1, none⟩ = some (.slice A587_1 ((rd_T61 t584 x28_2).f1).length c587_1)) (ds := []) (xB 6 0) (by kernel_rfl) rfl (by kernel_rfl) ⟨(blk_cell BK588.out 0).trans rfl, (blk_cell BK588.out 1).trans rfl⟩ (fun hHeld => ?_)
         generalize w23.drew = w24 at HO_26 HL587_0 HL587_1 BK588 HB HR589 hHeld ⊢
         refine pure_ (i := 0) (N := some 32) (v := ?_) (a' := ?_) (xB 6 1) rfl rfl (by kernel_rfl) (fun _ _ _ h => h) (Or.inl ⟨by rfl, ?_⟩) ?_ ?_
         rotate_left
         ·intro w'
          go_simp
          with_reducible rfl
         rotate_left
         ·simp only [Act.put, List.setIfInBounds_toArray, List.set_cons_zero, List.set_cons_succ, i64_w, i32_w]
          rfl
         refine pure_ (i := 2) (N := some 34) (v := ?_) (a' := ?_) (xB 6 5) rfl rfl (by kernel_rfl) (fun _ _ _ h => h) (Or.inl ⟨by rfl, ?_⟩) ?_ ?_
         rotate_left
         ·intro w'
          go_simp
          with_reducible rfl
         rotate_left
         ·simp only [Act.put, List.setIfInBounds_toArray, List.set_cons_zero, List.set_cons_succ, i64_w, i32_w]
          rfl
         refine pure_ (i := 3) (N := some 35) (v := ?_) (a' := ?_) (xB 6 13) rfl rfl (by kernel_rfl) (fun _ _ _ h => h) (Or.inl ⟨by rfl, ?_⟩) ?_ ?_
         rotate_left
         ·intro w'
          go_simp
          with_reducible rfl
         rotate_left
         ·simp only [Act.put, List.setIfInBounds_toArray, List.set_cons_zero, List.set_cons_succ, i64_w, i32_w]
          rfl
         refine take_ (i := 1) (N := some 33) (v := ?_) (a' := ?_) (xB 6 15) rfl rfl (by kernel_rfl) (fun _ _ _ h => h) (Or.inl ⟨by rfl, ?_⟩) hHeld ?_ ?_
         rotate_left
         ·rintro w' ⟨s0, s1⟩
          go_simp
          with_reducible rfl
         rotate_left
         ·simp only [Act.put, List.setIfInBounds_toArray, List.set_cons_zero, List.set_cons_succ, i64_w, i32_w]
          rfl
         refine one_ (i := 4) (N := some 36) (xB 6 31) rfl rfl (by kernel_rfl) (by decide) (fun K hK => ?_)
         refine goes_ Tryz.func57 (by kernel_rfl) rfl #[.slice A587_1 ((rd_T61 t584 x28_2).f1).length c587_1, .slice A25 (l1.drop 1).length (c1 - 1)] (by rfl) rfl rfl (by (try simp only [List.map_toArray, List.map_cons, List.map_nil]); first | done | (rw [show (l1.drop 1).length = (l1.length - 1) from List.length_drop] <;> rfl) | rfl | (simp only [List.length_drop, List.length_take]; rfl)) ?_
         with_reducible refine (ih k2 (by have := HJ2.out; have := HK2.out; omega) _ _ ((rd_T61 t584 x28_2).f1) _ _ (l1.drop 1) t590 _ ?side1 ?side2 ?side3 ?side4 A18.out).mono ?_
         (case side1 => repeat (first | exact ((Kd.V_reads' (xV HL587_1.out)).2.2) | (with_reducible refine Kd.C_alloc ?_ _) | (with_reducible refine Kd.C_drewN ?_ _) | (with_reducible refine Kd.C_drew ?_)))
         (case side2 => exact HC587_1.out)
         (case side3 => exact xz HR589.out HB.out)
         (case side4 => exact HC589.out)
         rintro e w26 ⟨rfl, hb⟩
         refine ⟨_, rfl, ?_⟩
         replace HO_26 := ax (Kd.N_below (xN HO_26.out) hb); replace HL587_0 := yV HL587_0 hb; replace HL587_1 := yV HL587_1 hb; replace BK588 := ax (blk_below (g := gb588) (o := .cells #[.slice A587_0 ((rd_T61 t584 x28_2).f0).length c587_0, .slice A587_1 ((rd_T61 t584 x28_2).f1).length c587_1] 61 (0, 0)) (xk BK588.out) hb); replace HB := ax (below_step (xs HB.out GE588.out) hb)
         (try clear hb)
         (try clear hk)
         refine hK.out _ _ ⟨(blk_cell BK588.out 0).trans rfl, (blk_cell BK588.out 1).trans rfl⟩ (fun hHeld => ?_)
         clear hK K
         refine nm ?_
         refine pure_ (i := 5) (N := some 8) (v := ?_) (a' := ?_) (xB 6 63) rfl rfl (by kernel_rfl) (fun _ _ _ h => h) (Or.inl ⟨by rfl, ?_⟩) ?_ ?_
         rotate_left
         ·intro w'
          go_simp
          with_reducible rfl
         rotate_left
         ·simp only [Act.put, List.setIfInBounds_toArray, List.set_cons_zero, List.set_cons_succ, i64_w, i32_w]
          rfl
         refine done_ (by kernel_rfl) ?_
         have hcz27_0 : w26.cell? ⟨gb588, 0, none⟩ = some (.slice A587_0 ((rd_T61 t584 x28_2).f0).length c587_0) := (blk_cell BK588.out 0).trans rfl
         have hcz27_1 : w26.cell? ⟨gb588, 1, none⟩ = some (.slice A587_1 ((rd_T61 t584 x28_2).f1).length c587_1) := (blk_cell BK588.out 1).trans rfl
         have hfz27_0 := blk_frozen BK588.out 0
         have hfz27_1 := blk_frozen BK588.out 1
         try go_wp2_with (first | ((with_reducible refine gate_callee (f := 83) rfl ?_); refine goesL_ (some 38) rfl rfl Tryz.func83 (by kernel_rfl) rfl #[.agg #[.slice A587_0 ((rd_T61 t584 x28_2).f0).length c587_0, .slice A587_1 ((rd_T61 t584 x28_2).f1).length c587_1]] rfl xm ?_; (with_reducible refine (impl_RibbonHeight.calls k2 _ _ ((rd_T61 t584 x28_2).f0) _ _ ((rd_T61 t584 x28_2).f1) t591 _ ?side1 ?side2 ?side3 ?side4 A19.out).mono ?_); (case side1 => repeat (first | exact ((Kd.V_reads' (xV HL587_0.out)).2.2) | (with_reducible refine Kd.C_alloc ?_ _) | (with_reducible refine Kd.C_drewN ?_ _) | (with_reducible refine Kd.C_drew ?_))); (case side2 => exact HC587_0.out); (case side3 => repeat (first | exact ((Kd.V_reads' (xV HL587_1.out)).2.2) | (with_reducible refine Kd.C_alloc ?_ _) | (with_reducible refine Kd.C_drewN ?_ _) | (with_reducible refine Kd.C_drew ?_))); (case side4 => exact HC587_1.out); rintro e w28 ⟨rfl, hb⟩; refine ⟨_, rfl, ?_⟩; replace HO_26 := ax (Kd.N_below (xN HO_26.out) hb); replace HL587_0 := yV HL587_0 hb; replace HL587_1 := yV HL587_1 hb; replace BK588 := ax (blk_below (g := gb588) (o := .cells #[.slice A587_0 ((rd_T61 t584 x28_2).f0).length c587_0, .slice A587_1 ((rd_T61 t584 x28_2).f1).length c587_1] 61 (0, 0)) (xk BK588.out) hb); replace HB := ax (below_step (xs HB.out GE588.out) hb); (try clear hb)))
         go_roundg k2
         case measure => have := HJ2.out; have := HK2.out; omega
         case rel => exact ⟨(wrap64 (x5_2 + (wrap64 (-t590)))), (wrap64 (x28_2 + 1)), xr, xr, H', ⟨by have := HJ2.out; have := HK2.out; omega⟩, ⟨by (with_reducible repeat (first | apply Kd.N_alloc | apply Kd.N_drewN | apply Kd.N_drew)); exact Kd.N_mono HO_26.out (fun _ hk => trivial)⟩, ⟨xs HB.out GE588.out⟩⟩
        ·rw [if_neg c20] at H
         have c20b0 : ((Int.tmod t591 2) == 1) = false := beq_eq_false_iff_ne.mpr c20
         have c20b1 : ((Int.tmod t591 2) != 1) = true := bne_iff_ne.mpr c20
         have H' := ax H
         clear H
         have p587 : 0 ≤ (x28_2 : Int) := xd
         have q587 : x28_2 < (t584.length : Int) := xd
         obtain ⟨ad587, A587_0, c587_0, A587_1, c587_1, e587, hx587_0, hx587_1, hl587_0, hi587_0, hl587_1, hi587_1⟩ := at_T61 (Kd.N_reads' HO_26.out).2.2 x28_2 p587 q587
         cases e587
         obtain ⟨ce587, hce587, hMe587, hcc587⟩ := Kd.N_get HO_26.out z61 x28_2 p587 (by first | exact q587 | exact xd | (have e_ := (Kd.N_reads' HO_26.out).1; omega))
         obtain ⟨ua587_0, uc587_0, ua587_1, uc587_1, rfl, ul587_0, ge587_0, ul587_1, ge587_1⟩ := k61_openF hMe587
         have hv587_0 := hcc587 0 _ rfl
         rw [Nat.add_zero] at hv587_0
         replace hv587_0 := Option.some.inj (hv587_0.symm.trans hx587_0)
         injection hv587_0 with hva_ hvn_ hvc_
         rw [hva_] at ge587_0
         rw [hvc_] at ul587_0
         have HL587_0 := ax (show Kd.V (Kd.int .i64) 3 _ w.heap.size _ _ ((rd_T61 t584 x28_2).f0) from Kd.V_mk ul587_0 ge587_0)
         clear hva_ hvn_ hvc_ ge587_0 ul587_0
         have hv587_1 := hcc587 1 _ rfl
         rw [add_field _ _ 1 (by omega)] at hv587_1
         replace hv587_1 := Option.some.inj (hv587_1.symm.trans hx587_1)
         injection hv587_1 with hva_ hvn_ hvc_
         rw [hva_] at ge587_1
         rw [hvc_] at ul587_1
         have HL587_1 := ax (show Kd.V (Kd.int .i64) 3 _ w.heap.size _ _ ((rd_T61 t584 x28_2).f1) from Kd.V_mk ul587_1 ge587_1)
         clear hva_ hvn_ hvc_ ge587_1 ul587_1 hcc587 hce587
         have HR587_0 := ax hi587_0
         have HC587_0 := ax hl587_0
         clear hi587_0 hl587_0
         have HR587_1 := ax hi587_1
         have HC587_1 := ax hl587_1
         clear hi587_1 hl587_1
         replace p587 := eq_true p587
         replace q587 := eq_true q587
         try go_wp2_with (first | ((with_reducible refine gate_dst (N := 7) rfl ?_); refine box_event ?hg (N := 7) ?hd (cs := #[.slice none 0 0, .slice none 0 0]) (t := 61) ?hr ?_; (case hd => rfl); (case hg => rfl); (case hr => first | (go_simp; done) | (go_simp; rfl)); intro gb588 hg w29 hbox hb; replace HO_26 := ax (Kd.N_below (Kd.N_elderB (xN HO_26.out) gb588 (Nat.le_of_eq hg.symm)) hb); replace HL587_0 := ax (Kd.V_below (Kd.V_elderB (xV HL587_0.out) gb588 (Nat.le_of_eq hg.symm)) hb); replace HL587_1 := ax (Kd.V_below (Kd.V_elderB (xV HL587_1.out) gb588 (Nat.le_of_eq hg.symm)) hb); replace HR587_0 := ax (Kd.C_below (xw HR587_0.out) hb); replace HR587_1 := ax (Kd.C_below (xw HR587_1.out) hb); have BK588 := ax (hbox); have GW588 := ax ((by rw [hg]; exact (below_size (xb HB.out)) : w.heap.size ≤ gb588)); have GE588 := ax ((by rw [hg]; exact (below_size (xb HB.out)) : w.heap.size ≤ gb588)); replace HB := yB HB hb; clear hb hbox hg; have hcz30_0 : w29.cell? ⟨gb588, 0, none⟩ = some (.slice none 0 0) := (blk_cell BK588.out 0).trans rfl; have hcz30_1 : w29.cell? ⟨gb588, 1, none⟩ = some (.slice none 0 0) := (blk_cell BK588.out 1).trans rfl; have hfz30_0 := blk_frozen BK588.out 0; have hfz30_1 := blk_frozen BK588.out 1))
         have n0_ : Aside0 (Kd.N k61 61 ((w29.setCell ⟨gb588, 0, none⟩ (.slice A587_0 ((rd_T61 t584 x28_2).f0).length c587_0)).setCell ⟨gb588, 1, none⟩ (.slice A587_1 ((rd_T61 t584 x28_2).f1).length c587_1)) w.heap.size (fun k_ => k_ ≠ gb588) (.slice (some ad587) t584.length co13) t584) := ⟨by (with_reducible repeat (first | apply Kd.N_alloc | apply Kd.N_drewN | apply Kd.N_drew)); exact Kd.N_mono (Kd.N_far (p := ⟨gb588, 1, none⟩) (Kd.N_far (p := ⟨gb588, 0, none⟩) (Kd.N_mono HO_26.out (fun k_ hk => (⟨hk, hk.2⟩ : _ ∧ k_ ≠ gb588))) (fun _ hk => hk.2) (.slice A587_0 ((rd_T61 t584 x28_2).f0).length c587_0)) (fun _ hk => hk.2) (.slice A587_1 ((rd_T61 t584 x28_2).f1).length c587_1)) (fun _ hk => hk.1.2)⟩
         have n1_ : Aside0 (Kd.V (Kd.int .i64) 3 ((w29.setCell ⟨gb588, 0, none⟩ (.slice A587_0 ((rd_T61 t584 x28_2).f0).length c587_0)).setCell ⟨gb588, 1, none⟩ (.slice A587_1 ((rd_T61 t584 x28_2).f1).length c587_1)) w.heap.size (fun k_ => some k_ ≠ (.slice (some ad587) t584.length co13 : Value).ownBlock ∧ k_ ≠ gb588) (.slice A587_0 ((rd_T61 t584 x28_2).f0).length c587_0) ((rd_T61 t584 x28_2).f0)) := ⟨by (with_reducible repeat (first | apply Kd.V_alloc | apply Kd.V_drewN | apply Kd.V_drew)); exact Kd.V_mono (Kd.V_far (p := ⟨gb588, 1, none⟩) (Kd.V_far (p := ⟨gb588, 0, none⟩) (Kd.V_mono HL587_0.out (fun k_ hk => (⟨hk, hk.2⟩ : _ ∧ k_ ≠ gb588))) (fun _ hk => hk.2) (.slice A587_0 ((rd_T61 t584 x28_2).f0).length c587_0)) (fun _ hk => hk.2) (.slice A587_1 ((rd_T61 t584 x28_2).f1).length c587_1)) (fun _ hk => ⟨hk.1.1.2, hk.1.2⟩)⟩
         have n2_ : Aside0 (Kd.V (Kd.int .i64) 3 ((w29.setCell ⟨gb588, 0, none⟩ (.slice A587_0 ((rd_T61 t584 x28_2).f0).length c587_0)).setCell ⟨gb588, 1, none⟩ (.slice A587_1 ((rd_T61 t584 x28_2).f1).length c587_1)) w.heap.size (fun k_ => some k_ ≠ (.slice (some ad587) t584.length co13 : Value).ownBlock ∧ k_ ≠ gb588) (.slice A587_1 ((rd_T61 t584 x28_2).f1).length c587_1) ((rd_T61 t584 x28_2).f1)) := ⟨by (with_reducible repeat (first | apply Kd.V_alloc | apply Kd.V_drewN | apply Kd.V_drew)); exact Kd.V_mono (Kd.V_far (p := ⟨gb588, 1, none⟩) (Kd.V_far (p := ⟨gb588, 0, none⟩) (Kd.V_mono HL587_1.out (fun k_ hk => (⟨hk, hk.2⟩ : _ ∧ k_ ≠ gb588))) (fun _ hk => hk.2) (.slice A587_0 ((rd_T61 t584 x28_2).f0).length c587_0)) (fun _ hk => hk.2) (.slice A587_1 ((rd_T61 t584 x28_2).f1).length c587_1)) (fun _ hk => ⟨hk.1.1.2, hk.1.2⟩)⟩
         have n3_ : Aside0 (((w29.setCell ⟨gb588, 0, none⟩ (.slice A587_0 ((rd_T61 t584 x28_2).f0).length c587_0)).setCell ⟨gb588, 1, none⟩ (.slice A587_1 ((rd_T61 t584 x28_2).f1).length c587_1)).heap[gb588]? = some (.cells #[.slice A587_0 ((rd_T61 t584 x28_2).f0).length c587_0, .slice A587_1 ((rd_T61 t584 x28_2).f1).length c587_1] 61 (0, 0))) := ⟨by (with_reducible repeat (first | refine blk_drewN ?_ _ | refine blk_drew ?_ | refine blk_alloc ?_ _)); refine blk_put (cs := #[.slice A587_0 ((rd_T61 t584 x28_2).f0).length c587_0, .slice none 0 0]) ?_ 1 _ rfl; (with_reducible repeat (first | refine blk_drewN ?_ _ | refine blk_drew ?_ | refine blk_alloc ?_ _)); refine blk_put (cs := #[.slice none 0 0, .slice none 0 0]) ?_ 0 _ rfl; (with_reducible repeat (first | refine blk_drewN ?_ _ | refine blk_drew ?_ | refine blk_alloc ?_ _)); exact BK588.out⟩
         have n4_ : Aside0 (Below w.heap.size w ((w29.setCell ⟨gb588, 0, none⟩ (.slice A587_0 ((rd_T61 t584 x28_2).f0).length c587_0)).setCell ⟨gb588, 1, none⟩ (.slice A587_1 ((rd_T61 t584 x28_2).f1).length c587_1))) := ⟨xs HB.out GE588.out⟩
         (try clear HO_26)
         (try clear HL587_0)
         (try clear HL587_1)
         (try clear BK588)
         (try clear HB)
         generalize ((w29.setCell ⟨gb588, 0, none⟩ (.slice A587_0 ((rd_T61 t584 x28_2).f0).length c587_0)).setCell ⟨gb588, 1, none⟩ (.slice A587_1 ((rd_T61 t584 x28_2).f1).length c587_1)) = w31 at n0_ n1_ n2_ n3_ n4_ ⊢
         have HO_26 := n0_
         have HL587_0 := n1_
         have HL587_1 := n2_
         have BK588 := n3_
         have HB := n4_
         clear n0_ n1_ n2_ n3_ n4_
         replace HO_26 := ax (Kd.N_drew HO_26.out); replace HL587_0 := ax (Kd.V_drew HL587_0.out); replace HL587_1 := ax (Kd.V_drew HL587_1.out); replace BK588 := ax (blk_drew BK588.out); replace HB := ax (below_drew1 HB.out)
         obtain ⟨i033, hi033, _, hsz33, _⟩ := info_parts info3
         obtain ⟨A33, hcut33, hA33, hC33⟩ := print_drop_of (P := Tryz.prog) (Value.int .i64) 0 24 3 .i64 Tryz.underlying24 hi033 hsz33 (some ad583) c1 l1 1 (by omega) (xd) HC1.out
         have HR589 := ax (Kd.C_of_reads (h1 := fun _ => rfl) (hA33 _ (Kd.reads_of_C HR1.out)))
         have HC589 := ax hC33
         clear hA33 hC33 hi033 hsz33
         refine start_ (n := 6) (S := fun w' => w'.cell? ⟨gb588, 0, none⟩ = some (.slice A587_0 ((rd_T61 t584 x28_2).f0).length c587_0) ∧ w'.cell? ⟨gb588, 1, none⟩ = some (.slice A587_1 ((rd_T61 t584 x28_2).f1).length c587_1)) (ds := []) (xB 6 0) (by kernel_rfl) rfl (by kernel_rfl) ⟨(blk_cell BK588.out 0).trans rfl, (blk_cell BK588.out 1).trans rfl⟩ (fun hHeld => ?_)
         generalize w31.drew = w32 at HO_26 HL587_0 HL587_1 BK588 HB HR589 hHeld ⊢
         refine pure_ (i := 0) (N := some 32) (v := ?_) (a' := ?_) (xB 6 1) rfl rfl (by kernel_rfl) (fun _ _ _ h => h) (Or.inl ⟨by rfl, ?_⟩) ?_ ?_
         rotate_left
         ·intro w'
          go_simp
          with_reducible rfl
         rotate_left
         ·simp only [Act.put, List.setIfInBounds_toArray, List.set_cons_zero, List.set_cons_succ, i64_w, i32_w]
          rfl
         refine pure_ (i := 2) (N := some 34) (v := ?_) (a' := ?_) (xB 6 5) rfl rfl (by kernel_rfl) (fun _ _ _ h => h) (Or.inl ⟨by rfl, ?_⟩) ?_ ?_
         rotate_left
         ·intro w'
          go_simp
          with_reducible rfl
         rotate_left
         ·simp only [Act.put, List.setIfInBounds_toArray, List.set_cons_zero, List.set_cons_succ, i64_w, i32_w]
          rfl
         refine pure_ (i := 3) (N := some 35) (v := ?_) (a' := ?_) (xB 6 13) rfl rfl (by kernel_rfl) (fun _ _ _ h => h) (Or.inl ⟨by rfl, ?_⟩) ?_ ?_
         rotate_left
         ·intro w'
          go_simp
          with_reducible rfl
         rotate_left
         ·simp only [Act.put, List.setIfInBounds_toArray, List.set_cons_zero, List.set_cons_succ, i64_w, i32_w]
          rfl
         refine take_ (i := 1) (N := some 33) (v := ?_) (a' := ?_) (xB 6 15) rfl rfl (by kernel_rfl) (fun _ _ _ h => h) (Or.inl ⟨by rfl, ?_⟩) hHeld ?_ ?_
         rotate_left
         ·rintro w' ⟨s0, s1⟩
          go_simp
          with_reducible rfl
         rotate_left
         ·simp only [Act.put, List.setIfInBounds_toArray, List.set_cons_zero, List.set_cons_succ, i64_w, i32_w]
          rfl
         refine one_ (i := 4) (N := some 36) (xB 6 31) rfl rfl (by kernel_rfl) (by decide) (fun K hK => ?_)
         refine goes_ Tryz.func57 (by kernel_rfl) rfl #[.slice A587_1 ((rd_T61 t584 x28_2).f1).length c587_1, .slice A33 (l1.drop 1).length (c1 - 1)] (by rfl) rfl rfl (by (try simp only [List.map_toArray, List.map_cons, List.map_nil]); first | done | (rw [show (l1.drop 1).length = (l1.length - 1) from List.length_drop] <;> rfl) | rfl | (simp only [List.length_drop, List.length_take]; rfl)) ?_
         with_reducible refine (ih k2 (by have := HJ2.out; have := HK2.out; omega) _ _ ((rd_T61 t584 x28_2).f1) _ _ (l1.drop 1) t590 _ ?side1 ?side2 ?side3 ?side4 A18.out).mono ?_
         (case side1 => repeat (first | exact ((Kd.V_reads' (xV HL587_1.out)).2.2) | (with_reducible refine Kd.C_alloc ?_ _) | (with_reducible refine Kd.C_drewN ?_ _) | (with_reducible refine Kd.C_drew ?_)))
         (case side2 => exact HC587_1.out)
         (case side3 => exact xz HR589.out HB.out)
         (case side4 => exact HC589.out)
         rintro e w34 ⟨rfl, hb⟩
         refine ⟨_, rfl, ?_⟩
         replace HO_26 := ax (Kd.N_below (xN HO_26.out) hb); replace HL587_0 := yV HL587_0 hb; replace HL587_1 := yV HL587_1 hb; replace BK588 := ax (blk_below (g := gb588) (o := .cells #[.slice A587_0 ((rd_T61 t584 x28_2).f0).length c587_0, .slice A587_1 ((rd_T61 t584 x28_2).f1).length c587_1] 61 (0, 0)) (xk BK588.out) hb); replace HB := ax (below_step (xs HB.out GE588.out) hb)
         (try clear hb)
         (try clear hk)
         refine hK.out _ _ ⟨(blk_cell BK588.out 0).trans rfl, (blk_cell BK588.out 1).trans rfl⟩ (fun hHeld => ?_)
         clear hK K
         refine nm ?_
         refine pure_ (i := 5) (N := some 8) (v := ?_) (a' := ?_) (xB 6 63) rfl rfl (by kernel_rfl) (fun _ _ _ h => h) (Or.inl ⟨by rfl, ?_⟩) ?_ ?_
         rotate_left
         ·intro w'
          go_simp
          with_reducible rfl
         rotate_left
         ·simp only [Act.put, List.setIfInBounds_toArray, List.set_cons_zero, List.set_cons_succ, i64_w, i32_w]
          rfl
         refine done_ (by kernel_rfl) ?_
         have hcz35_0 : w34.cell? ⟨gb588, 0, none⟩ = some (.slice A587_0 ((rd_T61 t584 x28_2).f0).length c587_0) := (blk_cell BK588.out 0).trans rfl
         have hcz35_1 : w34.cell? ⟨gb588, 1, none⟩ = some (.slice A587_1 ((rd_T61 t584 x28_2).f1).length c587_1) := (blk_cell BK588.out 1).trans rfl
         have hfz35_0 := blk_frozen BK588.out 0
         have hfz35_1 := blk_frozen BK588.out 1
         try go_wp2_with (first | ((with_reducible refine gate_callee (f := 83) rfl ?_); refine goesL_ (some 38) rfl rfl Tryz.func83 (by kernel_rfl) rfl #[.agg #[.slice A587_0 ((rd_T61 t584 x28_2).f0).length c587_0, .slice A587_1 ((rd_T61 t584 x28_2).f1).length c587_1]] rfl xm ?_; (with_reducible refine (impl_RibbonHeight.calls k2 _ _ ((rd_T61 t584 x28_2).f0) _ _ ((rd_T61 t584 x28_2).f1) t591 _ ?side1 ?side2 ?side3 ?side4 A19.out).mono ?_); (case side1 => repeat (first | exact ((Kd.V_reads' (xV HL587_0.out)).2.2) | (with_reducible refine Kd.C_alloc ?_ _) | (with_reducible refine Kd.C_drewN ?_ _) | (with_reducible refine Kd.C_drew ?_))); (case side2 => exact HC587_0.out); (case side3 => repeat (first | exact ((Kd.V_reads' (xV HL587_1.out)).2.2) | (with_reducible refine Kd.C_alloc ?_ _) | (with_reducible refine Kd.C_drewN ?_ _) | (with_reducible refine Kd.C_drew ?_))); (case side4 => exact HC587_1.out); rintro e w36 ⟨rfl, hb⟩; refine ⟨_, rfl, ?_⟩; replace HO_26 := ax (Kd.N_below (xN HO_26.out) hb); replace HL587_0 := yV HL587_0 hb; replace HL587_1 := yV HL587_1 hb; replace BK588 := ax (blk_below (g := gb588) (o := .cells #[.slice A587_0 ((rd_T61 t584 x28_2).f0).length c587_0, .slice A587_1 ((rd_T61 t584 x28_2).f1).length c587_1] 61 (0, 0)) (xk BK588.out) hb); replace HB := ax (below_step (xs HB.out GE588.out) hb); (try clear hb)))
         go_roundg k2
         case measure => have := HJ2.out; have := HK2.out; omega
         case rel => exact ⟨(wrap64 (x5_2 + t590)), (wrap64 (x28_2 + 1)), xr, xr, H', ⟨by have := HJ2.out; have := HK2.out; omega⟩, ⟨by (with_reducible repeat (first | apply Kd.N_alloc | apply Kd.N_drewN | apply Kd.N_drew)); exact Kd.N_mono HO_26.out (fun _ hk => trivial)⟩, ⟨xs HB.out GE588.out⟩⟩
       ·rw [if_neg c14] at H
        have c14b0 := decide_eq_false c14
        clear c14
        obtain rfl := Option.some.inj H
        go_wp2
        go_ret
        exact ⟨xe, xb HB.out⟩

end Go.Proofs.YtopmggldaicpaacGreat.PFnKronecker
