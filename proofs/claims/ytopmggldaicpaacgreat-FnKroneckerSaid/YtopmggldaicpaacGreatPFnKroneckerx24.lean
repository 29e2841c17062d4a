import Derived.Test.YtopmggldaicpaacGreatPFnKroneckerx0
namespace Go.Proofs.YtopmggldaicpaacGreat.PFnKronecker
open Go.RowKit Go.Proofs.YtopmggldaicpaacGreatW.PrintWords Go.Proofs.YtopmggldaicpaacGreatW.PrintLast Go.Proofs.YtopmggldaicpaacGreatW.PrintMore
set_option linter.unusedVariables false
set_option linter.unusedSimpArgs false
set_option maxHeartbeats 8000000
set_option maxRecDepth 100000
/-! ### spec_l23Sorted: function 60 -/
mutual
def spec_l23Sorted.l0 : Nat → List Int → List Int → Int → Option (List Int)
 | 0, _, _, _ => none
 | k + 1, x0, x3, x4 => if x4 < (x0.length : Int) then (spec_l23Sorted.l1 k x0 x3 x4 (x3.length : Int)) else (some x3)
def spec_l23Sorted.l1 : Nat → List Int → List Int → Int → Int → Option (List Int)
 | 0, _, _, _, _ => none
 | k + 1, x0, x3, x4, x5 => if x5 > 0 then (if 0 ≤ (wrap64 (x5 - 1)) then (if (wrap64 (x5 - 1)) < (x3.length : Int) then (if 0 ≤ x4 then (if x4 < (x0.length : Int) then (if (rd x3 (wrap64 (x5 - 1))) > (rd x0 x4) then (spec_l23Sorted.l1 k x0 x3 x4 (wrap64 (x5 - 1))) else ((some (([] : List Int) : List Int)).bind fun y656 => (if 0 ≤ x5 then (if x5 ≤ (x3.length : Int) then ((some (x3.drop (x5 : Int).toNat : List Int)).bind fun y659 => (if y656.length + y659.length < 17592186044416 then ((some (y656 ++ y659 : List Int)).bind fun y663 => ((some (x3.take (x5 : Int).toNat : List Int)).bind fun y666 => (if y666.length < 17592186044416 then ((some (y666 ++ [rd x0 x4] : List Int)).bind fun y670 => (if y670.length + y663.length < 17592186044416 then (spec_l23Sorted.l0 k x0 (y670 ++ y663) (wrap64 (x4 + 1))) else (none))) else (none)))) else (none))) else (none)) else (none)))) else (none)) else (none)) else (none)) else (none)) else ((some (([] : List Int) : List Int)).bind fun y676 => (if 0 ≤ x5 then (if x5 ≤ (x3.length : Int) then ((some (x3.drop (x5 : Int).toNat : List Int)).bind fun y679 => (if y676.length + y679.length < 17592186044416 then ((some (y676 ++ y679 : List Int)).bind fun y683 => ((some (x3.take (x5 : Int).toNat : List Int)).bind fun y686 => (if 0 ≤ x4 then (if x4 < (x0.length : Int) then (if y686.length < 17592186044416 then ((some (y686 ++ [rd x0 x4] : List Int)).bind fun y690 => (if y690.length + y683.length < 17592186044416 then (spec_l23Sorted.l0 k x0 (y690 ++ y683) (wrap64 (x4 + 1))) else (none))) else (none)) else (none)) else (none)))) else (none))) else (none)) else (none)))
end
def spec_l23Sorted.f (k : Nat) (l0 : List Int) : Option (List Int) := spec_l23Sorted.l0 k l0 (([] : List Int)) 0
theorem spec_l23Sorted.mono_l : ∀ k, (∀ y0 y1 y2, LeO (spec_l23Sorted.l0 k y0 y1 y2) (spec_l23Sorted.l0 (k + 1) y0 y1 y2)) ∧ (∀ y0 y1 y2 y3, LeO (spec_l23Sorted.l1 k y0 y1 y2 y3) (spec_l23Sorted.l1 (k + 1) y0 y1 y2 y3))
 | 0 => ⟨fun _ _ _ r h => by simp [spec_l23Sorted.l0] at h, fun _ _ _ _ r h => by simp [spec_l23Sorted.l1] at h⟩
 | k + 1 => by
  obtain ⟨ih0, ih1⟩ := spec_l23Sorted.mono_l k
  refine ⟨?_, ?_⟩
  ·intro y0 y1 y2
   unfold spec_l23Sorted.l0
   repeat' with_reducible first | exact ih0 _ _ _ | exact ih1 _ _ _ _ | exact xl | refine LeO.ite ?_ ?_ | refine LeO.bind ?_ fun _ => ?_
  ·intro y0 y1 y2 y3
   unfold spec_l23Sorted.l1
   repeat' with_reducible first | exact ih0 _ _ _ | exact ih1 _ _ _ _ | exact xl | refine LeO.ite ?_ ?_ | refine LeO.bind ?_ fun _ => ?_
theorem spec_l23Sorted.mono : ∀ a0 k, LeO (spec_l23Sorted.f k a0) (spec_l23Sorted.f (k + 1) a0) := by
 intro a0 k
 obtain ⟨ih0, ih1⟩ := spec_l23Sorted.mono_l k
 unfold spec_l23Sorted.f
 repeat' with_reducible first | exact ih0 _ _ _ | exact ih1 _ _ _ _ | exact xl | refine LeO.ite ?_ ?_ | refine LeO.bind ?_ fun _ => ?_
def spec_l23Sorted.T6 : Bool × List (List Nat × List Nat) := (true, [([], []), ([0], [0]), ([1], [1]), ([2], [2]), ([2], [2]), ([4, 2], [2, 4]), ([3, 5, 2], [2, 3, 5]), ([6, 2], [2, 6]), ([2], [2]), ([2], [2]), ([8, 9, 2], [2, 8, 9]), ([10, 2], [2, 10]), ([7, 11, 2], [2, 7, 11]), ([2, 12], [2, 12])])
def spec_l23Sorted.B6 : List Nat := [0, 1, 3, 7, 7, 23, 63, 127, 7, 7, 775, 1799, 4095, 8191]
theorem spec_l23Sorted.tab6 : rtab .any (opsOf Tryz.f60 6) = spec_l23Sorted.T6 := by kernel_rfl
theorem spec_l23Sorted.bits6 : waitsOk spec_l23Sorted.T6.2 spec_l23Sorted.B6 = true := by kernel_rfl
def spec_l23Sorted.T9 : Bool × List (List Nat × List Nat) := (true, [([], []), ([], []), ([0, 1], [0, 1]), ([], []), ([], []), ([3, 4], [3, 4]), ([5], [5]), ([6], [6]), ([2, 7], [2, 7]), ([], []), ([8, 9, 8], [8, 9]), ([10, 10, 0, 1, 2, 3, 4, 5, 6, 7, 8, 9, 10], [0, 10])])
def spec_l23Sorted.B9 : List Nat := [0, 0, 3, 0, 0, 24, 56, 120, 255, 0, 1023, 2047]
theorem spec_l23Sorted.tab9 : rtab .any (opsOf Tryz.f60 9) = spec_l23Sorted.T9 := by kernel_rfl
theorem spec_l23Sorted.bits9 : waitsOk spec_l23Sorted.T9.2 spec_l23Sorted.B9 = true := by kernel_rfl
theorem spec_l23Sorted.calls (k : Nat) (A0 : Option Addr) (c0 : Nat) (l0 : List Int) (r : List Int) (w : World) (hr0 : Kd.C (Kd.int .i64) w A0 l0.length l0) (hc0 : l0.length ≤ c0) (h : spec_l23Sorted.f k l0 = some r) :
  Calls Tryz.prog 60 #[.slice A0 l0.length c0] w fun e w' => ∃ v0_ : Value, e = .returned (v0_) ∧ Kd.R (Kd.int .i64) 3 w' w.heap.size (fun _ => True) v0_ r ∧ Below w.heap.size w w' := by
 have HR0 := ax hr0
 have HC0 := ax hc0
 clear hr0 hc0
 have HB := ax (Below.refl w.heap.size w)
 have H : (spec_l23Sorted.l0 k l0 (([] : List Int)) 0) = some r := h
 clear h
 obtain ⟨y651, hy651⟩ : ∃ y_ : List Int, y_ = (([] : List Int)) := ⟨_, rfl⟩
 replace H : (spec_l23Sorted.l0 k l0 y651 0) = some r := xv hy651 H
 have Ny651 := ax hy651
 clear hy651
 have H' := ax H
 clear H
 go_enter Tryz.func60, Tryz.ntmps60
 go_wp2_with (first | ((with_reducible refine gate_dst (N := 7) rfl ?_); refine Kd.R_lit (Kd.int .i64) _ 3 ?hg (N := 7) ?hd (xs := ([] : List Int)) (inner := []) (ok := fun _ => True) (okp := fun _ => True) ?hr ?hp (fun _ hk => hk) trivial (Below.refl _ _) (Nat.le_refl _) (by simp) ?_; (case hd => rfl); (case hg => rfl); (case hr => first | (go_simp; done) | (go_simp; rfl)); (case hp => exact (Reps.none _ _)); intro v652 w2 ho3 hb hg_ hnew_; clear hg_ hnew_; (first | rw [← Ny651.out] at ho3 | (simp only [Int.reduceToNat] at ho3; rw [← Ny651.out] at ho3)); have HO653 := ax (Kd.R_lower ho3 (below_size (xb HB.out))); replace HB := yB HB hb; clear hb ho3))
 go_loopg [3, 4] k (fun kq v3 v4 w' => ∃ (x3_1 : List Int) (x4_1 : Int), v4 = .int .i64 x4_1 ∧ Aside0 (spec_l23Sorted.l0 kq l0 x3_1 x4_1 = some r) ∧ Aside0 (kq ≤ k) ∧ Aside0 (Kd.R (Kd.int .i64) 3 w' w.heap.size (fun _ => True) v3 x3_1) ∧ Aside0 (Below w.heap.size w w'))
 case atStart => exact ⟨(y651), (0), xr, H', ⟨Nat.le_refl _⟩, ⟨xR HO653.out⟩, ⟨xb HB.out⟩⟩
 case round =>
  clear H'
  obtain ⟨x3_1, x4_1, rfl, HA, HK1, HO_3, HB⟩ := hrel
  cases gk with
  | zero => exact absurd HA.out (by simp [spec_l23Sorted.l0])
  | succ k1 =>
   have H := HA.out
   clear HA
   simp only [spec_l23Sorted.l0] at H
   by_cases c4 : x4_1 < (l0.length : Int)
   ·rw [if_pos c4] at H
    have c4b0 := decide_eq_true c4
    clear c4
    have H' := ax H
    clear H
    obtain ⟨Ao5, co5, eo5⟩ := Kd.R_slice HO_3.out
    subst eo5
    go_wp2
    go_loopg [5] k1 (fun kq v5 w' => ∃ (x5_2 : Int), v5 = .int .i64 x5_2 ∧ Aside0 (spec_l23Sorted.l1 kq l0 x3_1 x4_1 x5_2 = some r) ∧ Aside0 (kq ≤ k1) ∧ Aside0 (Kd.R (Kd.int .i64) 3 w' w.heap.size (fun _ => True) (.slice Ao5 x3_1.length co5) x3_1) ∧ Aside0 (Below w.heap.size w w'))
    case atStart => exact ⟨((x3_1.length : Int)), xr, H', ⟨Nat.le_refl _⟩, ⟨xR HO_3.out⟩, ⟨xb HB.out⟩⟩
    case round =>
     clear H'
     (try clear c4); (try clear c4b0)
     obtain ⟨x5_2, rfl, HA, HK2, HO_3, HB⟩ := hrel
     cases gk with
     | zero => exact absurd HA.out (by simp [spec_l23Sorted.l1])
     | succ k2 =>
      have H := HA.out
      clear HA
      simp only [spec_l23Sorted.l1] at H
      by_cases c6 : x5_2 > 0
      ·rw [if_pos c6] at H
       have c6b0 : decide (0 < x5_2) = true := decide_eq_true c6
       clear c6
       obtain ⟨ji7, hji7⟩ : ∃ j_ : Int, (wrap64 (x5_2 - 1)) = j_ := ⟨_, rfl⟩
       replace H : (if 0 ≤ (ji7) then (if (ji7) < (x3_1.length : Int) then (if 0 ≤ x4_1 then (if x4_1 < (l0.length : Int) then (if (rd x3_1 (ji7)) > (rd l0 x4_1) then (spec_l23Sorted.l1 k2 l0 x3_1 x4_1 ji7) else ((some (([] : List Int) : List Int)).bind fun y656 => (if 0 ≤ x5_2 then (if x5_2 ≤ (x3_1.length : Int) then ((some (x3_1.drop (x5_2 : Int).toNat : List Int)).bind fun y659 => (if y656.length + y659.length < 17592186044416 then ((some (y656 ++ y659 : List Int)).bind fun y663 => ((some (x3_1.take (x5_2 : Int).toNat : List Int)).bind fun y666 => (if y666.length < 17592186044416 then ((some (y666 ++ [rd l0 x4_1] : List Int)).bind fun y670 => (if y670.length + y663.length < 17592186044416 then (spec_l23Sorted.l0 k2 l0 (y670 ++ y663) (wrap64 (x4_1 + 1))) else (none))) else (none)))) else (none))) else (none)) else (none)))) else (none)) else (none)) else (none)) else (none)) = some r := by first | (rw [hji7] at H; exact H) | (simp only [hji7] at H ⊢; exact H)
       have hji7w : (IntKind.i64.wrap (x5_2 - 1)) = ji7 := (i64_w _).trans hji7
       obtain ⟨c8b0, H⟩ := xq H
       obtain ⟨c9b0, H⟩ := xq H
       obtain ⟨c10b0, H⟩ := xq H
       obtain ⟨c11b0, H⟩ := xq H
       by_cases c12 : (rd x3_1 (ji7)) > (rd l0 x4_1)
       ·rw [if_pos c12] at H
        have c12b0 : decide ((rd l0 x4_1) < (rd x3_1 (ji7))) = true := decide_eq_true c12
        clear c12
        have H' := ax H
        clear H
        try go_wp2
        replace HO_3 := ax (Kd.R_drew HO_3.out); replace HB := ax (below_drew1 HB.out)
        have p654 : 0 ≤ ((ji7) : Int) := xd
        have q654 : (ji7) < (x3_1.length : Int) := xd
        obtain ⟨ad654, e654, hx654_0⟩ := Kd.at_int (Kd.R_reads' HO_3.out).2.2 (ji7) p654 q654
        cases e654
        replace p654 := eq_true p654
        replace q654 := eq_true q654
        have p655 : 0 ≤ (x4_1 : Int) := xd
        have q655 : x4_1 < (l0.length : Int) := xd
        obtain ⟨ad655, e655, hx655_0⟩ := Kd.at_int HR0.out x4_1 p655 q655
        have hw655_0 := hx655_0
        cases e655
        (try replace hx655_0 := (HB.out.cell (World.block_lt_of_cell? w _ hx655_0)).trans hx655_0)
        replace p655 := eq_true p655
        replace q655 := eq_true q655
        refine start_ (n := 14) (S := fun w' => w'.cell? (ad654.add ((ji7)).toNat) = some (.int .i64 (rd x3_1 (ji7))) ∧ w'.cell? (ad655.add (x4_1).toNat) = some (.int .i64 (rd l0 x4_1))) (ds := []) (xB 14 0) (by kernel_rfl) rfl (by kernel_rfl) ⟨hx654_0, ((HB.out.cell (World.block_lt_of_cell? w _ hw655_0)).trans hw655_0)⟩ (fun hHeld => ?_); refine with_tabW spec_l23Sorted.tab6 spec_l23Sorted.bits6 (fun HT_ HW_ => ?_)
        generalize wr.drew = w13 at HO_3 HB hx654_0 hx655_0 hHeld ⊢
        refine pu (i := 0) (N := some 16) (xB 14 1) HT_.out ?_
        refine pu (i := 1) (N := some 17) (xB 14 3) HT_.out ?_
        refine pu (i := 2) (N := some 18) (xB 14 7) HT_.out ?_
        refine pu (i := 3) (N := some 19) (xB 14 15) HT_.out ?_
        refine pu (i := 4) (N := some 20) (xB 14 31) HT_.out ?_
        refine pu (i := 5) (N := some 21) (xB 14 63) HT_.out ?_
        refine pu (i := 6) (N := some 22) (xB 14 127) HT_.out ?_
        refine pu (i := 8) (N := some 24) (xB 14 383) HT_.out ?_
        refine pu (i := 9) (N := some 25) (xB 14 895) HT_.out ?_
        refine pu (i := 10) (N := some 26) (xB 14 1919) HT_.out ?_
        refine tk (i := 7) (N := some 23) (xB 14 2047) HT_.out HW_.out hHeld ?_
        refine tk (i := 11) (N := some 27) (xB 14 4095) HT_.out HW_.out hHeld ?_
        refine pu (i := 12) (N := some 28) (xB 14 8191) HT_.out ?_
        refine pu (i := 13) (N := some 29) (xB 14 16383) HT_.out ?_
        refine done_ (done_of HT_.out (by kernel_rfl)) ?_
        try go_wp2
        go_roundg k2
        case measure => have := HK1.out; have := HK2.out; omega
        case rel => exact ⟨(ji7), (by first | rfl | (simp; done) | (simp only [← hji7] <;> (first | rfl | simp)) | (simp [*]; done)), H', ⟨by have := HK1.out; have := HK2.out; omega⟩, ⟨xR HO_3.out⟩, ⟨xb HB.out⟩⟩
       ·rw [if_neg c12] at H
        have c12b0 : decide ((rd l0 x4_1) < (rd x3_1 (ji7))) = false := decide_eq_false c12
        clear c12
        obtain ⟨y656, Ny656, H⟩ := xg H
        obtain ⟨c14, H⟩ := xp H
        have c14b0 := eq_true c14
        have c14b1 := decide_eq_true c14
        clear c14
        obtain ⟨c15, H⟩ := xp H
        have c15b0 := eq_true c15
        have c15b1 := decide_eq_true c15
        clear c15
        obtain ⟨y659, Ny659, H⟩ := xg H
        obtain ⟨c16, H⟩ := xp H
        have LMc16 := ax c16
        clear c16
        obtain ⟨y663, Ny663, H⟩ := xg H
        have c17b0 := eq_true (xd : x5_2 ≤ (x3_1.length : Int))
        obtain ⟨y666, Ny666, H⟩ := xg H
        obtain ⟨c18, H⟩ := xp H
        have LMc18 := ax c18
        clear c18
        obtain ⟨y670, Ny670, H⟩ := xg H
        obtain ⟨c19, H⟩ := xp H
        have LMc19 := ax c19
        clear c19
        obtain ⟨y673, hy673⟩ : ∃ y_ : List Int, y_ = (y670 ++ y663) := ⟨_, rfl⟩
        replace H : (spec_l23Sorted.l0 k2 l0 y673 (wrap64 (x4_1 + 1))) = some r := xv hy673 H
        have Ny673 := ax hy673
        clear hy673
        have H' := ax H
        clear H
        try go_wp2
        replace HO_3 := ax (Kd.R_drew HO_3.out); replace HB := ax (below_drew1 HB.out)
        have p654 : 0 ≤ ((ji7) : Int) := xd
        have q654 : (ji7) < (x3_1.length : Int) := xd
        obtain ⟨ad654, e654, hx654_0⟩ := Kd.at_int (Kd.R_reads' HO_3.out).2.2 (ji7) p654 q654
        cases e654
        replace p654 := eq_true p654
        replace q654 := eq_true q654
        have p655 : 0 ≤ (x4_1 : Int) := xd
        have q655 : x4_1 < (l0.length : Int) := xd
        obtain ⟨ad655, e655, hx655_0⟩ := Kd.at_int HR0.out x4_1 p655 q655
        have hw655_0 := hx655_0
        cases e655
        (try replace hx655_0 := (HB.out.cell (World.block_lt_of_cell? w _ hx655_0)).trans hx655_0)
        replace p655 := eq_true p655
        replace q655 := eq_true q655
        refine start_ (n := 14) (S := fun w' => w'.cell? (ad654.add ((ji7)).toNat) = some (.int .i64 (rd x3_1 (ji7))) ∧ w'.cell? (ad655.add (x4_1).toNat) = some (.int .i64 (rd l0 x4_1))) (ds := []) (xB 14 0) (by kernel_rfl) rfl (by kernel_rfl) ⟨hx654_0, ((HB.out.cell (World.block_lt_of_cell? w _ hw655_0)).trans hw655_0)⟩ (fun hHeld => ?_); refine with_tabW spec_l23Sorted.tab6 spec_l23Sorted.bits6 (fun HT_ HW_ => ?_)
        generalize wr.drew = w20 at HO_3 HB hx654_0 hx655_0 hHeld ⊢
        refine pu (i := 0) (N := some 16) (xB 14 1) HT_.out ?_
        refine pu (i := 1) (N := some 17) (xB 14 3) HT_.out ?_
        refine pu (i := 2) (N := some 18) (xB 14 7) HT_.out ?_
        refine pu (i := 3) (N := some 19) (xB 14 15) HT_.out ?_
        refine pu (i := 4) (N := some 20) (xB 14 31) HT_.out ?_
        refine pu (i := 5) (N := some 21) (xB 14 63) HT_.out ?_
        refine pu (i := 6) (N := some 22) (xB 14 127) HT_.out ?_
        refine pu (i := 8) (N := some 24) (xB 14 383) HT_.out ?_
        refine pu (i := 9) (N := some 25) (xB 14 895) HT_.out ?_
        refine pu (i := 10) (N := some 26) (xB 14 1919) HT_.out ?_
        refine tk (i := 7) (N := some 23) (xB 14 2047) HT_.out HW_.out hHeld ?_
        refine tk (i := 11) (N := some 27) (xB 14 4095) HT_.out HW_.out hHeld ?_
        refine pu (i := 12) (N := some 28) (xB 14 8191) HT_.out ?_
        refine pu (i := 13) (N := some 29) (xB 14 16383) HT_.out ?_
        refine done_ (done_of HT_.out (by kernel_rfl)) ?_
        try go_wp2_with (first | ((with_reducible refine gate_dst (N := 32) rfl ?_); refine Kd.R_lit (Kd.int .i64) _ 3 ?hg (N := 32) ?hd (xs := ([] : List Int)) (inner := []) (ok := fun _ => True) (okp := fun _ => True) ?hr ?hp (fun _ hk => hk) trivial (Below.refl _ _) (Nat.le_refl _) (by simp) ?_; (case hd => rfl); (case hg => rfl); (case hr => first | (go_simp; done) | (go_simp; rfl)); (case hp => exact (Reps.none _ _)); intro v657 w21 ho22 hb hg_ hnew_; clear hg_ hnew_; (first | rw [← Ny656.out] at ho22 | (simp only [Int.reduceToNat] at ho22; rw [← Ny656.out] at ho22)); have HO658 := ax (Kd.R_lower (Kd.R_new' ho22 (Kd.R_lt (xR HO_3.out))) (below_size (xb HB.out))); replace HO_3 := ax (Kd.R_elder' (xR HO_3.out) (Kd.R_base ho22) hb); replace HB := yB HB hb; clear hb ho22; have q23 : (x5_2 : Int) ≤ ((x3_1.length : Int) : Int) := xd; obtain ⟨i023, hi023, _, hsz23, _⟩ := info_parts info3; have hroom23 : x3_1.length ≤ co5 := (Kd.R_reads' HO_3.out).2.1; have hC23 : Kd.C (Kd.int .i64) _ (some ad654) x3_1.length x3_1 := (Kd.R_reads' HO_3.out).2.2; have q023 : (0 : Int) ≤ (x5_2 : Int) := xd; have hcut23 := cut_from (P := Tryz.prog) 24 3 .i64 Tryz.underlying24 hi023 1 hsz23 (some ad654) x3_1.length co5 x5_2 q023 q23; have hr23 := Kd.C_drop (m := (x5_2 : Int).toNat) (c := co5) hC23 (by omega) hroom23; obtain ⟨A23, hA23⟩ : ∃ A1, A1 = (if co5 = (x5_2 : Int).toNat then (some ad654) else ((some ad654) : Option Addr).map (·.add ((x5_2 : Int).toNat * 1))) := ⟨_, rfl⟩; obtain ⟨c23, hc23⟩ : ∃ c1, c1 = co5 - (x5_2 : Int).toNat := ⟨_, rfl⟩; have hy23 : y659.length = x3_1.length - (x5_2 : Int).toNat := (by rw [Ny659.out, List.length_drop] <;> omega); rw [show (x3_1).drop (x5_2 : Int).toNat = y659 from Ny659.out.symm] at hr23; replace hr23 : Kd.C (Kd.int .i64) _ A23 y659.length y659 := (by rw [hA23]; exact hr23); rw [← hy23, ← hA23, ← hc23] at hcut23; have HR662 := ax hr23; have HC662 := ax (show y659.length ≤ c23 from by rw [hy23, hc23]; exact Nat.sub_le_sub_right hroom23 _); clear hr23 hC23 hroom23 hi023 hsz23 hc23; have KY23 := ax hy23; have KA23 := ax hA23; clear hy23 hA23; have KL23 := ax (show (x5_2 : Int).toNat ≤ x3_1.length from by omega); replace q23 := eq_true q23) | ((with_reducible refine gate_builtin (b := .append) (xs := #[.tmp 32, .tmp 35]) rfl ?_); at_builtin; refine Kd.R_append_rows (Kd.int .i64) (w0 := w) w.heap.size rfl (.tmp 32) (.tmp 35) 24 3 (.int .i64 0) 8 rfl Tryz.underlying24 info3 rfl (by decide) (by omega) v657 y656 y659 _ _ _ (fun k_ => some k_ ≠ (.slice (some ad654) x3_1.length co5 : Value).ownBlock) (fun _ => False) rfl rfl ?aO ?aR (fun _ _ h => h) (fun _ h => h.elim) ?aF ?aB ?aS ?aL ?_; (case aR => exact xw HR662.out); (case aB => exact (xb HB.out)); (case aF => exact (fun k_ hk => Kd.fresh' (Kd.R_lt (xR HO_3.out)) k_ hk)); (case aO => exact (by (with_reducible repeat (first | apply Kd.R_alloc | apply Kd.R_drewN | apply Kd.R_drew)); exact Kd.R_mono HO658.out (fun _ hk => hk.2))); (case aS => exact (below_size (xb HB.out))); (case aL => have := LMc16.out; omega); intro v664 w24 ho hb hg hat; rw [← Ny663.out] at ho; have n0_ := ax (Kd.R_after (ok := (fun _ => True)) (xR HO_3.out) hg hat); have n1_ := ax (hb); have n2_ := ax ((show Kd.C (Kd.int .i64) w24 A23 y659.length y659 from by rw [Ny659.out, KA23.out]; exact Kd.C_drop (m := (x5_2 : Int).toNat) (c := co5) ((Kd.R_reads' (Kd.R_after (ok := (fun _ => True)) (xR HO_3.out) hg hat)).2.2) KL23.out ((Kd.R_reads' (Kd.R_after (ok := (fun _ => True)) (xR HO_3.out) hg hat)).2.1))); have n3_ := ax (ho); clear HO_3; clear HB; clear HR662; clear HO658; have HO_3 := n0_; have HB := n1_; have HR662 := n2_; have HO665 := n3_; clear n0_ n1_ n2_ n3_; clear ho hb hg hat))
        replace HO_3 := ax (Kd.R_drew HO_3.out); replace HO665 := ax (Kd.R_drew HO665.out); replace HR662 := ax (Kd.C_drew HR662.out); replace HB := ax (below_drew1 HB.out)
        have q26 : (x5_2 : Int) ≤ ((x3_1.length : Int) : Int) := xd
        obtain ⟨i026, hi026, _, hsz26, _⟩ := info_parts info3
        have hcut26 := cut_to (P := Tryz.prog) 24 3 .i64 Tryz.underlying24 hi026 (some ad654) x3_1.length co5 x5_2 (xd) q26 (Kd.R_reads' HO_3.out).2.1
        have hr26 := Kd.R_take (m := (x5_2 : Int).toNat) HO_3.out (by omega)
        have hy26 : y666.length = (x5_2 : Int).toNat := (by rw [Ny666.out, List.length_take]; omega)
        rw [← Ny666.out] at hr26
        rw [← hy26] at hr26 hcut26
        clear hy26 hi026 hsz26 HO_3
        have HO668 := ax hr26
        clear hr26
        replace q26 := eq_true q26
        have p669 : 0 ≤ (x4_1 : Int) := xd
        have q669 : x4_1 < (l0.length : Int) := xd
        obtain ⟨ad669, e669, hx669_0⟩ := Kd.at_int HR0.out x4_1 p669 q669
        have hw669_0 := hx669_0
        obtain rfl : ad655 = ad669 := (by injection e669)
        (try replace hx669_0 := (HB.out.cell (World.block_lt_of_cell? w _ hx669_0)).trans hx669_0)
        replace p669 := eq_true p669
        replace q669 := eq_true q669
        refine start_ (n := 12) (S := fun w' => w'.cell? (ad655.add (x4_1).toNat) = some (.int .i64 (rd l0 x4_1))) (ds := []) (xB 12 0) (by kernel_rfl) rfl (by kernel_rfl) (((HB.out.cell (World.block_lt_of_cell? w _ hw669_0)).trans hw669_0)) (fun hHeld => ?_); refine with_tabW spec_l23Sorted.tab9 spec_l23Sorted.bits9 (fun HT_ HW_ => ?_)
        generalize w24.drew = w25 at HO_3 HO665 HR662 HB HO668 hx669_0 hHeld ⊢
        refine pu (i := 0) (N := some 37) (xB 12 1) HT_.out ?_
        refine pu (i := 1) (N := some 38) (xB 12 3) HT_.out ?_
        refine pu (i := 2) (N := some 39) (xB 12 7) HT_.out ?_
        refine pu (i := 3) (N := some 40) (xB 12 15) HT_.out ?_
        refine pu (i := 4) (N := some 41) (xB 12 31) HT_.out ?_
        refine pu (i := 5) (N := some 42) (xB 12 63) HT_.out ?_
        refine pu (i := 9) (N := some 46) (xB 12 575) HT_.out ?_
        refine tk (i := 6) (N := some 43) (xB 12 639) HT_.out HW_.out hHeld ?_
        refine one_ (i := 7) (N := some 44) (xB 12 767) rfl rfl (one_of HT_.out (by kernel_rfl)) (by decide) (fun K hK => ?_)
        refine value_ (w1 := ?_) (v := ?_) (by rfl) rfl ?_ ?_
        rotate_left 2
        ·go_simp
         constructor
         ·rfl
         ·rfl
        refine hK.out _ _ ((World.cell?_alloc_lt _ _ _ (World.block_lt_of_cell? _ _ (((HB.out.cell (World.block_lt_of_cell? w _ hw669_0)).trans hw669_0)))).trans (((HB.out.cell (World.block_lt_of_cell? w _ hw669_0)).trans hw669_0))) (fun hHeld => ?_)
        clear hK K
        refine nm ?_
        refine one_ (i := 8) (N := some 45) (xB 12 1023) rfl rfl (one_of HT_.out (by kernel_rfl)) (by decide) (fun K hK => ?_)
        refine Kd.R_append_step (Kd.int .i64) (w0 := w) w.heap.size (by rfl) (.tmp 39) (.tmp 44) 24 3 (.int .i64 0) 8 rfl Tryz.underlying24 info3 rfl (by decide) (by omega) (.slice (some ad654) y666.length co5) y666 (rd l0 x4_1) [.int .i64 (rd l0 x4_1)] (fun k_ => some k_ ≠ (v664 : Value).ownBlock) (fun _ => False) rfl rfl ?aP (fun _ hk => hk.elim) ?aF ?aO ?aB ?aS ?aL ?_
        (case aP => exact rfl)
        (case aB => exact (xb HB.out))
        (case aF => exact (fun k_ hk => Kd.fresh' (Kd.R_lt (xR HO665.out)) k_ hk))
        (case aO => exact (by (with_reducible repeat (first | apply Kd.R_alloc | apply Kd.R_drewN | apply Kd.R_drew)); exact Kd.R_mono HO668.out (fun _ hk => hk.2)))
        (case aS => exact (below_size (xb HB.out)))
        (case aL => have := LMc18.out; omega)
        intro v671 w27 ho hb hg hat
        rw [← Ny670.out] at ho
        have n0_ := ax (Kd.R_after (ok := (fun _ => True)) (by (with_reducible repeat (first | apply Kd.R_alloc | apply Kd.R_drewN | apply Kd.R_drew)); exact Kd.R_mono HO665.out (fun _ hk => ⟨trivial, by first | exact hk | simpa only [xw_own] using hk⟩)) hg hat)
        have n1_ := ax (hb)
        have n2_ := ax (ho)
        clear HO665 HB HO668
        have HO665 := n0_
        have HB := n1_
        have HO672 := n2_
        clear n0_ n1_ n2_ ho hb hg hat
        obtain ⟨Ao29, co29, eo29⟩ := Kd.R_slice HO665.out
        (first | subst eo29 | (injection eo29 with f1_ f2_ f3_; have f4_ := f1_.symm; have f5_ := f3_.symm; clear f1_ f2_ f3_; subst f4_; subst f5_))
        refine hK.out _ _ (((HB.out.cell (World.block_lt_of_cell? w _ hw669_0)).trans hw669_0)) (fun hHeld => ?_)
        clear hK K
        refine nm ?_
        refine one_ (i := 10) (N := some 47) (xB 12 2047) rfl rfl (one_of HT_.out (by kernel_rfl)) (by decide) (fun K hK => ?_)
        refine Kd.R_append_rows_step (Kd.int .i64) (w0 := w) w.heap.size (by rfl) (.tmp 45) (.tmp 46) 24 3 (.int .i64 0) 8 rfl Tryz.underlying24 info3 rfl (by decide) (by omega) v671 y670 y663 _ _ _ (fun k_ => some k_ ≠ (.slice Ao29 y663.length co29 : Value).ownBlock) (fun _ => False) rfl rfl ?aO ?aR (fun _ _ h => h) (fun _ h => h.elim) ?aF ?aB ?aS ?aL ?_
        (case aR => exact xc (Kd.R_reads' HO665.out).2.2)
        (case aB => exact (xb HB.out))
        (case aF => exact (fun k_ hk => Kd.fresh' (Kd.R_lt (xR HO665.out)) k_ hk))
        (case aO => exact (xR HO672.out))
        (case aS => exact (below_size (xb HB.out)))
        (case aL => have := LMc19.out; omega)
        intro v674 w28 ho hb hg hat
        rw [← Ny673.out] at ho
        have n0_ := ax (Kd.R_after (ok := (fun _ => True)) (xR HO665.out) hg hat)
        have n1_ := ax (hb)
        have n2_ := ax (ho)
        clear HO665 HB HO672
        have HO665 := n0_
        have HB := n1_
        have HO675 := n2_
        clear n0_ n1_ n2_ ho hb hg hat
        refine hK.out _ _ (((HB.out.cell (World.block_lt_of_cell? w _ hw669_0)).trans hw669_0)) (fun hHeld => ?_)
        clear hK K
        refine nm ?_
        refine pu (i := 11) (N := some 3) (xB 12 4095) HT_.out ?_
        refine done_ (done_of HT_.out (by kernel_rfl)) ?_
        try go_wp2
        go_roundg k2
        case measure => have := HK1.out; have := HK2.out; omega
        case rel => exact ⟨(y673), (wrap64 (x4_1 + 1)), xr, H', ⟨by have := HK1.out; have := HK2.out; omega⟩, ⟨by (with_reducible repeat (first | apply Kd.R_alloc | apply Kd.R_drewN | apply Kd.R_drew)); exact Kd.R_mono HO675.out (fun _ hk => trivial)⟩, ⟨xb HB.out⟩⟩
      ·rw [if_neg c6] at H
       have c6b0 : decide (0 < x5_2) = false := decide_eq_false c6
       clear c6
       obtain ⟨y676, Ny676, H⟩ := xg H
       obtain ⟨c30, H⟩ := xp H
       have c30b0 := eq_true c30
       have c30b1 := decide_eq_true c30
       clear c30
       obtain ⟨c31, H⟩ := xp H
       have c31b0 := eq_true c31
       have c31b1 := decide_eq_true c31
       clear c31
       obtain ⟨y679, Ny679, H⟩ := xg H
       obtain ⟨c32, H⟩ := xp H
       have LMc32 := ax c32
       clear c32
       obtain ⟨y683, Ny683, H⟩ := xg H
       have c33b0 := eq_true (xd : x5_2 ≤ (x3_1.length : Int))
       obtain ⟨y686, Ny686, H⟩ := xg H
       obtain ⟨c34b0, H⟩ := xq H
       obtain ⟨c35b0, H⟩ := xq H
       obtain ⟨c36, H⟩ := xp H
       have LMc36 := ax c36
       clear c36
       obtain ⟨y690, Ny690, H⟩ := xg H
       obtain ⟨c37, H⟩ := xp H
       have LMc37 := ax c37
       clear c37
       obtain ⟨y693, hy693⟩ : ∃ y_ : List Int, y_ = (y690 ++ y683) := ⟨_, rfl⟩
       replace H : (spec_l23Sorted.l0 k2 l0 y693 (wrap64 (x4_1 + 1))) = some r := xv hy693 H
       have Ny693 := ax hy693
       clear hy693
       have H' := ax H
       clear H
       try go_wp2
       replace HO_3 := ax (Kd.R_drew HO_3.out); replace HB := ax (below_drew1 HB.out)
       refine start_ (n := 14) (S := fun w' => True) (ds := []) (xB 14 0) (by kernel_rfl) rfl (by kernel_rfl) trivial (fun hHeld => ?_); refine with_tabW spec_l23Sorted.tab6 spec_l23Sorted.bits6 (fun HT_ HW_ => ?_)
       generalize wr.drew = w38 at HO_3 HB hHeld ⊢
       refine pu (i := 0) (N := some 16) (xB 14 1) HT_.out ?_
       refine pu (i := 1) (N := some 17) (xB 14 3) HT_.out ?_
       refine pu (i := 2) (N := some 18) (xB 14 7) HT_.out ?_
       refine pn (i := 3) (N := some 19) (xB 14 15) HT_.out ?_
       refine pn (i := 4) (N := some 20) (xB 14 31) HT_.out ?_
       refine pn (i := 5) (N := some 21) (xB 14 63) HT_.out ?_
       refine pn (i := 6) (N := some 22) (xB 14 127) HT_.out ?_
       refine pn (i := 7) (N := some 23) (xB 14 255) HT_.out ?_
       refine pn (i := 8) (N := some 24) (xB 14 511) HT_.out ?_
       refine pn (i := 9) (N := some 25) (xB 14 1023) HT_.out ?_
       refine pn (i := 10) (N := some 26) (xB 14 2047) HT_.out ?_
       refine pn (i := 11) (N := some 27) (xB 14 4095) HT_.out ?_
       refine pn (i := 12) (N := some 28) (xB 14 8191) HT_.out ?_
       refine pu (i := 13) (N := some 29) (xB 14 16383) HT_.out ?_
       refine done_ (done_of HT_.out (by kernel_rfl)) ?_
       try go_wp2_with (first | ((with_reducible refine gate_dst (N := 32) rfl ?_); refine Kd.R_lit (Kd.int .i64) _ 3 ?hg (N := 32) ?hd (xs := ([] : List Int)) (inner := []) (ok := fun _ => True) (okp := fun _ => True) ?hr ?hp (fun _ hk => hk) trivial (Below.refl _ _) (Nat.le_refl _) (by simp) ?_; (case hd => rfl); (case hg => rfl); (case hr => first | (go_simp; done) | (go_simp; rfl)); (case hp => exact (Reps.none _ _)); intro v677 w39 ho40 hb hg_ hnew_; clear hg_ hnew_; (first | rw [← Ny676.out] at ho40 | (simp only [Int.reduceToNat] at ho40; rw [← Ny676.out] at ho40)); have HO678 := ax (Kd.R_lower (Kd.R_new' ho40 (Kd.R_lt (xR HO_3.out))) (below_size (xb HB.out))); replace HO_3 := ax (Kd.R_elder' (xR HO_3.out) (Kd.R_base ho40) hb); replace HB := yB HB hb; clear hb ho40; have q41 : (x5_2 : Int) ≤ ((x3_1.length : Int) : Int) := xd; obtain ⟨i041, hi041, _, hsz41, _⟩ := info_parts info3; have hroom41 : x3_1.length ≤ co5 := (Kd.R_reads' HO_3.out).2.1; have hC41 : Kd.C (Kd.int .i64) _ Ao5 x3_1.length x3_1 := (Kd.R_reads' HO_3.out).2.2; have q041 : (0 : Int) ≤ (x5_2 : Int) := xd; have hcut41 := cut_from (P := Tryz.prog) 24 3 .i64 Tryz.underlying24 hi041 1 hsz41 Ao5 x3_1.length co5 x5_2 q041 q41; have hr41 := Kd.C_drop (m := (x5_2 : Int).toNat) (c := co5) hC41 (by omega) hroom41; obtain ⟨A41, hA41⟩ : ∃ A1, A1 = (if co5 = (x5_2 : Int).toNat then Ao5 else (Ao5 : Option Addr).map (·.add ((x5_2 : Int).toNat * 1))) := ⟨_, rfl⟩; obtain ⟨c41, hc41⟩ : ∃ c1, c1 = co5 - (x5_2 : Int).toNat := ⟨_, rfl⟩; have hy41 : y679.length = x3_1.length - (x5_2 : Int).toNat := (by rw [Ny679.out, List.length_drop] <;> omega); rw [show (x3_1).drop (x5_2 : Int).toNat = y679 from Ny679.out.symm] at hr41; replace hr41 : Kd.C (Kd.int .i64) _ A41 y679.length y679 := (by rw [hA41]; exact hr41); rw [← hy41, ← hA41, ← hc41] at hcut41; have HR682 := ax hr41; have HC682 := ax (show y679.length ≤ c41 from by rw [hy41, hc41]; exact Nat.sub_le_sub_right hroom41 _); clear hr41 hC41 hroom41 hi041 hsz41 hc41; have KY41 := ax hy41; have KA41 := ax hA41; clear hy41 hA41; have KL41 := ax (show (x5_2 : Int).toNat ≤ x3_1.length from by omega); replace q41 := eq_true q41) | ((with_reducible refine gate_builtin (b := .append) (xs := #[.tmp 32, .tmp 35]) rfl ?_); at_builtin; refine Kd.R_append_rows (Kd.int .i64) (w0 := w) w.heap.size rfl (.tmp 32) (.tmp 35) 24 3 (.int .i64 0) 8 rfl Tryz.underlying24 info3 rfl (by decide) (by omega) v677 y676 y679 _ _ _ (fun k_ => some k_ ≠ (.slice Ao5 x3_1.length co5 : Value).ownBlock) (fun _ => False) rfl rfl ?aO ?aR (fun _ _ h => h) (fun _ h => h.elim) ?aF ?aB ?aS ?aL ?_; (case aR => exact xw HR682.out); (case aB => exact (xb HB.out)); (case aF => exact (fun k_ hk => Kd.fresh' (Kd.R_lt (xR HO_3.out)) k_ hk)); (case aO => exact (by (with_reducible repeat (first | apply Kd.R_alloc | apply Kd.R_drewN | apply Kd.R_drew)); exact Kd.R_mono HO678.out (fun _ hk => hk.2))); (case aS => exact (below_size (xb HB.out))); (case aL => have := LMc32.out; omega); intro v684 w42 ho hb hg hat; rw [← Ny683.out] at ho; have n0_ := ax (Kd.R_after (ok := (fun _ => True)) (xR HO_3.out) hg hat); have n1_ := ax (hb); have n2_ := ax ((show Kd.C (Kd.int .i64) w42 A41 y679.length y679 from by rw [Ny679.out, KA41.out]; exact Kd.C_drop (m := (x5_2 : Int).toNat) (c := co5) ((Kd.R_reads' (Kd.R_after (ok := (fun _ => True)) (xR HO_3.out) hg hat)).2.2) KL41.out ((Kd.R_reads' (Kd.R_after (ok := (fun _ => True)) (xR HO_3.out) hg hat)).2.1))); have n3_ := ax (ho); clear HO_3; clear HB; clear HR682; clear HO678; have HO_3 := n0_; have HB := n1_; have HR682 := n2_; have HO685 := n3_; clear n0_ n1_ n2_ n3_; clear ho hb hg hat))
       replace HO_3 := ax (Kd.R_drew HO_3.out); replace HO685 := ax (Kd.R_drew HO685.out); replace HR682 := ax (Kd.C_drew HR682.out); replace HB := ax (below_drew1 HB.out)
       have q44 : (x5_2 : Int) ≤ ((x3_1.length : Int) : Int) := xd
       obtain ⟨i044, hi044, _, hsz44, _⟩ := info_parts info3
       have hcut44 := cut_to (P := Tryz.prog) 24 3 .i64 Tryz.underlying24 hi044 Ao5 x3_1.length co5 x5_2 (xd) q44 (Kd.R_reads' HO_3.out).2.1
       have hr44 := Kd.R_take (m := (x5_2 : Int).toNat) HO_3.out (by omega)
       have hy44 : y686.length = (x5_2 : Int).toNat := (by rw [Ny686.out, List.length_take]; omega)
       rw [← Ny686.out] at hr44
       rw [← hy44] at hr44 hcut44
       clear hy44 hi044 hsz44 HO_3
       have HO688 := ax hr44
       clear hr44
       replace q44 := eq_true q44
       have p689 : 0 ≤ (x4_1 : Int) := xd
       have q689 : x4_1 < (l0.length : Int) := xd
       obtain ⟨ad689, e689, hx689_0⟩ := Kd.at_int HR0.out x4_1 p689 q689
       have hw689_0 := hx689_0
       cases e689
       (try replace hx689_0 := (HB.out.cell (World.block_lt_of_cell? w _ hx689_0)).trans hx689_0)
       replace p689 := eq_true p689
       replace q689 := eq_true q689
       refine start_ (n := 12) (S := fun w' => w'.cell? (ad689.add (x4_1).toNat) = some (.int .i64 (rd l0 x4_1))) (ds := []) (xB 12 0) (by kernel_rfl) rfl (by kernel_rfl) (((HB.out.cell (World.block_lt_of_cell? w _ hw689_0)).trans hw689_0)) (fun hHeld => ?_); refine with_tabW spec_l23Sorted.tab9 spec_l23Sorted.bits9 (fun HT_ HW_ => ?_)
       generalize w42.drew = w43 at HO_3 HO685 HR682 HB HO688 hx689_0 hHeld ⊢
       refine pu (i := 0) (N := some 37) (xB 12 1) HT_.out ?_
       refine pu (i := 1) (N := some 38) (xB 12 3) HT_.out ?_
       refine pu (i := 2) (N := some 39) (xB 12 7) HT_.out ?_
       refine pu (i := 3) (N := some 40) (xB 12 15) HT_.out ?_
       refine pu (i := 4) (N := some 41) (xB 12 31) HT_.out ?_
       refine pu (i := 5) (N := some 42) (xB 12 63) HT_.out ?_
       refine pu (i := 9) (N := some 46) (xB 12 575) HT_.out ?_
       refine tk (i := 6) (N := some 43) (xB 12 639) HT_.out HW_.out hHeld ?_
       refine one_ (i := 7) (N := some 44) (xB 12 767) rfl rfl (one_of HT_.out (by kernel_rfl)) (by decide) (fun K hK => ?_)
       refine value_ (w1 := ?_) (v := ?_) (by rfl) rfl ?_ ?_
       rotate_left 2
       ·go_simp
        constructor
        ·rfl
        ·rfl
       refine hK.out _ _ ((World.cell?_alloc_lt _ _ _ (World.block_lt_of_cell? _ _ (((HB.out.cell (World.block_lt_of_cell? w _ hw689_0)).trans hw689_0)))).trans (((HB.out.cell (World.block_lt_of_cell? w _ hw689_0)).trans hw689_0))) (fun hHeld => ?_)
       clear hK K
       refine nm ?_
       refine one_ (i := 8) (N := some 45) (xB 12 1023) rfl rfl (one_of HT_.out (by kernel_rfl)) (by decide) (fun K hK => ?_)
       refine Kd.R_append_step (Kd.int .i64) (w0 := w) w.heap.size (by rfl) (.tmp 39) (.tmp 44) 24 3 (.int .i64 0) 8 rfl Tryz.underlying24 info3 rfl (by decide) (by omega) (.slice Ao5 y686.length co5) y686 (rd l0 x4_1) [.int .i64 (rd l0 x4_1)] (fun k_ => some k_ ≠ (v684 : Value).ownBlock) (fun _ => False) rfl rfl ?aP (fun _ hk => hk.elim) ?aF ?aO ?aB ?aS ?aL ?_
       (case aP => exact rfl)
       (case aB => exact (xb HB.out))
       (case aF => exact (fun k_ hk => Kd.fresh' (Kd.R_lt (xR HO685.out)) k_ hk))
       (case aO => exact (by (with_reducible repeat (first | apply Kd.R_alloc | apply Kd.R_drewN | apply Kd.R_drew)); exact Kd.R_mono HO688.out (fun _ hk => hk.2)))
       (case aS => exact (below_size (xb HB.out)))
       (case aL => have := LMc36.out; omega)
       intro v691 w45 ho hb hg hat
       rw [← Ny690.out] at ho
       have n0_ := ax (Kd.R_after (ok := (fun _ => True)) (by (with_reducible repeat (first | apply Kd.R_alloc | apply Kd.R_drewN | apply Kd.R_drew)); exact Kd.R_mono HO685.out (fun _ hk => ⟨trivial, by first | exact hk | simpa only [xw_own] using hk⟩)) hg hat)
       have n1_ := ax (hb)
       have n2_ := ax (ho)
       clear HO685 HB HO688
       have HO685 := n0_
       have HB := n1_
       have HO692 := n2_
       clear n0_ n1_ n2_ ho hb hg hat
       obtain ⟨Ao47, co47, eo47⟩ := Kd.R_slice HO685.out
       (first | subst eo47 | (injection eo47 with f1_ f2_ f3_; have f4_ := f1_.symm; have f5_ := f3_.symm; clear f1_ f2_ f3_; subst f4_; subst f5_))
       refine hK.out _ _ (((HB.out.cell (World.block_lt_of_cell? w _ hw689_0)).trans hw689_0)) (fun hHeld => ?_)
       clear hK K
       refine nm ?_
       refine one_ (i := 10) (N := some 47) (xB 12 2047) rfl rfl (one_of HT_.out (by kernel_rfl)) (by decide) (fun K hK => ?_)
       refine Kd.R_append_rows_step (Kd.int .i64) (w0 := w) w.heap.size (by rfl) (.tmp 45) (.tmp 46) 24 3 (.int .i64 0) 8 rfl Tryz.underlying24 info3 rfl (by decide) (by omega) v691 y690 y683 _ _ _ (fun k_ => some k_ ≠ (.slice Ao47 y683.length co47 : Value).ownBlock) (fun _ => False) rfl rfl ?aO ?aR (fun _ _ h => h) (fun _ h => h.elim) ?aF ?aB ?aS ?aL ?_
       (case aR => exact xc (Kd.R_reads' HO685.out).2.2)
       (case aB => exact (xb HB.out))
       (case aF => exact (fun k_ hk => Kd.fresh' (Kd.R_lt (xR HO685.out)) k_ hk))
       (case aO => exact (xR HO692.out))
       (case aS => exact (below_size (xb HB.out)))
       (case aL => have := LMc37.out; omega)
       intro v694 w46 ho hb hg hat
       rw [← Ny693.out] at ho
       have n0_ := ax (Kd.R_after (ok := (fun _ => True)) (xR HO685.out) hg hat)
       have n1_ := ax (hb)
       have n2_ := ax (ho)
       clear HO685 HB HO692
       have HO685 := n0_
       have HB := n1_
       have HO695 := n2_
       clear n0_ n1_ n2_ ho hb hg hat
       refine hK.out _ _ (((HB.out.cell (World.block_lt_of_cell? w _ hw689_0)).trans hw689_0)) (fun hHeld => ?_)
       clear hK K
       refine nm ?_
       refine pu (i := 11) (N := some 3) (xB 12 4095) HT_.out ?_
       refine done_ (done_of HT_.out (by kernel_rfl)) ?_
       try go_wp2
       go_roundg k2
       case measure => have := HK1.out; have := HK2.out; omega
       case rel => exact ⟨(y693), (wrap64 (x4_1 + 1)), xr, H', ⟨by have := HK1.out; have := HK2.out; omega⟩, ⟨by (with_reducible repeat (first | apply Kd.R_alloc | apply Kd.R_drewN | apply Kd.R_drew)); exact Kd.R_mono HO695.out (fun _ hk => trivial)⟩, ⟨xb HB.out⟩⟩
   ·rw [if_neg c4] at H
    have c4b0 := decide_eq_false c4
    clear c4
    obtain rfl := Option.some.inj H
    go_wp2
    go_ret
    exact ⟨_, xe, xR HO_3.out, xb HB.out⟩

end Go.Proofs.YtopmggldaicpaacGreat.PFnKronecker
