import Derived.Test.YtneipehcmmigeaaPFnExactCountTableauxx2
namespace Go.Proofs.Ytneipehcmmigeaa.PFnExactCountTableaux
open Go.RowKit Go.Proofs.YtneipehcmmigeaaW.PrintWords Go.Proofs.YtneipehcmmigeaaW.PrintLast Go.Proofs.YtneipehcmmigeaaW.PrintMore
set_option linter.unusedVariables false
set_option linter.unusedSimpArgs false
set_option maxHeartbeats 8000000
set_option maxRecDepth 100000
/-! ### spec_l7Strips: function 69 -/
mutual
def spec_l7Strips.j0 : Nat → List Int → List Int → Int → Int → List (List Int) → Int → Option ((List (List Int)))
 | 0, _, _, _, _, _, _ => none
 | k + 1, x0, x1, x2, x3, x9, x10 => (spec_l2At.f x0 x3).bind fun t129 => (spec_l7Strips.l0 k x0 x1 x2 x3 x9 x10 t129)
def spec_l7Strips.l0 : Nat → List Int → List Int → Int → Int → List (List Int) → Int → Int → Option ((List (List Int)))
 | 0, _, _, _, _, _, _, _ => none
 | k + 1, x0, x1, x2, x3, x9, x10, x11 => if x11 ≤ x10 then ((spec_l2At.f x0 x3).bind fun t130 => (spec_l7Strips.j2 k x0 x1 x2 x3 x9 x10 x11 (decide ((wrap64 (x11 - t130)) ≤ x2)))) else (spec_l7Strips.j2 k x0 x1 x2 x3 x9 x10 x11 false)
def spec_l7Strips.j2 : Nat → List Int → List Int → Int → Int → List (List Int) → Int → Int → Bool → Option ((List (List Int)))
 | 0, _, _, _, _, _, _, _, _ => none
 | k + 1, x0, x1, x2, x3, x9, x10, x11, x52 => if x52 = true then ((spec_l2At.f x0 x3).bind fun t131 => ((spec_l7Strips.f k x0 x1 (wrap64 ((wrap64 (x2 - x11)) + t131)) (wrap64 (x3 + 1))).bind fun t132 => (spec_l7Strips.l1 k x0 x1 x2 x3 x9 x10 x11 t132 0))) else (some x9)
def spec_l7Strips.l1 : Nat → List Int → List Int → Int → Int → List (List Int) → Int → Int → List (List Int) → Int → Option ((List (List Int)))
 | 0, _, _, _, _, _, _, _, _, _ => none
 | k + 1, x0, x1, x2, x3, x9, x10, x11, x12, x13 => if x13 < (x12.length : Int) then ((some (([x11] : List Int) : List Int)).bind fun y135 => (if 0 ≤ x13 then (if y135.length + (rd_L1 x12 x13).length < 17592186044416 then (if x9.length < 5864062014805 then (spec_l7Strips.l1 k x0 x1 x2 x3 (x9 ++ [(y135 ++ (rd_L1 x12 x13))]) x10 x11 x12 (wrap64 (x13 + 1))) else (none)) else (none)) else (none))) else (spec_l7Strips.l0 k x0 x1 x2 x3 x9 x10 (wrap64 (x11 + 1)))
def spec_l7Strips.f : Nat → List Int → List Int → Int → Int → Option ((List (List Int)))
 | 0, _, _, _, _ => none
 | k + 1, l0, l1, a2, a3 => (some (([] : List (List Int)) : List (List Int))).bind fun y117 => (if a3 = (l1.length : Int) then (if a2 = 0 then (if y117.length < 5864062014805 then (some (y117 ++ [(([] : List Int))])) else (none)) else (some y117)) else (if 0 ≤ a3 then (if a3 < (l1.length : Int) then (if a3 > 0 then ((spec_l2At.f l0 (wrap64 (a3 - 1))).bind fun t127 => ((spec_l1Min.f (rd l1 a3) t127).bind fun t128 => (spec_l7Strips.j0 k l0 l1 a2 a3 y117 t128))) else (spec_l7Strips.j0 k l0 l1 a2 a3 y117 (rd l1 a3))) else (none)) else (none)))
end
theorem spec_l7Strips.mono_l : ∀ k, (∀ y0 y1 y2 y3, LeO (spec_l7Strips.f k y0 y1 y2 y3) (spec_l7Strips.f (k + 1) y0 y1 y2 y3)) ∧ (∀ y0 y1 y2 y3 y4 y5, LeO (spec_l7Strips.j0 k y0 y1 y2 y3 y4 y5) (spec_l7Strips.j0 (k + 1) y0 y1 y2 y3 y4 y5)) ∧ (∀ y0 y1 y2 y3 y4 y5 y6, LeO (spec_l7Strips.l0 k y0 y1 y2 y3 y4 y5 y6) (spec_l7Strips.l0 (k + 1) y0 y1 y2 y3 y4 y5 y6)) ∧ (∀ y0 y1 y2 y3 y4 y5 y6 y7, LeO (spec_l7Strips.j2 k y0 y1 y2 y3 y4 y5 y6 y7) (spec_l7Strips.j2 (k + 1) y0 y1 y2 y3 y4 y5 y6 y7)) ∧ (∀ y0 y1 y2 y3 y4 y5 y6 y7 y8, LeO (spec_l7Strips.l1 k y0 y1 y2 y3 y4 y5 y6 y7 y8) (spec_l7Strips.l1 (k + 1) y0 y1 y2 y3 y4 y5 y6 y7 y8))
 | 0 => ⟨fun _ _ _ _ r h => by simp [spec_l7Strips.f] at h, fun _ _ _ _ _ _ r h => by simp [spec_l7Strips.j0] at h, fun _ _ _ _ _ _ _ r h => by simp [spec_l7Strips.l0] at h, fun _ _ _ _ _ _ _ _ r h => by simp [spec_l7Strips.j2] at h, fun _ _ _ _ _ _ _ _ _ r h => by simp [spec_l7Strips.l1] at h⟩
 | k + 1 => by
  obtain ⟨ih0, ih1, ih2, ih3, ih4⟩ := spec_l7Strips.mono_l k
  refine ⟨?_, ?_, ?_, ?_, ?_⟩
  ·intro y0 y1 y2 y3
   unfold spec_l7Strips.f
   repeat' with_reducible first | exact ih0 _ _ _ _ | exact ih1 _ _ _ _ _ _ | exact ih2 _ _ _ _ _ _ _ | exact ih3 _ _ _ _ _ _ _ _ | exact ih4 _ _ _ _ _ _ _ _ _ | exact xl | refine LeO.ite ?_ ?_ | refine LeO.bind ?_ fun _ => ?_
  ·intro y0 y1 y2 y3 y4 y5
   unfold spec_l7Strips.j0
   repeat' with_reducible first | exact ih0 _ _ _ _ | exact ih1 _ _ _ _ _ _ | exact ih2 _ _ _ _ _ _ _ | exact ih3 _ _ _ _ _ _ _ _ | exact ih4 _ _ _ _ _ _ _ _ _ | exact xl | refine LeO.ite ?_ ?_ | refine LeO.bind ?_ fun _ => ?_
  ·intro y0 y1 y2 y3 y4 y5 y6
   unfold spec_l7Strips.l0
   repeat' with_reducible first | exact ih0 _ _ _ _ | exact ih1 _ _ _ _ _ _ | exact ih2 _ _ _ _ _ _ _ | exact ih3 _ _ _ _ _ _ _ _ | exact ih4 _ _ _ _ _ _ _ _ _ | exact xl | refine LeO.ite ?_ ?_ | refine LeO.bind ?_ fun _ => ?_
  ·intro y0 y1 y2 y3 y4 y5 y6 y7
   unfold spec_l7Strips.j2
   repeat' with_reducible first | exact ih0 _ _ _ _ | exact ih1 _ _ _ _ _ _ | exact ih2 _ _ _ _ _ _ _ | exact ih3 _ _ _ _ _ _ _ _ | exact ih4 _ _ _ _ _ _ _ _ _ | exact xl | refine LeO.ite ?_ ?_ | refine LeO.bind ?_ fun _ => ?_
  ·intro y0 y1 y2 y3 y4 y5 y6 y7 y8
   unfold spec_l7Strips.l1
   repeat' with_reducible first | exact ih0 _ _ _ _ | exact ih1 _ _ _ _ _ _ | exact ih2 _ _ _ _ _ _ _ | exact ih3 _ _ _ _ _ _ _ _ | exact ih4 _ _ _ _ _ _ _ _ _ | exact xl | refine LeO.ite ?_ ?_ | refine LeO.bind ?_ fun _ => ?_
theorem spec_l7Strips.mono : ∀ a0 a1 a2 a3 k, LeO (spec_l7Strips.f k a0 a1 a2 a3) (spec_l7Strips.f (k + 1) a0 a1 a2 a3) := by
 intro a0 a1 a2 a3 k
 obtain ⟨ih0, ih1, ih2, ih3, ih4⟩ := spec_l7Strips.mono_l k
 exact ih0 a0 a1 a2 a3
theorem spec_l7Strips.calls (k : Nat) : ∀ (A0 : Option Addr) (c0 : Nat) (l0 : List Int) (A1 : Option Addr) (c1 : Nat) (l1 : List Int) (a2 : Int) (a3 : Int) (r : List (List Int)) (w : World) (hr0 : Kd.C (Kd.int .i64) w A0 l0.length l0) (hc0 : l0.length ≤ c0) (hr1 : Kd.C (Kd.int .i64) w A1 l1.length l1) (hc1 : l1.length ≤ c1) (h : spec_l7Strips.f k l0 l1 a2 a3 = some r),
  Calls Try.prog 69 #[.slice A0 l0.length c0, .slice A1 l1.length c1, .int .i64 a2, .int .i64 a3] w fun e w' => ∃ v0_ : Value, e = .returned (v0_) ∧ Kd.S (Kd.slice 3 (Kd.int .i64)) 35 w' w.heap.size (fun _ => True) v0_ r ∧ Below w.heap.size w w' := by
 induction k using Nat.strongRecOn with
 | _ k ih =>
 intro A0 c0 l0 A1 c1 l1 a2 a3 r w hr0 hc0 hr1 hc1 h
 cases k with
 | zero => exact absurd h (by simp [spec_l7Strips.f])
 | succ k =>
 simp only [spec_l7Strips.f] at h
 have HR0 := ax hr0
 have HC0 := ax hc0
 clear hr0 hc0
 have HR1 := ax hr1
 have HC1 := ax hc1
 clear hr1 hc1
 have HB := ax (Below.refl w.heap.size w)
 have H : ((some (([] : List (List Int)) : List (List Int))).bind fun y117 => (if a3 = (l1.length : Int) then (if a2 = 0 then (if y117.length < 5864062014805 then (some (y117 ++ [(([] : List Int))])) else (none)) else (some y117)) else (if 0 ≤ a3 then (if a3 < (l1.length : Int) then (if a3 > 0 then ((spec_l2At.f l0 (wrap64 (a3 - 1))).bind fun t127 => ((spec_l1Min.f (rd l1 a3) t127).bind fun t128 => (spec_l7Strips.j0 k l0 l1 a2 a3 y117 t128))) else (spec_l7Strips.j0 k l0 l1 a2 a3 y117 (rd l1 a3))) else (none)) else (none)))) = some r := h
 clear h
 obtain ⟨y117, Ny117, H⟩ := xg H
 by_cases c5 : a3 = (l1.length : Int)
 ·rw [if_pos c5] at H
  have c5b0 : (a3 == (l1.length : Int)) = true := beq_iff_eq.mpr c5
  have c5b1 : (a3 != (l1.length : Int)) = false := bne_eq_false_iff_eq.mpr c5
  clear c5
  by_cases c6 : a2 = 0
  ·rw [if_pos c6] at H
   have c6b0 : (a2 == 0) = true := beq_iff_eq.mpr c6
   have c6b1 : (a2 != 0) = false := bne_eq_false_iff_eq.mpr c6
   clear c6
   obtain ⟨y120, hy120⟩ : ∃ y_ : List Int, y_ = (([] : List Int)) := ⟨_, rfl⟩
   replace H : (if y117.length < 5864062014805 then (some (y117 ++ [y120])) else (none)) = some r := xv hy120 H
   have Ny120 := ax hy120
   clear hy120
   obtain ⟨c7, H⟩ := xp H
   have LMc7 := ax c7
   clear c7
   obtain ⟨y123, hy123⟩ : ∃ y_ : List (List Int), y_ = (y117 ++ [y120]) := ⟨_, rfl⟩
   replace H : (some y123) = some r := xv hy123 H
   have Ny123 := ax hy123
   clear hy123
   obtain rfl := Option.some.inj H
   go_enter Try.func69, Try.ntmps69
   go_wp2_with (first | ((with_reducible refine gate_dst (N := 14) rfl ?_); refine Kd.S_lit (Kd.slice 3 (Kd.int .i64)) _ 35 ?hg (N := 14) ?hd (xs := ([] : List (List Int))) (inner := []) (ok := fun _ => True) (okp := fun _ => True) ?hr ?hp (fun _ hk => hk) trivial (Below.refl _ _) (Nat.le_refl _) (by simp) ?_; (case hd => rfl); (case hg => rfl); (case hr => first | (go_simp; done) | (go_simp; rfl)); (case hp => exact (Reps.none _ _)); intro v118 w8 ho9 hb hg_ hnew_; clear hg_ hnew_; (first | rw [← Ny117.out] at ho9 | (simp only [Int.reduceToNat] at ho9; rw [← Ny117.out] at ho9)); have HO119 := ax (Kd.S_lower ho9 (below_size (xb HB.out))); replace HB := yB HB hb; clear hb ho9) | ((with_reducible refine gate_dst (N := 22) rfl ?_); refine Kd.R_lit (Kd.int .i64) _ 3 ?hg (N := 22) ?hd (xs := ([] : List Int)) (inner := []) (ok := fun _ => True) (okp := fun _ => True) ?hr ?hp (fun _ hk => hk) trivial (Below.refl _ _) (Nat.le_refl _) (by simp) ?_; (case hd => rfl); (case hg => rfl); (case hr => first | (go_simp; done) | (go_simp; rfl)); (case hp => exact (Reps.none _ _)); intro v121 w10 ho11 hb hg_ hnew_; clear hg_ hnew_; (first | rw [← Ny120.out] at ho11 | (simp only [Int.reduceToNat] at ho11; rw [← Ny120.out] at ho11)); replace HO119 := ax (Kd.S_elder' (xS HO119.out) (Kd.R_base ho11) hb); have HO122 := ax (Kd.R_lower ho11 (below_size (xb HB.out))); replace HB := yB HB hb; clear hb ho11; obtain ⟨Ao13, co13, eo13⟩ := Kd.R_slice HO122.out; subst eo13) | ((with_reducible refine gate_builtin (b := .append) (xs := #[.tmp 21, .tmp 23]) rfl ?_); at_builtin; refine Kd.S_append (Kd.slice 3 (Kd.int .i64)) (w0 := w) w.heap.size rfl (.tmp 21) (.tmp 23) 64 35 (.slice none 0 0) 24 rfl Try.underlying64 info35 rfl (by decide) (by omega) v118 y117 y120 [.slice Ao13 y120.length co13] (fun _ => True) (fun k_ => some k_ = (.slice Ao13 y120.length co13 : Value).ownBlock) rfl rfl ?aP (fun k_ hk_ => ((Kd.R_mono (ok' := fun k_ => ((fun _ => True)) k_ ∧ some k_ ≠ (v118 : Value).ownBlock) (Kd.R_apart' (HO122.out) (Kd.S_typed HO119.out) (by decide)) (fun k_ hk => ⟨trivial, hk.2⟩))).1 k_ hk_.symm) ?aF ?aO ?aB ?aS ?aL ?_; (case aP => exact Kd.M_row (Kd.R_mono (Kd.R_tight rfl (Kd.R_mono (ok' := fun k_ => ((fun _ => True)) k_ ∧ some k_ ≠ (v118 : Value).ownBlock) (Kd.R_apart' (HO122.out) (Kd.S_typed HO119.out) (by decide)) (fun k_ hk => ⟨trivial, hk.2⟩))) (fun _ h_ => h_))); (case aB => exact (xb HB.out)); (case aF => exact (fun _ _ => trivial)); (case aO => exact (by (with_reducible repeat (first | apply Kd.S_alloc | apply Kd.S_drewN | apply Kd.S_drew)); exact Kd.S_mono HO119.out (fun k_ hk => ⟨trivial, fun e_ => hk.2 e_⟩))); (case aS => exact (below_size (xb HB.out))); (case aL => have := LMc7.out; omega); intro v124 w12 ho hb hg hat; rw [← Ny123.out] at ho; have n0_ := ax (hb); have n1_ := ax (ho); clear HB; clear HO119; clear HO122; have HB := n0_; have HO125 := n1_; clear n0_ n1_; clear ho hb hg hat))
   go_ret
   exact ⟨_, xe, xS HO125.out, xb HB.out⟩
  ·rw [if_neg c6] at H
   have c6b0 : (a2 == 0) = false := beq_eq_false_iff_ne.mpr c6
   have c6b1 : (a2 != 0) = true := bne_iff_ne.mpr c6
   obtain rfl := Option.some.inj H
   go_enter Try.func69, Try.ntmps69
   go_wp2_with (first | ((with_reducible refine gate_dst (N := 14) rfl ?_); refine Kd.S_lit (Kd.slice 3 (Kd.int .i64)) _ 35 ?hg (N := 14) ?hd (xs := ([] : List (List Int))) (inner := []) (ok := fun _ => True) (okp := fun _ => True) ?hr ?hp (fun _ hk => hk) trivial (Below.refl _ _) (Nat.le_refl _) (by simp) ?_; (case hd => rfl); (case hg => rfl); (case hr => first | (go_simp; done) | (go_simp; rfl)); (case hp => exact (Reps.none _ _)); intro v118 w14 ho15 hb hg_ hnew_; clear hg_ hnew_; (first | rw [← Ny117.out] at ho15 | (simp only [Int.reduceToNat] at ho15; rw [← Ny117.out] at ho15)); have HO119 := ax (Kd.S_lower ho15 (below_size (xb HB.out))); replace HB := yB HB hb; clear hb ho15))
   go_ret
   exact ⟨_, xe, xS HO119.out, xb HB.out⟩
 ·rw [if_neg c5] at H
  have c5b0 : (a3 == (l1.length : Int)) = false := beq_eq_false_iff_ne.mpr c5
  have c5b1 : (a3 != (l1.length : Int)) = true := bne_iff_ne.mpr c5
  obtain ⟨c16b0, H⟩ := xq H
  obtain ⟨c17b0, H⟩ := xq H
  have HC18 := ax H
  clear H
  go_enter Try.func69, Try.ntmps69
  go_upto_if 31 with (first | ((with_reducible refine gate_dst (N := 14) rfl ?_); refine Kd.S_lit (Kd.slice 3 (Kd.int .i64)) _ 35 ?hg (N := 14) ?hd (xs := ([] : List (List Int))) (inner := []) (ok := fun _ => True) (okp := fun _ => True) ?hr ?hp (fun _ hk => hk) trivial (Below.refl _ _) (Nat.le_refl _) (by simp) ?_; (case hd => rfl); (case hg => rfl); (case hr => first | (go_simp; done) | (go_simp; rfl)); (case hp => exact (Reps.none _ _)); intro v118 w19 ho20 hb hg_ hnew_; clear hg_ hnew_; (first | rw [← Ny117.out] at ho20 | (simp only [Int.reduceToNat] at ho20; rw [← Ny117.out] at ho20)); have HO119 := ax (Kd.S_lower ho20 (below_size (xb HB.out))); replace HB := yB HB hb; clear hb ho20; have p126 : 0 ≤ (a3 : Int) := xd; have q126 : a3 < (l1.length : Int) := xd; obtain ⟨ad126, e126, hx126_0⟩ := Kd.at_int HR1.out a3 p126 q126; cases e126; replace hx126_0 := (HB.out.cell (World.block_lt_of_cell? w _ hx126_0)).trans hx126_0; replace p126 := eq_true p126; replace q126 := eq_true q126))
  (try simp only [Act.put, List.setIfInBounds_toArray, List.set_cons_zero, List.set_cons_succ])
  go_cut [10] (fun v10 wc => ∃ (kq : Nat) (x10_17 : Int), v10 = .int .i64 x10_17 ∧ Aside0 (spec_l7Strips.j0 kq l0 l1 a2 a3 y117 x10_17 = some r) ∧ Aside0 (kq ≤ k) ∧ Aside0 (Kd.S (Kd.slice 3 (Kd.int .i64)) 35 wc w.heap.size (fun _ => True) v118 y117) ∧ Aside0 (Below w.heap.size w wc))
  case first =>
   have H := HC18.out
   clear HC18
   by_cases c21 : a3 > 0
   ·rw [if_pos c21] at H
    have c21b0 : decide (0 < a3) = true := decide_eq_true c21
    clear c21
    (first | rw [c21b0] | (simp only [i64_w, i32_w]; rw [c21b0]) | skip)
    obtain ⟨t127, A22, H⟩ := xI H
    obtain ⟨t128, A23, H⟩ := xI H
    have H' := ax H
    clear H
    go_wp2_with (first | ((with_reducible refine gate_callee (f := 83) rfl ?_); refine goesL_ (some 36) rfl rfl Try.func83 (by kernel_rfl) rfl #[.slice A0 l0.length c0, .int .i64 (wrap64 (a3 - 1))] rfl xm ?_; (with_reducible refine (spec_l2At.calls _ _ l0 (wrap64 (a3 - 1)) t127 _ ?side1 ?side2 A22.out).mono ?_); (case side1 => exact xz HR0.out HB.out); (case side2 => exact HC0.out); rintro e w' ⟨rfl, ⟨nd, rfl⟩⟩; refine ⟨_, rfl, ?_⟩) | ((with_reducible refine gate_callee (f := 82) rfl ?_); refine goesL_ (some 37) rfl rfl Try.func82 (by kernel_rfl) rfl #[.int .i64 (rd l1 a3), .int .i64 t127] rfl xm ?_; (with_reducible refine (spec_l1Min.calls (rd l1 a3) t127 t128 _ A23.out).mono ?_); rintro e w' ⟨rfl, ⟨nd, rfl⟩⟩; refine ⟨_, rfl, ?_⟩))
    go_meet
    case rel => exact ⟨_, (t128), xr, H', ⟨by first | omega | exact Nat.le_refl _⟩, ⟨xS HO119.out⟩, ⟨xb HB.out⟩⟩
   ·rw [if_neg c21] at H
    have c21b0 : decide (0 < a3) = false := decide_eq_false c21
    clear c21
    (first | rw [c21b0] | (simp only [i64_w, i32_w]; rw [c21b0]) | skip)
    have H' := ax H
    clear H
    go_wp2
    go_meet
    case rel => exact ⟨_, (rd l1 a3), xr, H', ⟨by first | omega | exact Nat.le_refl _⟩, ⟨xS HO119.out⟩, ⟨xb HB.out⟩⟩
  case rest =>
   clear HC18
   (try clear c1); (try clear c5); (try clear c5b0); (try clear c5b1); (try clear c6); (try clear c6b0); (try clear c6b1); (try clear c7); (try clear c16); (try clear c16b0); (try clear c17); (try clear c17b0); (try clear c21); (try clear c21b0); (try clear hx126_0); (try clear p126); (try clear q126)
   obtain ⟨kq, x10_17, rfl, HA, HJ17, HO_9, HB⟩ := hcut
   cases kq with
   | zero => exact absurd HA.out (by simp [spec_l7Strips.j0])
   | succ kj17 =>
    have H := HA.out
    clear HA
    simp only [spec_l7Strips.j0] at H
    obtain ⟨t129, A24, H⟩ := xI H
    have H' := ax H
    clear H
    go_wp2_with (first | ((with_reducible refine gate_callee (f := 83) rfl ?_); refine goesL_ (some 40) rfl rfl Try.func83 (by kernel_rfl) rfl #[.slice A0 l0.length c0, .int .i64 a3] rfl xm ?_; (with_reducible refine (spec_l2At.calls _ _ l0 a3 t129 _ ?side1 ?side2 A24.out).mono ?_); (case side1 => exact xz HR0.out HB.out); (case side2 => exact HC0.out); rintro e w' ⟨rfl, ⟨nd, rfl⟩⟩; refine ⟨_, rfl, ?_⟩))
    go_loopg [9, 11] kj17 (fun kq v9 v11 w' => ∃ (x9_2 : List (List Int)) (x11_2 : Int), v11 = .int .i64 x11_2 ∧ Aside0 (spec_l7Strips.l0 kq l0 l1 a2 a3 x9_2 x10_17 x11_2 = some r) ∧ Aside0 (kq ≤ kj17) ∧ Aside0 (Kd.S (Kd.slice 3 (Kd.int .i64)) 35 w' w.heap.size (fun _ => True) v9 x9_2) ∧ Aside0 (Below w.heap.size w w'))
    case atStart => exact ⟨(y117), (t129), xr, H', ⟨Nat.le_refl _⟩, ⟨xS HO_9.out⟩, ⟨xb HB.out⟩⟩
    case round =>
     clear H'
     (try clear c1); (try clear c5); (try clear c5b0); (try clear c5b1); (try clear c6); (try clear c6b0); (try clear c6b1); (try clear c7); (try clear c16); (try clear c16b0); (try clear c17); (try clear c17b0); (try clear c21); (try clear c21b0); (try clear hx126_0); (try clear p126); (try clear q126)
     obtain ⟨x9_2, x11_2, rfl, HA, HK2, HO_9, HB⟩ := hrel
     cases gk with
     | zero => exact absurd HA.out (by simp [spec_l7Strips.l0])
     | succ k2 =>
      have H := HA.out
      clear HA
      simp only [spec_l7Strips.l0] at H
      have HC25 := ax H
      clear H
      go_upto_region 10 with (fail)
      go_cut [52] (fun v52 wc => ∃ (kq : Nat) (x52_24 : Bool), v52 = .bool x52_24 ∧ Aside0 (spec_l7Strips.j2 kq l0 l1 a2 a3 x9_2 x10_17 x11_2 x52_24 = some r) ∧ Aside0 (kq ≤ k2) ∧ Aside0 (Kd.S (Kd.slice 3 (Kd.int .i64)) 35 wc w.heap.size (fun _ => True) u9 x9_2) ∧ Aside0 (Below w.heap.size w wc))
      case first =>
       have H := HC25.out
       clear HC25
       by_cases c26 : x11_2 ≤ x10_17
       ·rw [if_pos c26] at H
        have c26b0 := decide_eq_true c26
        clear c26
        (first | rw [c26b0] | (simp only [i64_w, i32_w]; rw [c26b0]) | skip)
        obtain ⟨t130, A27, H⟩ := xI H
        have H' := ax H
        clear H
        go_wp2_with (first | (go_at_call 83; (with_reducible refine (spec_l2At.calls _ _ l0 a3 t130 _ ?side1 ?side2 A27.out).mono ?_); (case side1 => exact xz HR0.out HB.out); (case side2 => exact HC0.out); rintro e w' ⟨rfl, ⟨nd, rfl⟩⟩))
        go_meet
        case rel => exact ⟨_, (decide ((wrap64 (x11_2 - t130)) ≤ a2)), xr, H', ⟨by have := HJ17.out; have := HK2.out; first | omega | exact Nat.le_refl _⟩, ⟨xS HO_9.out⟩, ⟨xb HB.out⟩⟩
       ·rw [if_neg c26] at H
        have c26b0 := decide_eq_false c26
        clear c26
        (first | rw [c26b0] | (simp only [i64_w, i32_w]; rw [c26b0]) | skip)
        have H' := ax H
        clear H
        go_wp2
        go_meet
        case rel => exact ⟨_, (false), xr, H', ⟨by have := HJ17.out; have := HK2.out; first | omega | exact Nat.le_refl _⟩, ⟨xS HO_9.out⟩, ⟨xb HB.out⟩⟩
      case rest =>
       clear HC25
       (try clear c1); (try clear c5); (try clear c5b0); (try clear c5b1); (try clear c6); (try clear c6b0); (try clear c6b1); (try clear c7); (try clear c16); (try clear c16b0); (try clear c17); (try clear c17b0); (try clear c21); (try clear c21b0); (try clear c26); (try clear c26b0); (try clear hx126_0); (try clear p126); (try clear q126)
       obtain ⟨kq, x52_24, rfl, HA, HJ24, HO_9, HB⟩ := hcut
       cases kq with
       | zero => exact absurd HA.out (by simp [spec_l7Strips.j2])
       | succ kj24 =>
        have H := HA.out
        clear HA
        simp only [spec_l7Strips.j2] at H
        by_cases c28 : x52_24 = true
        ·subst c28
         rw [if_pos rfl] at H
         obtain ⟨t131, A29, H⟩ := xI H
         obtain ⟨t132, A30, H⟩ := xI H
         have H' := ax H
         clear H
         go_wp2_with (first | ((with_reducible refine gate_callee (f := 83) rfl ?_); refine goesL_ (some 62) rfl rfl Try.func83 (by kernel_rfl) rfl #[.slice A0 l0.length c0, .int .i64 a3] rfl xm ?_; (with_reducible refine (spec_l2At.calls _ _ l0 a3 t131 _ ?side1 ?side2 A29.out).mono ?_); (case side1 => exact xz HR0.out HB.out); (case side2 => exact HC0.out); rintro e w' ⟨rfl, ⟨nd, rfl⟩⟩; refine ⟨_, rfl, ?_⟩) | ((with_reducible refine gate_callee (f := 69) rfl ?_); refine goesL_ (some 66) rfl rfl Try.func69 (by kernel_rfl) rfl #[.slice A0 l0.length c0, .slice (some ad126) l1.length c1, .int .i64 (wrap64 ((wrap64 (a2 - x11_2)) + t131)), .int .i64 (wrap64 (a3 + 1))] rfl xm ?_; (with_reducible refine (ih kj24 (by have := HJ17.out; have := HK2.out; have := HJ24.out; omega) _ _ l0 _ _ l1 (wrap64 ((wrap64 (a2 - x11_2)) + t131)) (wrap64 (a3 + 1)) t132 _ ?side1 ?side2 ?side3 ?side4 A30.out).mono ?_); (case side1 => exact xc (Kd.C_below HR0.out (xb HB.out))); (case side2 => exact HC0.out); (case side3 => exact xc (Kd.C_below HR1.out (xb HB.out))); (case side4 => exact HC1.out); rintro e w31 ⟨v133, rfl, ho0, hb⟩; refine ⟨_, rfl, ?_⟩; have HO134 := ax (Kd.S_lower (Kd.S_new' ho0 (Kd.S_lt (xS HO_9.out))) (below_size (xb HB.out))); replace HO_9 := ax (Kd.S_elder' (xS HO_9.out) (Kd.S_base ho0) hb); replace HB := yB HB hb; (try clear hb); (try clear ho0)))
         go_loopg [9, 13] kj24 (fun kq v9 v13 w' => ∃ (x9_4 : List (List Int)) (x13_4 : Int), v13 = .int .i64 x13_4 ∧ Aside0 (spec_l7Strips.l1 kq l0 l1 a2 a3 x9_4 x10_17 x11_2 t132 x13_4 = some r) ∧ Aside0 (kq ≤ kj24) ∧ Aside0 (Kd.S (Kd.slice 3 (Kd.int .i64)) 35 w' w.heap.size (fun k_ => some k_ ≠ (v133 : Value).ownBlock) v9 x9_4) ∧ Aside0 (Kd.S (Kd.slice 3 (Kd.int .i64)) 35 w' w.heap.size (fun k_ => some k_ ≠ (v9 : Value).ownBlock) v133 t132) ∧ Aside0 (Below w.heap.size w w'))
         case atStart => exact ⟨(x9_2), (0), xr, H', ⟨Nat.le_refl _⟩, ⟨by (with_reducible repeat (first | apply Kd.S_alloc | apply Kd.S_drewN | apply Kd.S_drew)); exact Kd.S_mono HO_9.out (fun _ hk => hk.2)⟩, ⟨by (with_reducible repeat (first | apply Kd.S_alloc | apply Kd.S_drewN | apply Kd.S_drew)); exact Kd.S_mono HO134.out (fun _ hk => hk.2)⟩, ⟨xb HB.out⟩⟩
         case round =>
          clear H'
          (try clear c1); (try clear c5); (try clear c5b0); (try clear c5b1); (try clear c6); (try clear c6b0); (try clear c6b1); (try clear c7); (try clear c16); (try clear c16b0); (try clear c17); (try clear c17b0); (try clear c21); (try clear c21b0); (try clear c26); (try clear c26b0); (try clear c28); (try clear hx126_0); (try clear p126); (try clear q126)
          obtain ⟨x9_4, x13_4, rfl, HA, HK4, HO_9, HO_12, HB⟩ := hrel
          cases gk with
          | zero => exact absurd HA.out (by simp [spec_l7Strips.l1])
          | succ k4 =>
           have H := HA.out
           clear HA
           simp only [spec_l7Strips.l1] at H
           by_cases c32 : x13_4 < (t132.length : Int)
           ·rw [if_pos c32] at H
            have c32b0 := decide_eq_true c32
            clear c32
            obtain ⟨y135, Ny135, H⟩ := xg H
            obtain ⟨c33b0, H⟩ := xq H
            obtain ⟨c34, H⟩ := xp H
            have LMc34 := ax c34
            clear c34
            obtain ⟨y139, hy139⟩ : ∃ y_ : List Int, y_ = (y135 ++ (rd_L1 t132 x13_4)) := ⟨_, rfl⟩
            replace H : (if x9_4.length < 5864062014805 then (spec_l7Strips.l1 k4 l0 l1 a2 a3 (x9_4 ++ [y139]) x10_17 x11_2 t132 (wrap64 (x13_4 + 1))) else (none)) = some r := xv hy139 H
            have Ny139 := ax hy139
            clear hy139
            obtain ⟨c35, H⟩ := xp H
            have LMc35 := ax c35
            clear c35
            obtain ⟨y142, hy142⟩ : ∃ y_ : List (List Int), y_ = (x9_4 ++ [y139]) := ⟨_, rfl⟩
            replace H : (spec_l7Strips.l1 k4 l0 l1 a2 a3 y142 x10_17 x11_2 t132 (wrap64 (x13_4 + 1))) = some r := xv hy142 H
            have Ny142 := ax hy142
            clear hy142
            have H' := ax H
            clear H
            obtain ⟨Ao36, co36, eo36⟩ := Kd.S_slice HO_12.out
            subst eo36
            go_wp2_with (first | ((with_reducible refine gate_dst (N := 75) rfl ?_); refine Kd.R_lit (Kd.int .i64) _ 3 ?hg (N := 75) ?hd (xs := ([x11_2] : List Int)) (inner := [.int .i64 x11_2]) (ok := fun _ => True) (okp := fun _ => True) ?hr ?hp (fun _ hk => hk) trivial (Below.refl _ _) (Nat.le_refl _) (by simp) ?_; (case hd => rfl); (case hg => rfl); (case hr => first | (go_simp; done) | (go_simp; rfl)); (case hp => exact (Reps.one (show Kd.M (Kd.int .i64) _ _ _ x11_2 [.int .i64 x11_2] from rfl) (Reps.none _ _))); intro v136 w37 ho38 hb hg_ hnew_; clear hg_ hnew_; (first | rw [← Ny135.out] at ho38 | (simp only [Int.reduceToNat] at ho38; rw [← Ny135.out] at ho38)); replace HO_9 := ax (Kd.S_elder' (xS HO_9.out) (Kd.R_base ho38) hb); replace HO_12 := ax (Kd.S_elder' (xS HO_12.out) (Kd.R_base ho38) hb); have HO137 := ax (Kd.R_lower ho38 (below_size (xb HB.out))); replace HB := yB HB hb; clear hb ho38; have p138 : 0 ≤ (x13_4 : Int) := xd; have q138 : x13_4 < (t132.length : Int) := xd; obtain ⟨ad138, A138_0, c138_0, e138, hx138_0, hl138_0, hi138_0⟩ := at_L1 (Kd.S_reads' HO_12.out).2.2 x13_4 p138 q138; cases e138; obtain ⟨ce138, hce138, hMe138, hcc138⟩ := Kd.S_get HO_12.out [] x13_4 p138 (by first | exact q138 | exact xd | (have e_ := (Kd.S_reads' HO_12.out).1; omega)); obtain ⟨ve138_0, rfl, ge138_0⟩ := hMe138; have hv138_0 := hcc138 0 _ rfl; rw [Nat.add_zero, show ((Kd.slice 3 (Kd.int .i64))).sz = 1 from rfl, Nat.mul_one] at hv138_0; replace hv138_0 := Option.some.inj (hv138_0.symm.trans hx138_0); rw [hv138_0] at ge138_0; have HL138_0 := ax (show Kd.R (Kd.int .i64) 3 _ _ _ _ (rd_L1 t132 x13_4) from ge138_0); clear hv138_0 ge138_0; clear hcc138 hce138; have HR138_0 := ax hi138_0; have HC138_0 := ax hl138_0; clear hi138_0 hl138_0; replace p138 := eq_true p138; replace q138 := eq_true q138) | ((with_reducible refine gate_builtin (b := .append) (xs := #[.tmp 75, .tmp 79]) rfl ?_); at_builtin; refine Kd.R_append_rows (Kd.int .i64) (w0 := w) w.heap.size rfl (.tmp 75) (.tmp 79) 35 3 (.int .i64 0) 8 rfl Try.underlying35 info3 rfl (by decide) (by omega) v136 y135 (rd_L1 t132 x13_4) _ _ _ (fun _ => True) (fun _ => False) rfl rfl ?aO ?aR (fun _ _ h => h) (fun _ h => h.elim) ?aF ?aB ?aS ?aL ?_; (case aR => exact xw HR138_0.out); (case aB => exact (xb HB.out)); (case aF => exact (fun _ _ => trivial)); (case aO => exact (xR HO137.out)); (case aS => exact (below_size (xb HB.out))); (case aL => have := LMc34.out; omega); intro v140 w39 ho hb hg hat; rw [← Ny139.out] at ho; have n0_ := ax (Kd.S_after (ok := (fun k_ => some k_ ≠ (.slice (some ad138) t132.length co36 : Value).ownBlock)) (xS HO_9.out) hg hat); have n1_ := ax (Kd.S_after (ok := (fun k_ => some k_ ≠ (u9 : Value).ownBlock)) (xS HO_12.out) hg hat); have n2_ := ax (Kd.R_after (ok := (fun k_ => some k_ ≠ (u9 : Value).ownBlock ∧ some k_ ≠ (.slice (some ad138) t132.length co36 : Value).ownBlock)) (by (with_reducible repeat (first | apply Kd.R_alloc | apply Kd.R_drewN | apply Kd.R_drew)); exact Kd.R_mono HL138_0.out (fun _ hk => ⟨⟨hk.1.1, hk.2⟩, hk.1.2⟩)) hg hat); have n3_ := ax (hb); have n4_ := ax (ho); clear HO_9; clear HO_12; clear HL138_0; clear HB; clear HO137; have HO_9 := n0_; have HO_12 := n1_; have HL138_0 := n2_; have HB := n3_; have HO141 := n4_; clear n0_ n1_ n2_ n3_ n4_; clear ho hb hg hat; obtain ⟨Ao41, co41, eo41⟩ := Kd.R_slice HO141.out; subst eo41) | ((with_reducible refine gate_builtin (b := .append) (xs := #[.tmp 73, .tmp 81]) rfl ?_); at_builtin; refine Kd.S_append (Kd.slice 3 (Kd.int .i64)) (w0 := w) w.heap.size rfl (.tmp 73) (.tmp 81) 64 35 (.slice none 0 0) 24 rfl Try.underlying64 info35 rfl (by decide) (by omega) u9 x9_4 y139 [.slice Ao41 y139.length co41] (fun k_ => some k_ ≠ (.slice (some ad138) t132.length co36 : Value).ownBlock) (fun k_ => some k_ = (.slice Ao41 y139.length co41 : Value).ownBlock) rfl rfl ?aP (fun k_ hk_ => ((Kd.R_mono (ok' := fun k_ => ((fun k_ => some k_ ≠ (.slice (some ad138) t132.length co36 : Value).ownBlock)) k_ ∧ some k_ ≠ (u9 : Value).ownBlock) (Kd.R_apart' (Kd.R_apart' (HO141.out) (Kd.S_typed HO_12.out) (by decide)) (Kd.S_typed HO_9.out) (by decide)) (fun k_ hk => ⟨hk.1.2, hk.2⟩))).1 k_ hk_.symm) ?aF ?aO ?aB ?aS ?aL ?_; (case aP => exact Kd.M_row (Kd.R_mono (Kd.R_tight rfl (Kd.R_mono (ok' := fun k_ => ((fun k_ => some k_ ≠ (.slice (some ad138) t132.length co36 : Value).ownBlock)) k_ ∧ some k_ ≠ (u9 : Value).ownBlock) (Kd.R_apart' (Kd.R_apart' (HO141.out) (Kd.S_typed HO_12.out) (by decide)) (Kd.S_typed HO_9.out) (by decide)) (fun k_ hk => ⟨hk.1.2, hk.2⟩))) (fun _ h_ => h_))); (case aB => exact (xb HB.out)); (case aF => exact (fun k_ hk => Kd.fresh' (Kd.S_lt (xS HO_12.out)) k_ hk)); (case aO => exact (by (with_reducible repeat (first | apply Kd.S_alloc | apply Kd.S_drewN | apply Kd.S_drew)); exact Kd.S_mono HO_9.out (fun k_ hk => ⟨hk.1, fun e_ => hk.2 e_⟩))); (case aS => exact (below_size (xb HB.out))); (case aL => have := LMc35.out; omega); intro v143 w40 ho hb hg hat; rw [← Ny142.out] at ho; have n0_ := ax (Kd.S_after (ok := (fun k_ => some k_ ≠ (.slice Ao41 y139.length co41 : Value).ownBlock)) (by (with_reducible repeat (first | apply Kd.S_alloc | apply Kd.S_drewN | apply Kd.S_drew)); exact Kd.S_mono HO_12.out (fun _ hk => ⟨hk.2, hk.1⟩)) hg hat); have n1_ := ax (Kd.R_after (ok := (fun k_ => some k_ ≠ (.slice (some ad138) t132.length co36 : Value).ownBlock ∧ some k_ ≠ (.slice Ao41 y139.length co41 : Value).ownBlock)) (by (with_reducible repeat (first | apply Kd.R_alloc | apply Kd.R_drewN | apply Kd.R_drew)); exact Kd.R_mono HL138_0.out (fun _ hk => ⟨⟨hk.1.2, hk.2⟩, hk.1.1⟩)) hg hat); have n2_ := ax (hb); have n3_ := ax (ho); clear HO_12; clear HL138_0; clear HB; clear HO_9; clear HO141; have HO_12 := n0_; have HL138_0 := n1_; have HB := n2_; have HO144 := n3_; clear n0_ n1_ n2_ n3_; clear ho hb hg hat))
            go_roundg k4
            case measure => have := HJ17.out; have := HK2.out; have := HJ24.out; have := HK4.out; omega
            case rel => exact ⟨(y142), (wrap64 (x13_4 + 1)), xr, H', ⟨by have := HJ17.out; have := HK2.out; have := HJ24.out; have := HK4.out; omega⟩, ⟨xS HO144.out⟩, ⟨by (with_reducible repeat (first | apply Kd.S_alloc | apply Kd.S_drewN | apply Kd.S_drew)); exact Kd.S_mono HO_12.out (fun _ hk => hk.2)⟩, ⟨xb HB.out⟩⟩
           ·rw [if_neg c32] at H
            have c32b0 := decide_eq_false c32
            clear c32
            have H' := ax H
            clear H
            obtain ⟨Ao42, co42, eo42⟩ := Kd.S_slice HO_12.out
            subst eo42
            go_wp2
            go_roundg k4
            case measure => have := HJ17.out; have := HK2.out; have := HJ24.out; have := HK4.out; omega
            case rel => exact ⟨(x9_4), (wrap64 (x11_2 + 1)), xr, H', ⟨by have := HJ17.out; have := HK2.out; have := HJ24.out; have := HK4.out; omega⟩, ⟨by (with_reducible repeat (first | apply Kd.S_alloc | apply Kd.S_drewN | apply Kd.S_drew)); exact Kd.S_mono HO_9.out (fun _ hk => trivial)⟩, ⟨xb HB.out⟩⟩
        ·replace c28 := Bool.eq_false_iff.mpr c28
         subst c28
         rw [if_neg (show ¬ (false = true) by decide)] at H
         obtain rfl := Option.some.inj H
         go_wp2
         go_ret
         exact ⟨_, xe, xS HO_9.out, xb HB.out⟩

/-! ### spec_l7Trim: function 70 -/
def spec_l7Trim.l0 : Nat → List Int → Int → Option (List Int)
 | 0, _, _ => none
 | k + 1, x0, x3 => if x3 > 0 then (if 0 ≤ (wrap64 (x3 - 1)) then (if (wrap64 (x3 - 1)) < (x0.length : Int) then (if (rd x0 (wrap64 (x3 - 1))) = 0 then (spec_l7Trim.l0 k x0 (wrap64 (x3 - 1))) else ((some (([] : List Int) : List Int)).bind fun y146 => (if 0 ≤ x3 then (if x3 ≤ (x0.length : Int) then (if y146.length + (x0.take (x3 : Int).toNat).length < 17592186044416 then (some (y146 ++ (x0.take (x3 : Int).toNat))) else (none)) else (none)) else (none)))) else (none)) else (none)) else ((some (([] : List Int) : List Int)).bind fun y153 => (if 0 ≤ x3 then (if x3 ≤ (x0.length : Int) then (if y153.length + (x0.take (x3 : Int).toNat).length < 17592186044416 then (some (y153 ++ (x0.take (x3 : Int).toNat))) else (none)) else (none)) else (none)))
def spec_l7Trim.f (k : Nat) (l0 : List Int) : Option (List Int) := spec_l7Trim.l0 k l0 (l0.length : Int)
theorem spec_l7Trim.mono_l : ∀ k, (∀ y0 y1, LeO (spec_l7Trim.l0 k y0 y1) (spec_l7Trim.l0 (k + 1) y0 y1))
 | 0 => fun _ _ r h => by simp [spec_l7Trim.l0] at h
 | k + 1 => by
  have ih0 := spec_l7Trim.mono_l k
  ·intro y0 y1
   unfold spec_l7Trim.l0
   repeat' with_reducible first | exact ih0 _ _ | exact xl | refine LeO.ite ?_ ?_ | refine LeO.bind ?_ fun _ => ?_
theorem spec_l7Trim.mono : ∀ a0 k, LeO (spec_l7Trim.f k a0) (spec_l7Trim.f (k + 1) a0) := by
 intro a0 k
 have ih0 := spec_l7Trim.mono_l k
 unfold spec_l7Trim.f
 repeat' with_reducible first | exact ih0 _ _ | exact xl | refine LeO.ite ?_ ?_ | refine LeO.bind ?_ fun _ => ?_
theorem spec_l7Trim.calls (k : Nat) (A0 : Option Addr) (c0 : Nat) (l0 : List Int) (r : List Int) (w : World) (hr0 : Kd.C (Kd.int .i64) w A0 l0.length l0) (hc0 : l0.length ≤ c0) (h : spec_l7Trim.f k l0 = some r) :
  Calls Try.prog 70 #[.slice A0 l0.length c0] w fun e w' => ∃ v0_ : Value, e = .returned (v0_) ∧ Kd.R (Kd.int .i64) 3 w' w.heap.size (fun _ => True) v0_ r ∧ Below w.heap.size w w' := by
 have HR0 := ax hr0
 have HC0 := ax hc0
 clear hr0 hc0
 have HB := ax (Below.refl w.heap.size w)
 have H : (spec_l7Trim.l0 k l0 (l0.length : Int)) = some r := h
 clear h
 have H' := ax H
 clear H
 go_enter Try.func70, Try.ntmps70
 go_wp2
 go_loopg [3] k (fun kq v3 w' => ∃ (x3_1 : Int), v3 = .int .i64 x3_1 ∧ Aside0 (spec_l7Trim.l0 kq l0 x3_1 = some r) ∧ Aside0 (kq ≤ k) ∧ Aside0 (Below w.heap.size w w'))
 case atStart => exact ⟨((l0.length : Int)), xr, H', ⟨Nat.le_refl _⟩, ⟨xb HB.out⟩⟩
 case round =>
  clear H'
  obtain ⟨x3_1, rfl, HA, HK1, HB⟩ := hrel
  cases gk with
  | zero => exact absurd HA.out (by simp [spec_l7Trim.l0])
  | succ k1 =>
   have H := HA.out
   clear HA
   simp only [spec_l7Trim.l0] at H
   by_cases c2 : x3_1 > 0
   ·rw [if_pos c2] at H
    have c2b0 : decide (0 < x3_1) = true := decide_eq_true c2
    clear c2
    obtain ⟨ji3, hji3⟩ : ∃ j_ : Int, (wrap64 (x3_1 - 1)) = j_ := ⟨_, rfl⟩
    replace H : (if 0 ≤ (ji3) then (if (ji3) < (l0.length : Int) then (if (rd l0 (ji3)) = 0 then (spec_l7Trim.l0 k1 l0 ji3) else ((some (([] : List Int) : List Int)).bind fun y146 => (if 0 ≤ x3_1 then (if x3_1 ≤ (l0.length : Int) then (if y146.length + (l0.take (x3_1 : Int).toNat).length < 17592186044416 then (some (y146 ++ (l0.take (x3_1 : Int).toNat))) else (none)) else (none)) else (none)))) else (none)) else (none)) = some r := by first | (rw [hji3] at H; exact H) | (simp only [hji3] at H ⊢; exact H)
    have hji3w : (IntKind.i64.wrap (x3_1 - 1)) = ji3 := (i64_w _).trans hji3
    obtain ⟨c4b0, H⟩ := xq H
    obtain ⟨c5b0, H⟩ := xq H
    by_cases c6 : (rd l0 (ji3)) = 0
    ·rw [if_pos c6] at H
     have c6b0 : ((rd l0 (ji3)) == 0) = true := beq_iff_eq.mpr c6
     have c6b1 : ((rd l0 (ji3)) != 0) = false := bne_eq_false_iff_eq.mpr c6
     clear c6
     have H' := ax H
     clear H
     have p145 : 0 ≤ ((ji3) : Int) := xd
     have q145 : (ji3) < (l0.length : Int) := xd
     obtain ⟨ad145, e145, hx145_0⟩ := Kd.at_int HR0.out (ji3) p145 q145
     cases e145
     (try replace hx145_0 := (HB.out.cell (World.block_lt_of_cell? w _ hx145_0)).trans hx145_0)
     replace p145 := eq_true p145
     replace q145 := eq_true q145
     go_wp2
     go_roundg k1
     case measure => have := HK1.out; omega
     case rel => exact ⟨(ji3), (by first | rfl | (simp; done) | (simp only [← hji3] <;> (first | rfl | simp)) | (simp [*]; done)), H', ⟨by have := HK1.out; omega⟩, ⟨xb HB.out⟩⟩
    ·rw [if_neg c6] at H
     have c6b0 : ((rd l0 (ji3)) == 0) = false := beq_eq_false_iff_ne.mpr c6
     have c6b1 : ((rd l0 (ji3)) != 0) = true := bne_iff_ne.mpr c6
     obtain ⟨y146, Ny146, H⟩ := xg H
     obtain ⟨c7, H⟩ := xp H
     have c7b0 := eq_true c7
     have c7b1 := decide_eq_true c7
     clear c7
     obtain ⟨c8, H⟩ := xp H
     have c8b0 := eq_true c8
     have c8b1 := decide_eq_true c8
     clear c8
     obtain ⟨c9, H⟩ := xp H
     have LMc9 := ax c9
     clear c9
     obtain ⟨y150, hy150⟩ : ∃ y_ : List Int, y_ = (y146 ++ (l0.take (x3_1 : Int).toNat)) := ⟨_, rfl⟩
     replace H : (some y150) = some r := xv hy150 H
     have Ny150 := ax hy150
     clear hy150
     obtain rfl := Option.some.inj H
     have p145 : 0 ≤ ((ji3) : Int) := xd
     have q145 : (ji3) < (l0.length : Int) := xd
     obtain ⟨ad145, e145, hx145_0⟩ := Kd.at_int HR0.out (ji3) p145 q145
     cases e145
     (try replace hx145_0 := (HB.out.cell (World.block_lt_of_cell? w _ hx145_0)).trans hx145_0)
     replace p145 := eq_true p145
     replace q145 := eq_true q145
     go_wp2_with (first | ((with_reducible refine gate_dst (N := 18) rfl ?_); refine Kd.R_lit (Kd.int .i64) _ 3 ?hg (N := 18) ?hd (xs := ([] : List Int)) (inner := []) (ok := fun _ => True) (okp := fun _ => True) ?hr ?hp (fun _ hk => hk) trivial (Below.refl _ _) (Nat.le_refl _) (by simp) ?_; (case hd => rfl); (case hg => rfl); (case hr => first | (go_simp; done) | (go_simp; rfl)); (case hp => exact (Reps.none _ _)); intro v147 w10 ho11 hb hg_ hnew_; clear hg_ hnew_; (first | rw [← Ny146.out] at ho11 | (simp only [Int.reduceToNat] at ho11; rw [← Ny146.out] at ho11)); have HO148 := ax (Kd.R_lower ho11 (below_size (xb HB.out))); replace HB := yB HB hb; clear hb ho11; obtain ⟨i012, hi012, _, hsz12, _⟩ := info_parts info3; obtain ⟨hcut12, hA12, hC12⟩ := print_take_of (P := Try.prog) (Value.int .i64) 0 35 3 .i64 Try.underlying35 hi012 hsz12 (some ad145) c0 l0 x3_1 (xd) (xd) HC0.out; have HR149 := ax (Kd.C_of_reads (h1 := fun _ => rfl) (hA12 _ (Kd.reads_of_C HR0.out))); have HC149 := ax hC12; clear hA12 hC12 hi012 hsz12) | ((with_reducible refine gate_builtin (b := .append) (xs := #[.tmp 18, .tmp 21]) rfl ?_); at_builtin; refine Kd.R_append_rows (Kd.int .i64) (w0 := w) w.heap.size rfl (.tmp 18) (.tmp 21) 35 3 (.int .i64 0) 8 rfl Try.underlying35 info3 rfl (by decide) (by omega) v147 y146 (l0.take (x3_1 : Int).toNat) _ _ _ (fun _ => True) (fun _ => False) rfl rfl ?aO ?aR (fun _ _ h => h) (fun _ h => h.elim) ?aF ?aB ?aS ?aL ?_; (case aR => first | (have h0_ := HR149.out; rw [show (l0.take (x3_1 : Int).toNat).length = x3_1.toNat from (by rw [List.length_take]; have h_ : (x3_1 : Int) ≤ (l0.length : Int) := xd; omega)] at h0_; exact Kd.C_below h0_ HB.out) | (rw [← show (l0.take (x3_1 : Int).toNat).length = x3_1.toNat from (by rw [List.length_take]; have h_ : (x3_1 : Int) ≤ (l0.length : Int) := xd; omega)]; repeat (first | exact (Kd.C_below HR149.out HB.out) | (with_reducible refine Kd.C_alloc ?_ _) | (with_reducible refine Kd.C_drewN ?_ _) | (with_reducible refine Kd.C_drew ?_))) | (repeat (first | exact (Kd.C_below HR149.out HB.out) | (with_reducible refine Kd.C_alloc ?_ _) | (with_reducible refine Kd.C_drewN ?_ _) | (with_reducible refine Kd.C_drew ?_)))); (case aB => exact (xb HB.out)); (case aF => exact (fun _ _ => trivial)); (case aO => exact (xR HO148.out)); (case aS => exact (below_size (xb HB.out))); (case aL => have := LMc9.out; have hlx_ := (show (l0.take (x3_1 : Int).toNat).length = x3_1.toNat from (by rw [List.length_take]; have h_ : (x3_1 : Int) ≤ (l0.length : Int) := xd; omega)); omega); intro v151 w13 ho hb hg hat; rw [← Ny150.out] at ho; have n0_ := ax (hb); have n1_ := ax (ho); clear HB; clear HO148; have HB := n0_; have HO152 := n1_; clear n0_ n1_; clear ho hb hg hat))
     go_ret
     exact ⟨_, by first | rfl | (simp [errW_none, errW_some] <;> rfl) | (simp only [← hji3]; first | rfl | (simp [errW_none, errW_some] <;> rfl)) | (simp [*, errW_none, errW_some] <;> rfl), xR HO152.out, xb HB.out⟩
   ·rw [if_neg c2] at H
    have c2b0 : decide (0 < x3_1) = false := decide_eq_false c2
    clear c2
    obtain ⟨y153, Ny153, H⟩ := xg H
    obtain ⟨c14, H⟩ := xp H
    have c14b0 := eq_true c14
    have c14b1 := decide_eq_true c14
    clear c14
    obtain ⟨c15, H⟩ := xp H
    have c15b0 := eq_true c15
    have c15b1 := decide_eq_true c15
    clear c15
    obtain ⟨c16, H⟩ := xp H
    have LMc16 := ax c16
    clear c16
    obtain ⟨y157, hy157⟩ : ∃ y_ : List Int, y_ = (y153 ++ (l0.take (x3_1 : Int).toNat)) := ⟨_, rfl⟩
    replace H : (some y157) = some r := xv hy157 H
    have Ny157 := ax hy157
    clear hy157
    obtain rfl := Option.some.inj H
    go_wp2_with (first | ((with_reducible refine gate_dst (N := 18) rfl ?_); refine Kd.R_lit (Kd.int .i64) _ 3 ?hg (N := 18) ?hd (xs := ([] : List Int)) (inner := []) (ok := fun _ => True) (okp := fun _ => True) ?hr ?hp (fun _ hk => hk) trivial (Below.refl _ _) (Nat.le_refl _) (by simp) ?_; (case hd => rfl); (case hg => rfl); (case hr => first | (go_simp; done) | (go_simp; rfl)); (case hp => exact (Reps.none _ _)); intro v154 w17 ho18 hb hg_ hnew_; clear hg_ hnew_; (first | rw [← Ny153.out] at ho18 | (simp only [Int.reduceToNat] at ho18; rw [← Ny153.out] at ho18)); have HO155 := ax (Kd.R_lower ho18 (below_size (xb HB.out))); replace HB := yB HB hb; clear hb ho18; obtain ⟨i019, hi019, _, hsz19, _⟩ := info_parts info3; obtain ⟨hcut19, hA19, hC19⟩ := print_take_of (P := Try.prog) (Value.int .i64) 0 35 3 .i64 Try.underlying35 hi019 hsz19 A0 c0 l0 x3_1 (xd) (xd) HC0.out; have HR156 := ax (Kd.C_of_reads (h1 := fun _ => rfl) (hA19 _ (Kd.reads_of_C HR0.out))); have HC156 := ax hC19; clear hA19 hC19 hi019 hsz19) | ((with_reducible refine gate_builtin (b := .append) (xs := #[.tmp 18, .tmp 21]) rfl ?_); at_builtin; refine Kd.R_append_rows (Kd.int .i64) (w0 := w) w.heap.size rfl (.tmp 18) (.tmp 21) 35 3 (.int .i64 0) 8 rfl Try.underlying35 info3 rfl (by decide) (by omega) v154 y153 (l0.take (x3_1 : Int).toNat) _ _ _ (fun _ => True) (fun _ => False) rfl rfl ?aO ?aR (fun _ _ h => h) (fun _ h => h.elim) ?aF ?aB ?aS ?aL ?_; (case aR => first | (have h0_ := HR156.out; rw [show (l0.take (x3_1 : Int).toNat).length = x3_1.toNat from (by rw [List.length_take]; have h_ : (x3_1 : Int) ≤ (l0.length : Int) := xd; omega)] at h0_; exact Kd.C_below h0_ HB.out) | (rw [← show (l0.take (x3_1 : Int).toNat).length = x3_1.toNat from (by rw [List.length_take]; have h_ : (x3_1 : Int) ≤ (l0.length : Int) := xd; omega)]; repeat (first | exact (Kd.C_below HR156.out HB.out) | (with_reducible refine Kd.C_alloc ?_ _) | (with_reducible refine Kd.C_drewN ?_ _) | (with_reducible refine Kd.C_drew ?_))) | (repeat (first | exact (Kd.C_below HR156.out HB.out) | (with_reducible refine Kd.C_alloc ?_ _) | (with_reducible refine Kd.C_drewN ?_ _) | (with_reducible refine Kd.C_drew ?_)))); (case aB => exact (xb HB.out)); (case aF => exact (fun _ _ => trivial)); (case aO => exact (xR HO155.out)); (case aS => exact (below_size (xb HB.out))); (case aL => have := LMc16.out; have hlx_ := (show (l0.take (x3_1 : Int).toNat).length = x3_1.toNat from (by rw [List.length_take]; have h_ : (x3_1 : Int) ≤ (l0.length : Int) := xd; omega)); omega); intro v158 w20 ho hb hg hat; rw [← Ny157.out] at ho; have n0_ := ax (hb); have n1_ := ax (ho); clear HB; clear HO155; have HB := n0_; have HO159 := n1_; clear n0_ n1_; clear ho hb hg hat))
    go_ret
    exact ⟨_, xe, xR HO159.out, xb HB.out⟩

end Go.Proofs.Ytneipehcmmigeaa.PFnExactCountTableaux
