import Derived.Test.YtneipehcmmigeaaPFnExactCountTableauxx10
import Derived.Test.YtneipehcmmigeaaPFnExactCountTableauxx12
namespace Go.Proofs.Ytneipehcmmigeaa.PFnExactCountTableaux
open Go.RowKit Go.Proofs.YtneipehcmmigeaaW.PrintWords Go.Proofs.YtneipehcmmigeaaW.PrintLast Go.Proofs.YtneipehcmmigeaaW.PrintMore
set_option linter.unusedVariables false
set_option linter.unusedSimpArgs false
set_option maxHeartbeats 8000000
set_option maxRecDepth 100000
/-! ### impl_weightsOf: function 43 -/
mutual
def impl_weightsOf.l0 : Nat → Int → List (S48) → Int → Int → List Int → List Int → Option ((List (S48)))
 | 0, _, _, _, _, _, _ => none
 | k + 1, x1, x5, x22, x23, x291000, x291001 => if x23 < x22 then ((impl_RemoveHorizontal.f k x291000 x23).bind fun t306 => (impl_weightsOf.l1 k x1 x5 x23 x22 x23 t306 (t306.length : Int) 0 x291000 x291001)) else ((impl_ordered.f k x1 x5).bind fun bt302 => (some bt302.2))
def impl_weightsOf.l1 : Nat → Int → List (S48) → Int → Int → Int → List (List Int) → Int → Int → List Int → List Int → Option ((List (S48)))
 | 0, _, _, _, _, _, _, _, _, _, _ => none
 | k + 1, x1, x5, x6, x22, x23, x29, x30, x31, x291000, x291001 => if x31 < x30 then (if 0 ≤ x31 then (if x31 < (x29.length : Int) then ((impl_IsInside.f k x291001 (rd_L1 x29 x31)).bind fun t310 => (if t310 = true then ((impl_weightsOf.f k (rd_L1 x29 x31) x291001 (wrap64 (x1 - 1))).bind fun t311 => (impl_weightsOf.l2 k x1 x5 x6 x22 x23 x29 x30 x31 t311 (t311.length : Int) 0 x291000 x291001)) else (impl_weightsOf.l1 k x1 x5 x6 x22 x23 x29 x30 (wrap64 (x31 + 1)) x291000 x291001))) else (none)) else (none)) else (impl_weightsOf.l0 k x1 x5 x22 (wrap64 (x23 + 1)) x291000 x291001)
def impl_weightsOf.l2 : Nat → Int → List (S48) → Int → Int → Int → List (List Int) → Int → Int → List (S48) → Int → Int → List Int → List Int → Option ((List (S48)))
 | 0, _, _, _, _, _, _, _, _, _, _, _, _, _ => none
 | k + 1, x1, x5, x6, x22, x23, x29, x30, x31, x46, x47, x48, x291000, x291001 => if x48 < x47 then (if 0 ≤ x48 then (if x48 < (x46.length : Int) then ((slices_Clone_int_int.f ((rd_T48 x46 x48).f0)).bind fun t316 => ((some (([x6] : List Int) : List Int)).bind fun y319 => (if t316.length + y319.length < 17592186044416 then ((some (([(⟨(t316 ++ y319), (rd_T48 x46 x48).f1⟩ : S48)] : List (S48)) : List (S48))).bind fun y325 => (if x5.length + y325.length < 4398046511104 then (impl_weightsOf.l2 k x1 (x5 ++ y325) x6 x22 x23 x29 x30 x31 x46 x47 (wrap64 (x48 + 1)) x291000 x291001) else (none))) else (none)))) else (none)) else (none)) else (impl_weightsOf.l1 k x1 x5 x6 x22 x23 x29 x30 (wrap64 (x31 + 1)) x291000 x291001)
def impl_weightsOf.f : Nat → List Int → List Int → Int → Option ((List (S48)))
 | 0, _, _, _ => none
 | k + 1, l0_0, l0_1, a1 => if a1 = 0 then ((impl_CellCount.f k l0_0 l0_1).bind fun t291 => (if t291 = 0 then (some (([(⟨(([] : List Int)), 1⟩ : S48)] : List (S48)))) else (some ([] : List (S48))))) else ((impl_CellCount.f k l0_0 l0_1).bind fun t301 => (impl_weightsOf.l0 k a1 (([] : List (S48))) (wrap64 (t301 + 1)) 0 l0_0 l0_1))
end
theorem impl_weightsOf.mono_l : ∀ k, (∀ y0 y1 y2, LeO (impl_weightsOf.f k y0 y1 y2) (impl_weightsOf.f (k + 1) y0 y1 y2)) ∧ (∀ y0 y1 y2 y3 y4 y5, LeO (impl_weightsOf.l0 k y0 y1 y2 y3 y4 y5) (impl_weightsOf.l0 (k + 1) y0 y1 y2 y3 y4 y5)) ∧ (∀ y0 y1 y2 y3 y4 y5 y6 y7 y8 y9, LeO (impl_weightsOf.l1 k y0 y1 y2 y3 y4 y5 y6 y7 y8 y9) (impl_weightsOf.l1 (k + 1) y0 y1 y2 y3 y4 y5 y6 y7 y8 y9)) ∧ (∀ y0 y1 y2 y3 y4 y5 y6 y7 y8 y9 y10 y11 y12, LeO (impl_weightsOf.l2 k y0 y1 y2 y3 y4 y5 y6 y7 y8 y9 y10 y11 y12) (impl_weightsOf.l2 (k + 1) y0 y1 y2 y3 y4 y5 y6 y7 y8 y9 y10 y11 y12))
 | 0 => ⟨fun _ _ _ r h => by simp [impl_weightsOf.f] at h, fun _ _ _ _ _ _ r h => by simp [impl_weightsOf.l0] at h, fun _ _ _ _ _ _ _ _ _ _ r h => by simp [impl_weightsOf.l1] at h, fun _ _ _ _ _ _ _ _ _ _ _ _ _ r h => by simp [impl_weightsOf.l2] at h⟩
 | k + 1 => by
  obtain ⟨ih0, ih1, ih2, ih3⟩ := impl_weightsOf.mono_l k
  refine ⟨?_, ?_, ?_, ?_⟩
  ·intro y0 y1 y2
   unfold impl_weightsOf.f
   repeat' with_reducible first | exact ih0 _ _ _ | exact ih1 _ _ _ _ _ _ | exact ih2 _ _ _ _ _ _ _ _ _ _ | exact ih3 _ _ _ _ _ _ _ _ _ _ _ _ _ | exact impl_CellCount.mono _ _ _ | exact impl_IsInside.mono _ _ _ | exact impl_RemoveHorizontal.mono _ _ _ | exact impl_ordered.mono _ _ _ | exact xl | refine LeO.ite ?_ ?_ | refine LeO.bind ?_ fun _ => ?_
  ·intro y0 y1 y2 y3 y4 y5
   unfold impl_weightsOf.l0
   repeat' with_reducible first | exact ih0 _ _ _ | exact ih1 _ _ _ _ _ _ | exact ih2 _ _ _ _ _ _ _ _ _ _ | exact ih3 _ _ _ _ _ _ _ _ _ _ _ _ _ | exact impl_CellCount.mono _ _ _ | exact impl_IsInside.mono _ _ _ | exact impl_RemoveHorizontal.mono _ _ _ | exact impl_ordered.mono _ _ _ | exact xl | refine LeO.ite ?_ ?_ | refine LeO.bind ?_ fun _ => ?_
  ·intro y0 y1 y2 y3 y4 y5 y6 y7 y8 y9
   unfold impl_weightsOf.l1
   repeat' with_reducible first | exact ih0 _ _ _ | exact ih1 _ _ _ _ _ _ | exact ih2 _ _ _ _ _ _ _ _ _ _ | exact ih3 _ _ _ _ _ _ _ _ _ _ _ _ _ | exact impl_CellCount.mono _ _ _ | exact impl_IsInside.mono _ _ _ | exact impl_RemoveHorizontal.mono _ _ _ | exact impl_ordered.mono _ _ _ | exact xl | refine LeO.ite ?_ ?_ | refine LeO.bind ?_ fun _ => ?_
  ·intro y0 y1 y2 y3 y4 y5 y6 y7 y8 y9 y10 y11 y12
   unfold impl_weightsOf.l2
   repeat' with_reducible first | exact ih0 _ _ _ | exact ih1 _ _ _ _ _ _ | exact ih2 _ _ _ _ _ _ _ _ _ _ | exact ih3 _ _ _ _ _ _ _ _ _ _ _ _ _ | exact impl_CellCount.mono _ _ _ | exact impl_IsInside.mono _ _ _ | exact impl_RemoveHorizontal.mono _ _ _ | exact impl_ordered.mono _ _ _ | exact xl | refine LeO.ite ?_ ?_ | refine LeO.bind ?_ fun _ => ?_
theorem impl_weightsOf.mono : ∀ a0 a1 a2 k, LeO (impl_weightsOf.f k a0 a1 a2) (impl_weightsOf.f (k + 1) a0 a1 a2) := by
 intro a0 a1 a2 k
 obtain ⟨ih0, ih1, ih2, ih3⟩ := impl_weightsOf.mono_l k
 exact ih0 a0 a1 a2
def impl_weightsOf.T16 : Bool × List (List Nat × List Nat) := (true, [([], []), ([], []), ([1], [1]), ([2], [2]), ([], []), ([4], [4]), ([3, 5, 3], [3, 5]), ([], []), ([7], [7]), ([6, 8], [6, 8]), ([9], [9]), ([0, 10, 6], [0, 10]), ([11, 11, 0, 1, 2, 3, 4, 5, 6, 7, 8, 9, 10, 11], [0, 11])])
def impl_weightsOf.B16 : List Nat := [0, 0, 2, 6, 0, 16, 62, 0, 128, 510, 1022, 2047, 4095]
theorem impl_weightsOf.tab16 : rtab .any (opsOf Try.f43 16) = impl_weightsOf.T16 := by kernel_rfl
theorem impl_weightsOf.bits16 : waitsOk impl_weightsOf.T16.2 impl_weightsOf.B16 = true := by kernel_rfl
theorem impl_weightsOf.calls (k : Nat) : ∀ (A0_0 : Option Addr) (c0_0 : Nat) (l0_0 : List Int) (A0_1 : Option Addr) (c0_1 : Nat) (l0_1 : List Int) (a1 : Int) (r : List (S48)) (w : World) (hr0_0 : Kd.C (Kd.int .i64) w A0_0 l0_0.length l0_0) (hc0_0 : l0_0.length ≤ c0_0) (hr0_1 : Kd.C (Kd.int .i64) w A0_1 l0_1.length l0_1) (hc0_1 : l0_1.length ≤ c0_1) (h : impl_weightsOf.f k l0_0 l0_1 a1 = some r),
  Calls Try.prog 43 #[.agg #[.slice A0_0 l0_0.length c0_0, .slice A0_1 l0_1.length c0_1], .int .i64 a1] w fun e w' => ∃ v0_ : Value, e = .returned (v0_) ∧ Kd.N k48 48 w' w.heap.size (fun k_ => (w.heap.size ≤ k_)) v0_ r ∧ Below w.heap.size w w' := by
 induction k using Nat.strongRecOn with
 | _ k ih =>
 intro A0_0 c0_0 l0_0 A0_1 c0_1 l0_1 a1 r w hr0_0 hc0_0 hr0_1 hc0_1 h
 cases k with
 | zero => exact absurd h (by simp [impl_weightsOf.f])
 | succ k =>
 simp only [impl_weightsOf.f] at h
 have hu40 := Try.underlying40
 have hu48 := Try.underlying48
 have hu28 : ∀ (w_ : World) (x_ : Int) (A_ : Option Addr) (n_ c_ : Nat), (Instr.field 28 (.agg #[.int .i64 x_, .slice A_ n_ c_]) 1).run Try.prog w_ = .ok (.slice A_ n_ c_) w_ := fun _ _ _ _ _ => by first | kernel_rfl | rfl
 have HR0_0 := ax hr0_0
 have HC0_0 := ax hc0_0
 clear hr0_0 hc0_0
 have HR0_1 := ax hr0_1
 have HC0_1 := ax hc0_1
 clear hr0_1 hc0_1
 have HB := ax (Below.refl w.heap.size w)
 have H : (if a1 = 0 then ((impl_CellCount.f k l0_0 l0_1).bind fun t291 => (if t291 = 0 then (some (([(⟨(([] : List Int)), 1⟩ : S48)] : List (S48)))) else (some ([] : List (S48))))) else ((impl_CellCount.f k l0_0 l0_1).bind fun t301 => (impl_weightsOf.l0 k a1 (([] : List (S48))) (wrap64 (t301 + 1)) 0 l0_0 l0_1))) = some r := h
 clear h
 by_cases c3 : a1 = 0
 ·rw [if_pos c3] at H
  have c3b0 : (a1 == 0) = true := beq_iff_eq.mpr c3
  have c3b1 : (a1 != 0) = false := bne_eq_false_iff_eq.mpr c3
  clear c3
  obtain ⟨t291, A4, H⟩ := xI H
  by_cases c5 : t291 = 0
  ·rw [if_pos c5] at H
   have c5b0 : (t291 == 0) = true := beq_iff_eq.mpr c5
   have c5b1 : (t291 != 0) = false := bne_eq_false_iff_eq.mpr c5
   clear c5
   obtain ⟨y292, hy292⟩ : ∃ y_ : List Int, y_ = (([] : List Int)) := ⟨_, rfl⟩
   replace H : (some (([(⟨y292, 1⟩ : S48)] : List (S48)))) = some r := xv hy292 H
   have Ny292 := ax hy292
   clear hy292
   obtain ⟨y295, hy295⟩ : ∃ y_ : List (S48), y_ = (([(⟨y292, 1⟩ : S48)] : List (S48))) := ⟨_, rfl⟩
   replace H : (some y295) = some r := xv hy295 H
   have Ny295 := ax hy295
   clear hy295
   obtain rfl := Option.some.inj H
   go_enter Try.func43, Try.ntmps43
   go_wp2_with (first | ((with_reducible refine gate_dst (N := 2) rfl ?_); refine box_event ?hg (N := 2) ?hd (cs := #[.slice A0_0 l0_0.length c0_0, .slice A0_1 l0_1.length c0_1]) (t := 40) ?hr ?_; (case hd => rfl); (case hg => rfl); (case hr => first | (go_simp; done) | (go_simp; rfl)); intro gb290 hg w6 hbox hb; have BK290 := ax (hbox); have GW290 := ax ((by rw [hg]; exact (below_size (xb HB.out)) : w.heap.size ≤ gb290)); have GE290 := ax ((by rw [hg]; exact (below_size (xb HB.out)) : w.heap.size ≤ gb290)); replace HB := yB HB hb; clear hb hbox hg; have hcz7_0 : w6.cell? ⟨gb290, 0, none⟩ = some (.slice A0_0 l0_0.length c0_0) := (blk_cell BK290.out 0).trans rfl; have hcz7_1 : w6.cell? ⟨gb290, 1, none⟩ = some (.slice A0_1 l0_1.length c0_1) := (blk_cell BK290.out 1).trans rfl; have hfz7_0 := blk_frozen BK290.out 0; have hfz7_1 := blk_frozen BK290.out 1) | ((with_reducible refine gate_callee (f := 72) rfl ?_); refine goesL_ (some 14) rfl rfl Try.func72 (by kernel_rfl) rfl #[.agg #[.slice A0_0 l0_0.length c0_0, .slice A0_1 l0_1.length c0_1]] rfl xm ?_; (with_reducible refine (impl_CellCount.calls k _ _ l0_0 _ _ l0_1 t291 _ ?side1 ?side2 ?side3 ?side4 A4.out).mono ?_); (case side1 => exact xz HR0_0.out HB.out); (case side2 => exact HC0_0.out); (case side3 => exact xz HR0_1.out HB.out); (case side4 => exact HC0_1.out); rintro e w8 ⟨rfl, hb⟩; refine ⟨_, rfl, ?_⟩; replace BK290 := ax (blk_below (g := gb290) (o := .cells #[.slice A0_0 l0_0.length c0_0, .slice A0_1 l0_1.length c0_1] 40 (0, 0)) (xk BK290.out) hb); replace HB := ax (below_step (xs HB.out GE290.out) hb); (try clear hb)) | ((with_reducible refine gate_dst (N := 16) rfl ?_); refine Kd.R_lit (Kd.int .i64) _ 3 ?hg (N := 16) ?hd (xs := ([] : List Int)) (inner := []) (ok := fun _ => True) (okp := fun _ => True) ?hr ?hp (fun _ hk => hk) trivial (Below.refl _ _) (Nat.le_refl _) (by simp) ?_; (case hd => rfl); (case hg => rfl); (case hr => first | (go_simp; done) | (go_simp; rfl)); (case hp => exact (Reps.none _ _)); intro v293 w9 ho10 hb hg_ hnew_; clear hg_ hnew_; (first | rw [← Ny292.out] at ho10 | (simp only [Int.reduceToNat] at ho10; rw [← Ny292.out] at ho10)); have HO294 := ax (Kd.R_lower (Kd.R_newM (M := fun k_ => (w.heap.size ≤ k_)) ho10 (below_size (xs HB.out GE290.out)) (fun k_ h_ => h_)) (below_size (xs HB.out GE290.out))); replace BK290 := ax (blk_below (g := gb290) (o := .cells #[.slice A0_0 l0_0.length c0_0, .slice A0_1 l0_1.length c0_1] 40 (0, 0)) (xk BK290.out) hb); replace HB := ax (below_step (xs HB.out GE290.out) hb); clear hb ho10; obtain ⟨Ao11, co11, eo11⟩ := Kd.R_slice HO294.out; subst eo11) | ((with_reducible refine gate_dst (N := 18) rfl ?_); refine Kd.N_lit k48 _ 48 ?hg (N' := 18) ?hd (xs := ([(⟨y292, 1⟩ : S48)] : List (S48))) (inner := [.slice Ao11 y292.length co11, .int .i64 1]) (ok := (fun k_ => (w.heap.size ≤ k_) ∧ k_ ≠ gb290)) (okp := (fun k_ => (w.heap.size ≤ k_) ∧ k_ ≠ gb290)) ?hr ?hp (fun _ hk => hk) ((show ∀ k_, w9.heap.size ≤ k_ → (fun k_ => (w.heap.size ≤ k_) ∧ k_ ≠ gb290) k_ from fun k_ hk => ⟨(Nat.le_trans (below_size (xs HB.out GE290.out)) hk), Kd.freshB (g := gb290) (o := .cells #[.slice A0_0 l0_0.length c0_0, .slice A0_1 l0_1.length c0_1] 40 (0, 0)) (xk BK290.out) k_ hk⟩) _ (Nat.le_refl _)) (Below.refl _ _) (Nat.le_refl _) (by simp) ?_; (case hd => rfl); (case hg => rfl); (case hr => first | (go_simp; done) | (go_simp; rfl)); (case hp => exact (Reps.c2 (show Kd.FK k48 _ _ (⟨y292, 1⟩ : S48) [.slice Ao11 y292.length co11, .int .i64 1] from (k48_mkF _ _ (⟨y292, 1⟩ : S48) (Kd.R_reads' (Kd.R_mono (ok' := (fun k_ => (w.heap.size ≤ k_) ∧ k_ ≠ gb290)) (Kd.R_types (HO294.out) BK290.out (by decide)) (fun k_ hk => ⟨hk.1.1, hk.2⟩))).2.1 (Kd.R_F (Kd.R_mono (ok' := (fun k_ => (w.heap.size ≤ k_) ∧ k_ ≠ gb290)) (Kd.R_types (HO294.out) BK290.out (by decide)) (fun k_ hk => ⟨hk.1.1, hk.2⟩))))) (Reps.none _ _))); intro v296 w12 ho13 hb hg_ hnew_; clear hg_ hnew_; (first | rw [← Ny295.out] at ho13 | (simp only [Int.reduceToNat] at ho13; rw [← Ny295.out] at ho13)); have n0_ := ax (Kd.N_lower ho13 (below_size (xs HB.out GE290.out))); have n1_ := ax (blk_below (g := gb290) (o := .cells #[.slice A0_0 l0_0.length c0_0, .slice A0_1 l0_1.length c0_1] 40 (0, 0)) (xk BK290.out) hb); have n2_ := ax (below_step (xs HB.out GE290.out) hb); clear BK290; clear HB; clear HO294; have HO297 := n0_; have BK290 := n1_; have HB := n2_; clear n0_ n1_ n2_; clear hb ho13))
   go_ret
   exact ⟨_, xe, by (with_reducible repeat (first | apply Kd.N_alloc | apply Kd.N_drewN | apply Kd.N_drew)); exact Kd.N_mono HO297.out (fun _ hk => hk.1), xs HB.out GE290.out⟩
  ·rw [if_neg c5] at H
   have c5b0 : (t291 == 0) = false := beq_eq_false_iff_ne.mpr c5
   have c5b1 : (t291 != 0) = true := bne_iff_ne.mpr c5
   obtain rfl := Option.some.inj H
   go_enter Try.func43, Try.ntmps43
   go_wp2_with (first | ((with_reducible refine gate_dst (N := 2) rfl ?_); refine box_event ?hg (N := 2) ?hd (cs := #[.slice A0_0 l0_0.length c0_0, .slice A0_1 l0_1.length c0_1]) (t := 40) ?hr ?_; (case hd => rfl); (case hg => rfl); (case hr => first | (go_simp; done) | (go_simp; rfl)); intro gb290 hg w14 hbox hb; have BK290 := ax (hbox); have GW290 := ax ((by rw [hg]; exact (below_size (xb HB.out)) : w.heap.size ≤ gb290)); have GE290 := ax ((by rw [hg]; exact (below_size (xb HB.out)) : w.heap.size ≤ gb290)); replace HB := yB HB hb; clear hb hbox hg; have hcz15_0 : w14.cell? ⟨gb290, 0, none⟩ = some (.slice A0_0 l0_0.length c0_0) := (blk_cell BK290.out 0).trans rfl; have hcz15_1 : w14.cell? ⟨gb290, 1, none⟩ = some (.slice A0_1 l0_1.length c0_1) := (blk_cell BK290.out 1).trans rfl; have hfz15_0 := blk_frozen BK290.out 0; have hfz15_1 := blk_frozen BK290.out 1) | ((with_reducible refine gate_callee (f := 72) rfl ?_); refine goesL_ (some 14) rfl rfl Try.func72 (by kernel_rfl) rfl #[.agg #[.slice A0_0 l0_0.length c0_0, .slice A0_1 l0_1.length c0_1]] rfl xm ?_; (with_reducible refine (impl_CellCount.calls k _ _ l0_0 _ _ l0_1 t291 _ ?side1 ?side2 ?side3 ?side4 A4.out).mono ?_); (case side1 => exact xz HR0_0.out HB.out); (case side2 => exact HC0_0.out); (case side3 => exact xz HR0_1.out HB.out); (case side4 => exact HC0_1.out); rintro e w16 ⟨rfl, hb⟩; refine ⟨_, rfl, ?_⟩; replace BK290 := ax (blk_below (g := gb290) (o := .cells #[.slice A0_0 l0_0.length c0_0, .slice A0_1 l0_1.length c0_1] 40 (0, 0)) (xk BK290.out) hb); replace HB := ax (below_step (xs HB.out GE290.out) hb); (try clear hb)))
   go_ret
   exact ⟨_, xe, by first | exact Kd.S_nil _ _ _ _ _ | exact Kd.N_nil _ _ _ _ _ | exact Kd.V_nil _ _ _ _ _ | exact Kd.Q_nil _ _ _ _ _ | exact Kd.R_nil _ _ _ _ _, xs HB.out GE290.out⟩
 ·rw [if_neg c3] at H
  have c3b0 : (a1 == 0) = false := beq_eq_false_iff_ne.mpr c3
  have c3b1 : (a1 != 0) = true := bne_iff_ne.mpr c3
  obtain ⟨y298, hy298⟩ : ∃ y_ : List (S48), y_ = (([] : List (S48))) := ⟨_, rfl⟩
  replace H : ((impl_CellCount.f k l0_0 l0_1).bind fun t301 => (impl_weightsOf.l0 k a1 y298 (wrap64 (t301 + 1)) 0 l0_0 l0_1)) = some r := xv hy298 H
  have Ny298 := ax hy298
  clear hy298
  obtain ⟨t301, A17, H⟩ := xI H
  have H' := ax H
  clear H
  go_enter Try.func43, Try.ntmps43
  go_wp2_with (first | ((with_reducible refine gate_dst (N := 2) rfl ?_); refine box_event ?hg (N := 2) ?hd (cs := #[.slice A0_0 l0_0.length c0_0, .slice A0_1 l0_1.length c0_1]) (t := 40) ?hr ?_; (case hd => rfl); (case hg => rfl); (case hr => first | (go_simp; done) | (go_simp; rfl)); intro gb290 hg w18 hbox hb; have BK290 := ax (hbox); have GW290 := ax ((by rw [hg]; exact (below_size (xb HB.out)) : w.heap.size ≤ gb290)); have GE290 := ax ((by rw [hg]; exact (below_size (xb HB.out)) : w.heap.size ≤ gb290)); replace HB := yB HB hb; clear hb hbox hg) | ((with_reducible refine gate_dst (N := 19) rfl ?_); refine Kd.N_lit k48 _ 48 ?hg (N' := 19) ?hd (xs := ([] : List (S48))) (inner := []) (ok := (fun k_ => (w.heap.size ≤ k_) ∧ k_ ≠ gb290)) (okp := (fun k_ => (w.heap.size ≤ k_) ∧ k_ ≠ gb290)) ?hr ?hp (fun _ hk => hk) ((show ∀ k_, w18.heap.size ≤ k_ → (fun k_ => (w.heap.size ≤ k_) ∧ k_ ≠ gb290) k_ from fun k_ hk => ⟨(Nat.le_trans (below_size (xs HB.out GE290.out)) hk), Kd.freshB (g := gb290) (o := .cells #[.slice A0_0 l0_0.length c0_0, .slice A0_1 l0_1.length c0_1] 40 (0, 0)) (xk BK290.out) k_ hk⟩) _ (Nat.le_refl _)) (Below.refl _ _) (Nat.le_refl _) (by simp) ?_; (case hd => rfl); (case hg => rfl); (case hr => first | (go_simp; done) | (go_simp; rfl)); (case hp => exact (Reps.none _ _)); intro v299 w19 ho20 hb hg_ hnew_; clear hg_ hnew_; (first | rw [← Ny298.out] at ho20 | (simp only [Int.reduceToNat] at ho20; rw [← Ny298.out] at ho20)); have HO300 := ax (Kd.N_lower ho20 (below_size (xs HB.out GE290.out))); replace BK290 := ax (blk_below (g := gb290) (o := .cells #[.slice A0_0 l0_0.length c0_0, .slice A0_1 l0_1.length c0_1] 40 (0, 0)) (xk BK290.out) hb); replace HB := ax (below_step (xs HB.out GE290.out) hb); clear hb ho20; have hcz21_0 : w19.cell? ⟨gb290, 0, none⟩ = some (.slice A0_0 l0_0.length c0_0) := (blk_cell BK290.out 0).trans rfl; have hcz21_1 : w19.cell? ⟨gb290, 1, none⟩ = some (.slice A0_1 l0_1.length c0_1) := (blk_cell BK290.out 1).trans rfl; have hfz21_0 := blk_frozen BK290.out 0; have hfz21_1 := blk_frozen BK290.out 1) | ((with_reducible refine gate_callee (f := 72) rfl ?_); refine goesL_ (some 21) rfl rfl Try.func72 (by kernel_rfl) rfl #[.agg #[.slice A0_0 l0_0.length c0_0, .slice A0_1 l0_1.length c0_1]] rfl xm ?_; (with_reducible refine (impl_CellCount.calls k _ _ l0_0 _ _ l0_1 t301 _ ?side1 ?side2 ?side3 ?side4 A17.out).mono ?_); (case side1 => exact xz HR0_0.out HB.out); (case side2 => exact HC0_0.out); (case side3 => exact xz HR0_1.out HB.out); (case side4 => exact HC0_1.out); rintro e w22 ⟨rfl, hb⟩; refine ⟨_, rfl, ?_⟩; replace HO300 := ax (Kd.N_below (xN HO300.out) hb); replace BK290 := ax (blk_below (g := gb290) (o := .cells #[.slice A0_0 l0_0.length c0_0, .slice A0_1 l0_1.length c0_1] 40 (0, 0)) (xk BK290.out) hb); replace HB := ax (below_step (xs HB.out GE290.out) hb); (try clear hb)))
  go_loopg [5, 23] k (fun kq v5 v23 w' => ∃ (x5_1 : List (S48)) (x23_1 : Int), v23 = .int .i64 x23_1 ∧ Aside0 (impl_weightsOf.l0 kq a1 x5_1 (wrap64 (t301 + 1)) x23_1 l0_0 l0_1 = some r) ∧ Aside0 (kq ≤ k) ∧ Aside0 (Kd.N k48 48 w' w.heap.size (fun k_ => (w.heap.size ≤ k_) ∧ k_ ≠ gb290) v5 x5_1) ∧ Aside0 (w'.heap[gb290]? = some (.cells #[(.slice A0_0 l0_0.length c0_0), (.slice A0_1 l0_1.length c0_1)] 40 (0, 0))) ∧ Aside0 (Below w.heap.size w w'))
  case atStart => exact ⟨(y298), (0), xr, H', ⟨Nat.le_refl _⟩, ⟨xN HO300.out⟩, ⟨xk BK290.out⟩, ⟨xs HB.out GE290.out⟩⟩
  case round =>
   clear H'
   (try clear c3); (try clear c3b0); (try clear c3b1); (try clear c5); (try clear c5b0); (try clear c5b1); (try clear hcz15_0); (try clear hcz15_1); (try clear hcz21_0); (try clear hcz21_1); (try clear hcz7_0); (try clear hcz7_1); (try clear hfz15_0); (try clear hfz15_1); (try clear hfz21_0); (try clear hfz21_1); (try clear hfz7_0); (try clear hfz7_1)
   obtain ⟨x5_1, x23_1, rfl, HA, HK1, HO_5, BK290, HB⟩ := hrel
   cases gk with
   | zero => exact absurd HA.out (by simp [impl_weightsOf.l0])
   | succ k1 =>
    have H := HA.out
    clear HA
    simp only [impl_weightsOf.l0] at H
    by_cases c23 : x23_1 < (wrap64 (t301 + 1))
    ·rw [if_pos c23] at H
     have c23b0 := decide_eq_true c23
     clear c23
     obtain ⟨t306, A24, H⟩ := xI H
     have H' := ax H
     clear H
     have hcz25_0 : wr.cell? ⟨gb290, 0, none⟩ = some (.slice A0_0 l0_0.length c0_0) := (blk_cell BK290.out 0).trans rfl
     have hcz25_1 : wr.cell? ⟨gb290, 1, none⟩ = some (.slice A0_1 l0_1.length c0_1) := (blk_cell BK290.out 1).trans rfl
     have hfz25_0 := blk_frozen BK290.out 0
     have hfz25_1 := blk_frozen BK290.out 1
     go_wp2_with (first | ((with_reducible refine gate_callee (f := 73) rfl ?_); refine goesL_ (some 29) rfl rfl Try.func73 (by kernel_rfl) rfl #[.slice A0_0 l0_0.length c0_0, .int .i64 x23_1] rfl xm ?_; (with_reducible refine (impl_RemoveHorizontal.calls k1 _ _ l0_0 x23_1 t306 _ ?side1 ?side2 A24.out).mono ?_); (case side1 => exact xz HR0_0.out HB.out); (case side2 => exact HC0_0.out); rintro e w26 ⟨v307, rfl, ho0, hb⟩; refine ⟨_, rfl, ?_⟩; have HO308 := ax (Kd.N_lower (Kd.N_mono (ok' := fun k_ => (w.heap.size ≤ k_) ∧ some k_ ≠ (u5 : Value).ownBlock ∧ k_ ≠ gb290) ho0 (fun k_ hk_ => ⟨(Nat.le_trans (below_size (xs HB.out GE290.out)) hk_), (Kd.fresh' (Kd.N_lt (xN HO_5.out)) k_ hk_), (Kd.freshB (g := gb290) (o := .cells #[.slice A0_0 l0_0.length c0_0, .slice A0_1 l0_1.length c0_1] 40 (0, 0)) (xk BK290.out) k_ hk_)⟩)) (below_size (xs HB.out GE290.out))); replace HO_5 := ax (Kd.N_elder' (xN HO_5.out) (by first | exact Kd.N_base ho0 | exact Kd.S_base ho0 | exact Kd.R_base ho0) hb); replace BK290 := ax (blk_below (g := gb290) (o := .cells #[.slice A0_0 l0_0.length c0_0, .slice A0_1 l0_1.length c0_1] 40 (0, 0)) (xk BK290.out) hb); replace HB := ax (below_step (xs HB.out GE290.out) hb); (try clear hb); (try clear ho0); obtain ⟨Ao27, co27, eo27⟩ := Kd.N_slice HO308.out; subst eo27))
     go_loopg [5, 31] k1 (fun kq v5 v31 w' => ∃ (x5_2 : List (S48)) (x31_2 : Int), v31 = .int .i64 x31_2 ∧ Aside0 (impl_weightsOf.l1 kq a1 x5_2 x23_1 (wrap64 (t301 + 1)) x23_1 t306 (t306.length : Int) x31_2 l0_0 l0_1 = some r) ∧ Aside0 (kq ≤ k1) ∧ Aside0 (Kd.N k48 48 w' w.heap.size (fun k_ => (w.heap.size ≤ k_) ∧ some k_ ≠ ((.slice Ao27 t306.length co27) : Value).ownBlock ∧ k_ ≠ gb290) v5 x5_2) ∧ Aside0 (Kd.N (Kd.slice 3 (Kd.int .i64)) 35 w' w.heap.size (fun k_ => (w.heap.size ≤ k_) ∧ some k_ ≠ (v5 : Value).ownBlock ∧ k_ ≠ gb290) (.slice Ao27 t306.length co27) t306) ∧ Aside0 (w'.heap[gb290]? = some (.cells #[(.slice A0_0 l0_0.length c0_0), (.slice A0_1 l0_1.length c0_1)] 40 (0, 0))) ∧ Aside0 (Below w.heap.size w w'))
     case atStart => exact ⟨(x5_1), (0), xr, H', ⟨Nat.le_refl _⟩, ⟨by (with_reducible repeat (first | apply Kd.N_alloc | apply Kd.N_drewN | apply Kd.N_drew)); exact Kd.N_mono HO_5.out (fun _ hk => ⟨hk.1.1, ⟨hk.2, hk.1.2⟩⟩)⟩, ⟨xN HO308.out⟩, ⟨xk BK290.out⟩, ⟨xs HB.out GE290.out⟩⟩
     case round =>
      clear H'
      (try clear c3); (try clear c3b0); (try clear c3b1); (try clear c5); (try clear c5b0); (try clear c5b1); (try clear c23); (try clear c23b0); (try clear hcz15_0); (try clear hcz15_1); (try clear hcz21_0); (try clear hcz21_1); (try clear hcz25_0); (try clear hcz25_1); (try clear hcz7_0); (try clear hcz7_1); (try clear hfz15_0); (try clear hfz15_1); (try clear hfz21_0); (try clear hfz21_1); (try clear hfz25_0); (try clear hfz25_1); (try clear hfz7_0); (try clear hfz7_1)
      obtain ⟨x5_2, x31_2, rfl, HA, HK2, HO_5, HO_29, BK290, HB⟩ := hrel
      cases gk with
      | zero => exact absurd HA.out (by simp [impl_weightsOf.l1])
      | succ k2 =>
       have H := HA.out
       clear HA
       simp only [impl_weightsOf.l1] at H
       by_cases c28 : x31_2 < (t306.length : Int)
       ·rw [if_pos c28] at H
        have c28b0 := decide_eq_true c28
        clear c28
        obtain ⟨c29b0, H⟩ := xq H
        obtain ⟨c30b0, H⟩ := xq H
        obtain ⟨t310, A31, H⟩ := xI H
        by_cases c32 : t310 = true
        ·subst c32
         rw [if_pos rfl] at H
         obtain ⟨t311, A33, H⟩ := xI H
         have H' := ax H
         clear H
         have p309 : 0 ≤ (x31_2 : Int) := xd
         have q309 : x31_2 < (t306.length : Int) := xd
         obtain ⟨ad309, A309_0, c309_0, e309, hx309_0, hl309_0, hi309_0⟩ := at_L1 (Kd.N_reads' HO_29.out).2.2 x31_2 p309 q309
         cases e309
         obtain ⟨ce309, hce309, hMe309, hcc309⟩ := Kd.N_get HO_29.out [] x31_2 p309 (by first | exact q309 | exact xd | (have e_ := (Kd.N_reads' HO_29.out).1; omega))
         obtain ⟨ua309_0, uc309_0, rfl, ul309_0, ge309_0⟩ := Kd.FK_slice_open hMe309
         have hv309_0 := hcc309 0 _ rfl
         rw [Nat.add_zero, show ((Kd.slice 3 (Kd.int .i64))).sz = 1 from rfl, Nat.mul_one] at hv309_0
         replace hv309_0 := Option.some.inj (hv309_0.symm.trans hx309_0)
         injection hv309_0 with hva_ hvn_ hvc_
         rw [hva_] at ge309_0
         rw [hvc_] at ul309_0
         have HL309_0 := ax (show Kd.V (Kd.int .i64) 3 _ w.heap.size _ _ (rd_L1 t306 x31_2) from Kd.V_mk ul309_0 ge309_0)
         clear hva_ hvn_ hvc_ ge309_0 ul309_0 hcc309 hce309
         have HR309_0 := ax hi309_0
         have HC309_0 := ax hl309_0
         clear hi309_0 hl309_0
         replace p309 := eq_true p309
         replace q309 := eq_true q309
         have hcz34_0 : wr.cell? ⟨gb290, 0, none⟩ = some (.slice A0_0 l0_0.length c0_0) := (blk_cell BK290.out 0).trans rfl
         have hcz34_1 : wr.cell? ⟨gb290, 1, none⟩ = some (.slice A0_1 l0_1.length c0_1) := (blk_cell BK290.out 1).trans rfl
         have hfz34_0 := blk_frozen BK290.out 0
         have hfz34_1 := blk_frozen BK290.out 1
         go_wp2_with (first | ((with_reducible refine gate_callee (f := 71) rfl ?_); refine goesL_ (some 38) rfl rfl Try.func71 (by kernel_rfl) rfl #[.slice A0_1 l0_1.length c0_1, .slice A309_0 (rd_L1 t306 x31_2).length c309_0] rfl xm ?_; (with_reducible refine (impl_IsInside.calls k2 _ _ l0_1 _ _ (rd_L1 t306 x31_2) true _ ?side1 ?side2 ?side3 ?side4 A31.out).mono ?_); (case side1 => exact xz HR0_1.out HB.out); (case side2 => exact HC0_1.out); (case side3 => exact xw HR309_0.out); (case side4 => exact HC309_0.out); rintro e w' ⟨rfl, ⟨nd, rfl⟩⟩; refine ⟨_, rfl, ?_⟩) | ((with_reducible refine gate_callee (f := 43) rfl ?_); refine goesL_ (some 46) rfl rfl Try.func43 (by kernel_rfl) rfl #[.agg #[.slice A309_0 (rd_L1 t306 x31_2).length c309_0, .slice A0_1 l0_1.length c0_1], .int .i64 (wrap64 (a1 - 1))] rfl xm ?_; (with_reducible refine (ih k2 (by have := HK1.out; have := HK2.out; omega) _ _ (rd_L1 t306 x31_2) _ _ l0_1 (wrap64 (a1 - 1)) t311 _ ?side1 ?side2 ?side3 ?side4 A33.out).mono ?_); (case side1 => exact xw HR309_0.out); (case side2 => exact HC309_0.out); (case side3 => repeat (first | exact (Kd.C_below HR0_1.out (xs HB.out GE290.out)) | (with_reducible refine Kd.C_alloc ?_ _) | (with_reducible refine Kd.C_drewN ?_ _) | (with_reducible refine Kd.C_drew ?_))); (case side4 => exact HC0_1.out); rintro e w35 ⟨v312, rfl, ho0, hb⟩; refine ⟨_, rfl, ?_⟩; replace HL309_0 := ax (Kd.V_elder' (xV HL309_0.out) (by first | exact Kd.N_base ho0 | exact Kd.S_base ho0 | exact Kd.R_base ho0) hb); have HO313 := ax (Kd.N_lower (Kd.N_mono (ok' := fun k_ => (w.heap.size ≤ k_) ∧ some k_ ≠ (u5 : Value).ownBlock ∧ some k_ ≠ (.slice (some ad309) t306.length co27 : Value).ownBlock ∧ k_ ≠ gb290) ho0 (fun k_ hk_ => ⟨(Nat.le_trans (below_size (xs HB.out GE290.out)) hk_), (Kd.fresh' (Kd.N_lt (xN HO_5.out)) k_ hk_), (Kd.fresh' (Kd.N_lt (xN HO_29.out)) k_ hk_), (Kd.freshB (g := gb290) (o := .cells #[.slice A0_0 l0_0.length c0_0, .slice A0_1 l0_1.length c0_1] 40 (0, 0)) (xk BK290.out) k_ hk_)⟩)) (below_size (xs HB.out GE290.out))); replace HO_5 := ax (Kd.N_elder' (xN HO_5.out) (by first | exact Kd.N_base ho0 | exact Kd.S_base ho0 | exact Kd.R_base ho0) hb); replace HO_29 := ax (Kd.N_elder' (xN HO_29.out) (by first | exact Kd.N_base ho0 | exact Kd.S_base ho0 | exact Kd.R_base ho0) hb); replace BK290 := ax (blk_below (g := gb290) (o := .cells #[.slice A0_0 l0_0.length c0_0, .slice A0_1 l0_1.length c0_1] 40 (0, 0)) (xk BK290.out) hb); replace HR309_0 := ax (Kd.C_below (xw HR309_0.out) hb); replace HB := ax (below_step (xs HB.out GE290.out) hb); (try clear hb); (try clear ho0); obtain ⟨Ao36, co36, eo36⟩ := Kd.N_slice HO313.out; subst eo36))
         go_loopg [5, 48] k2 (fun kq v5 v48 w' => ∃ (x5_3 : List (S48)) (x48_3 : Int), v48 = .int .i64 x48_3 ∧ Aside0 (impl_weightsOf.l2 kq a1 x5_3 x23_1 (wrap64 (t301 + 1)) x23_1 t306 (t306.length : Int) x31_2 t311 (t311.length : Int) x48_3 l0_0 l0_1 = some r) ∧ Aside0 (kq ≤ k2) ∧ Aside0 (Kd.N k48 48 w' w.heap.size (fun k_ => (w.heap.size ≤ k_) ∧ some k_ ≠ ((.slice (some ad309) t306.length co27) : Value).ownBlock ∧ some k_ ≠ ((.slice Ao36 t311.length co36) : Value).ownBlock ∧ k_ ≠ gb290) v5 x5_3) ∧ Aside0 (Kd.N (Kd.slice 3 (Kd.int .i64)) 35 w' w.heap.size (fun k_ => (w.heap.size ≤ k_) ∧ some k_ ≠ (v5 : Value).ownBlock ∧ some k_ ≠ ((.slice Ao36 t311.length co36) : Value).ownBlock ∧ k_ ≠ gb290) (.slice (some ad309) t306.length co27) t306) ∧ Aside0 (Kd.N k48 48 w' w.heap.size (fun k_ => (w.heap.size ≤ k_) ∧ some k_ ≠ (v5 : Value).ownBlock ∧ some k_ ≠ ((.slice (some ad309) t306.length co27) : Value).ownBlock ∧ k_ ≠ gb290) (.slice Ao36 t311.length co36) t311) ∧ Aside0 (w'.heap[gb290]? = some (.cells #[(.slice A0_0 l0_0.length c0_0), (.slice A0_1 l0_1.length c0_1)] 40 (0, 0))) ∧ Aside0 (Below w.heap.size w w'))
         case atStart => exact ⟨(x5_2), (0), xr, H', ⟨Nat.le_refl _⟩, ⟨by (with_reducible repeat (first | apply Kd.N_alloc | apply Kd.N_drewN | apply Kd.N_drew)); exact Kd.N_mono HO_5.out (fun _ hk => ⟨hk.1.1, ⟨hk.1.2.1, ⟨hk.2, hk.1.2.2⟩⟩⟩)⟩, ⟨by (with_reducible repeat (first | apply Kd.N_alloc | apply Kd.N_drewN | apply Kd.N_drew)); exact Kd.N_mono HO_29.out (fun _ hk => ⟨hk.1.1, ⟨hk.1.2.1, ⟨hk.2, hk.1.2.2⟩⟩⟩)⟩, ⟨xN HO313.out⟩, ⟨xk BK290.out⟩, ⟨xs HB.out GE290.out⟩⟩
         case round =>
          clear H'
          (try clear c3); (try clear c3b0); (try clear c3b1); (try clear c5); (try clear c5b0); (try clear c5b1); (try clear c23); (try clear c23b0); (try clear c28); (try clear c28b0); (try clear c29); (try clear c29b0); (try clear c30); (try clear c30b0); (try clear c32); (try clear hcz15_0); (try clear hcz15_1); (try clear hcz21_0); (try clear hcz21_1); (try clear hcz25_0); (try clear hcz25_1); (try clear hcz34_0); (try clear hcz34_1); (try clear hcz7_0); (try clear hcz7_1); (try clear hfz15_0); (try clear hfz15_1); (try clear hfz21_0); (try clear hfz21_1); (try clear hfz25_0); (try clear hfz25_1); (try clear hfz34_0); (try clear hfz34_1); (try clear hfz7_0); (try clear hfz7_1); (try clear hx309_0); (try clear p309); (try clear q309)
          obtain ⟨x5_3, x48_3, rfl, HA, HK3, HO_5, HO_29, HO_46, BK290, HB⟩ := hrel
          cases gk with
          | zero => exact absurd HA.out (by simp [impl_weightsOf.l2])
          | succ k3 =>
           have H := HA.out
           clear HA
           simp only [impl_weightsOf.l2] at H
           by_cases c37 : x48_3 < (t311.length : Int)
           ·rw [if_pos c37] at H
            have c37b0 := decide_eq_true c37
            clear c37
            obtain ⟨c38b0, H⟩ := xq H
            obtain ⟨c39b0, H⟩ := xq H
            obtain ⟨t316, A40, H⟩ := xI H
            obtain ⟨y319, Ny319, H⟩ := xg H
            obtain ⟨c41, H⟩ := xp H
            have LMc41 := ax c41
            clear c41
            obtain ⟨y322, hy322⟩ : ∃ y_ : List Int, y_ = (t316 ++ y319) := ⟨_, rfl⟩
            replace H : ((some (([(⟨y322, (rd_T48 t311 x48_3).f1⟩ : S48)] : List (S48)) : List (S48))).bind fun y325 => (if x5_3.length + y325.length < 4398046511104 then (impl_weightsOf.l2 k3 a1 (x5_3 ++ y325) x23_1 (wrap64 (t301 + 1)) x23_1 t306 (t306.length : Int) x31_2 t311 (t311.length : Int) (wrap64 (x48_3 + 1)) l0_0 l0_1) else (none))) = some r := xv hy322 H
            have Ny322 := ax hy322
            clear hy322
            obtain ⟨y325, Ny325, H⟩ := xg H
            obtain ⟨c42, H⟩ := xp H
            have LMc42 := ax c42
            clear c42
            obtain ⟨y328, hy328⟩ : ∃ y_ : List (S48), y_ = (x5_3 ++ y325) := ⟨_, rfl⟩
            replace H : (impl_weightsOf.l2 k3 a1 y328 x23_1 (wrap64 (t301 + 1)) x23_1 t306 (t306.length : Int) x31_2 t311 (t311.length : Int) (wrap64 (x48_3 + 1)) l0_0 l0_1) = some r := xv hy328 H
            have Ny328 := ax hy328
            clear hy328
            have H' := ax H
            clear H
            have p314 : 0 ≤ (x48_3 : Int) := xd
            have q314 : x48_3 < (t311.length : Int) := xd
            obtain ⟨ad314, A314_0, c314_0, e314, hx314_0, hx314_1, hl314_0, hi314_0⟩ := at_T48 (Kd.N_reads' HO_46.out).2.2 x48_3 p314 q314
            cases e314
            obtain ⟨ce314, hce314, hMe314, hcc314⟩ := Kd.N_get HO_46.out z48 x48_3 p314 (by first | exact q314 | exact xd | (have e_ := (Kd.N_reads' HO_46.out).1; omega))
            obtain ⟨ua314_0, uc314_0, rfl, ul314_0, ge314_0⟩ := k48_openF hMe314
            have hv314_0 := hcc314 0 _ rfl
            rw [Nat.add_zero] at hv314_0
            replace hv314_0 := Option.some.inj (hv314_0.symm.trans hx314_0)
            injection hv314_0 with hva_ hvn_ hvc_
            rw [hva_] at ge314_0
            rw [hvc_] at ul314_0
            have HL314_0 := ax (show Kd.V (Kd.int .i64) 3 _ w.heap.size _ _ ((rd_T48 t311 x48_3).f0) from Kd.V_mk ul314_0 ge314_0)
            clear hva_ hvn_ hvc_ ge314_0 ul314_0 hcc314 hce314
            have HR314_0 := ax hi314_0
            have HC314_0 := ax hl314_0
            clear hi314_0 hl314_0
            replace p314 := eq_true p314
            replace q314 := eq_true q314
            try go_wp2_with (first | ((with_reducible refine gate_dst (N := 10) rfl ?_); refine box_event ?hg (N := 10) ?hd (cs := #[.slice none 0 0, .int .i64 0]) (t := 48) ?hr ?_; (case hd => rfl); (case hg => rfl); (case hr => first | (go_simp; done) | (go_simp; rfl)); intro gb315 hg w43 hbox hb; replace HO_5 := ax (Kd.N_below (Kd.N_elderB (xN HO_5.out) gb315 (Nat.le_of_eq hg.symm)) hb); replace HO_29 := ax (Kd.N_below (Kd.N_elderB (xN HO_29.out) gb315 (Nat.le_of_eq hg.symm)) hb); replace HO_46 := ax (Kd.N_below (Kd.N_elderB (xN HO_46.out) gb315 (Nat.le_of_eq hg.symm)) hb); replace HL314_0 := ax (Kd.V_below (Kd.V_elderB (xV HL314_0.out) gb315 (Nat.le_of_eq hg.symm)) hb); replace HR314_0 := ax (Kd.C_below (xw HR314_0.out) hb); have BK315 := ax (hbox); have GW315 := ax ((by rw [hg]; exact (below_size (xs HB.out GE290.out)) : w.heap.size ≤ gb315)); have GE315 := ax ((by rw [hg]; exact (below_size (xs HB.out GE290.out)) : w.heap.size ≤ gb315)); replace HB := ax (below_step (xs HB.out GE290.out) hb); have NB290_315 := ax ((by rw [hg]; exact Nat.ne_of_lt (blk_lt (g := gb290) (o := .cells #[.slice A0_0 l0_0.length c0_0, .slice A0_1 l0_1.length c0_1] 40 (0, 0)) (xk BK290.out)) : gb290 ≠ gb315)); have NB315_290 := ax ((by rw [hg]; exact Nat.ne_of_gt (blk_lt (g := gb290) (o := .cells #[.slice A0_0 l0_0.length c0_0, .slice A0_1 l0_1.length c0_1] 40 (0, 0)) (xk BK290.out)) : gb315 ≠ gb290)); replace BK290 := ax (blk_below (g := gb290) (o := .cells #[.slice A0_0 l0_0.length c0_0, .slice A0_1 l0_1.length c0_1] 40 (0, 0)) (xk BK290.out) hb); clear hb hbox hg; have hnb44 := NB315_290.out; have hnc44 := NB290_315.out; have hcz45_0 : w43.cell? ⟨gb315, 0, none⟩ = some (.slice none 0 0) := (blk_cell BK315.out 0).trans rfl; have hcz45_1 : w43.cell? ⟨gb315, 1, none⟩ = some (.int .i64 0) := (blk_cell BK315.out 1).trans rfl; have hfz45_0 := blk_frozen BK315.out 0; have hfz45_1 := blk_frozen BK315.out 1; obtain ⟨Ao46, co46, eo46⟩ := Kd.N_slice HO_5.out; subst eo46))
            have n0_ : Aside0 (Kd.N k48 48 ((w43.setCell ⟨gb315, 0, none⟩ (.slice A314_0 ((rd_T48 t311 x48_3).f0).length c314_0)).setCell ⟨gb315, 1, none⟩ (.int .i64 ((rd_T48 t311 x48_3).f1))) w.heap.size (fun k_ => (w.heap.size ≤ k_) ∧ some k_ ≠ (.slice (some ad309) t306.length co27 : Value).ownBlock ∧ some k_ ≠ (.slice (some ad314) t311.length co36 : Value).ownBlock ∧ k_ ≠ gb290 ∧ k_ ≠ gb315) (.slice Ao46 x5_3.length co46) x5_3) := ⟨by (with_reducible repeat (first | apply Kd.N_alloc | apply Kd.N_drewN | apply Kd.N_drew)); exact Kd.N_mono (Kd.N_far (p := ⟨gb315, 1, none⟩) (Kd.N_far (p := ⟨gb315, 0, none⟩) (Kd.N_mono HO_5.out (fun k_ hk => (⟨hk, hk.2⟩ : _ ∧ k_ ≠ gb315))) (fun _ hk => hk.2) (.slice A314_0 ((rd_T48 t311 x48_3).f0).length c314_0)) (fun _ hk => hk.2) (.int .i64 ((rd_T48 t311 x48_3).f1))) (fun _ hk => ⟨hk.1.1.1, ⟨hk.1.1.2.1, ⟨hk.1.1.2.2.1, ⟨hk.1.1.2.2.2, hk.1.2⟩⟩⟩⟩)⟩
            have n1_ : Aside0 (Kd.N (Kd.slice 3 (Kd.int .i64)) 35 ((w43.setCell ⟨gb315, 0, none⟩ (.slice A314_0 ((rd_T48 t311 x48_3).f0).length c314_0)).setCell ⟨gb315, 1, none⟩ (.int .i64 ((rd_T48 t311 x48_3).f1))) w.heap.size (fun k_ => (w.heap.size ≤ k_) ∧ some k_ ≠ (.slice Ao46 x5_3.length co46 : Value).ownBlock ∧ some k_ ≠ (.slice (some ad314) t311.length co36 : Value).ownBlock ∧ k_ ≠ gb290 ∧ k_ ≠ gb315) (.slice (some ad309) t306.length co27) t306) := ⟨by (with_reducible repeat (first | apply Kd.N_alloc | apply Kd.N_drewN | apply Kd.N_drew)); exact Kd.N_mono (Kd.N_far (p := ⟨gb315, 1, none⟩) (Kd.N_far (p := ⟨gb315, 0, none⟩) (Kd.N_mono HO_29.out (fun k_ hk => (⟨hk, hk.2⟩ : _ ∧ k_ ≠ gb315))) (fun _ hk => hk.2) (.slice A314_0 ((rd_T48 t311 x48_3).f0).length c314_0)) (fun _ hk => hk.2) (.int .i64 ((rd_T48 t311 x48_3).f1))) (fun _ hk => ⟨hk.1.1.1, ⟨hk.1.1.2.1, ⟨hk.1.1.2.2.1, ⟨hk.1.1.2.2.2, hk.1.2⟩⟩⟩⟩)⟩
            have n2_ : Aside0 (Kd.N k48 48 ((w43.setCell ⟨gb315, 0, none⟩ (.slice A314_0 ((rd_T48 t311 x48_3).f0).length c314_0)).setCell ⟨gb315, 1, none⟩ (.int .i64 ((rd_T48 t311 x48_3).f1))) w.heap.size (fun k_ => (w.heap.size ≤ k_) ∧ some k_ ≠ (.slice Ao46 x5_3.length co46 : Value).ownBlock ∧ some k_ ≠ (.slice (some ad309) t306.length co27 : Value).ownBlock ∧ k_ ≠ gb290 ∧ k_ ≠ gb315) (.slice (some ad314) t311.length co36) t311) := ⟨by (with_reducible repeat (first | apply Kd.N_alloc | apply Kd.N_drewN | apply Kd.N_drew)); exact Kd.N_mono (Kd.N_far (p := ⟨gb315, 1, none⟩) (Kd.N_far (p := ⟨gb315, 0, none⟩) (Kd.N_mono HO_46.out (fun k_ hk => (⟨hk, hk.2⟩ : _ ∧ k_ ≠ gb315))) (fun _ hk => hk.2) (.slice A314_0 ((rd_T48 t311 x48_3).f0).length c314_0)) (fun _ hk => hk.2) (.int .i64 ((rd_T48 t311 x48_3).f1))) (fun _ hk => ⟨hk.1.1.1, ⟨hk.1.1.2.1, ⟨hk.1.1.2.2.1, ⟨hk.1.1.2.2.2, hk.1.2⟩⟩⟩⟩)⟩
            have n3_ : Aside0 (Kd.V (Kd.int .i64) 3 ((w43.setCell ⟨gb315, 0, none⟩ (.slice A314_0 ((rd_T48 t311 x48_3).f0).length c314_0)).setCell ⟨gb315, 1, none⟩ (.int .i64 ((rd_T48 t311 x48_3).f1))) w.heap.size (fun k_ => (w.heap.size ≤ k_) ∧ some k_ ≠ (.slice Ao46 x5_3.length co46 : Value).ownBlock ∧ some k_ ≠ (.slice (some ad309) t306.length co27 : Value).ownBlock ∧ some k_ ≠ (.slice (some ad314) t311.length co36 : Value).ownBlock ∧ k_ ≠ gb290 ∧ k_ ≠ gb315) (.slice A314_0 ((rd_T48 t311 x48_3).f0).length c314_0) ((rd_T48 t311 x48_3).f0)) := ⟨by (with_reducible repeat (first | apply Kd.V_alloc | apply Kd.V_drewN | apply Kd.V_drew)); exact Kd.V_mono (Kd.V_far (p := ⟨gb315, 1, none⟩) (Kd.V_far (p := ⟨gb315, 0, none⟩) (Kd.V_mono HL314_0.out (fun k_ hk => (⟨hk, hk.2⟩ : _ ∧ k_ ≠ gb315))) (fun _ hk => hk.2) (.slice A314_0 ((rd_T48 t311 x48_3).f0).length c314_0)) (fun _ hk => hk.2) (.int .i64 ((rd_T48 t311 x48_3).f1))) (fun _ hk => ⟨hk.1.1.1.1, ⟨hk.1.1.1.2.1, ⟨hk.1.1.1.2.2.1, ⟨hk.1.1.2, ⟨hk.1.1.1.2.2.2, hk.1.2⟩⟩⟩⟩⟩)⟩
            have n4_ : Aside0 (((w43.setCell ⟨gb315, 0, none⟩ (.slice A314_0 ((rd_T48 t311 x48_3).f0).length c314_0)).setCell ⟨gb315, 1, none⟩ (.int .i64 ((rd_T48 t311 x48_3).f1))).heap[gb290]? = some (.cells #[.slice A0_0 l0_0.length c0_0, .slice A0_1 l0_1.length c0_1] 40 (0, 0))) := ⟨by (with_reducible repeat (first | refine blk_drewN ?_ _ | refine blk_drew ?_ | refine blk_alloc ?_ _)); refine blk_far ?_ NB290_315.out _; (with_reducible repeat (first | refine blk_drewN ?_ _ | refine blk_drew ?_ | refine blk_alloc ?_ _)); refine blk_far ?_ NB290_315.out _; (with_reducible repeat (first | refine blk_drewN ?_ _ | refine blk_drew ?_ | refine blk_alloc ?_ _)); exact BK290.out⟩
            have n5_ : Aside0 (((w43.setCell ⟨gb315, 0, none⟩ (.slice A314_0 ((rd_T48 t311 x48_3).f0).length c314_0)).setCell ⟨gb315, 1, none⟩ (.int .i64 ((rd_T48 t311 x48_3).f1))).heap[gb315]? = some (.cells #[.slice A314_0 ((rd_T48 t311 x48_3).f0).length c314_0, .int .i64 ((rd_T48 t311 x48_3).f1)] 48 (0, 0))) := ⟨by (with_reducible repeat (first | refine blk_drewN ?_ _ | refine blk_drew ?_ | refine blk_alloc ?_ _)); refine blk_put (cs := #[.slice A314_0 ((rd_T48 t311 x48_3).f0).length c314_0, .int .i64 0]) ?_ 1 _ rfl; (with_reducible repeat (first | refine blk_drewN ?_ _ | refine blk_drew ?_ | refine blk_alloc ?_ _)); refine blk_put (cs := #[.slice none 0 0, .int .i64 0]) ?_ 0 _ rfl; (with_reducible repeat (first | refine blk_drewN ?_ _ | refine blk_drew ?_ | refine blk_alloc ?_ _)); exact BK315.out⟩
            have n6_ : Aside0 (Below w.heap.size w ((w43.setCell ⟨gb315, 0, none⟩ (.slice A314_0 ((rd_T48 t311 x48_3).f0).length c314_0)).setCell ⟨gb315, 1, none⟩ (.int .i64 ((rd_T48 t311 x48_3).f1)))) := ⟨by repeat (first | (with_reducible first | exact HB.out | apply below_alloc | apply pw_below_drewN | apply below_drew1 | refine below_set ?_ GE290.out | refine below_set ?_ GE315.out) | exact HB.out)⟩
            (try clear HO_5)
            (try clear HO_29)
            (try clear HO_46)
            (try clear HL314_0)
            (try clear BK290)
            (try clear BK315)
            (try clear HB)
            generalize ((w43.setCell ⟨gb315, 0, none⟩ (.slice A314_0 ((rd_T48 t311 x48_3).f0).length c314_0)).setCell ⟨gb315, 1, none⟩ (.int .i64 ((rd_T48 t311 x48_3).f1))) = w47 at n0_ n1_ n2_ n3_ n4_ n5_ n6_ ⊢
            have HO_5 := n0_
            have HO_29 := n1_
            have HO_46 := n2_
            have HL314_0 := n3_
            have BK290 := n4_
            have BK315 := n5_
            have HB := n6_
            clear n0_ n1_ n2_ n3_ n4_ n5_ n6_
            replace HO_5 := ax (Kd.N_drew HO_5.out); replace HO_29 := ax (Kd.N_drew HO_29.out); replace HO_46 := ax (Kd.N_drew HO_46.out); replace HL314_0 := ax (Kd.V_drew HL314_0.out); replace BK290 := ax (blk_drew BK290.out); replace BK315 := ax (blk_drew BK315.out); replace HB := ax (below_drew1 HB.out)
            refine start_ (n := 13) (S := fun w' => w'.cell? ⟨gb315, 0, none⟩ = some (.slice A314_0 ((rd_T48 t311 x48_3).f0).length c314_0) ∧ w'.cell? ⟨gb315, 1, none⟩ = some (.int .i64 ((rd_T48 t311 x48_3).f1))) (ds := []) (xB 13 0) (by kernel_rfl) rfl (by kernel_rfl) ⟨(blk_cell BK315.out 0).trans rfl, (blk_cell BK315.out 1).trans rfl⟩ (fun hHeld => ?_); refine with_tabW impl_weightsOf.tab16 impl_weightsOf.bits16 (fun HT_ HW_ => ?_)
            generalize w47.drew = w48 at HO_5 HO_29 HO_46 HL314_0 BK290 BK315 HB hHeld ⊢
            refine pu (i := 0) (N := some 52) (xB 13 1) HT_.out ?_
            refine pu (i := 1) (N := some 53) (xB 13 3) HT_.out ?_
            refine pu (i := 4) (N := some 56) (xB 13 19) HT_.out ?_
            refine pu (i := 7) (N := some 59) (xB 13 147) HT_.out ?_
            refine tk (i := 2) (N := some 54) (xB 13 151) HT_.out HW_.out hHeld ?_
            refine tk (i := 8) (N := some 60) (xB 13 407) HT_.out HW_.out hHeld ?_
            refine join_ (σ := Value × Value) 5 (xB 13 447) (fun s_ => [(55, s_.1), (57, s_.2)]) (fun s_ w' => (w'.cell? ⟨gb315, 0, none⟩ = some (.slice A314_0 ((rd_T48 t311 x48_3).f0).length c314_0) ∧ w'.cell? ⟨gb315, 1, none⟩ = some (.int .i64 ((rd_T48 t311 x48_3).f1))) ∧ (Kd.V (Kd.int .i64) 3 w' w.heap.size (fun k_ => (w.heap.size ≤ k_) ∧ some k_ ≠ (s_.1 : Value).ownBlock ∧ some k_ ≠ (s_.2 : Value).ownBlock ∧ some k_ ≠ (.slice (some ad309) t306.length co27 : Value).ownBlock ∧ some k_ ≠ (.slice (some ad314) t311.length co36 : Value).ownBlock ∧ some k_ ≠ (.slice Ao46 x5_3.length co46 : Value).ownBlock ∧ k_ ≠ gb290 ∧ k_ ≠ gb315) (.slice A314_0 ((rd_T48 t311 x48_3).f0).length c314_0) ((rd_T48 t311 x48_3).f0)) ∧ (Kd.R (Kd.int .i64) 3 w' w.heap.size (fun k_ => (w.heap.size ≤ k_) ∧ some k_ ≠ (s_.2 : Value).ownBlock) s_.1 t316) ∧ (Kd.R (Kd.int .i64) 3 w' w.heap.size (fun k_ => (w.heap.size ≤ k_) ∧ some k_ ≠ (s_.1 : Value).ownBlock) s_.2 y319) ∧ (Kd.N (Kd.slice 3 (Kd.int .i64)) 35 w' w.heap.size (fun k_ => (w.heap.size ≤ k_) ∧ some k_ ≠ (s_.1 : Value).ownBlock ∧ some k_ ≠ (s_.2 : Value).ownBlock ∧ some k_ ≠ (.slice (some ad314) t311.length co36 : Value).ownBlock ∧ some k_ ≠ (.slice Ao46 x5_3.length co46 : Value).ownBlock ∧ k_ ≠ gb290 ∧ k_ ≠ gb315) (.slice (some ad309) t306.length co27) t306) ∧ (Kd.N k48 48 w' w.heap.size (fun k_ => (w.heap.size ≤ k_) ∧ some k_ ≠ (s_.1 : Value).ownBlock ∧ some k_ ≠ (s_.2 : Value).ownBlock ∧ some k_ ≠ (.slice (some ad309) t306.length co27 : Value).ownBlock ∧ some k_ ≠ (.slice Ao46 x5_3.length co46 : Value).ownBlock ∧ k_ ≠ gb290 ∧ k_ ≠ gb315) (.slice (some ad314) t311.length co36) t311) ∧ (Kd.N k48 48 w' w.heap.size (fun k_ => (w.heap.size ≤ k_) ∧ some k_ ≠ (s_.1 : Value).ownBlock ∧ some k_ ≠ (s_.2 : Value).ownBlock ∧ some k_ ≠ (.slice (some ad309) t306.length co27 : Value).ownBlock ∧ some k_ ≠ (.slice (some ad314) t311.length co36 : Value).ownBlock ∧ k_ ≠ gb290 ∧ k_ ≠ gb315) (.slice Ao46 x5_3.length co46) x5_3) ∧ (w'.heap[gb290]? = some (.cells #[.slice A0_0 l0_0.length c0_0, .slice A0_1 l0_1.length c0_1] 40 (0, 0))) ∧ (w'.heap[gb315]? = some (.cells #[.slice A314_0 ((rd_T48 t311 x48_3).f0).length c314_0, .int .i64 ((rd_T48 t311 x48_3).f1)] 48 (0, 0))) ∧ (Below w.heap.size w w')) ?_ ?_
            rotate_left
            ·intro hCont
             refine two_ (i := 3) (j := 5) (Ni := some 55) (Nj := some 57) (xB 13 415) (xB 13 439) rfl rfl rfl rfl (two_of HT_.out (by kernel_rfl)) (by decide) (by decide) (fun K hK => ?_) (fun K hK => ?_)
             ·skip
              refine goes_ Try.func30 (by kernel_rfl) rfl #[.slice A314_0 ((rd_T48 t311 x48_3).f0).length c314_0] (by rfl) rfl rfl xm ?_
              with_reducible refine (slices_Clone_int_int.calls _ _ ((rd_T48 t311 x48_3).f0) t316 _ ?side1 ?side2 A40.out).mono ?_
              (case side1 => repeat (first | exact ((Kd.V_reads' (xV HL314_0.out)).2.2) | (with_reducible refine Kd.C_alloc ?_ _) | (with_reducible refine Kd.C_drewN ?_ _) | (with_reducible refine Kd.C_drew ?_)))
              (case side2 => exact HC314_0.out)
              rintro e w49 ⟨v317, rfl, ho0, hb⟩
              refine ⟨_, rfl, ?_⟩
              replace HO_5 := ax (Kd.N_elder' (xN HO_5.out) (Kd.R_base ho0) hb); replace HO_29 := ax (Kd.N_elder' (xN HO_29.out) (Kd.R_base ho0) hb); replace HO_46 := ax (Kd.N_elder' (xN HO_46.out) (Kd.R_base ho0) hb); replace HL314_0 := ax (Kd.V_elder' (xV HL314_0.out) (Kd.R_base ho0) hb); have HO318 := ax (Kd.R_lower (Kd.R_newM (M := fun k_ => (w.heap.size ≤ k_)) ho0 (below_size (by repeat (first | (with_reducible first | exact HB.out | apply below_alloc | apply pw_below_drewN | apply below_drew1 | refine below_set ?_ GE290.out | refine below_set ?_ GE315.out) | exact HB.out))) (fun k_ h_ => h_)) (below_size (by repeat (first | (with_reducible first | exact HB.out | apply below_alloc | apply pw_below_drewN | apply below_drew1 | refine below_set ?_ GE290.out | refine below_set ?_ GE315.out) | exact HB.out)))); replace BK290 := ax (blk_below (g := gb290) (o := .cells #[.slice A0_0 l0_0.length c0_0, .slice A0_1 l0_1.length c0_1] 40 (0, 0)) (xk BK290.out) hb); replace BK315 := ax (blk_below (g := gb315) (o := .cells #[.slice A314_0 ((rd_T48 t311 x48_3).f0).length c314_0, .int .i64 ((rd_T48 t311 x48_3).f1)] 48 (0, 0)) (xk BK315.out) hb); replace HB := ax (below_step (by repeat (first | (with_reducible first | exact HB.out | apply below_alloc | apply pw_below_drewN | apply below_drew1 | refine below_set ?_ GE290.out | refine below_set ?_ GE315.out) | exact HB.out)) hb)
              (try clear hb)
              (try clear hk)
              (try clear ho0)
              refine hK.out _ _ ⟨(blk_cell BK315.out 0).trans rfl, (blk_cell BK315.out 1).trans rfl⟩ (fun hHeld => ?_)
              clear hK K
              refine nm ?_
              refine one_ (i := 5) (N := some 57) (xB 13 447) rfl rfl (one_of HT_.out (by kernel_rfl)) (by decide) (fun K hK => ?_)
              refine Kd.R_lit_step (Kd.int .i64) _ 3 ?hg (N := 57) ?hd (xs := ([x23_1] : List Int)) (inner := [.int .i64 x23_1]) (ok := fun _ => True) (okp := fun _ => True) ?hr ?hp (fun _ hk => hk) trivial (Below.refl _ _) (Nat.le_refl _) (by simp) ?_; (case hd => rfl); (case hg => rfl); (case hr => first | (go_simp; done) | (go_simp; rfl)); (case hp => exact (Reps.one (show Kd.M (Kd.int .i64) _ _ _ x23_1 [.int .i64 x23_1] from rfl) (Reps.none _ _)))
              intro v320 w50 ho51 hb hg_ hnew_
              clear hg_ hnew_
              (first | rw [← Ny319.out] at ho51 | (simp only [Int.reduceToNat] at ho51; rw [← Ny319.out] at ho51))
              replace HO_5 := ax (Kd.N_elder' (xN HO_5.out) (Kd.R_base ho51) hb); replace HO_29 := ax (Kd.N_elder' (xN HO_29.out) (Kd.R_base ho51) hb); replace HO_46 := ax (Kd.N_elder' (xN HO_46.out) (Kd.R_base ho51) hb); replace HL314_0 := ax (Kd.V_elder' (xV HL314_0.out) (Kd.R_base ho51) hb); have HO321 := ax (Kd.R_lower (Kd.R_new' (Kd.R_newM (M := fun k_ => (w.heap.size ≤ k_)) ho51 (below_size (by repeat (first | (with_reducible first | exact HB.out | apply below_alloc | apply pw_below_drewN | apply below_drew1 | refine below_set ?_ GE290.out | refine below_set ?_ GE315.out) | exact HB.out))) (fun k_ h_ => h_)) (Kd.R_lt (xR HO318.out))) (below_size (by repeat (first | (with_reducible first | exact HB.out | apply below_alloc | apply pw_below_drewN | apply below_drew1 | refine below_set ?_ GE290.out | refine below_set ?_ GE315.out) | exact HB.out)))); replace HO318 := ax (Kd.R_elder' (xR HO318.out) (Kd.R_base ho51) hb); replace BK290 := ax (blk_below (g := gb290) (o := .cells #[.slice A0_0 l0_0.length c0_0, .slice A0_1 l0_1.length c0_1] 40 (0, 0)) (xk BK290.out) hb); replace BK315 := ax (blk_below (g := gb315) (o := .cells #[.slice A314_0 ((rd_T48 t311 x48_3).f0).length c314_0, .int .i64 ((rd_T48 t311 x48_3).f1)] 48 (0, 0)) (xk BK315.out) hb); replace HB := ax (below_step (by repeat (first | (with_reducible first | exact HB.out | apply below_alloc | apply pw_below_drewN | apply below_drew1 | refine below_set ?_ GE290.out | refine below_set ?_ GE315.out) | exact HB.out)) hb); clear hb ho51
              refine hK.out _ _ ⟨(blk_cell BK315.out 0).trans rfl, (blk_cell BK315.out 1).trans rfl⟩ (fun hHeld => ?_)
              clear hK K
              refine nm ?_
              exact norm_ (by simp only [putAll, Act.put, List.setIfInBounds_toArray, List.set_cons_zero, List.set_cons_succ]) (hCont (v317, v320) _ ⟨hHeld, (by (with_reducible repeat (first | apply Kd.V_alloc | apply Kd.V_drewN | apply Kd.V_drew)); exact Kd.V_mono HL314_0.out (fun _ hk => ⟨hk.1.1.1, ⟨hk.1.2, ⟨hk.2, ⟨hk.1.1.2.2.1, ⟨hk.1.1.2.2.2.1, ⟨hk.1.1.2.1, ⟨hk.1.1.2.2.2.2.1, hk.1.1.2.2.2.2.2⟩⟩⟩⟩⟩⟩⟩)), (by (with_reducible repeat (first | apply Kd.R_alloc | apply Kd.R_drewN | apply Kd.R_drew)); exact Kd.R_mono HO318.out (fun _ hk => ⟨hk.1.1, hk.2⟩)), (by (with_reducible repeat (first | apply Kd.R_alloc | apply Kd.R_drewN | apply Kd.R_drew)); exact Kd.R_mono HO321.out (fun _ hk => ⟨hk.1.1, hk.2⟩)), (by (with_reducible repeat (first | apply Kd.N_alloc | apply Kd.N_drewN | apply Kd.N_drew)); exact Kd.N_mono HO_29.out (fun _ hk => ⟨hk.1.1.1, ⟨hk.1.2, ⟨hk.2, ⟨hk.1.1.2.2.1, ⟨hk.1.1.2.1, ⟨hk.1.1.2.2.2.1, hk.1.1.2.2.2.2⟩⟩⟩⟩⟩⟩)), (by (with_reducible repeat (first | apply Kd.N_alloc | apply Kd.N_drewN | apply Kd.N_drew)); exact Kd.N_mono HO_46.out (fun _ hk => ⟨hk.1.1.1, ⟨hk.1.2, ⟨hk.2, ⟨hk.1.1.2.2.1, ⟨hk.1.1.2.1, ⟨hk.1.1.2.2.2.1, hk.1.1.2.2.2.2⟩⟩⟩⟩⟩⟩)), (by (with_reducible repeat (first | apply Kd.N_alloc | apply Kd.N_drewN | apply Kd.N_drew)); exact Kd.N_mono HO_5.out (fun _ hk => ⟨hk.1.1.1, ⟨hk.1.2, ⟨hk.2, ⟨hk.1.1.2.1, ⟨hk.1.1.2.2.1, ⟨hk.1.1.2.2.2.1, hk.1.1.2.2.2.2⟩⟩⟩⟩⟩⟩)), (xk BK290.out), (xk BK315.out), (by repeat (first | (with_reducible first | exact HB.out | apply below_alloc | apply pw_below_drewN | apply below_drew1 | refine below_set ?_ GE290.out | refine below_set ?_ GE315.out) | exact HB.out))⟩)
             ·skip
              refine Kd.R_lit_step (Kd.int .i64) _ 3 ?hg (N := 57) ?hd (xs := ([x23_1] : List Int)) (inner := [.int .i64 x23_1]) (ok := fun _ => True) (okp := fun _ => True) ?hr ?hp (fun _ hk => hk) trivial (Below.refl _ _) (Nat.le_refl _) (by simp) ?_; (case hd => rfl); (case hg => rfl); (case hr => first | (go_simp; done) | (go_simp; rfl)); (case hp => exact (Reps.one (show Kd.M (Kd.int .i64) _ _ _ x23_1 [.int .i64 x23_1] from rfl) (Reps.none _ _)))
              intro v320 w49 ho50 hb hg_ hnew_
              clear hg_ hnew_
              (first | rw [← Ny319.out] at ho50 | (simp only [Int.reduceToNat] at ho50; rw [← Ny319.out] at ho50))
              replace HO_5 := ax (Kd.N_elder' (xN HO_5.out) (Kd.R_base ho50) hb); replace HO_29 := ax (Kd.N_elder' (xN HO_29.out) (Kd.R_base ho50) hb); replace HO_46 := ax (Kd.N_elder' (xN HO_46.out) (Kd.R_base ho50) hb); replace HL314_0 := ax (Kd.V_elder' (xV HL314_0.out) (Kd.R_base ho50) hb); have HO321 := ax (Kd.R_lower (Kd.R_newM (M := fun k_ => (w.heap.size ≤ k_)) ho50 (below_size (by repeat (first | (with_reducible first | exact HB.out | apply below_alloc | apply pw_below_drewN | apply below_drew1 | refine below_set ?_ GE290.out | refine below_set ?_ GE315.out) | exact HB.out))) (fun k_ h_ => h_)) (below_size (by repeat (first | (with_reducible first | exact HB.out | apply below_alloc | apply pw_below_drewN | apply below_drew1 | refine below_set ?_ GE290.out | refine below_set ?_ GE315.out) | exact HB.out)))); replace BK290 := ax (blk_below (g := gb290) (o := .cells #[.slice A0_0 l0_0.length c0_0, .slice A0_1 l0_1.length c0_1] 40 (0, 0)) (xk BK290.out) hb); replace BK315 := ax (blk_below (g := gb315) (o := .cells #[.slice A314_0 ((rd_T48 t311 x48_3).f0).length c314_0, .int .i64 ((rd_T48 t311 x48_3).f1)] 48 (0, 0)) (xk BK315.out) hb); replace HB := ax (below_step (by repeat (first | (with_reducible first | exact HB.out | apply below_alloc | apply pw_below_drewN | apply below_drew1 | refine below_set ?_ GE290.out | refine below_set ?_ GE315.out) | exact HB.out)) hb); clear hb ho50
              refine hK.out _ _ ⟨(blk_cell BK315.out 0).trans rfl, (blk_cell BK315.out 1).trans rfl⟩ (fun hHeld => ?_)
              clear hK K
              refine nm ?_
              refine one_ (i := 3) (N := some 55) (xB 13 447) rfl rfl (one_of HT_.out (by kernel_rfl)) (by decide) (fun K hK => ?_)
              refine goes_ Try.func30 (by kernel_rfl) rfl #[.slice A314_0 ((rd_T48 t311 x48_3).f0).length c314_0] (by rfl) rfl rfl xm ?_
              with_reducible refine (slices_Clone_int_int.calls _ _ ((rd_T48 t311 x48_3).f0) t316 _ ?side1 ?side2 A40.out).mono ?_
              (case side1 => repeat (first | exact ((Kd.V_reads' (xV HL314_0.out)).2.2) | (with_reducible refine Kd.C_alloc ?_ _) | (with_reducible refine Kd.C_drewN ?_ _) | (with_reducible refine Kd.C_drew ?_)))
              (case side2 => exact HC314_0.out)
              rintro e w51 ⟨v317, rfl, ho0, hb⟩
              refine ⟨_, rfl, ?_⟩
              replace HO_5 := ax (Kd.N_elder' (xN HO_5.out) (Kd.R_base ho0) hb); replace HO_29 := ax (Kd.N_elder' (xN HO_29.out) (Kd.R_base ho0) hb); replace HO_46 := ax (Kd.N_elder' (xN HO_46.out) (Kd.R_base ho0) hb); replace HL314_0 := ax (Kd.V_elder' (xV HL314_0.out) (Kd.R_base ho0) hb); have HO318 := ax (Kd.R_lower (Kd.R_new' (Kd.R_newM (M := fun k_ => (w.heap.size ≤ k_)) ho0 (below_size (by repeat (first | (with_reducible first | exact HB.out | apply below_alloc | apply pw_below_drewN | apply below_drew1 | refine below_set ?_ GE290.out | refine below_set ?_ GE315.out) | exact HB.out))) (fun k_ h_ => h_)) (Kd.R_lt (xR HO321.out))) (below_size (by repeat (first | (with_reducible first | exact HB.out | apply below_alloc | apply pw_below_drewN | apply below_drew1 | refine below_set ?_ GE290.out | refine below_set ?_ GE315.out) | exact HB.out)))); replace HO321 := ax (Kd.R_elder' (xR HO321.out) (Kd.R_base ho0) hb); replace BK290 := ax (blk_below (g := gb290) (o := .cells #[.slice A0_0 l0_0.length c0_0, .slice A0_1 l0_1.length c0_1] 40 (0, 0)) (xk BK290.out) hb); replace BK315 := ax (blk_below (g := gb315) (o := .cells #[.slice A314_0 ((rd_T48 t311 x48_3).f0).length c314_0, .int .i64 ((rd_T48 t311 x48_3).f1)] 48 (0, 0)) (xk BK315.out) hb); replace HB := ax (below_step (by repeat (first | (with_reducible first | exact HB.out | apply below_alloc | apply pw_below_drewN | apply below_drew1 | refine below_set ?_ GE290.out | refine below_set ?_ GE315.out) | exact HB.out)) hb)
              (try clear hb)
              (try clear hk)
              (try clear ho0)
              refine hK.out _ _ ⟨(blk_cell BK315.out 0).trans rfl, (blk_cell BK315.out 1).trans rfl⟩ (fun hHeld => ?_)
              clear hK K
              refine nm ?_
              exact norm_ (by simp only [putAll, Act.put, List.setIfInBounds_toArray, List.set_cons_zero, List.set_cons_succ]) (hCont (v317, v320) _ ⟨hHeld, (by (with_reducible repeat (first | apply Kd.V_alloc | apply Kd.V_drewN | apply Kd.V_drew)); exact Kd.V_mono HL314_0.out (fun _ hk => ⟨hk.1.1.1, ⟨hk.2, ⟨hk.1.2, ⟨hk.1.1.2.2.1, ⟨hk.1.1.2.2.2.1, ⟨hk.1.1.2.1, ⟨hk.1.1.2.2.2.2.1, hk.1.1.2.2.2.2.2⟩⟩⟩⟩⟩⟩⟩)), (by (with_reducible repeat (first | apply Kd.R_alloc | apply Kd.R_drewN | apply Kd.R_drew)); exact Kd.R_mono HO318.out (fun _ hk => ⟨hk.1.1, hk.2⟩)), (by (with_reducible repeat (first | apply Kd.R_alloc | apply Kd.R_drewN | apply Kd.R_drew)); exact Kd.R_mono HO321.out (fun _ hk => ⟨hk.1.1, hk.2⟩)), (by (with_reducible repeat (first | apply Kd.N_alloc | apply Kd.N_drewN | apply Kd.N_drew)); exact Kd.N_mono HO_29.out (fun _ hk => ⟨hk.1.1.1, ⟨hk.2, ⟨hk.1.2, ⟨hk.1.1.2.2.1, ⟨hk.1.1.2.1, ⟨hk.1.1.2.2.2.1, hk.1.1.2.2.2.2⟩⟩⟩⟩⟩⟩)), (by (with_reducible repeat (first | apply Kd.N_alloc | apply Kd.N_drewN | apply Kd.N_drew)); exact Kd.N_mono HO_46.out (fun _ hk => ⟨hk.1.1.1, ⟨hk.2, ⟨hk.1.2, ⟨hk.1.1.2.2.1, ⟨hk.1.1.2.1, ⟨hk.1.1.2.2.2.1, hk.1.1.2.2.2.2⟩⟩⟩⟩⟩⟩)), (by (with_reducible repeat (first | apply Kd.N_alloc | apply Kd.N_drewN | apply Kd.N_drew)); exact Kd.N_mono HO_5.out (fun _ hk => ⟨hk.1.1.1, ⟨hk.2, ⟨hk.1.2, ⟨hk.1.1.2.1, ⟨hk.1.1.2.2.1, ⟨hk.1.1.2.2.2.1, hk.1.1.2.2.2.2⟩⟩⟩⟩⟩⟩)), (xk BK290.out), (xk BK315.out), (by repeat (first | (with_reducible first | exact HB.out | apply below_alloc | apply pw_below_drewN | apply below_drew1 | refine below_set ?_ GE290.out | refine below_set ?_ GE315.out) | exact HB.out))⟩)
            rintro ⟨v317, v320⟩ w52 ⟨hS_, h0_, h1_, h2_, h3_, h4_, h5_, h6_, h7_, h8_⟩
            have n0_ : Aside0 (Kd.V (Kd.int .i64) 3 w52 w.heap.size (fun k_ => (w.heap.size ≤ k_) ∧ some k_ ≠ (v317 : Value).ownBlock ∧ some k_ ≠ (v320 : Value).ownBlock ∧ some k_ ≠ (.slice (some ad309) t306.length co27 : Value).ownBlock ∧ some k_ ≠ (.slice (some ad314) t311.length co36 : Value).ownBlock ∧ some k_ ≠ (.slice Ao46 x5_3.length co46 : Value).ownBlock ∧ k_ ≠ gb290 ∧ k_ ≠ gb315) (.slice A314_0 ((rd_T48 t311 x48_3).f0).length c314_0) ((rd_T48 t311 x48_3).f0)) := ⟨h0_⟩
            have n1_ : Aside0 (Kd.R (Kd.int .i64) 3 w52 w.heap.size (fun k_ => (w.heap.size ≤ k_) ∧ some k_ ≠ (v320 : Value).ownBlock) v317 t316) := ⟨h1_⟩
            have n2_ : Aside0 (Kd.R (Kd.int .i64) 3 w52 w.heap.size (fun k_ => (w.heap.size ≤ k_) ∧ some k_ ≠ (v317 : Value).ownBlock) v320 y319) := ⟨h2_⟩
            have n3_ : Aside0 (Kd.N (Kd.slice 3 (Kd.int .i64)) 35 w52 w.heap.size (fun k_ => (w.heap.size ≤ k_) ∧ some k_ ≠ (v317 : Value).ownBlock ∧ some k_ ≠ (v320 : Value).ownBlock ∧ some k_ ≠ (.slice (some ad314) t311.length co36 : Value).ownBlock ∧ some k_ ≠ (.slice Ao46 x5_3.length co46 : Value).ownBlock ∧ k_ ≠ gb290 ∧ k_ ≠ gb315) (.slice (some ad309) t306.length co27) t306) := ⟨h3_⟩
            have n4_ : Aside0 (Kd.N k48 48 w52 w.heap.size (fun k_ => (w.heap.size ≤ k_) ∧ some k_ ≠ (v317 : Value).ownBlock ∧ some k_ ≠ (v320 : Value).ownBlock ∧ some k_ ≠ (.slice (some ad309) t306.length co27 : Value).ownBlock ∧ some k_ ≠ (.slice Ao46 x5_3.length co46 : Value).ownBlock ∧ k_ ≠ gb290 ∧ k_ ≠ gb315) (.slice (some ad314) t311.length co36) t311) := ⟨h4_⟩
            have n5_ : Aside0 (Kd.N k48 48 w52 w.heap.size (fun k_ => (w.heap.size ≤ k_) ∧ some k_ ≠ (v317 : Value).ownBlock ∧ some k_ ≠ (v320 : Value).ownBlock ∧ some k_ ≠ (.slice (some ad309) t306.length co27 : Value).ownBlock ∧ some k_ ≠ (.slice (some ad314) t311.length co36 : Value).ownBlock ∧ k_ ≠ gb290 ∧ k_ ≠ gb315) (.slice Ao46 x5_3.length co46) x5_3) := ⟨h5_⟩
            have n6_ : Aside0 (w52.heap[gb290]? = some (.cells #[.slice A0_0 l0_0.length c0_0, .slice A0_1 l0_1.length c0_1] 40 (0, 0))) := ⟨h6_⟩
            have n7_ : Aside0 (w52.heap[gb315]? = some (.cells #[.slice A314_0 ((rd_T48 t311 x48_3).f0).length c314_0, .int .i64 ((rd_T48 t311 x48_3).f1)] 48 (0, 0))) := ⟨h7_⟩
            have n8_ : Aside0 (Below w.heap.size w w52) := ⟨h8_⟩
            clear HO_5 HO_29 HO_46 HL314_0 BK290 BK315 HB h0_ h1_ h2_ h3_ h4_ h5_ h6_ h7_ h8_
            have HL314_0 := n0_
            have HO318 := n1_
            have HO321 := n2_
            have HO_29 := n3_
            have HO_46 := n4_
            have HO_5 := n5_
            have BK290 := n6_
            have BK315 := n7_
            have HB := n8_
            clear n0_ n1_ n2_ n3_ n4_ n5_ n6_ n7_ n8_
            have hHeld : w52.cell? ⟨gb315, 0, none⟩ = some (.slice A314_0 ((rd_T48 t311 x48_3).f0).length c314_0) ∧ w52.cell? ⟨gb315, 1, none⟩ = some (.int .i64 ((rd_T48 t311 x48_3).f1)) := hS_
            obtain ⟨Ao54, co54, eo54⟩ := Kd.R_slice HO321.out
            (first | subst eo54 | (injection eo54 with f1_ f2_ f3_; have f4_ := f1_.symm; have f5_ := f3_.symm; clear f1_ f2_ f3_; subst f4_; subst f5_))
            refine norm_ (a' := ?_) ?_ ?_
            rotate_left
            ·simp only [putAll, Act.put, List.setIfInBounds_toArray, List.set_cons_zero, List.set_cons_succ]
             rfl
            refine one_ (i := 6) (N := some 58) (xB 13 511) rfl rfl (one_of HT_.out (by kernel_rfl)) (by decide) (fun K hK => ?_)
            refine Kd.R_append_rows_step (Kd.int .i64) (w0 := w) w.heap.size (by rfl) (.tmp 55) (.tmp 57) 35 3 (.int .i64 0) 8 rfl Try.underlying35 info3 rfl (by decide) (by omega) v317 t316 y319 _ _ _ (fun k_ => (w.heap.size ≤ k_) ∧ some k_ ≠ (.slice Ao54 y319.length co54 : Value).ownBlock) (fun _ => False) rfl rfl ?aO ?aR (fun _ _ h => h) (fun _ h => h.elim) ?aF ?aB ?aS ?aL ?_
            (case aR => exact xc (Kd.R_reads' HO321.out).2.2)
            (case aB => exact (by repeat (first | (with_reducible first | exact HB.out | apply below_alloc | apply pw_below_drewN | apply below_drew1 | refine below_set ?_ GE290.out | refine below_set ?_ GE315.out) | exact HB.out)))
            (case aF => exact (fun k_ hk => ⟨(Nat.le_trans (below_size (by repeat (first | (with_reducible first | exact HB.out | apply below_alloc | apply pw_below_drewN | apply below_drew1 | refine below_set ?_ GE290.out | refine below_set ?_ GE315.out) | exact HB.out))) hk), Kd.fresh' (Kd.R_lt (xR HO321.out)) k_ hk⟩))
            (case aO => exact (xR HO318.out))
            (case aS => exact (below_size (by repeat (first | (with_reducible first | exact HB.out | apply below_alloc | apply pw_below_drewN | apply below_drew1 | refine below_set ?_ GE290.out | refine below_set ?_ GE315.out) | exact HB.out))))
            (case aL => have := LMc41.out; omega)
            intro v323 w53 ho hb hg hat
            rw [← Ny322.out] at ho
            have n0_ := ax (Kd.N_afterv (ok := (fun k_ => (w.heap.size ≤ k_) ∧ some k_ ≠ (.slice (some ad309) t306.length co27 : Value).ownBlock ∧ some k_ ≠ (.slice (some ad314) t311.length co36 : Value).ownBlock ∧ some k_ ≠ (.slice Ao54 y319.length co54 : Value).ownBlock ∧ k_ ≠ gb290 ∧ k_ ≠ gb315)) (by (with_reducible repeat (first | apply Kd.N_alloc | apply Kd.N_drewN | apply Kd.N_drew)); exact Kd.N_mono HO_5.out (fun _ hk => ⟨⟨hk.1, ⟨hk.2.2.2.1, ⟨hk.2.2.2.2.1, ⟨hk.2.2.1, ⟨hk.2.2.2.2.2.1, hk.2.2.2.2.2.2⟩⟩⟩⟩⟩, hk.2.1⟩)) hg hat)
            have n1_ := ax (Kd.N_afterv (ok := (fun k_ => (w.heap.size ≤ k_) ∧ some k_ ≠ (.slice Ao46 x5_3.length co46 : Value).ownBlock ∧ some k_ ≠ (.slice (some ad314) t311.length co36 : Value).ownBlock ∧ some k_ ≠ (.slice Ao54 y319.length co54 : Value).ownBlock ∧ k_ ≠ gb290 ∧ k_ ≠ gb315)) (by (with_reducible repeat (first | apply Kd.N_alloc | apply Kd.N_drewN | apply Kd.N_drew)); exact Kd.N_mono HO_29.out (fun _ hk => ⟨⟨hk.1, ⟨hk.2.2.2.2.1, ⟨hk.2.2.2.1, ⟨hk.2.2.1, ⟨hk.2.2.2.2.2.1, hk.2.2.2.2.2.2⟩⟩⟩⟩⟩, hk.2.1⟩)) hg hat)
            have n2_ := ax (Kd.N_afterv (ok := (fun k_ => (w.heap.size ≤ k_) ∧ some k_ ≠ (.slice Ao46 x5_3.length co46 : Value).ownBlock ∧ some k_ ≠ (.slice (some ad309) t306.length co27 : Value).ownBlock ∧ some k_ ≠ (.slice Ao54 y319.length co54 : Value).ownBlock ∧ k_ ≠ gb290 ∧ k_ ≠ gb315)) (by (with_reducible repeat (first | apply Kd.N_alloc | apply Kd.N_drewN | apply Kd.N_drew)); exact Kd.N_mono HO_46.out (fun _ hk => ⟨⟨hk.1, ⟨hk.2.2.2.2.1, ⟨hk.2.2.2.1, ⟨hk.2.2.1, ⟨hk.2.2.2.2.2.1, hk.2.2.2.2.2.2⟩⟩⟩⟩⟩, hk.2.1⟩)) hg hat)
            have n3_ := ax (blk_grown (g := gb290) (o := .cells #[.slice A0_0 l0_0.length c0_0, .slice A0_1 l0_1.length c0_1] 40 (0, 0)) (xk BK290.out) hg (Kd.R_ne HO318.out BK290.out (by decide)))
            have n4_ := ax (Kd.V_afterv (ok := (fun k_ => (w.heap.size ≤ k_) ∧ some k_ ≠ (.slice Ao46 x5_3.length co46 : Value).ownBlock ∧ some k_ ≠ (.slice (some ad309) t306.length co27 : Value).ownBlock ∧ some k_ ≠ (.slice (some ad314) t311.length co36 : Value).ownBlock ∧ some k_ ≠ (.slice Ao54 y319.length co54 : Value).ownBlock ∧ k_ ≠ gb290 ∧ k_ ≠ gb315)) (by (with_reducible repeat (first | apply Kd.V_alloc | apply Kd.V_drewN | apply Kd.V_drew)); exact Kd.V_mono HL314_0.out (fun _ hk => ⟨⟨hk.1, ⟨hk.2.2.2.2.2.1, ⟨hk.2.2.2.1, ⟨hk.2.2.2.2.1, ⟨hk.2.2.1, ⟨hk.2.2.2.2.2.2.1, hk.2.2.2.2.2.2.2⟩⟩⟩⟩⟩⟩, hk.2.1⟩)) hg hat)
            have n5_ := ax (blk_grown (g := gb315) (o := .cells #[.slice A314_0 ((rd_T48 t311 x48_3).f0).length c314_0, .int .i64 ((rd_T48 t311 x48_3).f1)] 48 (0, 0)) (xk BK315.out) hg (Kd.R_ne HO318.out BK315.out (by decide)))
            have n6_ := ax (Kd.R_after (ok := (fun k_ => (w.heap.size ≤ k_))) (xR HO321.out) hg hat)
            have n7_ := ax (hb)
            have n8_ := ax (ho)
            clear HO_5 HO_29 HO_46 BK290 HL314_0 BK315 HO321 HB HO318
            have HO_5 := n0_
            have HO_29 := n1_
            have HO_46 := n2_
            have BK290 := n3_
            have HL314_0 := n4_
            have BK315 := n5_
            have HO321 := n6_
            have HB := n7_
            have HO324 := n8_
            clear n0_ n1_ n2_ n3_ n4_ n5_ n6_ n7_ n8_ ho hb hg hat
            obtain ⟨Ao55, co55, eo55⟩ := Kd.R_slice HO324.out
            (first | subst eo55 | (injection eo55 with f1_ f2_ f3_; have f4_ := f1_.symm; have f5_ := f3_.symm; clear f1_ f2_ f3_; subst f4_; subst f5_))
            refine hK.out _ _ ⟨(blk_cell BK315.out 0).trans rfl, (blk_cell BK315.out 1).trans rfl⟩ (fun hHeld => ?_)
            clear hK K
            refine nm ?_
            refine pu (i := 9) (N := some 61) (xB 13 1023) HT_.out ?_
            refine one_ (i := 10) (N := some 62) (xB 13 2047) rfl rfl (one_of HT_.out (by kernel_rfl)) (by decide) (fun K hK => ?_)
            refine Kd.N_lit_step k48 _ 48 ?hg (N' := 62) ?hd (xs := ([(⟨y322, (rd_T48 t311 x48_3).f1⟩ : S48)] : List (S48))) (inner := [.slice Ao55 y322.length co55, .int .i64 ((rd_T48 t311 x48_3).f1)]) (ok := (fun k_ => (w.heap.size ≤ k_) ∧ some k_ ≠ (.slice Ao46 x5_3.length co46 : Value).ownBlock ∧ some k_ ≠ (.slice (some ad309) t306.length co27 : Value).ownBlock ∧ some k_ ≠ (.slice (some ad314) t311.length co36 : Value).ownBlock ∧ some k_ ≠ (.slice Ao54 y319.length co54 : Value).ownBlock ∧ k_ ≠ gb290 ∧ k_ ≠ gb315)) (okp := (fun k_ => (w.heap.size ≤ k_) ∧ some k_ ≠ (.slice Ao46 x5_3.length co46 : Value).ownBlock ∧ some k_ ≠ (.slice (some ad309) t306.length co27 : Value).ownBlock ∧ some k_ ≠ (.slice (some ad314) t311.length co36 : Value).ownBlock ∧ some k_ ≠ (.slice Ao54 y319.length co54 : Value).ownBlock ∧ k_ ≠ gb290 ∧ k_ ≠ gb315)) ?hr ?hp (fun _ hk => hk) ((show ∀ k_, w53.heap.size ≤ k_ → (fun k_ => (w.heap.size ≤ k_) ∧ some k_ ≠ (.slice Ao46 x5_3.length co46 : Value).ownBlock ∧ some k_ ≠ (.slice (some ad309) t306.length co27 : Value).ownBlock ∧ some k_ ≠ (.slice (some ad314) t311.length co36 : Value).ownBlock ∧ some k_ ≠ (.slice Ao54 y319.length co54 : Value).ownBlock ∧ k_ ≠ gb290 ∧ k_ ≠ gb315) k_ from fun k_ hk => ⟨(Nat.le_trans (below_size (by repeat (first | (with_reducible first | exact HB.out | apply below_alloc | apply pw_below_drewN | apply below_drew1 | refine below_set ?_ GE290.out | refine below_set ?_ GE315.out) | exact HB.out))) hk), Kd.fresh' (Kd.N_lt (xN HO_5.out)) k_ hk, Kd.fresh' (Kd.N_lt (xN HO_29.out)) k_ hk, Kd.fresh' (Kd.N_lt (xN HO_46.out)) k_ hk, Kd.fresh' (Kd.R_lt (xR HO321.out)) k_ hk, Kd.freshB (g := gb290) (o := .cells #[.slice A0_0 l0_0.length c0_0, .slice A0_1 l0_1.length c0_1] 40 (0, 0)) (xk BK290.out) k_ hk, Kd.freshB (g := gb315) (o := .cells #[.slice A314_0 ((rd_T48 t311 x48_3).f0).length c314_0, .int .i64 ((rd_T48 t311 x48_3).f1)] 48 (0, 0)) (xk BK315.out) k_ hk⟩) _ (Nat.le_refl _)) (Below.refl _ _) (Nat.le_refl _) (by simp) ?_; (case hd => rfl); (case hg => rfl); (case hr => first | (go_simp; done) | (go_simp; rfl)); (case hp => exact (Reps.c2 (show Kd.FK k48 _ _ (⟨y322, (rd_T48 t311 x48_3).f1⟩ : S48) [.slice Ao55 y322.length co55, .int .i64 ((rd_T48 t311 x48_3).f1)] from (k48_mkF _ _ (⟨y322, (rd_T48 t311 x48_3).f1⟩ : S48) (Kd.R_reads' (Kd.R_mono (ok' := (fun k_ => (w.heap.size ≤ k_) ∧ some k_ ≠ (.slice Ao46 x5_3.length co46 : Value).ownBlock ∧ some k_ ≠ (.slice (some ad309) t306.length co27 : Value).ownBlock ∧ some k_ ≠ (.slice (some ad314) t311.length co36 : Value).ownBlock ∧ some k_ ≠ (.slice Ao54 y319.length co54 : Value).ownBlock ∧ k_ ≠ gb290 ∧ k_ ≠ gb315)) (Kd.R_types (Kd.R_types (Kd.R_apart' (Kd.R_apart' (Kd.R_apart' (HO324.out) (Kd.N_typed HO_5.out) (by decide)) (Kd.N_typed HO_29.out) (by decide)) (Kd.N_typed HO_46.out) (by decide)) BK290.out (by decide)) BK315.out (by decide)) (fun k_ hk => ⟨hk.1.1.1.1.1.1, ⟨hk.1.1.1.1.2, ⟨hk.1.1.1.2, ⟨hk.1.1.2, ⟨hk.1.1.1.1.1.2, ⟨hk.1.2, hk.2⟩⟩⟩⟩⟩⟩))).2.1 (Kd.R_F (Kd.R_mono (ok' := (fun k_ => (w.heap.size ≤ k_) ∧ some k_ ≠ (.slice Ao46 x5_3.length co46 : Value).ownBlock ∧ some k_ ≠ (.slice (some ad309) t306.length co27 : Value).ownBlock ∧ some k_ ≠ (.slice (some ad314) t311.length co36 : Value).ownBlock ∧ some k_ ≠ (.slice Ao54 y319.length co54 : Value).ownBlock ∧ k_ ≠ gb290 ∧ k_ ≠ gb315)) (Kd.R_types (Kd.R_types (Kd.R_apart' (Kd.R_apart' (Kd.R_apart' (HO324.out) (Kd.N_typed HO_5.out) (by decide)) (Kd.N_typed HO_29.out) (by decide)) (Kd.N_typed HO_46.out) (by decide)) BK290.out (by decide)) BK315.out (by decide)) (fun k_ hk => ⟨hk.1.1.1.1.1.1, ⟨hk.1.1.1.1.2, ⟨hk.1.1.1.2, ⟨hk.1.1.2, ⟨hk.1.1.1.1.1.2, ⟨hk.1.2, hk.2⟩⟩⟩⟩⟩⟩))))) (Reps.none _ _)))
            intro v326 w56 ho57 hb hg_ hnew_
            clear hg_ hnew_
            (first | rw [← Ny325.out] at ho57 | (simp only [Int.reduceToNat] at ho57; rw [← Ny325.out] at ho57))
            have n0_ := ax (Kd.N_elder' (xN HO_5.out) (by first | exact Kd.N_base ho57 | exact Kd.S_base ho57 | exact Kd.R_base ho57) hb)
            have n1_ := ax (Kd.N_elder' (xN HO_29.out) (by first | exact Kd.N_base ho57 | exact Kd.S_base ho57 | exact Kd.R_base ho57) hb)
            have n2_ := ax (Kd.N_elder' (xN HO_46.out) (by first | exact Kd.N_base ho57 | exact Kd.S_base ho57 | exact Kd.R_base ho57) hb)
            have n3_ := ax (Kd.V_elder' (xV HL314_0.out) (by first | exact Kd.N_base ho57 | exact Kd.S_base ho57 | exact Kd.R_base ho57) hb)
            have n4_ := ax (Kd.R_below (xR HO321.out) hb)
            have n5_ := ax (Kd.N_lower ho57 (below_size (by repeat (first | (with_reducible first | exact HB.out | apply below_alloc | apply pw_below_drewN | apply below_drew1 | refine below_set ?_ GE290.out | refine below_set ?_ GE315.out) | exact HB.out))))
            have n6_ := ax (blk_below (g := gb290) (o := .cells #[.slice A0_0 l0_0.length c0_0, .slice A0_1 l0_1.length c0_1] 40 (0, 0)) (xk BK290.out) hb)
            have n7_ := ax (blk_below (g := gb315) (o := .cells #[.slice A314_0 ((rd_T48 t311 x48_3).f0).length c314_0, .int .i64 ((rd_T48 t311 x48_3).f1)] 48 (0, 0)) (xk BK315.out) hb)
            have n8_ := ax (below_step (by repeat (first | (with_reducible first | exact HB.out | apply below_alloc | apply pw_below_drewN | apply below_drew1 | refine below_set ?_ GE290.out | refine below_set ?_ GE315.out) | exact HB.out)) hb)
            clear HO_5 HO_29 HO_46 HL314_0 HO321 BK290 BK315 HB HO324
            have HO_5 := n0_
            have HO_29 := n1_
            have HO_46 := n2_
            have HL314_0 := n3_
            have HO321 := n4_
            have HO327 := n5_
            have BK290 := n6_
            have BK315 := n7_
            have HB := n8_
            clear n0_ n1_ n2_ n3_ n4_ n5_ n6_ n7_ n8_ hb ho57
            obtain ⟨Ao59, co59, eo59⟩ := Kd.N_slice HO327.out
            (first | subst eo59 | (injection eo59 with f1_ f2_ f3_; have f4_ := f1_.symm; have f5_ := f3_.symm; clear f1_ f2_ f3_; subst f4_; subst f5_))
            refine hK.out _ _ ⟨(blk_cell BK315.out 0).trans rfl, (blk_cell BK315.out 1).trans rfl⟩ (fun hHeld => ?_)
            clear hK K
            refine nm ?_
            refine one_ (i := 11) (N := some 63) (xB 13 4095) rfl rfl (one_of HT_.out (by kernel_rfl)) (by decide) (fun K hK => ?_)
            refine Kd.N_append_rows_step k48 (w0 := w) w.heap.size (by rfl) (.tmp 52) (.tmp 62) 26 48 (.agg #[(.slice none 0 0), (.int .i64 0)]) 32 rfl Try.underlying26 info48 rfl (by decide) (by omega) (.slice Ao46 x5_3.length co46) x5_3 y325 _ _ _ (fun k_ => (w.heap.size ≤ k_) ∧ some k_ ≠ (.slice (some ad309) t306.length co27 : Value).ownBlock ∧ some k_ ≠ (.slice (some ad314) t311.length co36 : Value).ownBlock ∧ some k_ ≠ (.slice Ao54 y319.length co54 : Value).ownBlock ∧ k_ ≠ gb290 ∧ k_ ≠ gb315) (fun k_ => ((fun k_ => (w.heap.size ≤ k_) ∧ some k_ ≠ (.slice (some ad309) t306.length co27 : Value).ownBlock ∧ some k_ ≠ (.slice (some ad314) t311.length co36 : Value).ownBlock ∧ some k_ ≠ (.slice Ao54 y319.length co54 : Value).ownBlock ∧ k_ ≠ gb290 ∧ k_ ≠ gb315)) k_ ∧ some k_ ≠ (.slice Ao46 x5_3.length co46 : Value).ownBlock) rfl rfl ?aO ?aR (fun _ hk => hk) ?aF ?aB ?aS ?aL ?_
            (case aR => exact (by skip; exact Kd.N_F (Kd.N_mono (ok' := (fun k_ => ((fun k_ => (w.heap.size ≤ k_) ∧ some k_ ≠ (.slice (some ad309) t306.length co27 : Value).ownBlock ∧ some k_ ≠ (.slice (some ad314) t311.length co36 : Value).ownBlock ∧ some k_ ≠ (.slice Ao54 y319.length co54 : Value).ownBlock ∧ k_ ≠ gb290 ∧ k_ ≠ gb315)) k_ ∧ some k_ ≠ (.slice Ao46 x5_3.length co46 : Value).ownBlock)) (HO327.out) (fun k_ hk => ⟨⟨hk.1, ⟨hk.2.2.1, ⟨hk.2.2.2.1, ⟨hk.2.2.2.2.1, ⟨hk.2.2.2.2.2.1, hk.2.2.2.2.2.2⟩⟩⟩⟩⟩, hk.2.1⟩))))
            (case aB => exact (by repeat (first | (with_reducible first | exact HB.out | apply below_alloc | apply pw_below_drewN | apply below_drew1 | refine below_set ?_ GE290.out | refine below_set ?_ GE315.out) | exact HB.out)))
            (case aF => exact (fun k_ hk => ⟨(Nat.le_trans (below_size (by repeat (first | (with_reducible first | exact HB.out | apply below_alloc | apply pw_below_drewN | apply below_drew1 | refine below_set ?_ GE290.out | refine below_set ?_ GE315.out) | exact HB.out))) hk), Kd.fresh' (Kd.N_lt (xN HO_29.out)) k_ hk, Kd.fresh' (Kd.N_lt (xN HO_46.out)) k_ hk, Kd.fresh' (Kd.R_lt (xR HO321.out)) k_ hk, Kd.freshB (g := gb290) (o := .cells #[.slice A0_0 l0_0.length c0_0, .slice A0_1 l0_1.length c0_1] 40 (0, 0)) (xk BK290.out) k_ hk, Kd.freshB (g := gb315) (o := .cells #[.slice A314_0 ((rd_T48 t311 x48_3).f0).length c314_0, .int .i64 ((rd_T48 t311 x48_3).f1)] 48 (0, 0)) (xk BK315.out) k_ hk⟩))
            (case aO => exact (by (with_reducible repeat (first | apply Kd.N_alloc | apply Kd.N_drewN | apply Kd.N_drew)); exact Kd.N_mono HO_5.out (fun _ hk => ⟨hk.1.1.1, ⟨hk.1.1.2.1, ⟨hk.1.1.2.2.1, ⟨hk.1.1.2.2.2.1, ⟨hk.1.1.2.2.2.2.1, hk.1.1.2.2.2.2.2⟩⟩⟩⟩⟩)))
            (case aS => exact (below_size (by repeat (first | (with_reducible first | exact HB.out | apply below_alloc | apply pw_below_drewN | apply below_drew1 | refine below_set ?_ GE290.out | refine below_set ?_ GE315.out) | exact HB.out))))
            (case aL => have := LMc42.out; omega)
            intro v329 w58 ho hb hg hat
            rw [← Ny328.out] at ho
            have n0_ := ax (Kd.N_afterv (ok := (fun k_ => (w.heap.size ≤ k_) ∧ some k_ ≠ (.slice (some ad314) t311.length co36 : Value).ownBlock ∧ some k_ ≠ (.slice Ao54 y319.length co54 : Value).ownBlock ∧ some k_ ≠ (.slice Ao59 y325.length co59 : Value).ownBlock ∧ k_ ≠ gb290 ∧ k_ ≠ gb315)) (by (with_reducible repeat (first | apply Kd.N_alloc | apply Kd.N_drewN | apply Kd.N_drew)); exact Kd.N_mono HO_29.out (fun _ hk => ⟨⟨hk.1.1.1, ⟨hk.1.1.2.2.1, ⟨hk.1.1.2.2.2.1, ⟨hk.2, ⟨hk.1.1.2.2.2.2.1, hk.1.1.2.2.2.2.2⟩⟩⟩⟩⟩, hk.1.1.2.1⟩)) hg hat)
            have n1_ := ax (Kd.N_afterv (ok := (fun k_ => (w.heap.size ≤ k_) ∧ some k_ ≠ (.slice (some ad309) t306.length co27 : Value).ownBlock ∧ some k_ ≠ (.slice Ao54 y319.length co54 : Value).ownBlock ∧ some k_ ≠ (.slice Ao59 y325.length co59 : Value).ownBlock ∧ k_ ≠ gb290 ∧ k_ ≠ gb315)) (by (with_reducible repeat (first | apply Kd.N_alloc | apply Kd.N_drewN | apply Kd.N_drew)); exact Kd.N_mono HO_46.out (fun _ hk => ⟨⟨hk.1.1.1, ⟨hk.1.1.2.2.1, ⟨hk.1.1.2.2.2.1, ⟨hk.2, ⟨hk.1.1.2.2.2.2.1, hk.1.1.2.2.2.2.2⟩⟩⟩⟩⟩, hk.1.1.2.1⟩)) hg hat)
            have n2_ := ax (blk_grown (g := gb290) (o := .cells #[.slice A0_0 l0_0.length c0_0, .slice A0_1 l0_1.length c0_1] 40 (0, 0)) (xk BK290.out) hg (Kd.N_ne HO_5.out BK290.out (by decide)))
            have n3_ := ax (Kd.V_afterv (ok := (fun k_ => (w.heap.size ≤ k_) ∧ some k_ ≠ (.slice (some ad309) t306.length co27 : Value).ownBlock ∧ some k_ ≠ (.slice (some ad314) t311.length co36 : Value).ownBlock ∧ some k_ ≠ (.slice Ao54 y319.length co54 : Value).ownBlock ∧ some k_ ≠ (.slice Ao59 y325.length co59 : Value).ownBlock ∧ k_ ≠ gb290 ∧ k_ ≠ gb315)) (by (with_reducible repeat (first | apply Kd.V_alloc | apply Kd.V_drewN | apply Kd.V_drew)); exact Kd.V_mono HL314_0.out (fun _ hk => ⟨⟨hk.1.1.1, ⟨hk.1.1.2.2.1, ⟨hk.1.1.2.2.2.1, ⟨hk.1.1.2.2.2.2.1, ⟨hk.2, ⟨hk.1.1.2.2.2.2.2.1, hk.1.1.2.2.2.2.2.2⟩⟩⟩⟩⟩⟩, hk.1.1.2.1⟩)) hg hat)
            have n4_ := ax (blk_grown (g := gb315) (o := .cells #[.slice A314_0 ((rd_T48 t311 x48_3).f0).length c314_0, .int .i64 ((rd_T48 t311 x48_3).f1)] 48 (0, 0)) (xk BK315.out) hg (Kd.N_away HO_5.out (fun _ hk => hk.1.1.2.2.2.2.2)))
            have n5_ := ax (Kd.R_over' (xR HO321.out) (Kd.N_typed (xN HO_5.out)) (by decide) hg)
            have n6_ := ax (Kd.N_afterv (ok := (fun k_ => (w.heap.size ≤ k_) ∧ some k_ ≠ (.slice (some ad309) t306.length co27 : Value).ownBlock ∧ some k_ ≠ (.slice (some ad314) t311.length co36 : Value).ownBlock ∧ some k_ ≠ (.slice Ao54 y319.length co54 : Value).ownBlock ∧ k_ ≠ gb290 ∧ k_ ≠ gb315)) (by (with_reducible repeat (first | apply Kd.N_alloc | apply Kd.N_drewN | apply Kd.N_drew)); exact Kd.N_mono HO327.out (fun _ hk => ⟨⟨hk.1, ⟨hk.2.2.1, ⟨hk.2.2.2.1, ⟨hk.2.2.2.2.1, ⟨hk.2.2.2.2.2.1, hk.2.2.2.2.2.2⟩⟩⟩⟩⟩, hk.2.1⟩)) hg hat)
            have n7_ := ax (hb)
            have n8_ := ax (ho)
            clear HO_29 HO_46 BK290 HL314_0 BK315 HO321 HO327 HB HO_5
            have HO_29 := n0_
            have HO_46 := n1_
            have BK290 := n2_
            have HL314_0 := n3_
            have BK315 := n4_
            have HO321 := n5_
            have HO327 := n6_
            have HB := n7_
            have HO330 := n8_
            clear n0_ n1_ n2_ n3_ n4_ n5_ n6_ n7_ n8_ ho hb hg hat
            refine hK.out _ _ ⟨(blk_cell BK315.out 0).trans rfl, (blk_cell BK315.out 1).trans rfl⟩ (fun hHeld => ?_)
            clear hK K
            refine nm ?_
            refine pu (i := 12) (N := some 5) (xB 13 8191) HT_.out ?_
            refine done_ (done_of HT_.out (by kernel_rfl)) ?_
            try go_wp2
            go_roundg k3
            case measure => have := HK1.out; have := HK2.out; have := HK3.out; omega
            case rel => exact ⟨(y328), (wrap64 (x48_3 + 1)), xr, H', ⟨by have := HK1.out; have := HK2.out; have := HK3.out; omega⟩, ⟨by (with_reducible repeat (first | apply Kd.N_alloc | apply Kd.N_drewN | apply Kd.N_drew)); exact Kd.N_mono HO330.out (fun _ hk => ⟨hk.1, ⟨hk.2.1, ⟨hk.2.2.1, hk.2.2.2.2.1⟩⟩⟩)⟩, ⟨by (with_reducible repeat (first | apply Kd.N_alloc | apply Kd.N_drewN | apply Kd.N_drew)); exact Kd.N_mono HO_29.out (fun _ hk => ⟨hk.1.1, ⟨hk.2, ⟨hk.1.2.1, hk.1.2.2.2.2.1⟩⟩⟩)⟩, ⟨by (with_reducible repeat (first | apply Kd.N_alloc | apply Kd.N_drewN | apply Kd.N_drew)); exact Kd.N_mono HO_46.out (fun _ hk => ⟨hk.1.1, ⟨hk.2, ⟨hk.1.2.1, hk.1.2.2.2.2.1⟩⟩⟩)⟩, ⟨xk BK290.out⟩, ⟨by repeat (first | (with_reducible first | exact HB.out | apply below_alloc | apply pw_below_drewN | apply below_drew1 | refine below_set ?_ GE290.out | refine below_set ?_ GE315.out) | exact HB.out)⟩⟩
           ·rw [if_neg c37] at H
            have c37b0 := decide_eq_false c37
            clear c37
            have H' := ax H
            clear H
            go_wp2
            go_roundg k3
            case measure => have := HK1.out; have := HK2.out; have := HK3.out; omega
            case rel => exact ⟨(x5_3), (wrap64 (x31_2 + 1)), xr, H', ⟨by have := HK1.out; have := HK2.out; have := HK3.out; omega⟩, ⟨by (with_reducible repeat (first | apply Kd.N_alloc | apply Kd.N_drewN | apply Kd.N_drew)); exact Kd.N_mono HO_5.out (fun _ hk => ⟨hk.1, ⟨hk.2.1, hk.2.2.2⟩⟩)⟩, ⟨by (with_reducible repeat (first | apply Kd.N_alloc | apply Kd.N_drewN | apply Kd.N_drew)); exact Kd.N_mono HO_29.out (fun _ hk => ⟨hk.1, ⟨hk.2.1, hk.2.2.2⟩⟩)⟩, ⟨xk BK290.out⟩, ⟨xs HB.out GE290.out⟩⟩
        ·replace c32 := Bool.eq_false_iff.mpr c32
         subst c32
         rw [if_neg (show ¬ (false = true) by decide)] at H
         have H' := ax H
         clear H
         have p309 : 0 ≤ (x31_2 : Int) := xd
         have q309 : x31_2 < (t306.length : Int) := xd
         obtain ⟨ad309, A309_0, c309_0, e309, hx309_0, hl309_0, hi309_0⟩ := at_L1 (Kd.N_reads' HO_29.out).2.2 x31_2 p309 q309
         cases e309
         obtain ⟨ce309, hce309, hMe309, hcc309⟩ := Kd.N_get HO_29.out [] x31_2 p309 (by first | exact q309 | exact xd | (have e_ := (Kd.N_reads' HO_29.out).1; omega))
         obtain ⟨ua309_0, uc309_0, rfl, ul309_0, ge309_0⟩ := Kd.FK_slice_open hMe309
         have hv309_0 := hcc309 0 _ rfl
         rw [Nat.add_zero, show ((Kd.slice 3 (Kd.int .i64))).sz = 1 from rfl, Nat.mul_one] at hv309_0
         replace hv309_0 := Option.some.inj (hv309_0.symm.trans hx309_0)
         injection hv309_0 with hva_ hvn_ hvc_
         rw [hva_] at ge309_0
         rw [hvc_] at ul309_0
         have HL309_0 := ax (show Kd.V (Kd.int .i64) 3 _ w.heap.size _ _ (rd_L1 t306 x31_2) from Kd.V_mk ul309_0 ge309_0)
         clear hva_ hvn_ hvc_ ge309_0 ul309_0 hcc309 hce309
         have HR309_0 := ax hi309_0
         have HC309_0 := ax hl309_0
         clear hi309_0 hl309_0
         replace p309 := eq_true p309
         replace q309 := eq_true q309
         have hcz60_0 : wr.cell? ⟨gb290, 0, none⟩ = some (.slice A0_0 l0_0.length c0_0) := (blk_cell BK290.out 0).trans rfl
         have hcz60_1 : wr.cell? ⟨gb290, 1, none⟩ = some (.slice A0_1 l0_1.length c0_1) := (blk_cell BK290.out 1).trans rfl
         have hfz60_0 := blk_frozen BK290.out 0
         have hfz60_1 := blk_frozen BK290.out 1
         go_wp2_with (first | ((with_reducible refine gate_callee (f := 71) rfl ?_); refine goesL_ (some 38) rfl rfl Try.func71 (by kernel_rfl) rfl #[.slice A0_1 l0_1.length c0_1, .slice A309_0 (rd_L1 t306 x31_2).length c309_0] rfl xm ?_; (with_reducible refine (impl_IsInside.calls k2 _ _ l0_1 _ _ (rd_L1 t306 x31_2) false _ ?side1 ?side2 ?side3 ?side4 A31.out).mono ?_); (case side1 => exact xz HR0_1.out HB.out); (case side2 => exact HC0_1.out); (case side3 => exact xw HR309_0.out); (case side4 => exact HC309_0.out); rintro e w' ⟨rfl, ⟨nd, rfl⟩⟩; refine ⟨_, rfl, ?_⟩))
         go_roundg k2
         case measure => have := HK1.out; have := HK2.out; omega
         case rel => exact ⟨(x5_2), (wrap64 (x31_2 + 1)), xr, H', ⟨by have := HK1.out; have := HK2.out; omega⟩, ⟨xN HO_5.out⟩, ⟨xN HO_29.out⟩, ⟨xk BK290.out⟩, ⟨xs HB.out GE290.out⟩⟩
       ·rw [if_neg c28] at H
        have c28b0 := decide_eq_false c28
        clear c28
        have H' := ax H
        clear H
        go_wp2
        go_roundg k2
        case measure => have := HK1.out; have := HK2.out; omega
        case rel => exact ⟨(x5_2), (wrap64 (x23_1 + 1)), xr, H', ⟨by have := HK1.out; have := HK2.out; omega⟩, ⟨by (with_reducible repeat (first | apply Kd.N_alloc | apply Kd.N_drewN | apply Kd.N_drew)); exact Kd.N_mono HO_5.out (fun _ hk => ⟨hk.1, hk.2.2⟩)⟩, ⟨xk BK290.out⟩, ⟨xs HB.out GE290.out⟩⟩
    ·rw [if_neg c23] at H
     have c23b0 := decide_eq_false c23
     clear c23
     obtain ⟨⟨t302, t303⟩, A61, H⟩ := xI H
     dsimp only at H
     obtain rfl := Option.some.inj H
     obtain ⟨Ao62, co62, eo62⟩ := Kd.N_slice HO_5.out
     subst eo62
     go_wp2_with (first | ((with_reducible refine gate_callee (f := 32) rfl ?_); refine goesL_ (some 69) rfl rfl Try.func32 (by kernel_rfl) rfl #[.int .i64 a1, .slice Ao62 x5_1.length co62] rfl xm ?_; (with_reducible refine (impl_ordered.calls k1 a1 (fun k_ => ((w.heap.size ≤ k_) ∧ k_ ≠ gb290)) _ _ x5_1 t302 t303 _ ?side1 A61.out).mono ?_); (case side1 => exact Kd.N_V (HO_5.out)); rintro e w63 ⟨v304, rfl, ho0, hb⟩; refine ⟨_, rfl, ?_⟩; replace HO_5 := ax (Kd.N_elder' (xN HO_5.out) (by first | exact Kd.N_base ho0 | exact Kd.S_base ho0 | exact Kd.R_base ho0) hb); have HO305 := ax (Kd.N_lower (Kd.N_mono (ok' := fun k_ => (w.heap.size ≤ k_) ∧ k_ ≠ gb290) ho0 (fun k_ hk_ => ⟨Or.elim hk_ (fun hs_ => hs_.1) (fun hn_ => (Nat.le_trans (below_size (xs HB.out GE290.out)) hn_)), Or.elim hk_ (fun hs_ => hs_.2) (fun hn_ => (Kd.freshB (g := gb290) (o := .cells #[.slice A0_0 l0_0.length c0_0, .slice A0_1 l0_1.length c0_1] 40 (0, 0)) (xk BK290.out) k_ hn_))⟩)) (below_size (xs HB.out GE290.out))); replace BK290 := ax (blk_below (g := gb290) (o := .cells #[.slice A0_0 l0_0.length c0_0, .slice A0_1 l0_1.length c0_1] 40 (0, 0)) (xk BK290.out) hb); replace HB := ax (below_step (xs HB.out GE290.out) hb); (try clear hb); (try clear ho0); obtain ⟨Aoq_, coq_, eoq_⟩ := Kd.N_slice HO305.out; subst eoq_))
     go_ret
     exact ⟨_, xe, by (with_reducible repeat (first | apply Kd.N_alloc | apply Kd.N_drewN | apply Kd.N_drew)); exact Kd.N_mono HO305.out (fun _ hk => hk.1), xs HB.out GE290.out⟩

end Go.Proofs.Ytneipehcmmigeaa.PFnExactCountTableaux
