import Derived.Test.YtneipehcmmigeaaPFnExactSchurPolyx13
import Derived.Test.YtneipehcmmigeaaPFnExactSchurPolyx15
namespace Go.Proofs.Ytneipehcmmigeaa.PFnExactSchurPoly
open Go.RowKit Go.Proofs.YtneipehcmmigeaaW.PrintWords Go.Proofs.YtneipehcmmigeaaW.PrintLast Go.Proofs.YtneipehcmmigeaaW.PrintMore
set_option linter.unusedVariables false
set_option linter.unusedSimpArgs false
set_option maxHeartbeats 8000000
set_option maxRecDepth 100000
/-! ### zar: function 43 -/
mutual
def zar.l0 : Nat → Int → List (S48) → Int → Int → List Int → List Int → Option ((List (S48)))
 | 0, _, _, _, _, _, _ => none
 | k + 1, x1, x5, x22, x23, x1001, x1000 => if x23 < x22 then ((zbe.f k x1001 x23).bind fun t370 => (zar.l1 k x1 x5 x23 x22 x23 t370 (t370.length : Int) 0 x1001 x1000)) else ((zav.f k x1 x5).bind fun bt366 => (some bt366.2))
def zar.l1 : Nat → Int → List (S48) → Int → Int → Int → List (List Int) → Int → Int → List Int → List Int → Option ((List (S48)))
 | 0, _, _, _, _, _, _, _, _, _, _ => none
 | k + 1, x1, x5, x6, x22, x23, x29, x30, x31, x1001, x1000 => if x31 < x30 then (if 0 ≤ x31 then (if x31 < (x29.length : Int) then ((zaJ.f k x1000 (zbX x29 x31)).bind fun t374 => (if t374 = true then ((zar.f k (zbX x29 x31) x1000 (wrap64 (x1 - 1))).bind fun t375 => (zar.l2 k x1 x5 x6 x22 x23 x29 x30 x31 t375 (t375.length : Int) 0 x1001 x1000)) else (zar.l1 k x1 x5 x6 x22 x23 x29 x30 (wrap64 (x31 + 1)) x1001 x1000))) else (none)) else (none)) else (zar.l0 k x1 x5 x22 (wrap64 (x23 + 1)) x1001 x1000)
def zar.l2 : Nat → Int → List (S48) → Int → Int → Int → List (List Int) → Int → Int → List (S48) → Int → Int → List Int → List Int → Option ((List (S48)))
 | 0, _, _, _, _, _, _, _, _, _, _, _, _, _ => none
 | k + 1, x1, x5, x6, x22, x23, x29, x30, x31, x46, x47, x48, x1001, x1000 => if x48 < x47 then (if 0 ≤ x48 then (if x48 < (x46.length : Int) then ((za6.f ((zac x46 x48).f0)).bind fun t380 => ((some (([x6] : List Int) : List Int)).bind fun y383 => (if t380.length + y383.length < 17592186044416 then ((some (([(⟨(t380 ++ y383), (zac x46 x48).f1⟩ : S48)] : List (S48)) : List (S48))).bind fun y389 => (if x5.length + y389.length < 4398046511104 then (zar.l2 k x1 (x5 ++ y389) x6 x22 x23 x29 x30 x31 x46 x47 (wrap64 (x48 + 1)) x1001 x1000) else (none))) else (none)))) else (none)) else (none)) else (zar.l1 k x1 x5 x6 x22 x23 x29 x30 (wrap64 (x31 + 1)) x1001 x1000)
def zar.f : Nat → List Int → List Int → Int → Option ((List (S48)))
 | 0, _, _, _ => none
 | k + 1, l0_0, l0_1, a1 => if a1 = 0 then ((zbo.f k l0_0 l0_1).bind fun t355 => (if t355 = 0 then (some (([(⟨(([] : List Int)), 1⟩ : S48)] : List (S48)))) else (some ([] : List (S48))))) else ((zbo.f k l0_0 l0_1).bind fun t365 => (zar.l0 k a1 (([] : List (S48))) (wrap64 (t365 + 1)) 0 l0_0 l0_1))
end
theorem zar.zaZ : ∀ k, (∀ y0 y1 y2, LeO (zar.f k y0 y1 y2) (zar.f (k + 1) y0 y1 y2)) ∧ (∀ y0 y1 y2 y3 y4 y5, LeO (zar.l0 k y0 y1 y2 y3 y4 y5) (zar.l0 (k + 1) y0 y1 y2 y3 y4 y5)) ∧ (∀ y0 y1 y2 y3 y4 y5 y6 y7 y8 y9, LeO (zar.l1 k y0 y1 y2 y3 y4 y5 y6 y7 y8 y9) (zar.l1 (k + 1) y0 y1 y2 y3 y4 y5 y6 y7 y8 y9)) ∧ (∀ y0 y1 y2 y3 y4 y5 y6 y7 y8 y9 y10 y11 y12, LeO (zar.l2 k y0 y1 y2 y3 y4 y5 y6 y7 y8 y9 y10 y11 y12) (zar.l2 (k + 1) y0 y1 y2 y3 y4 y5 y6 y7 y8 y9 y10 y11 y12))
 | 0 => ⟨fun _ _ _ r h => by simp [zar.f] at h, fun _ _ _ _ _ _ r h => by simp [zar.l0] at h, fun _ _ _ _ _ _ _ _ _ _ r h => by simp [zar.l1] at h, fun _ _ _ _ _ _ _ _ _ _ _ _ _ r h => by simp [zar.l2] at h⟩
 | k + 1 => by
  obtain ⟨ih0, ih1, ih2, ih3⟩ := zar.zaZ k
  refine ⟨?_, ?_, ?_, ?_⟩ <;> intros <;> (first | unfold zar.f | unfold zar.l0 | unfold zar.l1 | unfold zar.l2) <;> repeat' with_reducible first | exact ih0 _ _ _ | exact ih1 _ _ _ _ _ _ | exact ih2 _ _ _ _ _ _ _ _ _ _ | exact ih3 _ _ _ _ _ _ _ _ _ _ _ _ _ | exact zbo.mono _ _ _ | exact zaJ.mono _ _ _ | exact zbe.mono _ _ _ | exact zav.mono _ _ _ | exact xl | refine LeO.ite ?_ ?_ | refine LeO.bind ?_ fun _ => ?_
theorem zar.mono : ∀ a0 a1 a2 k, LeO (zar.f k a0 a1 a2) (zar.f (k + 1) a0 a1 a2) := by
 intro a0 a1 a2 k
 obtain ⟨ih0, ih1, ih2, ih3⟩ := zar.zaZ k
 exact ih0 a0 a1 a2
def zar.T16 : Bool × List (List Nat × List Nat) := (true, [([], []), ([], []), ([1], [1]), ([2], [2]), ([], []), ([4], [4]), ([3, 5, 3], [3, 5]), ([], []), ([7], [7]), ([6, 8], [6, 8]), ([9], [9]), ([0, 10, 6], [0, 10]), ([11, 11, 0, 1, 2, 3, 4, 5, 6, 7, 8, 9, 10, 11], [0, 11])])
def zar.B16 : List Nat := [0, 0, 2, 6, 0, 16, 62, 0, 128, 510, 1022, 2047, 4095]
theorem zar.zlC : rtab .any (opsOf Try.f43 16) = zar.T16 := by kernel_rfl
theorem zar.zk8 : zcm zar.T16.2 zar.B16 = true := by kernel_rfl
theorem zar.calls (k : Nat) : ∀ (A0_0 : Option Addr) (c0_0 : Nat) (l0_0 : List Int) (A0_1 : Option Addr) (c0_1 : Nat) (l0_1 : List Int) (a1 : Int) (r : List (S48)) (w : World) (hr0_0 : Kd.C (Kd.int .i64) w A0_0 l0_0.length l0_0) (hc0_0 : l0_0.length ≤ c0_0) (hr0_1 : Kd.C (Kd.int .i64) w A0_1 l0_1.length l0_1) (hc0_1 : l0_1.length ≤ c0_1) (h : zar.f k l0_0 l0_1 a1 = some r),
  Calls Try.prog 43 #[.agg #[.slice A0_0 l0_0.length c0_0, .slice A0_1 l0_1.length c0_1], .int .i64 a1] w fun e w' => ∃ v0_ : Value, e = .returned (v0_) ∧ Kd.N k48 48 w' w.heap.size (fun k_ => (w.heap.size ≤ k_)) v0_ r ∧ Below w.heap.size w w' := by
 induction k using Nat.strongRecOn with
 | _ k ih =>
 intro A0_0 c0_0 l0_0 A0_1 c0_1 l0_1 a1 r w hr0_0 hc0_0 hr0_1 hc0_1 h
 cases k with
 | zero => exact absurd h (by simp [zar.f])
 | succ k =>
 simp only [zar.f] at h
 have hu40 := Try.underlying40
 have hu48 := Try.underlying48
 have hu28 : ∀ (w_ : World) (x_ : Int) (A_ : Option Addr) (n_ c_ : Nat), (Instr.field 28 (.agg #[.int .i64 x_, .slice A_ n_ c_]) 1).run Try.prog w_ = .ok (.slice A_ n_ c_) w_ := fun _ _ _ _ _ => by first | kernel_rfl | rfl
 have HR0_0 := ax hr0_0
 have HC0_0 := ax hc0_0
 clear hr0_0 hc0_0
 have HR0_1 := ax hr0_1
 have HC0_1 := ax hc0_1
 clear hr0_1 hc0_1
 have HB := ax (Below.refl w.heap.size w)
 have H : (if a1 = 0 then ((zbo.f k l0_0 l0_1).bind fun t355 => (if t355 = 0 then (some (([(⟨(([] : List Int)), 1⟩ : S48)] : List (S48)))) else (some ([] : List (S48))))) else ((zbo.f k l0_0 l0_1).bind fun t365 => (zar.l0 k a1 (([] : List (S48))) (wrap64 (t365 + 1)) 0 l0_0 l0_1))) = some r := h
 clear h
 by_cases c3 : a1 = 0
 ·rw [if_pos c3] at H
  have c3b0 : (a1 == 0) = true := beq_iff_eq.mpr c3
  have c3b1 : (a1 != 0) = false := bne_eq_false_iff_eq.mpr c3
  clear c3
  obtain ⟨t355, A4, H⟩ := xI H
  by_cases c5 : t355 = 0
  ·rw [if_pos c5] at H
   have c5b0 : (t355 == 0) = true := beq_iff_eq.mpr c5
   have c5b1 : (t355 != 0) = false := bne_eq_false_iff_eq.mpr c5
   clear c5
   obtain ⟨y356, hy356⟩ : ∃ y_ : List Int, y_ = (([] : List Int)) := ⟨_, rfl⟩
   replace H : (some (([(⟨y356, 1⟩ : S48)] : List (S48)))) = some r := xv hy356 H
   have Ny356 := ax hy356
   clear hy356
   obtain ⟨y359, hy359⟩ : ∃ y_ : List (S48), y_ = (([(⟨y356, 1⟩ : S48)] : List (S48))) := ⟨_, rfl⟩
   replace H : (some y359) = some r := xv hy359 H
   have Ny359 := ax hy359
   clear hy359
   obtain rfl := Option.some.inj H
   go_enter Try.func43, Try.ntmps43
   go_wp2_with (first | ((with_reducible refine zaG (N := 2) rfl ?_); refine zaK ?hg (N := 2) ?hd (cs := #[.slice A0_0 l0_0.length c0_0, .slice A0_1 l0_1.length c0_1]) (t := 40) ?hr ?_; (case hd => rfl); (case hg => rfl); (case hr => first | (go_simp; done) | (go_simp; rfl)); intro gb354 hg w6 hbox hb; have BK354 := ax (hbox); have GW354 := ax ((by rw [hg]; exact (zaf (xb HB.out)) : w.heap.size ≤ gb354)); have GE354 := ax ((by rw [hg]; exact (zaf (xb HB.out)) : w.heap.size ≤ gb354)); replace HB := yB HB hb; clear hb hbox hg; have hcz7_0 := bc0 BK354.out; have hcz7_1 := bc1 BK354.out; have hfz7_0 := zae BK354.out 0; have hfz7_1 := zae BK354.out 1) | ((with_reducible refine zan (f := 72) rfl ?_); refine zaM (some 14) rfl rfl Try.func72 (by kernel_rfl) rfl #[.agg #[.slice A0_0 l0_0.length c0_0, .slice A0_1 l0_1.length c0_1]] rfl xm ?_; (with_reducible refine (zbo.calls k _ _ l0_0 _ _ l0_1 t355 _ ?side1 ?side2 ?side3 ?side4 A4.out).mono ?_); (case side1 => exact xz HR0_0.out HB.out); (case side2 => exact HC0_0.out); (case side3 => exact xz HR0_1.out HB.out); (case side4 => exact HC0_1.out); rintro e w8 ⟨rfl, hb⟩; refine ⟨_, rfl, ?_⟩; replace BK354 := ax (bb BK354.out hb); replace HB := ax (zat (xs HB.out GE354.out) hb); (try clear hb)) | ((with_reducible refine zaG (N := 16) rfl ?_); refine Kd.zes (Kd.int .i64) _ 3 ?hg (N := 16) ?hd (xs := ([] : List Int)) (inner := []) (ok := fun _ => True) (okp := fun _ => True) ?hr ?hp (fun _ hk => hk) trivial (Below.refl _ _) (Nat.le_refl _) (by simp) ?_; (case hd => rfl); (case hg => rfl); (case hr => first | (go_simp; done) | (go_simp; rfl)); (case hp => exact (Reps.none _ _)); intro v357 w9 ho10 hb hg_ hnew_; clear hg_ hnew_; (first | rw [← Ny356.out] at ho10 | (simp only [Int.reduceToNat] at ho10; rw [← Ny356.out] at ho10)); have HO358 := ax (Kd.zbL (Kd.zec (M := fun k_ => (w.heap.size ≤ k_)) ho10 (zaf (xs HB.out GE354.out)) (fun k_ h_ => h_)) (zaf (xs HB.out GE354.out))); replace BK354 := ax (bb BK354.out hb); replace HB := ax (zat (xs HB.out GE354.out) hb); clear hb ho10; obtain ⟨Ao11, co11, eo11⟩ := Kd.zbT HO358.out; subst eo11) | ((with_reducible refine zaG (N := 18) rfl ?_); refine Kd.zhv k48 _ 48 ?hg (N' := 18) ?hd (xs := ([(⟨y356, 1⟩ : S48)] : List (S48))) (inner := [.slice Ao11 y356.length co11, .int .i64 1]) (ok := (fun k_ => (w.heap.size ≤ k_) ∧ k_ ≠ gb354)) (okp := (fun k_ => (w.heap.size ≤ k_) ∧ k_ ≠ gb354)) ?hr ?hp (fun _ hk => hk) ((show ∀ k_, w9.heap.size ≤ k_ → (fun k_ => (w.heap.size ≤ k_) ∧ k_ ≠ gb354) k_ from fun k_ hk => ⟨(Nat.le_trans (zaf (xs HB.out GE354.out)) hk), Kd.zb9 (g := gb354) (o := .cells #[.slice A0_0 l0_0.length c0_0, .slice A0_1 l0_1.length c0_1] 40 (0, 0)) (xk BK354.out) k_ hk⟩) _ (Nat.le_refl _)) (Below.refl _ _) (Nat.le_refl _) (by simp) ?_; (case hd => rfl); (case hg => rfl); (case hr => first | (go_simp; done) | (go_simp; rfl)); (case hp => exact (Reps.c2 (show Kd.FK k48 _ _ (⟨y356, 1⟩ : S48) [.slice Ao11 y356.length co11, .int .i64 1] from (zdw _ _ (⟨y356, 1⟩ : S48) (Kd.zbi (Kd.za7 (ok' := (fun k_ => (w.heap.size ≤ k_) ∧ k_ ≠ gb354)) (Kd.zco (HO358.out) BK354.out (by decide)) (fun k_ hk => ⟨hk.1.1, hk.2⟩))).2.1 (Kd.R_F (Kd.za7 (ok' := (fun k_ => (w.heap.size ≤ k_) ∧ k_ ≠ gb354)) (Kd.zco (HO358.out) BK354.out (by decide)) (fun k_ hk => ⟨hk.1.1, hk.2⟩))))) (Reps.none _ _))); intro v360 w12 ho13 hb hg_ hnew_; clear hg_ hnew_; (first | rw [← Ny359.out] at ho13 | (simp only [Int.reduceToNat] at ho13; rw [← Ny359.out] at ho13)); have n0_ := ax (Kd.zcD ho13 (zaf (xs HB.out GE354.out))); have n1_ := ax (bb BK354.out hb); have n2_ := ax (zat (xs HB.out GE354.out) hb); clear BK354; clear HB; clear HO358; have HO361 := n0_; have BK354 := n1_; have HB := n2_; clear n0_ n1_ n2_; clear hb ho13))
   go_ret
   exact ⟨_, xe, by (with_reducible repeat (first | apply Kd.za4 | apply Kd.za3 | apply Kd.zaY)); exact Kd.zaQ HO361.out (fun _ hk => hk.1), xs HB.out GE354.out⟩
  ·rw [if_neg c5] at H
   have c5b0 : (t355 == 0) = false := beq_eq_false_iff_ne.mpr c5
   have c5b1 : (t355 != 0) = true := bne_iff_ne.mpr c5
   obtain rfl := Option.some.inj H
   go_enter Try.func43, Try.ntmps43
   go_wp2_with (first | ((with_reducible refine zaG (N := 2) rfl ?_); refine zaK ?hg (N := 2) ?hd (cs := #[.slice A0_0 l0_0.length c0_0, .slice A0_1 l0_1.length c0_1]) (t := 40) ?hr ?_; (case hd => rfl); (case hg => rfl); (case hr => first | (go_simp; done) | (go_simp; rfl)); intro gb354 hg w14 hbox hb; have BK354 := ax (hbox); have GW354 := ax ((by rw [hg]; exact (zaf (xb HB.out)) : w.heap.size ≤ gb354)); have GE354 := ax ((by rw [hg]; exact (zaf (xb HB.out)) : w.heap.size ≤ gb354)); replace HB := yB HB hb; clear hb hbox hg; have hcz15_0 := bc0 BK354.out; have hcz15_1 := bc1 BK354.out; have hfz15_0 := zae BK354.out 0; have hfz15_1 := zae BK354.out 1) | ((with_reducible refine zan (f := 72) rfl ?_); refine zaM (some 14) rfl rfl Try.func72 (by kernel_rfl) rfl #[.agg #[.slice A0_0 l0_0.length c0_0, .slice A0_1 l0_1.length c0_1]] rfl xm ?_; (with_reducible refine (zbo.calls k _ _ l0_0 _ _ l0_1 t355 _ ?side1 ?side2 ?side3 ?side4 A4.out).mono ?_); (case side1 => exact xz HR0_0.out HB.out); (case side2 => exact HC0_0.out); (case side3 => exact xz HR0_1.out HB.out); (case side4 => exact HC0_1.out); rintro e w16 ⟨rfl, hb⟩; refine ⟨_, rfl, ?_⟩; replace BK354 := ax (bb BK354.out hb); replace HB := ax (zat (xs HB.out GE354.out) hb); (try clear hb)))
   go_ret
   exact ⟨_, xe, by first | exact Kd.zgM _ _ _ _ _ | exact Kd.zgs _ _ _ _ _ | exact Kd.zgK _ _ _ _ _ | exact Kd.zgO _ _ _ _ _ | exact Kd.zeJ _ _ _ _ _, xs HB.out GE354.out⟩
 ·rw [if_neg c3] at H
  have c3b0 : (a1 == 0) = false := beq_eq_false_iff_ne.mpr c3
  have c3b1 : (a1 != 0) = true := bne_iff_ne.mpr c3
  obtain ⟨y362, hy362⟩ : ∃ y_ : List (S48), y_ = (([] : List (S48))) := ⟨_, rfl⟩
  replace H : ((zbo.f k l0_0 l0_1).bind fun t365 => (zar.l0 k a1 y362 (wrap64 (t365 + 1)) 0 l0_0 l0_1)) = some r := xv hy362 H
  have Ny362 := ax hy362
  clear hy362
  obtain ⟨t365, A17, H⟩ := xI H
  have H' := ax H
  clear H
  go_enter Try.func43, Try.ntmps43
  go_wp2_with (first | ((with_reducible refine zaG (N := 2) rfl ?_); refine zaK ?hg (N := 2) ?hd (cs := #[.slice A0_0 l0_0.length c0_0, .slice A0_1 l0_1.length c0_1]) (t := 40) ?hr ?_; (case hd => rfl); (case hg => rfl); (case hr => first | (go_simp; done) | (go_simp; rfl)); intro gb354 hg w18 hbox hb; have BK354 := ax (hbox); have GW354 := ax ((by rw [hg]; exact (zaf (xb HB.out)) : w.heap.size ≤ gb354)); have GE354 := ax ((by rw [hg]; exact (zaf (xb HB.out)) : w.heap.size ≤ gb354)); replace HB := yB HB hb; clear hb hbox hg) | ((with_reducible refine zaG (N := 19) rfl ?_); refine Kd.zhv k48 _ 48 ?hg (N' := 19) ?hd (xs := ([] : List (S48))) (inner := []) (ok := (fun k_ => (w.heap.size ≤ k_) ∧ k_ ≠ gb354)) (okp := (fun k_ => (w.heap.size ≤ k_) ∧ k_ ≠ gb354)) ?hr ?hp (fun _ hk => hk) ((show ∀ k_, w18.heap.size ≤ k_ → (fun k_ => (w.heap.size ≤ k_) ∧ k_ ≠ gb354) k_ from fun k_ hk => ⟨(Nat.le_trans (zaf (xs HB.out GE354.out)) hk), Kd.zb9 (g := gb354) (o := .cells #[.slice A0_0 l0_0.length c0_0, .slice A0_1 l0_1.length c0_1] 40 (0, 0)) (xk BK354.out) k_ hk⟩) _ (Nat.le_refl _)) (Below.refl _ _) (Nat.le_refl _) (by simp) ?_; (case hd => rfl); (case hg => rfl); (case hr => first | (go_simp; done) | (go_simp; rfl)); (case hp => exact (Reps.none _ _)); intro v363 w19 ho20 hb hg_ hnew_; clear hg_ hnew_; (first | rw [← Ny362.out] at ho20 | (simp only [Int.reduceToNat] at ho20; rw [← Ny362.out] at ho20)); have HO364 := ax (Kd.zcD ho20 (zaf (xs HB.out GE354.out))); replace BK354 := ax (bb BK354.out hb); replace HB := ax (zat (xs HB.out GE354.out) hb); clear hb ho20; have hcz21_0 := bc0 BK354.out; have hcz21_1 := bc1 BK354.out; have hfz21_0 := zae BK354.out 0; have hfz21_1 := zae BK354.out 1) | ((with_reducible refine zan (f := 72) rfl ?_); refine zaM (some 21) rfl rfl Try.func72 (by kernel_rfl) rfl #[.agg #[.slice A0_0 l0_0.length c0_0, .slice A0_1 l0_1.length c0_1]] rfl xm ?_; (with_reducible refine (zbo.calls k _ _ l0_0 _ _ l0_1 t365 _ ?side1 ?side2 ?side3 ?side4 A17.out).mono ?_); (case side1 => exact xz HR0_0.out HB.out); (case side2 => exact HC0_0.out); (case side3 => exact xz HR0_1.out HB.out); (case side4 => exact HC0_1.out); rintro e w22 ⟨rfl, hb⟩; refine ⟨_, rfl, ?_⟩; replace HO364 := ax (Kd.zbH (xN HO364.out) hb); replace BK354 := ax (bb BK354.out hb); replace HB := ax (zat (xs HB.out GE354.out) hb); (try clear hb)))
  go_loopg [5, 23] k (fun kq v5 v23 w' => ∃ (x5_1 : List (S48)) (x23_1 : Int), v23 = .int .i64 x23_1 ∧ zao (zar.l0 kq a1 x5_1 (wrap64 (t365 + 1)) x23_1 l0_0 l0_1 = some r) ∧ zao (kq ≤ k) ∧ zao (Kd.N k48 48 w' w.heap.size (fun k_ => (w.heap.size ≤ k_) ∧ k_ ≠ gb354) v5 x5_1) ∧ zao (w'.heap[gb354]? = some (.cells #[(.slice A0_0 l0_0.length c0_0), (.slice A0_1 l0_1.length c0_1)] 40 (0, 0))) ∧ zao (Below w.heap.size w w'))
  case atStart => exact ⟨(y362), (0), xr, H', ⟨Nat.le_refl _⟩, ⟨xN HO364.out⟩, ⟨xk BK354.out⟩, ⟨xs HB.out GE354.out⟩⟩
  case round =>
   clear H'
   (try clear c3); (try clear c3b0); (try clear c3b1); (try clear c5); (try clear c5b0); (try clear c5b1); (try clear hcz15_0); (try clear hcz15_1); (try clear hcz21_0); (try clear hcz21_1); (try clear hcz7_0); (try clear hcz7_1); (try clear hfz15_0); (try clear hfz15_1); (try clear hfz21_0); (try clear hfz21_1); (try clear hfz7_0); (try clear hfz7_1)
   obtain ⟨x5_1, x23_1, rfl, HA, HK1, HO_5, BK354, HB⟩ := hrel
   cases gk with
   | zero => exact absurd HA.out (by simp [zar.l0])
   | succ k1 =>
    have H := HA.out
    clear HA
    simp only [zar.l0] at H
    by_cases c23 : x23_1 < (wrap64 (t365 + 1))
    ·rw [if_pos c23] at H
     have c23b0 := decide_eq_true c23
     clear c23
     obtain ⟨t370, A24, H⟩ := xI H
     have H' := ax H
     clear H
     have hcz25_0 := bc0 BK354.out
     have hcz25_1 := bc1 BK354.out
     have hfz25_0 := zae BK354.out 0
     have hfz25_1 := zae BK354.out 1
     go_wp2_with (first | ((with_reducible refine zan (f := 73) rfl ?_); refine zaM (some 29) rfl rfl Try.func73 (by kernel_rfl) rfl #[.slice A0_0 l0_0.length c0_0, .int .i64 x23_1] rfl xm ?_; (with_reducible refine (zbe.calls k1 _ _ l0_0 x23_1 t370 _ ?side1 ?side2 A24.out).mono ?_); (case side1 => exact xz HR0_0.out HB.out); (case side2 => exact HC0_0.out); rintro e w26 ⟨v371, rfl, ho0, hb⟩; refine ⟨_, rfl, ?_⟩; have HO372 := ax (Kd.zcD (Kd.zaQ (ok' := fun k_ => (w.heap.size ≤ k_) ∧ some k_ ≠ (u5 : Value).ownBlock ∧ k_ ≠ gb354) ho0 (fun k_ hk_ => ⟨(Nat.le_trans (zaf (xs HB.out GE354.out)) hk_), (Kd.fresh' (Kd.N_lt (xN HO_5.out)) k_ hk_), (Kd.zb9 (g := gb354) (o := .cells #[.slice A0_0 l0_0.length c0_0, .slice A0_1 l0_1.length c0_1] 40 (0, 0)) (xk BK354.out) k_ hk_)⟩)) (zaf (xs HB.out GE354.out))); replace HO_5 := ax (Kd.zbI (xN HO_5.out) (by first | exact Kd.zdu ho0 | exact Kd.zcT ho0 | exact Kd.zbh ho0) hb); replace BK354 := ax (bb BK354.out hb); replace HB := ax (zat (xs HB.out GE354.out) hb); (try clear hb); (try clear ho0); obtain ⟨Ao27, co27, eo27⟩ := Kd.zbx HO372.out; subst eo27))
     go_loopg [5, 31] k1 (fun kq v5 v31 w' => ∃ (x5_2 : List (S48)) (x31_2 : Int), v31 = .int .i64 x31_2 ∧ zao (zar.l1 kq a1 x5_2 x23_1 (wrap64 (t365 + 1)) x23_1 t370 (t370.length : Int) x31_2 l0_0 l0_1 = some r) ∧ zao (kq ≤ k1) ∧ zao (Kd.N k48 48 w' w.heap.size (fun k_ => (w.heap.size ≤ k_) ∧ some k_ ≠ ((.slice Ao27 t370.length co27) : Value).ownBlock ∧ k_ ≠ gb354) v5 x5_2) ∧ zao (Kd.N (Kd.slice 3 (Kd.int .i64)) 35 w' w.heap.size (fun k_ => (w.heap.size ≤ k_) ∧ some k_ ≠ (v5 : Value).ownBlock ∧ k_ ≠ gb354) (.slice Ao27 t370.length co27) t370) ∧ zao (w'.heap[gb354]? = some (.cells #[(.slice A0_0 l0_0.length c0_0), (.slice A0_1 l0_1.length c0_1)] 40 (0, 0))) ∧ zao (Below w.heap.size w w'))
     case atStart => exact ⟨(x5_1), (0), xr, H', ⟨Nat.le_refl _⟩, ⟨by (with_reducible repeat (first | apply Kd.za4 | apply Kd.za3 | apply Kd.zaY)); exact Kd.zaQ HO_5.out (fun _ hk => ⟨hk.1.1, ⟨hk.2, hk.1.2⟩⟩)⟩, ⟨xN HO372.out⟩, ⟨xk BK354.out⟩, ⟨xs HB.out GE354.out⟩⟩
     case round =>
      clear H'
      (try clear c3); (try clear c3b0); (try clear c3b1); (try clear c5); (try clear c5b0); (try clear c5b1); (try clear c23); (try clear c23b0); (try clear hcz15_0); (try clear hcz15_1); (try clear hcz21_0); (try clear hcz21_1); (try clear hcz25_0); (try clear hcz25_1); (try clear hcz7_0); (try clear hcz7_1); (try clear hfz15_0); (try clear hfz15_1); (try clear hfz21_0); (try clear hfz21_1); (try clear hfz25_0); (try clear hfz25_1); (try clear hfz7_0); (try clear hfz7_1)
      obtain ⟨x5_2, x31_2, rfl, HA, HK2, HO_5, HO_29, BK354, HB⟩ := hrel
      cases gk with
      | zero => exact absurd HA.out (by simp [zar.l1])
      | succ k2 =>
       have H := HA.out
       clear HA
       simp only [zar.l1] at H
       by_cases c28 : x31_2 < (t370.length : Int)
       ·rw [if_pos c28] at H
        have c28b0 := decide_eq_true c28
        clear c28
        obtain ⟨c29b0, H⟩ := xq H
        obtain ⟨c30b0, H⟩ := xq H
        obtain ⟨t374, A31, H⟩ := xI H
        by_cases c32 : t374 = true
        ·subst c32
         rw [if_pos rfl] at H
         obtain ⟨t375, A33, H⟩ := xI H
         have H' := ax H
         clear H
         have p373 : 0 ≤ (x31_2 : Int) := xd
         have q373 : x31_2 < (t370.length : Int) := xd
         obtain ⟨ad373, A373_0, c373_0, e373, hx373_0, hl373_0, hi373_0⟩ := zfa (Kd.zay HO_29.out).2.2 x31_2 p373 q373
         cases e373
         obtain ⟨ce373, hce373, hMe373, hcc373⟩ := Kd.zcl HO_29.out [] x31_2 p373 (by first | exact q373 | exact xd | (have e_ := (Kd.zay HO_29.out).1; omega))
         obtain ⟨ua373_0, uc373_0, rfl, ul373_0, ge373_0⟩ := Kd.zcg hMe373
         have hv373_0 := hcc373 0 _ rfl
         rw [Nat.add_zero, show ((Kd.slice 3 (Kd.int .i64))).sz = 1 from rfl, Nat.mul_one] at hv373_0
         replace hv373_0 := Option.some.inj (hv373_0.symm.trans hx373_0)
         injection hv373_0 with hva_ hvn_ hvc_
         rw [hva_] at ge373_0
         rw [hvc_] at ul373_0
         have HL373_0 := ax (show Kd.V (Kd.int .i64) 3 _ w.heap.size _ _ (zbX t370 x31_2) from Kd.V_mk ul373_0 ge373_0)
         clear hva_ hvn_ hvc_ ge373_0 ul373_0 hcc373 hce373
         have HR373_0 := ax hi373_0
         have HC373_0 := ax hl373_0
         clear hi373_0 hl373_0
         replace p373 := eq_true p373
         replace q373 := eq_true q373
         have hcz34_0 := bc0 BK354.out
         have hcz34_1 := bc1 BK354.out
         have hfz34_0 := zae BK354.out 0
         have hfz34_1 := zae BK354.out 1
         go_wp2_with (first | ((with_reducible refine zan (f := 71) rfl ?_); refine zaM (some 38) rfl rfl Try.func71 (by kernel_rfl) rfl #[.slice A0_1 l0_1.length c0_1, .slice A373_0 (zbX t370 x31_2).length c373_0] rfl xm ?_; (with_reducible refine (zaJ.calls k2 _ _ l0_1 _ _ (zbX t370 x31_2) true _ ?side1 ?side2 ?side3 ?side4 A31.out).mono ?_); (case side1 => exact xz HR0_1.out HB.out); (case side2 => exact HC0_1.out); (case side3 => exact xw HR373_0.out); (case side4 => exact HC373_0.out); rintro e w' ⟨rfl, ⟨nd, rfl⟩⟩; refine ⟨_, rfl, ?_⟩) | ((with_reducible refine zan (f := 43) rfl ?_); refine zaM (some 46) rfl rfl Try.func43 (by kernel_rfl) rfl #[.agg #[.slice A373_0 (zbX t370 x31_2).length c373_0, .slice A0_1 l0_1.length c0_1], .int .i64 (wrap64 (a1 - 1))] rfl xm ?_; (with_reducible refine (ih k2 (by have := HK1.out; have := HK2.out; omega) _ _ (zbX t370 x31_2) _ _ l0_1 (wrap64 (a1 - 1)) t375 _ ?side1 ?side2 ?side3 ?side4 A33.out).mono ?_); (case side1 => exact xw HR373_0.out); (case side2 => exact HC373_0.out); (case side3 => repeat (first | exact (Kd.za8 HR0_1.out (xs HB.out GE354.out)) | (with_reducible refine Kd.zbR ?_ _) | (with_reducible refine Kd.zbQ ?_ _) | (with_reducible refine Kd.zb2 ?_))); (case side4 => exact HC0_1.out); rintro e w35 ⟨v376, rfl, ho0, hb⟩; refine ⟨_, rfl, ?_⟩; replace HL373_0 := ax (Kd.zcM (xV HL373_0.out) (by first | exact Kd.zdu ho0 | exact Kd.zcT ho0 | exact Kd.zbh ho0) hb); have HO377 := ax (Kd.zcD (Kd.zaQ (ok' := fun k_ => (w.heap.size ≤ k_) ∧ some k_ ≠ (u5 : Value).ownBlock ∧ some k_ ≠ (.slice (some ad373) t370.length co27 : Value).ownBlock ∧ k_ ≠ gb354) ho0 (fun k_ hk_ => ⟨(Nat.le_trans (zaf (xs HB.out GE354.out)) hk_), (Kd.fresh' (Kd.N_lt (xN HO_5.out)) k_ hk_), (Kd.fresh' (Kd.N_lt (xN HO_29.out)) k_ hk_), (Kd.zb9 (g := gb354) (o := .cells #[.slice A0_0 l0_0.length c0_0, .slice A0_1 l0_1.length c0_1] 40 (0, 0)) (xk BK354.out) k_ hk_)⟩)) (zaf (xs HB.out GE354.out))); replace HO_5 := ax (Kd.zbI (xN HO_5.out) (by first | exact Kd.zdu ho0 | exact Kd.zcT ho0 | exact Kd.zbh ho0) hb); replace HO_29 := ax (Kd.zbI (xN HO_29.out) (by first | exact Kd.zdu ho0 | exact Kd.zcT ho0 | exact Kd.zbh ho0) hb); replace BK354 := ax (bb BK354.out hb); replace HR373_0 := ax (Kd.za8 (xw HR373_0.out) hb); replace HB := ax (zat (xs HB.out GE354.out) hb); (try clear hb); (try clear ho0); obtain ⟨Ao36, co36, eo36⟩ := Kd.zbx HO377.out; subst eo36))
         go_loopg [5, 48] k2 (fun kq v5 v48 w' => ∃ (x5_3 : List (S48)) (x48_3 : Int), v48 = .int .i64 x48_3 ∧ zao (zar.l2 kq a1 x5_3 x23_1 (wrap64 (t365 + 1)) x23_1 t370 (t370.length : Int) x31_2 t375 (t375.length : Int) x48_3 l0_0 l0_1 = some r) ∧ zao (kq ≤ k2) ∧ zao (Kd.N k48 48 w' w.heap.size (fun k_ => (w.heap.size ≤ k_) ∧ some k_ ≠ ((.slice (some ad373) t370.length co27) : Value).ownBlock ∧ some k_ ≠ ((.slice Ao36 t375.length co36) : Value).ownBlock ∧ k_ ≠ gb354) v5 x5_3) ∧ zao (Kd.N (Kd.slice 3 (Kd.int .i64)) 35 w' w.heap.size (fun k_ => (w.heap.size ≤ k_) ∧ some k_ ≠ (v5 : Value).ownBlock ∧ some k_ ≠ ((.slice Ao36 t375.length co36) : Value).ownBlock ∧ k_ ≠ gb354) (.slice (some ad373) t370.length co27) t370) ∧ zao (Kd.N k48 48 w' w.heap.size (fun k_ => (w.heap.size ≤ k_) ∧ some k_ ≠ (v5 : Value).ownBlock ∧ some k_ ≠ ((.slice (some ad373) t370.length co27) : Value).ownBlock ∧ k_ ≠ gb354) (.slice Ao36 t375.length co36) t375) ∧ zao (w'.heap[gb354]? = some (.cells #[(.slice A0_0 l0_0.length c0_0), (.slice A0_1 l0_1.length c0_1)] 40 (0, 0))) ∧ zao (Below w.heap.size w w'))
         case atStart => exact ⟨(x5_2), (0), xr, H', ⟨Nat.le_refl _⟩, ⟨by (with_reducible repeat (first | apply Kd.za4 | apply Kd.za3 | apply Kd.zaY)); exact Kd.zaQ HO_5.out (fun _ hk => ⟨hk.1.1, ⟨hk.1.2.1, ⟨hk.2, hk.1.2.2⟩⟩⟩)⟩, ⟨by (with_reducible repeat (first | apply Kd.za4 | apply Kd.za3 | apply Kd.zaY)); exact Kd.zaQ HO_29.out (fun _ hk => ⟨hk.1.1, ⟨hk.1.2.1, ⟨hk.2, hk.1.2.2⟩⟩⟩)⟩, ⟨xN HO377.out⟩, ⟨xk BK354.out⟩, ⟨xs HB.out GE354.out⟩⟩
         case round =>
          clear H'
          (try clear c3); (try clear c3b0); (try clear c3b1); (try clear c5); (try clear c5b0); (try clear c5b1); (try clear c23); (try clear c23b0); (try clear c28); (try clear c28b0); (try clear c29); (try clear c29b0); (try clear c30); (try clear c30b0); (try clear c32); (try clear hcz15_0); (try clear hcz15_1); (try clear hcz21_0); (try clear hcz21_1); (try clear hcz25_0); (try clear hcz25_1); (try clear hcz34_0); (try clear hcz34_1); (try clear hcz7_0); (try clear hcz7_1); (try clear hfz15_0); (try clear hfz15_1); (try clear hfz21_0); (try clear hfz21_1); (try clear hfz25_0); (try clear hfz25_1); (try clear hfz34_0); (try clear hfz34_1); (try clear hfz7_0); (try clear hfz7_1); (try clear hx373_0); (try clear p373); (try clear q373)
          obtain ⟨x5_3, x48_3, rfl, HA, HK3, HO_5, HO_29, HO_46, BK354, HB⟩ := hrel
          cases gk with
          | zero => exact absurd HA.out (by simp [zar.l2])
          | succ k3 =>
           have H := HA.out
           clear HA
           simp only [zar.l2] at H
           by_cases c37 : x48_3 < (t375.length : Int)
           ·rw [if_pos c37] at H
            have c37b0 := decide_eq_true c37
            clear c37
            obtain ⟨c38b0, H⟩ := xq H
            obtain ⟨c39b0, H⟩ := xq H
            obtain ⟨t380, A40, H⟩ := xI H
            obtain ⟨y383, Ny383, H⟩ := xg H
            obtain ⟨c41, H⟩ := xp H
            have LMc41 := ax c41
            clear c41
            obtain ⟨y386, hy386⟩ : ∃ y_ : List Int, y_ = (t380 ++ y383) := ⟨_, rfl⟩
            replace H : ((some (([(⟨y386, (zac t375 x48_3).f1⟩ : S48)] : List (S48)) : List (S48))).bind fun y389 => (if x5_3.length + y389.length < 4398046511104 then (zar.l2 k3 a1 (x5_3 ++ y389) x23_1 (wrap64 (t365 + 1)) x23_1 t370 (t370.length : Int) x31_2 t375 (t375.length : Int) (wrap64 (x48_3 + 1)) l0_0 l0_1) else (none))) = some r := xv hy386 H
            have Ny386 := ax hy386
            clear hy386
            obtain ⟨y389, Ny389, H⟩ := xg H
            obtain ⟨c42, H⟩ := xp H
            have LMc42 := ax c42
            clear c42
            obtain ⟨y392, hy392⟩ : ∃ y_ : List (S48), y_ = (x5_3 ++ y389) := ⟨_, rfl⟩
            replace H : (zar.l2 k3 a1 y392 x23_1 (wrap64 (t365 + 1)) x23_1 t370 (t370.length : Int) x31_2 t375 (t375.length : Int) (wrap64 (x48_3 + 1)) l0_0 l0_1) = some r := xv hy392 H
            have Ny392 := ax hy392
            clear hy392
            have H' := ax H
            clear H
            have p378 : 0 ≤ (x48_3 : Int) := xd
            have q378 : x48_3 < (t375.length : Int) := xd
            obtain ⟨ad378, A378_0, c378_0, e378, hx378_0, hx378_1, hl378_0, hi378_0⟩ := zbO (Kd.zay HO_46.out).2.2 x48_3 p378 q378
            cases e378
            obtain ⟨ce378, hce378, hMe378, hcc378⟩ := Kd.zcl HO_46.out z48 x48_3 p378 (by first | exact q378 | exact xd | (have e_ := (Kd.zay HO_46.out).1; omega))
            obtain ⟨ua378_0, uc378_0, rfl, ul378_0, ge378_0⟩ := za0 hMe378
            have hv378_0 := hcc378 0 _ rfl
            rw [Nat.add_zero] at hv378_0
            replace hv378_0 := Option.some.inj (hv378_0.symm.trans hx378_0)
            injection hv378_0 with hva_ hvn_ hvc_
            rw [hva_] at ge378_0
            rw [hvc_] at ul378_0
            have HL378_0 := ax (show Kd.V (Kd.int .i64) 3 _ w.heap.size _ _ ((zac t375 x48_3).f0) from Kd.V_mk ul378_0 ge378_0)
            clear hva_ hvn_ hvc_ ge378_0 ul378_0 hcc378 hce378
            have HR378_0 := ax hi378_0
            have HC378_0 := ax hl378_0
            clear hi378_0 hl378_0
            replace p378 := eq_true p378
            replace q378 := eq_true q378
            try go_wp2_with (first | ((with_reducible refine zaG (N := 10) rfl ?_); refine zaK ?hg (N := 10) ?hd (cs := #[.slice none 0 0, .int .i64 0]) (t := 48) ?hr ?_; (case hd => rfl); (case hg => rfl); (case hr => first | (go_simp; done) | (go_simp; rfl)); intro gb379 hg w43 hbox hb; replace HO_5 := ax (Kd.zbH (Kd.zcO (xN HO_5.out) gb379 (Nat.le_of_eq hg.symm)) hb); replace HO_29 := ax (Kd.zbH (Kd.zcO (xN HO_29.out) gb379 (Nat.le_of_eq hg.symm)) hb); replace HO_46 := ax (Kd.zbH (Kd.zcO (xN HO_46.out) gb379 (Nat.le_of_eq hg.symm)) hb); replace HL378_0 := ax (Kd.zdf (Kd.zdq (xV HL378_0.out) gb379 (Nat.le_of_eq hg.symm)) hb); replace HR378_0 := ax (Kd.za8 (xw HR378_0.out) hb); have BK379 := ax (hbox); have GW379 := ax ((by rw [hg]; exact (zaf (xs HB.out GE354.out)) : w.heap.size ≤ gb379)); have GE379 := ax ((by rw [hg]; exact (zaf (xs HB.out GE354.out)) : w.heap.size ≤ gb379)); replace HB := ax (zat (xs HB.out GE354.out) hb); have NB354_379 := ax (bn hg BK354.out); have NB379_354 := ax (bm hg BK354.out); replace BK354 := ax (bb BK354.out hb); clear hb hbox hg; have hnb44 := NB379_354.out; have hnc44 := NB354_379.out; have hcz45_0 := bc0 BK379.out; have hcz45_1 := bc1 BK379.out; have hfz45_0 := zae BK379.out 0; have hfz45_1 := zae BK379.out 1; obtain ⟨Ao46, co46, eo46⟩ := Kd.zbx HO_5.out; subst eo46))
            have n0_ : zao (Kd.N k48 48 ((w43.setCell ⟨gb379, 0, none⟩ (.slice A378_0 ((zac t375 x48_3).f0).length c378_0)).setCell ⟨gb379, 1, none⟩ (.int .i64 ((zac t375 x48_3).f1))) w.heap.size (fun k_ => (w.heap.size ≤ k_) ∧ some k_ ≠ (.slice (some ad373) t370.length co27 : Value).ownBlock ∧ some k_ ≠ (.slice (some ad378) t375.length co36 : Value).ownBlock ∧ k_ ≠ gb354 ∧ k_ ≠ gb379) (.slice Ao46 x5_3.length co46) x5_3) := ⟨by (with_reducible repeat (first | apply Kd.za4 | apply Kd.za3 | apply Kd.zaY)); exact Kd.zaQ (Kd.zcz (p := ⟨gb379, 1, none⟩) (Kd.zcz (p := ⟨gb379, 0, none⟩) (Kd.zaQ HO_5.out (fun k_ hk => (⟨hk, hk.2⟩ : _ ∧ k_ ≠ gb379))) (fun _ hk => hk.2) (.slice A378_0 ((zac t375 x48_3).f0).length c378_0)) (fun _ hk => hk.2) (.int .i64 ((zac t375 x48_3).f1))) (fun _ hk => ⟨hk.1.1.1, ⟨hk.1.1.2.1, ⟨hk.1.1.2.2.1, ⟨hk.1.1.2.2.2, hk.1.2⟩⟩⟩⟩)⟩
            have n1_ : zao (Kd.N (Kd.slice 3 (Kd.int .i64)) 35 ((w43.setCell ⟨gb379, 0, none⟩ (.slice A378_0 ((zac t375 x48_3).f0).length c378_0)).setCell ⟨gb379, 1, none⟩ (.int .i64 ((zac t375 x48_3).f1))) w.heap.size (fun k_ => (w.heap.size ≤ k_) ∧ some k_ ≠ (.slice Ao46 x5_3.length co46 : Value).ownBlock ∧ some k_ ≠ (.slice (some ad378) t375.length co36 : Value).ownBlock ∧ k_ ≠ gb354 ∧ k_ ≠ gb379) (.slice (some ad373) t370.length co27) t370) := ⟨by (with_reducible repeat (first | apply Kd.za4 | apply Kd.za3 | apply Kd.zaY)); exact Kd.zaQ (Kd.zcz (p := ⟨gb379, 1, none⟩) (Kd.zcz (p := ⟨gb379, 0, none⟩) (Kd.zaQ HO_29.out (fun k_ hk => (⟨hk, hk.2⟩ : _ ∧ k_ ≠ gb379))) (fun _ hk => hk.2) (.slice A378_0 ((zac t375 x48_3).f0).length c378_0)) (fun _ hk => hk.2) (.int .i64 ((zac t375 x48_3).f1))) (fun _ hk => ⟨hk.1.1.1, ⟨hk.1.1.2.1, ⟨hk.1.1.2.2.1, ⟨hk.1.1.2.2.2, hk.1.2⟩⟩⟩⟩)⟩
            have n2_ : zao (Kd.N k48 48 ((w43.setCell ⟨gb379, 0, none⟩ (.slice A378_0 ((zac t375 x48_3).f0).length c378_0)).setCell ⟨gb379, 1, none⟩ (.int .i64 ((zac t375 x48_3).f1))) w.heap.size (fun k_ => (w.heap.size ≤ k_) ∧ some k_ ≠ (.slice Ao46 x5_3.length co46 : Value).ownBlock ∧ some k_ ≠ (.slice (some ad373) t370.length co27 : Value).ownBlock ∧ k_ ≠ gb354 ∧ k_ ≠ gb379) (.slice (some ad378) t375.length co36) t375) := ⟨by (with_reducible repeat (first | apply Kd.za4 | apply Kd.za3 | apply Kd.zaY)); exact Kd.zaQ (Kd.zcz (p := ⟨gb379, 1, none⟩) (Kd.zcz (p := ⟨gb379, 0, none⟩) (Kd.zaQ HO_46.out (fun k_ hk => (⟨hk, hk.2⟩ : _ ∧ k_ ≠ gb379))) (fun _ hk => hk.2) (.slice A378_0 ((zac t375 x48_3).f0).length c378_0)) (fun _ hk => hk.2) (.int .i64 ((zac t375 x48_3).f1))) (fun _ hk => ⟨hk.1.1.1, ⟨hk.1.1.2.1, ⟨hk.1.1.2.2.1, ⟨hk.1.1.2.2.2, hk.1.2⟩⟩⟩⟩)⟩
            have n3_ : zao (Kd.V (Kd.int .i64) 3 ((w43.setCell ⟨gb379, 0, none⟩ (.slice A378_0 ((zac t375 x48_3).f0).length c378_0)).setCell ⟨gb379, 1, none⟩ (.int .i64 ((zac t375 x48_3).f1))) w.heap.size (fun k_ => (w.heap.size ≤ k_) ∧ some k_ ≠ (.slice Ao46 x5_3.length co46 : Value).ownBlock ∧ some k_ ≠ (.slice (some ad373) t370.length co27 : Value).ownBlock ∧ some k_ ≠ (.slice (some ad378) t375.length co36 : Value).ownBlock ∧ k_ ≠ gb354 ∧ k_ ≠ gb379) (.slice A378_0 ((zac t375 x48_3).f0).length c378_0) ((zac t375 x48_3).f0)) := ⟨by (with_reducible repeat (first | apply Kd.zb1 | apply Kd.zb0 | apply Kd.zbV)); exact Kd.zbA (Kd.zdA (p := ⟨gb379, 1, none⟩) (Kd.zdA (p := ⟨gb379, 0, none⟩) (Kd.zbA HL378_0.out (fun k_ hk => (⟨hk, hk.2⟩ : _ ∧ k_ ≠ gb379))) (fun _ hk => hk.2) (.slice A378_0 ((zac t375 x48_3).f0).length c378_0)) (fun _ hk => hk.2) (.int .i64 ((zac t375 x48_3).f1))) (fun _ hk => ⟨hk.1.1.1.1, ⟨hk.1.1.1.2.1, ⟨hk.1.1.1.2.2.1, ⟨hk.1.1.2, ⟨hk.1.1.1.2.2.2, hk.1.2⟩⟩⟩⟩⟩)⟩
            have n4_ : zao (((w43.setCell ⟨gb379, 0, none⟩ (.slice A378_0 ((zac t375 x48_3).f0).length c378_0)).setCell ⟨gb379, 1, none⟩ (.int .i64 ((zac t375 x48_3).f1))).heap[gb354]? = some (.cells #[.slice A0_0 l0_0.length c0_0, .slice A0_1 l0_1.length c0_1] 40 (0, 0))) := ⟨by (with_reducible repeat (first | refine zak ?_ _ | refine zal ?_ | refine zai ?_ _)); refine zbb ?_ NB354_379.out _; (with_reducible repeat (first | refine zak ?_ _ | refine zal ?_ | refine zai ?_ _)); refine zbb ?_ NB354_379.out _; (with_reducible repeat (first | refine zak ?_ _ | refine zal ?_ | refine zai ?_ _)); exact BK354.out⟩
            have n5_ : zao (((w43.setCell ⟨gb379, 0, none⟩ (.slice A378_0 ((zac t375 x48_3).f0).length c378_0)).setCell ⟨gb379, 1, none⟩ (.int .i64 ((zac t375 x48_3).f1))).heap[gb379]? = some (.cells #[.slice A378_0 ((zac t375 x48_3).f0).length c378_0, .int .i64 ((zac t375 x48_3).f1)] 48 (0, 0))) := ⟨by (with_reducible repeat (first | refine zak ?_ _ | refine zal ?_ | refine zai ?_ _)); refine zbz (cs := #[.slice A378_0 ((zac t375 x48_3).f0).length c378_0, .int .i64 0]) ?_ 1 _ rfl; (with_reducible repeat (first | refine zak ?_ _ | refine zal ?_ | refine zai ?_ _)); refine zbz (cs := #[.slice none 0 0, .int .i64 0]) ?_ 0 _ rfl; (with_reducible repeat (first | refine zak ?_ _ | refine zal ?_ | refine zai ?_ _)); exact BK379.out⟩
            have n6_ : zao (Below w.heap.size w ((w43.setCell ⟨gb379, 0, none⟩ (.slice A378_0 ((zac t375 x48_3).f0).length c378_0)).setCell ⟨gb379, 1, none⟩ (.int .i64 ((zac t375 x48_3).f1)))) := ⟨bh HB.out⟩
            (try clear HO_5)
            (try clear HO_29)
            (try clear HO_46)
            (try clear HL378_0)
            (try clear BK354)
            (try clear BK379)
            (try clear HB)
            generalize ((w43.setCell ⟨gb379, 0, none⟩ (.slice A378_0 ((zac t375 x48_3).f0).length c378_0)).setCell ⟨gb379, 1, none⟩ (.int .i64 ((zac t375 x48_3).f1))) = w47 at n0_ n1_ n2_ n3_ n4_ n5_ n6_ ⊢
            have HO_5 := n0_
            have HO_29 := n1_
            have HO_46 := n2_
            have HL378_0 := n3_
            have BK354 := n4_
            have BK379 := n5_
            have HB := n6_
            clear n0_ n1_ n2_ n3_ n4_ n5_ n6_
            replace HO_5 := ax (Kd.zaY HO_5.out); replace HO_29 := ax (Kd.zaY HO_29.out); replace HO_46 := ax (Kd.zaY HO_46.out); replace HL378_0 := ax (Kd.zbV HL378_0.out); replace BK354 := ax (zal BK354.out); replace BK379 := ax (zal BK379.out); replace HB := ax (zba HB.out)
            refine zcj (n := 13) (S := fun w' => w'.cell? ⟨gb379, 0, none⟩ = some (.slice A378_0 ((zac t375 x48_3).f0).length c378_0) ∧ w'.cell? ⟨gb379, 1, none⟩ = some (.int .i64 ((zac t375 x48_3).f1))) (ds := []) (xB 13 0) (by kernel_rfl) rfl (by kernel_rfl) ⟨(zaC BK379.out 0).trans rfl, (zaC BK379.out 1).trans rfl⟩ (fun hHeld => ?_); refine zbD zar.zlC zar.zk8 (fun HT_ HW_ => ?_)
            generalize w47.drew = w48 at HO_5 HO_29 HO_46 HL378_0 BK354 BK379 HB hHeld ⊢
            refine pu (i := 0) (N := some 52) (xB 13 1) HT_.out ?_
            refine pu (i := 1) (N := some 53) (xB 13 3) HT_.out ?_
            refine pu (i := 4) (N := some 56) (xB 13 19) HT_.out ?_
            refine pu (i := 7) (N := some 59) (xB 13 147) HT_.out ?_
            refine tk (i := 2) (N := some 54) (xB 13 151) HT_.out HW_.out hHeld ?_
            refine tk (i := 8) (N := some 60) (xB 13 407) HT_.out HW_.out hHeld ?_
            refine zlE (σ := Value × Value) 5 (xB 13 447) (fun s_ => [(55, s_.1), (57, s_.2)]) (fun s_ w' => (w'.cell? ⟨gb379, 0, none⟩ = some (.slice A378_0 ((zac t375 x48_3).f0).length c378_0) ∧ w'.cell? ⟨gb379, 1, none⟩ = some (.int .i64 ((zac t375 x48_3).f1))) ∧ (Kd.V (Kd.int .i64) 3 w' w.heap.size (fun k_ => (w.heap.size ≤ k_) ∧ some k_ ≠ (s_.1 : Value).ownBlock ∧ some k_ ≠ (s_.2 : Value).ownBlock ∧ some k_ ≠ (.slice (some ad373) t370.length co27 : Value).ownBlock ∧ some k_ ≠ (.slice (some ad378) t375.length co36 : Value).ownBlock ∧ some k_ ≠ (.slice Ao46 x5_3.length co46 : Value).ownBlock ∧ k_ ≠ gb354 ∧ k_ ≠ gb379) (.slice A378_0 ((zac t375 x48_3).f0).length c378_0) ((zac t375 x48_3).f0)) ∧ (Kd.R (Kd.int .i64) 3 w' w.heap.size (fun k_ => (w.heap.size ≤ k_) ∧ some k_ ≠ (s_.2 : Value).ownBlock) s_.1 t380) ∧ (Kd.R (Kd.int .i64) 3 w' w.heap.size (fun k_ => (w.heap.size ≤ k_) ∧ some k_ ≠ (s_.1 : Value).ownBlock) s_.2 y383) ∧ (Kd.N (Kd.slice 3 (Kd.int .i64)) 35 w' w.heap.size (fun k_ => (w.heap.size ≤ k_) ∧ some k_ ≠ (s_.1 : Value).ownBlock ∧ some k_ ≠ (s_.2 : Value).ownBlock ∧ some k_ ≠ (.slice (some ad378) t375.length co36 : Value).ownBlock ∧ some k_ ≠ (.slice Ao46 x5_3.length co46 : Value).ownBlock ∧ k_ ≠ gb354 ∧ k_ ≠ gb379) (.slice (some ad373) t370.length co27) t370) ∧ (Kd.N k48 48 w' w.heap.size (fun k_ => (w.heap.size ≤ k_) ∧ some k_ ≠ (s_.1 : Value).ownBlock ∧ some k_ ≠ (s_.2 : Value).ownBlock ∧ some k_ ≠ (.slice (some ad373) t370.length co27 : Value).ownBlock ∧ some k_ ≠ (.slice Ao46 x5_3.length co46 : Value).ownBlock ∧ k_ ≠ gb354 ∧ k_ ≠ gb379) (.slice (some ad378) t375.length co36) t375) ∧ (Kd.N k48 48 w' w.heap.size (fun k_ => (w.heap.size ≤ k_) ∧ some k_ ≠ (s_.1 : Value).ownBlock ∧ some k_ ≠ (s_.2 : Value).ownBlock ∧ some k_ ≠ (.slice (some ad373) t370.length co27 : Value).ownBlock ∧ some k_ ≠ (.slice (some ad378) t375.length co36 : Value).ownBlock ∧ k_ ≠ gb354 ∧ k_ ≠ gb379) (.slice Ao46 x5_3.length co46) x5_3) ∧ (w'.heap[gb354]? = some (.cells #[.slice A0_0 l0_0.length c0_0, .slice A0_1 l0_1.length c0_1] 40 (0, 0))) ∧ (w'.heap[gb379]? = some (.cells #[.slice A378_0 ((zac t375 x48_3).f0).length c378_0, .int .i64 ((zac t375 x48_3).f1)] 48 (0, 0))) ∧ (Below w.heap.size w w')) ?_ ?_
            rotate_left
            ·intro hCont
             refine two_ (i := 3) (j := 5) (Ni := some 55) (Nj := some 57) (xB 13 415) (xB 13 439) rfl rfl rfl rfl (zkM HT_.out (by kernel_rfl)) (by decide) (by decide) (fun K hK => ?_) (fun K hK => ?_)
             ·skip
              refine zc6 Try.func30 (by kernel_rfl) rfl #[.slice A378_0 ((zac t375 x48_3).f0).length c378_0] (by rfl) rfl rfl xm ?_
              with_reducible refine (za6.calls _ _ ((zac t375 x48_3).f0) t380 _ ?side1 ?side2 A40.out).mono ?_
              (case side1 => repeat (first | exact ((Kd.zc (xV HL378_0.out)).2.2) | (with_reducible refine Kd.zbR ?_ _) | (with_reducible refine Kd.zbQ ?_ _) | (with_reducible refine Kd.zb2 ?_)))
              (case side2 => exact HC378_0.out)
              rintro e w49 ⟨v381, rfl, ho0, hb⟩
              refine ⟨_, rfl, ?_⟩
              replace HO_5 := ax (Kd.zbI (xN HO_5.out) (Kd.zbh ho0) hb); replace HO_29 := ax (Kd.zbI (xN HO_29.out) (Kd.zbh ho0) hb); replace HO_46 := ax (Kd.zbI (xN HO_46.out) (Kd.zbh ho0) hb); replace HL378_0 := ax (Kd.zcM (xV HL378_0.out) (Kd.zbh ho0) hb); have HO382 := ax (Kd.zbL (Kd.zec (M := fun k_ => (w.heap.size ≤ k_)) ho0 (zaf (bh HB.out)) (fun k_ h_ => h_)) (zaf (bh HB.out))); replace BK354 := ax (bb BK354.out hb); replace BK379 := ax (bb BK379.out hb); replace HB := ax (zat (bh HB.out) hb)
              (try clear hb)
              (try clear hk)
              (try clear ho0)
              refine hK.out _ _ ⟨(zaC BK379.out 0).trans rfl, (zaC BK379.out 1).trans rfl⟩ (fun hHeld => ?_)
              clear hK K
              refine nm ?_
              refine one_ (i := 5) (N := some 57) (xB 13 447) rfl rfl (zbU HT_.out (by kernel_rfl)) (by decide) (fun K hK => ?_)
              refine Kd.zer (Kd.int .i64) _ 3 ?hg (N := 57) ?hd (xs := ([x23_1] : List Int)) (inner := [.int .i64 x23_1]) (ok := fun _ => True) (okp := fun _ => True) ?hr ?hp (fun _ hk => hk) trivial (Below.refl _ _) (Nat.le_refl _) (by simp) ?_; (case hd => rfl); (case hg => rfl); (case hr => first | (go_simp; done) | (go_simp; rfl)); (case hp => exact (Reps.one (show Kd.M (Kd.int .i64) _ _ _ x23_1 [.int .i64 x23_1] from rfl) (Reps.none _ _)))
              intro v384 w50 ho51 hb hg_ hnew_
              clear hg_ hnew_
              (first | rw [← Ny383.out] at ho51 | (simp only [Int.reduceToNat] at ho51; rw [← Ny383.out] at ho51))
              replace HO_5 := ax (Kd.zbI (xN HO_5.out) (Kd.zbh ho51) hb); replace HO_29 := ax (Kd.zbI (xN HO_29.out) (Kd.zbh ho51) hb); replace HO_46 := ax (Kd.zbI (xN HO_46.out) (Kd.zbh ho51) hb); replace HL378_0 := ax (Kd.zcM (xV HL378_0.out) (Kd.zbh ho51) hb); have HO385 := ax (Kd.zbL (Kd.zcL (Kd.zec (M := fun k_ => (w.heap.size ≤ k_)) ho51 (zaf (bh HB.out)) (fun k_ h_ => h_)) (Kd.R_lt (xR HO382.out))) (zaf (bh HB.out))); replace HO382 := ax (Kd.zed (xR HO382.out) (Kd.zbh ho51) hb); replace BK354 := ax (bb BK354.out hb); replace BK379 := ax (bb BK379.out hb); replace HB := ax (zat (bh HB.out) hb); clear hb ho51
              refine hK.out _ _ ⟨(zaC BK379.out 0).trans rfl, (zaC BK379.out 1).trans rfl⟩ (fun hHeld => ?_)
              clear hK K
              refine nm ?_
              exact zjj (by simp only [zfq, Act.put, List.setIfInBounds_toArray, List.set_cons_zero, List.set_cons_succ]) (hCont (v381, v384) _ ⟨hHeld, (by (with_reducible repeat (first | apply Kd.zb1 | apply Kd.zb0 | apply Kd.zbV)); exact Kd.zbA HL378_0.out (fun _ hk => ⟨hk.1.1.1, ⟨hk.1.2, ⟨hk.2, ⟨hk.1.1.2.2.1, ⟨hk.1.1.2.2.2.1, ⟨hk.1.1.2.1, ⟨hk.1.1.2.2.2.2.1, hk.1.1.2.2.2.2.2⟩⟩⟩⟩⟩⟩⟩)), (by (with_reducible repeat (first | apply Kd.zbd | apply Kd.zbc | apply Kd.zbq)); exact Kd.za7 HO382.out (fun _ hk => ⟨hk.1.1, hk.2⟩)), (by (with_reducible repeat (first | apply Kd.zbd | apply Kd.zbc | apply Kd.zbq)); exact Kd.za7 HO385.out (fun _ hk => ⟨hk.1.1, hk.2⟩)), (by (with_reducible repeat (first | apply Kd.za4 | apply Kd.za3 | apply Kd.zaY)); exact Kd.zaQ HO_29.out (fun _ hk => ⟨hk.1.1.1, ⟨hk.1.2, ⟨hk.2, ⟨hk.1.1.2.2.1, ⟨hk.1.1.2.1, ⟨hk.1.1.2.2.2.1, hk.1.1.2.2.2.2⟩⟩⟩⟩⟩⟩)), (by (with_reducible repeat (first | apply Kd.za4 | apply Kd.za3 | apply Kd.zaY)); exact Kd.zaQ HO_46.out (fun _ hk => ⟨hk.1.1.1, ⟨hk.1.2, ⟨hk.2, ⟨hk.1.1.2.2.1, ⟨hk.1.1.2.1, ⟨hk.1.1.2.2.2.1, hk.1.1.2.2.2.2⟩⟩⟩⟩⟩⟩)), (by (with_reducible repeat (first | apply Kd.za4 | apply Kd.za3 | apply Kd.zaY)); exact Kd.zaQ HO_5.out (fun _ hk => ⟨hk.1.1.1, ⟨hk.1.2, ⟨hk.2, ⟨hk.1.1.2.1, ⟨hk.1.1.2.2.1, ⟨hk.1.1.2.2.2.1, hk.1.1.2.2.2.2⟩⟩⟩⟩⟩⟩)), (xk BK354.out), (xk BK379.out), (bh HB.out)⟩)
             ·skip
              refine Kd.zer (Kd.int .i64) _ 3 ?hg (N := 57) ?hd (xs := ([x23_1] : List Int)) (inner := [.int .i64 x23_1]) (ok := fun _ => True) (okp := fun _ => True) ?hr ?hp (fun _ hk => hk) trivial (Below.refl _ _) (Nat.le_refl _) (by simp) ?_; (case hd => rfl); (case hg => rfl); (case hr => first | (go_simp; done) | (go_simp; rfl)); (case hp => exact (Reps.one (show Kd.M (Kd.int .i64) _ _ _ x23_1 [.int .i64 x23_1] from rfl) (Reps.none _ _)))
              intro v384 w49 ho50 hb hg_ hnew_
              clear hg_ hnew_
              (first | rw [← Ny383.out] at ho50 | (simp only [Int.reduceToNat] at ho50; rw [← Ny383.out] at ho50))
              replace HO_5 := ax (Kd.zbI (xN HO_5.out) (Kd.zbh ho50) hb); replace HO_29 := ax (Kd.zbI (xN HO_29.out) (Kd.zbh ho50) hb); replace HO_46 := ax (Kd.zbI (xN HO_46.out) (Kd.zbh ho50) hb); replace HL378_0 := ax (Kd.zcM (xV HL378_0.out) (Kd.zbh ho50) hb); have HO385 := ax (Kd.zbL (Kd.zec (M := fun k_ => (w.heap.size ≤ k_)) ho50 (zaf (bh HB.out)) (fun k_ h_ => h_)) (zaf (bh HB.out))); replace BK354 := ax (bb BK354.out hb); replace BK379 := ax (bb BK379.out hb); replace HB := ax (zat (bh HB.out) hb); clear hb ho50
              refine hK.out _ _ ⟨(zaC BK379.out 0).trans rfl, (zaC BK379.out 1).trans rfl⟩ (fun hHeld => ?_)
              clear hK K
              refine nm ?_
              refine one_ (i := 3) (N := some 55) (xB 13 447) rfl rfl (zbU HT_.out (by kernel_rfl)) (by decide) (fun K hK => ?_)
              refine zc6 Try.func30 (by kernel_rfl) rfl #[.slice A378_0 ((zac t375 x48_3).f0).length c378_0] (by rfl) rfl rfl xm ?_
              with_reducible refine (za6.calls _ _ ((zac t375 x48_3).f0) t380 _ ?side1 ?side2 A40.out).mono ?_
              (case side1 => repeat (first | exact ((Kd.zc (xV HL378_0.out)).2.2) | (with_reducible refine Kd.zbR ?_ _) | (with_reducible refine Kd.zbQ ?_ _) | (with_reducible refine Kd.zb2 ?_)))
              (case side2 => exact HC378_0.out)
              rintro e w51 ⟨v381, rfl, ho0, hb⟩
              refine ⟨_, rfl, ?_⟩
              replace HO_5 := ax (Kd.zbI (xN HO_5.out) (Kd.zbh ho0) hb); replace HO_29 := ax (Kd.zbI (xN HO_29.out) (Kd.zbh ho0) hb); replace HO_46 := ax (Kd.zbI (xN HO_46.out) (Kd.zbh ho0) hb); replace HL378_0 := ax (Kd.zcM (xV HL378_0.out) (Kd.zbh ho0) hb); have HO382 := ax (Kd.zbL (Kd.zcL (Kd.zec (M := fun k_ => (w.heap.size ≤ k_)) ho0 (zaf (bh HB.out)) (fun k_ h_ => h_)) (Kd.R_lt (xR HO385.out))) (zaf (bh HB.out))); replace HO385 := ax (Kd.zed (xR HO385.out) (Kd.zbh ho0) hb); replace BK354 := ax (bb BK354.out hb); replace BK379 := ax (bb BK379.out hb); replace HB := ax (zat (bh HB.out) hb)
              (try clear hb)
              (try clear hk)
              (try clear ho0)
              refine hK.out _ _ ⟨(zaC BK379.out 0).trans rfl, (zaC BK379.out 1).trans rfl⟩ (fun hHeld => ?_)
              clear hK K
              refine nm ?_
              exact zjj (by simp only [zfq, Act.put, List.setIfInBounds_toArray, List.set_cons_zero, List.set_cons_succ]) (hCont (v381, v384) _ ⟨hHeld, (by (with_reducible repeat (first | apply Kd.zb1 | apply Kd.zb0 | apply Kd.zbV)); exact Kd.zbA HL378_0.out (fun _ hk => ⟨hk.1.1.1, ⟨hk.2, ⟨hk.1.2, ⟨hk.1.1.2.2.1, ⟨hk.1.1.2.2.2.1, ⟨hk.1.1.2.1, ⟨hk.1.1.2.2.2.2.1, hk.1.1.2.2.2.2.2⟩⟩⟩⟩⟩⟩⟩)), (by (with_reducible repeat (first | apply Kd.zbd | apply Kd.zbc | apply Kd.zbq)); exact Kd.za7 HO382.out (fun _ hk => ⟨hk.1.1, hk.2⟩)), (by (with_reducible repeat (first | apply Kd.zbd | apply Kd.zbc | apply Kd.zbq)); exact Kd.za7 HO385.out (fun _ hk => ⟨hk.1.1, hk.2⟩)), (by (with_reducible repeat (first | apply Kd.za4 | apply Kd.za3 | apply Kd.zaY)); exact Kd.zaQ HO_29.out (fun _ hk => ⟨hk.1.1.1, ⟨hk.2, ⟨hk.1.2, ⟨hk.1.1.2.2.1, ⟨hk.1.1.2.1, ⟨hk.1.1.2.2.2.1, hk.1.1.2.2.2.2⟩⟩⟩⟩⟩⟩)), (by (with_reducible repeat (first | apply Kd.za4 | apply Kd.za3 | apply Kd.zaY)); exact Kd.zaQ HO_46.out (fun _ hk => ⟨hk.1.1.1, ⟨hk.2, ⟨hk.1.2, ⟨hk.1.1.2.2.1, ⟨hk.1.1.2.1, ⟨hk.1.1.2.2.2.1, hk.1.1.2.2.2.2⟩⟩⟩⟩⟩⟩)), (by (with_reducible repeat (first | apply Kd.za4 | apply Kd.za3 | apply Kd.zaY)); exact Kd.zaQ HO_5.out (fun _ hk => ⟨hk.1.1.1, ⟨hk.2, ⟨hk.1.2, ⟨hk.1.1.2.1, ⟨hk.1.1.2.2.1, ⟨hk.1.1.2.2.2.1, hk.1.1.2.2.2.2⟩⟩⟩⟩⟩⟩)), (xk BK354.out), (xk BK379.out), (bh HB.out)⟩)
            rintro ⟨v381, v384⟩ w52 ⟨hS_, h0_, h1_, h2_, h3_, h4_, h5_, h6_, h7_, h8_⟩
            have n0_ : zao (Kd.V (Kd.int .i64) 3 w52 w.heap.size (fun k_ => (w.heap.size ≤ k_) ∧ some k_ ≠ (v381 : Value).ownBlock ∧ some k_ ≠ (v384 : Value).ownBlock ∧ some k_ ≠ (.slice (some ad373) t370.length co27 : Value).ownBlock ∧ some k_ ≠ (.slice (some ad378) t375.length co36 : Value).ownBlock ∧ some k_ ≠ (.slice Ao46 x5_3.length co46 : Value).ownBlock ∧ k_ ≠ gb354 ∧ k_ ≠ gb379) (.slice A378_0 ((zac t375 x48_3).f0).length c378_0) ((zac t375 x48_3).f0)) := ⟨h0_⟩
            have n1_ : zao (Kd.R (Kd.int .i64) 3 w52 w.heap.size (fun k_ => (w.heap.size ≤ k_) ∧ some k_ ≠ (v384 : Value).ownBlock) v381 t380) := ⟨h1_⟩
            have n2_ : zao (Kd.R (Kd.int .i64) 3 w52 w.heap.size (fun k_ => (w.heap.size ≤ k_) ∧ some k_ ≠ (v381 : Value).ownBlock) v384 y383) := ⟨h2_⟩
            have n3_ : zao (Kd.N (Kd.slice 3 (Kd.int .i64)) 35 w52 w.heap.size (fun k_ => (w.heap.size ≤ k_) ∧ some k_ ≠ (v381 : Value).ownBlock ∧ some k_ ≠ (v384 : Value).ownBlock ∧ some k_ ≠ (.slice (some ad378) t375.length co36 : Value).ownBlock ∧ some k_ ≠ (.slice Ao46 x5_3.length co46 : Value).ownBlock ∧ k_ ≠ gb354 ∧ k_ ≠ gb379) (.slice (some ad373) t370.length co27) t370) := ⟨h3_⟩
            have n4_ : zao (Kd.N k48 48 w52 w.heap.size (fun k_ => (w.heap.size ≤ k_) ∧ some k_ ≠ (v381 : Value).ownBlock ∧ some k_ ≠ (v384 : Value).ownBlock ∧ some k_ ≠ (.slice (some ad373) t370.length co27 : Value).ownBlock ∧ some k_ ≠ (.slice Ao46 x5_3.length co46 : Value).ownBlock ∧ k_ ≠ gb354 ∧ k_ ≠ gb379) (.slice (some ad378) t375.length co36) t375) := ⟨h4_⟩
            have n5_ : zao (Kd.N k48 48 w52 w.heap.size (fun k_ => (w.heap.size ≤ k_) ∧ some k_ ≠ (v381 : Value).ownBlock ∧ some k_ ≠ (v384 : Value).ownBlock ∧ some k_ ≠ (.slice (some ad373) t370.length co27 : Value).ownBlock ∧ some k_ ≠ (.slice (some ad378) t375.length co36 : Value).ownBlock ∧ k_ ≠ gb354 ∧ k_ ≠ gb379) (.slice Ao46 x5_3.length co46) x5_3) := ⟨h5_⟩
            have n6_ : zao (w52.heap[gb354]? = some (.cells #[.slice A0_0 l0_0.length c0_0, .slice A0_1 l0_1.length c0_1] 40 (0, 0))) := ⟨h6_⟩
            have n7_ : zao (w52.heap[gb379]? = some (.cells #[.slice A378_0 ((zac t375 x48_3).f0).length c378_0, .int .i64 ((zac t375 x48_3).f1)] 48 (0, 0))) := ⟨h7_⟩
            have n8_ : zao (Below w.heap.size w w52) := ⟨h8_⟩
            clear HO_5 HO_29 HO_46 HL378_0 BK354 BK379 HB h0_ h1_ h2_ h3_ h4_ h5_ h6_ h7_ h8_
            have HL378_0 := n0_
            have HO382 := n1_
            have HO385 := n2_
            have HO_29 := n3_
            have HO_46 := n4_
            have HO_5 := n5_
            have BK354 := n6_
            have BK379 := n7_
            have HB := n8_
            clear n0_ n1_ n2_ n3_ n4_ n5_ n6_ n7_ n8_
            have hHeld : w52.cell? ⟨gb379, 0, none⟩ = some (.slice A378_0 ((zac t375 x48_3).f0).length c378_0) ∧ w52.cell? ⟨gb379, 1, none⟩ = some (.int .i64 ((zac t375 x48_3).f1)) := hS_
            obtain ⟨Ao54, co54, eo54⟩ := Kd.zbT HO385.out
            (first | subst eo54 | (injection eo54 with f1_ f2_ f3_; have f4_ := f1_.symm; have f5_ := f3_.symm; clear f1_ f2_ f3_; subst f4_; subst f5_))
            refine zjj (a' := ?_) ?_ ?_
            rotate_left
            ·simp only [zfq, Act.put, List.setIfInBounds_toArray, List.set_cons_zero, List.set_cons_succ]
             rfl
            refine one_ (i := 6) (N := some 58) (xB 13 511) rfl rfl (zbU HT_.out (by kernel_rfl)) (by decide) (fun K hK => ?_)
            refine Kd.zds (Kd.int .i64) (w0 := w) w.heap.size (by rfl) (.tmp 55) (.tmp 57) 35 3 (.int .i64 0) 8 rfl Try.underlying35 zfj rfl (by decide) (by omega) v381 t380 y383 _ _ _ (fun k_ => (w.heap.size ≤ k_) ∧ some k_ ≠ (.slice Ao54 y383.length co54 : Value).ownBlock) (fun _ => False) rfl rfl ?aO ?aR (fun _ _ h => h) (fun _ h => h.elim) ?aF ?aB ?aS ?aL ?_
            (case aR => exact xc (Kd.zbi HO385.out).2.2)
            (case aB => exact (bh HB.out))
            (case aF => exact (fun k_ hk => ⟨(Nat.le_trans (zaf (bh HB.out)) hk), Kd.fresh' (Kd.R_lt (xR HO385.out)) k_ hk⟩))
            (case aO => exact (xR HO382.out))
            (case aS => exact (zaf (bh HB.out)))
            (case aL => have := LMc41.out; omega)
            intro v387 w53 ho hb hg hat
            rw [← Ny386.out] at ho
            have n0_ := ax (Kd.zcJ (ok := (fun k_ => (w.heap.size ≤ k_) ∧ some k_ ≠ (.slice (some ad373) t370.length co27 : Value).ownBlock ∧ some k_ ≠ (.slice (some ad378) t375.length co36 : Value).ownBlock ∧ some k_ ≠ (.slice Ao54 y383.length co54 : Value).ownBlock ∧ k_ ≠ gb354 ∧ k_ ≠ gb379)) (by (with_reducible repeat (first | apply Kd.za4 | apply Kd.za3 | apply Kd.zaY)); exact Kd.zaQ HO_5.out (fun _ hk => ⟨⟨hk.1, ⟨hk.2.2.2.1, ⟨hk.2.2.2.2.1, ⟨hk.2.2.1, ⟨hk.2.2.2.2.2.1, hk.2.2.2.2.2.2⟩⟩⟩⟩⟩, hk.2.1⟩)) hg hat)
            have n1_ := ax (Kd.zcJ (ok := (fun k_ => (w.heap.size ≤ k_) ∧ some k_ ≠ (.slice Ao46 x5_3.length co46 : Value).ownBlock ∧ some k_ ≠ (.slice (some ad378) t375.length co36 : Value).ownBlock ∧ some k_ ≠ (.slice Ao54 y383.length co54 : Value).ownBlock ∧ k_ ≠ gb354 ∧ k_ ≠ gb379)) (by (with_reducible repeat (first | apply Kd.za4 | apply Kd.za3 | apply Kd.zaY)); exact Kd.zaQ HO_29.out (fun _ hk => ⟨⟨hk.1, ⟨hk.2.2.2.2.1, ⟨hk.2.2.2.1, ⟨hk.2.2.1, ⟨hk.2.2.2.2.2.1, hk.2.2.2.2.2.2⟩⟩⟩⟩⟩, hk.2.1⟩)) hg hat)
            have n2_ := ax (Kd.zcJ (ok := (fun k_ => (w.heap.size ≤ k_) ∧ some k_ ≠ (.slice Ao46 x5_3.length co46 : Value).ownBlock ∧ some k_ ≠ (.slice (some ad373) t370.length co27 : Value).ownBlock ∧ some k_ ≠ (.slice Ao54 y383.length co54 : Value).ownBlock ∧ k_ ≠ gb354 ∧ k_ ≠ gb379)) (by (with_reducible repeat (first | apply Kd.za4 | apply Kd.za3 | apply Kd.zaY)); exact Kd.zaQ HO_46.out (fun _ hk => ⟨⟨hk.1, ⟨hk.2.2.2.2.1, ⟨hk.2.2.2.1, ⟨hk.2.2.1, ⟨hk.2.2.2.2.2.1, hk.2.2.2.2.2.2⟩⟩⟩⟩⟩, hk.2.1⟩)) hg hat)
            have n3_ := ax (zce (g := gb354) (o := .cells #[.slice A0_0 l0_0.length c0_0, .slice A0_1 l0_1.length c0_1] 40 (0, 0)) (xk BK354.out) hg (Kd.R_ne HO382.out BK354.out (by decide)))
            have n4_ := ax (Kd.zcN (ok := (fun k_ => (w.heap.size ≤ k_) ∧ some k_ ≠ (.slice Ao46 x5_3.length co46 : Value).ownBlock ∧ some k_ ≠ (.slice (some ad373) t370.length co27 : Value).ownBlock ∧ some k_ ≠ (.slice (some ad378) t375.length co36 : Value).ownBlock ∧ some k_ ≠ (.slice Ao54 y383.length co54 : Value).ownBlock ∧ k_ ≠ gb354 ∧ k_ ≠ gb379)) (by (with_reducible repeat (first | apply Kd.zb1 | apply Kd.zb0 | apply Kd.zbV)); exact Kd.zbA HL378_0.out (fun _ hk => ⟨⟨hk.1, ⟨hk.2.2.2.2.2.1, ⟨hk.2.2.2.1, ⟨hk.2.2.2.2.1, ⟨hk.2.2.1, ⟨hk.2.2.2.2.2.2.1, hk.2.2.2.2.2.2.2⟩⟩⟩⟩⟩⟩, hk.2.1⟩)) hg hat)
            have n5_ := ax (zce (g := gb379) (o := .cells #[.slice A378_0 ((zac t375 x48_3).f0).length c378_0, .int .i64 ((zac t375 x48_3).f1)] 48 (0, 0)) (xk BK379.out) hg (Kd.R_ne HO382.out BK379.out (by decide)))
            have n6_ := ax (Kd.zet (ok := (fun k_ => (w.heap.size ≤ k_))) (xR HO385.out) hg hat)
            have n7_ := ax (hb)
            have n8_ := ax (ho)
            clear HO_5 HO_29 HO_46 BK354 HL378_0 BK379 HO385 HB HO382
            have HO_5 := n0_
            have HO_29 := n1_
            have HO_46 := n2_
            have BK354 := n3_
            have HL378_0 := n4_
            have BK379 := n5_
            have HO385 := n6_
            have HB := n7_
            have HO388 := n8_
            clear n0_ n1_ n2_ n3_ n4_ n5_ n6_ n7_ n8_ ho hb hg hat
            obtain ⟨Ao55, co55, eo55⟩ := Kd.zbT HO388.out
            (first | subst eo55 | (injection eo55 with f1_ f2_ f3_; have f4_ := f1_.symm; have f5_ := f3_.symm; clear f1_ f2_ f3_; subst f4_; subst f5_))
            refine hK.out _ _ ⟨(zaC BK379.out 0).trans rfl, (zaC BK379.out 1).trans rfl⟩ (fun hHeld => ?_)
            clear hK K
            refine nm ?_
            refine pu (i := 9) (N := some 61) (xB 13 1023) HT_.out ?_
            refine one_ (i := 10) (N := some 62) (xB 13 2047) rfl rfl (zbU HT_.out (by kernel_rfl)) (by decide) (fun K hK => ?_)
            refine Kd.zhu k48 _ 48 ?hg (N' := 62) ?hd (xs := ([(⟨y386, (zac t375 x48_3).f1⟩ : S48)] : List (S48))) (inner := [.slice Ao55 y386.length co55, .int .i64 ((zac t375 x48_3).f1)]) (ok := (fun k_ => (w.heap.size ≤ k_) ∧ some k_ ≠ (.slice Ao46 x5_3.length co46 : Value).ownBlock ∧ some k_ ≠ (.slice (some ad373) t370.length co27 : Value).ownBlock ∧ some k_ ≠ (.slice (some ad378) t375.length co36 : Value).ownBlock ∧ some k_ ≠ (.slice Ao54 y383.length co54 : Value).ownBlock ∧ k_ ≠ gb354 ∧ k_ ≠ gb379)) (okp := (fun k_ => (w.heap.size ≤ k_) ∧ some k_ ≠ (.slice Ao46 x5_3.length co46 : Value).ownBlock ∧ some k_ ≠ (.slice (some ad373) t370.length co27 : Value).ownBlock ∧ some k_ ≠ (.slice (some ad378) t375.length co36 : Value).ownBlock ∧ some k_ ≠ (.slice Ao54 y383.length co54 : Value).ownBlock ∧ k_ ≠ gb354 ∧ k_ ≠ gb379)) ?hr ?hp (fun _ hk => hk) ((show ∀ k_, w53.heap.size ≤ k_ → (fun k_ => (w.heap.size ≤ k_) ∧ some k_ ≠ (.slice Ao46 x5_3.length co46 : Value).ownBlock ∧ some k_ ≠ (.slice (some ad373) t370.length co27 : Value).ownBlock ∧ some k_ ≠ (.slice (some ad378) t375.length co36 : Value).ownBlock ∧ some k_ ≠ (.slice Ao54 y383.length co54 : Value).ownBlock ∧ k_ ≠ gb354 ∧ k_ ≠ gb379) k_ from fun k_ hk => ⟨(Nat.le_trans (zaf (bh HB.out)) hk), Kd.fresh' (Kd.N_lt (xN HO_5.out)) k_ hk, Kd.fresh' (Kd.N_lt (xN HO_29.out)) k_ hk, Kd.fresh' (Kd.N_lt (xN HO_46.out)) k_ hk, Kd.fresh' (Kd.R_lt (xR HO385.out)) k_ hk, Kd.zb9 (g := gb354) (o := .cells #[.slice A0_0 l0_0.length c0_0, .slice A0_1 l0_1.length c0_1] 40 (0, 0)) (xk BK354.out) k_ hk, Kd.zb9 (g := gb379) (o := .cells #[.slice A378_0 ((zac t375 x48_3).f0).length c378_0, .int .i64 ((zac t375 x48_3).f1)] 48 (0, 0)) (xk BK379.out) k_ hk⟩) _ (Nat.le_refl _)) (Below.refl _ _) (Nat.le_refl _) (by simp) ?_; (case hd => rfl); (case hg => rfl); (case hr => first | (go_simp; done) | (go_simp; rfl)); (case hp => exact (Reps.c2 (show Kd.FK k48 _ _ (⟨y386, (zac t375 x48_3).f1⟩ : S48) [.slice Ao55 y386.length co55, .int .i64 ((zac t375 x48_3).f1)] from (zdw _ _ (⟨y386, (zac t375 x48_3).f1⟩ : S48) (Kd.zbi (Kd.za7 (ok' := (fun k_ => (w.heap.size ≤ k_) ∧ some k_ ≠ (.slice Ao46 x5_3.length co46 : Value).ownBlock ∧ some k_ ≠ (.slice (some ad373) t370.length co27 : Value).ownBlock ∧ some k_ ≠ (.slice (some ad378) t375.length co36 : Value).ownBlock ∧ some k_ ≠ (.slice Ao54 y383.length co54 : Value).ownBlock ∧ k_ ≠ gb354 ∧ k_ ≠ gb379)) (Kd.zco (Kd.zco (Kd.zbP (Kd.zbP (Kd.zbP (HO388.out) (Kd.zcy HO_5.out) (by decide)) (Kd.zcy HO_29.out) (by decide)) (Kd.zcy HO_46.out) (by decide)) BK354.out (by decide)) BK379.out (by decide)) (fun k_ hk => ⟨hk.1.1.1.1.1.1, ⟨hk.1.1.1.1.2, ⟨hk.1.1.1.2, ⟨hk.1.1.2, ⟨hk.1.1.1.1.1.2, ⟨hk.1.2, hk.2⟩⟩⟩⟩⟩⟩))).2.1 (Kd.R_F (Kd.za7 (ok' := (fun k_ => (w.heap.size ≤ k_) ∧ some k_ ≠ (.slice Ao46 x5_3.length co46 : Value).ownBlock ∧ some k_ ≠ (.slice (some ad373) t370.length co27 : Value).ownBlock ∧ some k_ ≠ (.slice (some ad378) t375.length co36 : Value).ownBlock ∧ some k_ ≠ (.slice Ao54 y383.length co54 : Value).ownBlock ∧ k_ ≠ gb354 ∧ k_ ≠ gb379)) (Kd.zco (Kd.zco (Kd.zbP (Kd.zbP (Kd.zbP (HO388.out) (Kd.zcy HO_5.out) (by decide)) (Kd.zcy HO_29.out) (by decide)) (Kd.zcy HO_46.out) (by decide)) BK354.out (by decide)) BK379.out (by decide)) (fun k_ hk => ⟨hk.1.1.1.1.1.1, ⟨hk.1.1.1.1.2, ⟨hk.1.1.1.2, ⟨hk.1.1.2, ⟨hk.1.1.1.1.1.2, ⟨hk.1.2, hk.2⟩⟩⟩⟩⟩⟩))))) (Reps.none _ _)))
            intro v390 w56 ho57 hb hg_ hnew_
            clear hg_ hnew_
            (first | rw [← Ny389.out] at ho57 | (simp only [Int.reduceToNat] at ho57; rw [← Ny389.out] at ho57))
            have n0_ := ax (Kd.zbI (xN HO_5.out) (by first | exact Kd.zdu ho57 | exact Kd.zcT ho57 | exact Kd.zbh ho57) hb)
            have n1_ := ax (Kd.zbI (xN HO_29.out) (by first | exact Kd.zdu ho57 | exact Kd.zcT ho57 | exact Kd.zbh ho57) hb)
            have n2_ := ax (Kd.zbI (xN HO_46.out) (by first | exact Kd.zdu ho57 | exact Kd.zcT ho57 | exact Kd.zbh ho57) hb)
            have n3_ := ax (Kd.zcM (xV HL378_0.out) (by first | exact Kd.zdu ho57 | exact Kd.zcT ho57 | exact Kd.zbh ho57) hb)
            have n4_ := ax (Kd.zb8 (xR HO385.out) hb)
            have n5_ := ax (Kd.zcD ho57 (zaf (bh HB.out)))
            have n6_ := ax (bb BK354.out hb)
            have n7_ := ax (bb BK379.out hb)
            have n8_ := ax (zat (bh HB.out) hb)
            clear HO_5 HO_29 HO_46 HL378_0 HO385 BK354 BK379 HB HO388
            have HO_5 := n0_
            have HO_29 := n1_
            have HO_46 := n2_
            have HL378_0 := n3_
            have HO385 := n4_
            have HO391 := n5_
            have BK354 := n6_
            have BK379 := n7_
            have HB := n8_
            clear n0_ n1_ n2_ n3_ n4_ n5_ n6_ n7_ n8_ hb ho57
            obtain ⟨Ao59, co59, eo59⟩ := Kd.zbx HO391.out
            (first | subst eo59 | (injection eo59 with f1_ f2_ f3_; have f4_ := f1_.symm; have f5_ := f3_.symm; clear f1_ f2_ f3_; subst f4_; subst f5_))
            refine hK.out _ _ ⟨(zaC BK379.out 0).trans rfl, (zaC BK379.out 1).trans rfl⟩ (fun hHeld => ?_)
            clear hK K
            refine nm ?_
            refine one_ (i := 11) (N := some 63) (xB 13 4095) rfl rfl (zbU HT_.out (by kernel_rfl)) (by decide) (fun K hK => ?_)
            refine Kd.zee k48 (w0 := w) w.heap.size (by rfl) (.tmp 52) (.tmp 62) 26 48 (.agg #[(.slice none 0 0), (.int .i64 0)]) 32 rfl Try.underlying26 zey rfl (by decide) (by omega) (.slice Ao46 x5_3.length co46) x5_3 y389 _ _ _ (fun k_ => (w.heap.size ≤ k_) ∧ some k_ ≠ (.slice (some ad373) t370.length co27 : Value).ownBlock ∧ some k_ ≠ (.slice (some ad378) t375.length co36 : Value).ownBlock ∧ some k_ ≠ (.slice Ao54 y383.length co54 : Value).ownBlock ∧ k_ ≠ gb354 ∧ k_ ≠ gb379) (fun k_ => ((fun k_ => (w.heap.size ≤ k_) ∧ some k_ ≠ (.slice (some ad373) t370.length co27 : Value).ownBlock ∧ some k_ ≠ (.slice (some ad378) t375.length co36 : Value).ownBlock ∧ some k_ ≠ (.slice Ao54 y383.length co54 : Value).ownBlock ∧ k_ ≠ gb354 ∧ k_ ≠ gb379)) k_ ∧ some k_ ≠ (.slice Ao46 x5_3.length co46 : Value).ownBlock) rfl rfl ?aO ?aR (fun _ hk => hk) ?aF ?aB ?aS ?aL ?_
            (case aR => exact (by skip; exact Kd.N_F (Kd.zaQ (ok' := (fun k_ => ((fun k_ => (w.heap.size ≤ k_) ∧ some k_ ≠ (.slice (some ad373) t370.length co27 : Value).ownBlock ∧ some k_ ≠ (.slice (some ad378) t375.length co36 : Value).ownBlock ∧ some k_ ≠ (.slice Ao54 y383.length co54 : Value).ownBlock ∧ k_ ≠ gb354 ∧ k_ ≠ gb379)) k_ ∧ some k_ ≠ (.slice Ao46 x5_3.length co46 : Value).ownBlock)) (HO391.out) (fun k_ hk => ⟨⟨hk.1, ⟨hk.2.2.1, ⟨hk.2.2.2.1, ⟨hk.2.2.2.2.1, ⟨hk.2.2.2.2.2.1, hk.2.2.2.2.2.2⟩⟩⟩⟩⟩, hk.2.1⟩))))
            (case aB => exact (bh HB.out))
            (case aF => exact (fun k_ hk => ⟨(Nat.le_trans (zaf (bh HB.out)) hk), Kd.fresh' (Kd.N_lt (xN HO_29.out)) k_ hk, Kd.fresh' (Kd.N_lt (xN HO_46.out)) k_ hk, Kd.fresh' (Kd.R_lt (xR HO385.out)) k_ hk, Kd.zb9 (g := gb354) (o := .cells #[.slice A0_0 l0_0.length c0_0, .slice A0_1 l0_1.length c0_1] 40 (0, 0)) (xk BK354.out) k_ hk, Kd.zb9 (g := gb379) (o := .cells #[.slice A378_0 ((zac t375 x48_3).f0).length c378_0, .int .i64 ((zac t375 x48_3).f1)] 48 (0, 0)) (xk BK379.out) k_ hk⟩))
            (case aO => exact (by (with_reducible repeat (first | apply Kd.za4 | apply Kd.za3 | apply Kd.zaY)); exact Kd.zaQ HO_5.out (fun _ hk => ⟨hk.1.1.1, ⟨hk.1.1.2.1, ⟨hk.1.1.2.2.1, ⟨hk.1.1.2.2.2.1, ⟨hk.1.1.2.2.2.2.1, hk.1.1.2.2.2.2.2⟩⟩⟩⟩⟩)))
            (case aS => exact (zaf (bh HB.out)))
            (case aL => have := LMc42.out; omega)
            intro v393 w58 ho hb hg hat
            rw [← Ny392.out] at ho
            have n0_ := ax (Kd.zcJ (ok := (fun k_ => (w.heap.size ≤ k_) ∧ some k_ ≠ (.slice (some ad378) t375.length co36 : Value).ownBlock ∧ some k_ ≠ (.slice Ao54 y383.length co54 : Value).ownBlock ∧ some k_ ≠ (.slice Ao59 y389.length co59 : Value).ownBlock ∧ k_ ≠ gb354 ∧ k_ ≠ gb379)) (by (with_reducible repeat (first | apply Kd.za4 | apply Kd.za3 | apply Kd.zaY)); exact Kd.zaQ HO_29.out (fun _ hk => ⟨⟨hk.1.1.1, ⟨hk.1.1.2.2.1, ⟨hk.1.1.2.2.2.1, ⟨hk.2, ⟨hk.1.1.2.2.2.2.1, hk.1.1.2.2.2.2.2⟩⟩⟩⟩⟩, hk.1.1.2.1⟩)) hg hat)
            have n1_ := ax (Kd.zcJ (ok := (fun k_ => (w.heap.size ≤ k_) ∧ some k_ ≠ (.slice (some ad373) t370.length co27 : Value).ownBlock ∧ some k_ ≠ (.slice Ao54 y383.length co54 : Value).ownBlock ∧ some k_ ≠ (.slice Ao59 y389.length co59 : Value).ownBlock ∧ k_ ≠ gb354 ∧ k_ ≠ gb379)) (by (with_reducible repeat (first | apply Kd.za4 | apply Kd.za3 | apply Kd.zaY)); exact Kd.zaQ HO_46.out (fun _ hk => ⟨⟨hk.1.1.1, ⟨hk.1.1.2.2.1, ⟨hk.1.1.2.2.2.1, ⟨hk.2, ⟨hk.1.1.2.2.2.2.1, hk.1.1.2.2.2.2.2⟩⟩⟩⟩⟩, hk.1.1.2.1⟩)) hg hat)
            have n2_ := ax (zce (g := gb354) (o := .cells #[.slice A0_0 l0_0.length c0_0, .slice A0_1 l0_1.length c0_1] 40 (0, 0)) (xk BK354.out) hg (Kd.N_ne HO_5.out BK354.out (by decide)))
            have n3_ := ax (Kd.zcN (ok := (fun k_ => (w.heap.size ≤ k_) ∧ some k_ ≠ (.slice (some ad373) t370.length co27 : Value).ownBlock ∧ some k_ ≠ (.slice (some ad378) t375.length co36 : Value).ownBlock ∧ some k_ ≠ (.slice Ao54 y383.length co54 : Value).ownBlock ∧ some k_ ≠ (.slice Ao59 y389.length co59 : Value).ownBlock ∧ k_ ≠ gb354 ∧ k_ ≠ gb379)) (by (with_reducible repeat (first | apply Kd.zb1 | apply Kd.zb0 | apply Kd.zbV)); exact Kd.zbA HL378_0.out (fun _ hk => ⟨⟨hk.1.1.1, ⟨hk.1.1.2.2.1, ⟨hk.1.1.2.2.2.1, ⟨hk.1.1.2.2.2.2.1, ⟨hk.2, ⟨hk.1.1.2.2.2.2.2.1, hk.1.1.2.2.2.2.2.2⟩⟩⟩⟩⟩⟩, hk.1.1.2.1⟩)) hg hat)
            have n4_ := ax (zce (g := gb379) (o := .cells #[.slice A378_0 ((zac t375 x48_3).f0).length c378_0, .int .i64 ((zac t375 x48_3).f1)] 48 (0, 0)) (xk BK379.out) hg (Kd.zfe HO_5.out (fun _ hk => hk.1.1.2.2.2.2.2)))
            have n5_ := ax (Kd.zky (xR HO385.out) (Kd.zcy (xN HO_5.out)) (by decide) hg)
            have n6_ := ax (Kd.zcJ (ok := (fun k_ => (w.heap.size ≤ k_) ∧ some k_ ≠ (.slice (some ad373) t370.length co27 : Value).ownBlock ∧ some k_ ≠ (.slice (some ad378) t375.length co36 : Value).ownBlock ∧ some k_ ≠ (.slice Ao54 y383.length co54 : Value).ownBlock ∧ k_ ≠ gb354 ∧ k_ ≠ gb379)) (by (with_reducible repeat (first | apply Kd.za4 | apply Kd.za3 | apply Kd.zaY)); exact Kd.zaQ HO391.out (fun _ hk => ⟨⟨hk.1, ⟨hk.2.2.1, ⟨hk.2.2.2.1, ⟨hk.2.2.2.2.1, ⟨hk.2.2.2.2.2.1, hk.2.2.2.2.2.2⟩⟩⟩⟩⟩, hk.2.1⟩)) hg hat)
            have n7_ := ax (hb)
            have n8_ := ax (ho)
            clear HO_29 HO_46 BK354 HL378_0 BK379 HO385 HO391 HB HO_5
            have HO_29 := n0_
            have HO_46 := n1_
            have BK354 := n2_
            have HL378_0 := n3_
            have BK379 := n4_
            have HO385 := n5_
            have HO391 := n6_
            have HB := n7_
            have HO394 := n8_
            clear n0_ n1_ n2_ n3_ n4_ n5_ n6_ n7_ n8_ ho hb hg hat
            refine hK.out _ _ ⟨(zaC BK379.out 0).trans rfl, (zaC BK379.out 1).trans rfl⟩ (fun hHeld => ?_)
            clear hK K
            refine nm ?_
            refine pu (i := 12) (N := some 5) (xB 13 8191) HT_.out ?_
            refine zcR (zb6 HT_.out (by kernel_rfl)) ?_
            try go_wp2
            go_roundg k3
            case measure => have := HK1.out; have := HK2.out; have := HK3.out; omega
            case rel => exact ⟨(y392), (wrap64 (x48_3 + 1)), xr, H', ⟨by have := HK1.out; have := HK2.out; have := HK3.out; omega⟩, ⟨by (with_reducible repeat (first | apply Kd.za4 | apply Kd.za3 | apply Kd.zaY)); exact Kd.zaQ HO394.out (fun _ hk => ⟨hk.1, ⟨hk.2.1, ⟨hk.2.2.1, hk.2.2.2.2.1⟩⟩⟩)⟩, ⟨by (with_reducible repeat (first | apply Kd.za4 | apply Kd.za3 | apply Kd.zaY)); exact Kd.zaQ HO_29.out (fun _ hk => ⟨hk.1.1, ⟨hk.2, ⟨hk.1.2.1, hk.1.2.2.2.2.1⟩⟩⟩)⟩, ⟨by (with_reducible repeat (first | apply Kd.za4 | apply Kd.za3 | apply Kd.zaY)); exact Kd.zaQ HO_46.out (fun _ hk => ⟨hk.1.1, ⟨hk.2, ⟨hk.1.2.1, hk.1.2.2.2.2.1⟩⟩⟩)⟩, ⟨xk BK354.out⟩, ⟨bh HB.out⟩⟩
           ·rw [if_neg c37] at H
            have c37b0 := decide_eq_false c37
            clear c37
            have H' := ax H
            clear H
            go_wp2
            go_roundg k3
            case measure => have := HK1.out; have := HK2.out; have := HK3.out; omega
            case rel => exact ⟨(x5_3), (wrap64 (x31_2 + 1)), xr, H', ⟨by have := HK1.out; have := HK2.out; have := HK3.out; omega⟩, ⟨by (with_reducible repeat (first | apply Kd.za4 | apply Kd.za3 | apply Kd.zaY)); exact Kd.zaQ HO_5.out (fun _ hk => ⟨hk.1, ⟨hk.2.1, hk.2.2.2⟩⟩)⟩, ⟨by (with_reducible repeat (first | apply Kd.za4 | apply Kd.za3 | apply Kd.zaY)); exact Kd.zaQ HO_29.out (fun _ hk => ⟨hk.1, ⟨hk.2.1, hk.2.2.2⟩⟩)⟩, ⟨xk BK354.out⟩, ⟨xs HB.out GE354.out⟩⟩
        ·replace c32 := Bool.eq_false_iff.mpr c32
         subst c32
         rw [if_neg (show ¬ (false = true) by decide)] at H
         have H' := ax H
         clear H
         have p373 : 0 ≤ (x31_2 : Int) := xd
         have q373 : x31_2 < (t370.length : Int) := xd
         obtain ⟨ad373, A373_0, c373_0, e373, hx373_0, hl373_0, hi373_0⟩ := zfa (Kd.zay HO_29.out).2.2 x31_2 p373 q373
         cases e373
         obtain ⟨ce373, hce373, hMe373, hcc373⟩ := Kd.zcl HO_29.out [] x31_2 p373 (by first | exact q373 | exact xd | (have e_ := (Kd.zay HO_29.out).1; omega))
         obtain ⟨ua373_0, uc373_0, rfl, ul373_0, ge373_0⟩ := Kd.zcg hMe373
         have hv373_0 := hcc373 0 _ rfl
         rw [Nat.add_zero, show ((Kd.slice 3 (Kd.int .i64))).sz = 1 from rfl, Nat.mul_one] at hv373_0
         replace hv373_0 := Option.some.inj (hv373_0.symm.trans hx373_0)
         injection hv373_0 with hva_ hvn_ hvc_
         rw [hva_] at ge373_0
         rw [hvc_] at ul373_0
         have HL373_0 := ax (show Kd.V (Kd.int .i64) 3 _ w.heap.size _ _ (zbX t370 x31_2) from Kd.V_mk ul373_0 ge373_0)
         clear hva_ hvn_ hvc_ ge373_0 ul373_0 hcc373 hce373
         have HR373_0 := ax hi373_0
         have HC373_0 := ax hl373_0
         clear hi373_0 hl373_0
         replace p373 := eq_true p373
         replace q373 := eq_true q373
         have hcz60_0 := bc0 BK354.out
         have hcz60_1 := bc1 BK354.out
         have hfz60_0 := zae BK354.out 0
         have hfz60_1 := zae BK354.out 1
         go_wp2_with (first | ((with_reducible refine zan (f := 71) rfl ?_); refine zaM (some 38) rfl rfl Try.func71 (by kernel_rfl) rfl #[.slice A0_1 l0_1.length c0_1, .slice A373_0 (zbX t370 x31_2).length c373_0] rfl xm ?_; (with_reducible refine (zaJ.calls k2 _ _ l0_1 _ _ (zbX t370 x31_2) false _ ?side1 ?side2 ?side3 ?side4 A31.out).mono ?_); (case side1 => exact xz HR0_1.out HB.out); (case side2 => exact HC0_1.out); (case side3 => exact xw HR373_0.out); (case side4 => exact HC373_0.out); rintro e w' ⟨rfl, ⟨nd, rfl⟩⟩; refine ⟨_, rfl, ?_⟩))
         go_roundg k2
         case measure => have := HK1.out; have := HK2.out; omega
         case rel => exact ⟨(x5_2), (wrap64 (x31_2 + 1)), xr, H', ⟨by have := HK1.out; have := HK2.out; omega⟩, ⟨xN HO_5.out⟩, ⟨xN HO_29.out⟩, ⟨xk BK354.out⟩, ⟨xs HB.out GE354.out⟩⟩
       ·rw [if_neg c28] at H
        have c28b0 := decide_eq_false c28
        clear c28
        have H' := ax H
        clear H
        go_wp2
        go_roundg k2
        case measure => have := HK1.out; have := HK2.out; omega
        case rel => exact ⟨(x5_2), (wrap64 (x23_1 + 1)), xr, H', ⟨by have := HK1.out; have := HK2.out; omega⟩, ⟨by (with_reducible repeat (first | apply Kd.za4 | apply Kd.za3 | apply Kd.zaY)); exact Kd.zaQ HO_5.out (fun _ hk => ⟨hk.1, hk.2.2⟩)⟩, ⟨xk BK354.out⟩, ⟨xs HB.out GE354.out⟩⟩
    ·rw [if_neg c23] at H
     have c23b0 := decide_eq_false c23
     clear c23
     obtain ⟨⟨t366, t367⟩, A61, H⟩ := xI H
     dsimp only at H
     obtain rfl := Option.some.inj H
     obtain ⟨Ao62, co62, eo62⟩ := Kd.zbx HO_5.out
     subst eo62
     go_wp2_with (first | ((with_reducible refine zan (f := 32) rfl ?_); refine zaM (some 69) rfl rfl Try.func32 (by kernel_rfl) rfl #[.int .i64 a1, .slice Ao62 x5_1.length co62] rfl xm ?_; (with_reducible refine (zav.calls k1 a1 _ _ x5_1 t366 t367 _ ?side1 ?side2 A61.out).mono ?_); (case side1 => exact xc (Kd.zay HO_5.out).2.2); (case side2 => exact (Kd.zay HO_5.out).2.1); rintro e w63 ⟨v368, rfl, ho0, hb⟩; refine ⟨_, rfl, ?_⟩; have HO369 := ax (Kd.zcD (Kd.zaQ (ok' := fun k_ => (w.heap.size ≤ k_) ∧ some k_ ≠ (.slice Ao62 x5_1.length co62 : Value).ownBlock ∧ k_ ≠ gb354) (Kd.S_N (Kd.zdh ho0)) (fun k_ hk_ => ⟨(Nat.le_trans (zaf (xs HB.out GE354.out)) hk_.2.1), (Kd.fresh' (Kd.N_lt (xN HO_5.out)) k_ hk_.2.1), (Kd.zb9 (g := gb354) (o := .cells #[.slice A0_0 l0_0.length c0_0, .slice A0_1 l0_1.length c0_1] 40 (0, 0)) (xk BK354.out) k_ hk_.2.1)⟩)) (zaf (xs HB.out GE354.out))); replace HO_5 := ax (Kd.zbI (xN HO_5.out) (by first | exact Kd.zdu ho0 | exact Kd.zcT ho0 | exact Kd.zbh ho0) hb); replace BK354 := ax (bb BK354.out hb); replace HB := ax (zat (xs HB.out GE354.out) hb); (try clear hb); (try clear ho0); obtain ⟨Aoq_, coq_, eoq_⟩ := Kd.zbx HO369.out; subst eoq_))
     go_ret
     exact ⟨_, xe, by (with_reducible repeat (first | apply Kd.za4 | apply Kd.za3 | apply Kd.zaY)); exact Kd.zaQ HO369.out (fun _ hk => hk.1), xs HB.out GE354.out⟩

end Go.Proofs.Ytneipehcmmigeaa.PFnExactSchurPoly
