import Derived.Test.YtneipehcmmigeaaPFnExactSchurPolyx4
namespace Go.Proofs.Ytneipehcmmigeaa.PFnExactSchurPoly
open Go.RowKit Go.Proofs.YtneipehcmmigeaaW.PrintWords Go.Proofs.YtneipehcmmigeaaW.PrintLast Go.Proofs.YtneipehcmmigeaaW.PrintMore
set_option linter.unusedVariables false
set_option linter.unusedSimpArgs false
set_option maxHeartbeats 8000000
set_option maxRecDepth 100000
/-! ### zcv: function 83 -/
def zcv.f (l0 : List Int) (a1 : Int) : Option (Int) := if a1 < 0 then (some 0) else (if a1 ≥ (l0.length : Int) then (some 0) else (if 0 ≤ a1 then (if a1 < (l0.length : Int) then (some (rd l0 a1)) else (none)) else (none)))
theorem zcv.calls (A0 : Option Addr) (c0 : Nat) (l0 : List Int) (a1 : Int) (r : Int) (w : World) (hr0 : Kd.C (Kd.int .i64) w A0 l0.length l0) (hc0 : l0.length ≤ c0) (h : zcv.f l0 a1 = some r) :
  Calls Try.prog 83 #[.slice A0 l0.length c0, .int .i64 a1] w fun e w' => e = .returned (.int .i64 r) ∧ zaE w w' := by
 have HR0 := ax hr0
 have HC0 := ax hc0
 clear hr0 hc0
 have H : (if a1 < 0 then (some 0) else (if a1 ≥ (l0.length : Int) then (some 0) else (if 0 ≤ a1 then (if a1 < (l0.length : Int) then (some (rd l0 a1)) else (none)) else (none)))) = some r := h
 clear h
 by_cases c3 : a1 < 0
 ·rw [if_pos c3] at H
  have c3b0 := decide_eq_true c3
  clear c3
  obtain rfl := Option.some.inj H
  go_enter Try.func83, Try.ntmps83
  go_wp2
  go_ret
  exact ⟨by first | rfl | (simp; done) | (simp [*]; done), by repeat (first | exact zaE.refl _ | apply zaE.step)⟩
 ·rw [if_neg c3] at H
  have c3b0 := decide_eq_false c3
  clear c3
  by_cases c4 : a1 ≥ (l0.length : Int)
  ·rw [if_pos c4] at H
   have c4b0 : decide ((l0.length : Int) ≤ a1) = true := decide_eq_true c4
   clear c4
   obtain rfl := Option.some.inj H
   go_enter Try.func83, Try.ntmps83
   go_wp2
   go_ret
   exact ⟨by first | rfl | (simp; done) | (simp [*]; done), by repeat (first | exact zaE.refl _ | apply zaE.step)⟩
  ·rw [if_neg c4] at H
   have c4b0 : decide ((l0.length : Int) ≤ a1) = false := decide_eq_false c4
   clear c4
   obtain ⟨c5b0, H⟩ := xq H
   obtain ⟨c6b0, H⟩ := xq H
   obtain rfl := Option.some.inj H
   have p180 : 0 ≤ (a1 : Int) := xd
   have q180 : a1 < (l0.length : Int) := xd
   obtain ⟨ad180, e180, hx180_0⟩ := Kd.zbK HR0.out a1 p180 q180
   cases e180
   replace p180 := eq_true p180
   replace q180 := eq_true q180
   go_enter Try.func83, Try.ntmps83
   go_wp2
   go_ret
   exact ⟨by first | rfl | (simp; done) | (simp [*]; done), by repeat (first | exact zaE.refl _ | apply zaE.step)⟩

/-! ### zaw: function 69 -/
mutual
def zaw.j0 : Nat → List Int → List Int → Int → Int → List (List Int) → Int → Option ((List (List Int)))
 | 0, _, _, _, _, _, _ => none
 | k + 1, x0, x1, x2, x3, x9, x10 => (zcv.f x0 x3).bind fun t193 => (zaw.l0 k x0 x1 x2 x3 x9 x10 t193)
def zaw.l0 : Nat → List Int → List Int → Int → Int → List (List Int) → Int → Int → Option ((List (List Int)))
 | 0, _, _, _, _, _, _, _ => none
 | k + 1, x0, x1, x2, x3, x9, x10, x11 => if x11 ≤ x10 then ((zcv.f x0 x3).bind fun t194 => (zaw.j2 k x0 x1 x2 x3 x9 x10 x11 (decide ((wrap64 (x11 - t194)) ≤ x2)))) else (zaw.j2 k x0 x1 x2 x3 x9 x10 x11 false)
def zaw.j2 : Nat → List Int → List Int → Int → Int → List (List Int) → Int → Int → Bool → Option ((List (List Int)))
 | 0, _, _, _, _, _, _, _, _ => none
 | k + 1, x0, x1, x2, x3, x9, x10, x11, x52 => if x52 = true then ((zcv.f x0 x3).bind fun t195 => ((zaw.f k x0 x1 (wrap64 ((wrap64 (x2 - x11)) + t195)) (wrap64 (x3 + 1))).bind fun t196 => (zaw.l1 k x0 x1 x2 x3 x9 x10 x11 t196 0))) else (some x9)
def zaw.l1 : Nat → List Int → List Int → Int → Int → List (List Int) → Int → Int → List (List Int) → Int → Option ((List (List Int)))
 | 0, _, _, _, _, _, _, _, _, _ => none
 | k + 1, x0, x1, x2, x3, x9, x10, x11, x12, x13 => if x13 < (x12.length : Int) then ((some (([x11] : List Int) : List Int)).bind fun y199 => (if 0 ≤ x13 then (if y199.length + (zbX x12 x13).length < 17592186044416 then (if x9.length < 5864062014805 then (zaw.l1 k x0 x1 x2 x3 (x9 ++ [(y199 ++ (zbX x12 x13))]) x10 x11 x12 (wrap64 (x13 + 1))) else (none)) else (none)) else (none))) else (zaw.l0 k x0 x1 x2 x3 x9 x10 (wrap64 (x11 + 1)))
def zaw.f : Nat → List Int → List Int → Int → Int → Option ((List (List Int)))
 | 0, _, _, _, _ => none
 | k + 1, l0, l1, a2, a3 => (some (([] : List (List Int)) : List (List Int))).bind fun y181 => (if a3 = (l1.length : Int) then (if a2 = 0 then (if y181.length < 5864062014805 then (some (y181 ++ [(([] : List Int))])) else (none)) else (some y181)) else (if 0 ≤ a3 then (if a3 < (l1.length : Int) then (if a3 > 0 then ((zcv.f l0 (wrap64 (a3 - 1))).bind fun t191 => ((zda.f (rd l1 a3) t191).bind fun t192 => (zaw.j0 k l0 l1 a2 a3 y181 t192))) else (zaw.j0 k l0 l1 a2 a3 y181 (rd l1 a3))) else (none)) else (none)))
end
theorem zaw.zaZ : ∀ k, (∀ y0 y1 y2 y3, LeO (zaw.f k y0 y1 y2 y3) (zaw.f (k + 1) y0 y1 y2 y3)) ∧ (∀ y0 y1 y2 y3 y4 y5, LeO (zaw.j0 k y0 y1 y2 y3 y4 y5) (zaw.j0 (k + 1) y0 y1 y2 y3 y4 y5)) ∧ (∀ y0 y1 y2 y3 y4 y5 y6, LeO (zaw.l0 k y0 y1 y2 y3 y4 y5 y6) (zaw.l0 (k + 1) y0 y1 y2 y3 y4 y5 y6)) ∧ (∀ y0 y1 y2 y3 y4 y5 y6 y7, LeO (zaw.j2 k y0 y1 y2 y3 y4 y5 y6 y7) (zaw.j2 (k + 1) y0 y1 y2 y3 y4 y5 y6 y7)) ∧ (∀ y0 y1 y2 y3 y4 y5 y6 y7 y8, LeO (zaw.l1 k y0 y1 y2 y3 y4 y5 y6 y7 y8) (zaw.l1 (k + 1) y0 y1 y2 y3 y4 y5 y6 y7 y8))
 | 0 => ⟨fun _ _ _ _ r h => by simp [zaw.f] at h, fun _ _ _ _ _ _ r h => by simp [zaw.j0] at h, fun _ _ _ _ _ _ _ r h => by simp [zaw.l0] at h, fun _ _ _ _ _ _ _ _ r h => by simp [zaw.j2] at h, fun _ _ _ _ _ _ _ _ _ r h => by simp [zaw.l1] at h⟩
 | k + 1 => by
  obtain ⟨ih0, ih1, ih2, ih3, ih4⟩ := zaw.zaZ k
  refine ⟨?_, ?_, ?_, ?_, ?_⟩ <;> intros <;> (first | unfold zaw.f | unfold zaw.j0 | unfold zaw.l0 | unfold zaw.j2 | unfold zaw.l1) <;> repeat' with_reducible first | exact ih0 _ _ _ _ | exact ih1 _ _ _ _ _ _ | exact ih2 _ _ _ _ _ _ _ | exact ih3 _ _ _ _ _ _ _ _ | exact ih4 _ _ _ _ _ _ _ _ _ | exact xl | refine LeO.ite ?_ ?_ | refine LeO.bind ?_ fun _ => ?_
theorem zaw.mono : ∀ a0 a1 a2 a3 k, LeO (zaw.f k a0 a1 a2 a3) (zaw.f (k + 1) a0 a1 a2 a3) := by
 intro a0 a1 a2 a3 k
 obtain ⟨ih0, ih1, ih2, ih3, ih4⟩ := zaw.zaZ k
 exact ih0 a0 a1 a2 a3
theorem zaw.calls (k : Nat) : ∀ (A0 : Option Addr) (c0 : Nat) (l0 : List Int) (A1 : Option Addr) (c1 : Nat) (l1 : List Int) (a2 : Int) (a3 : Int) (r : List (List Int)) (w : World) (hr0 : Kd.C (Kd.int .i64) w A0 l0.length l0) (hc0 : l0.length ≤ c0) (hr1 : Kd.C (Kd.int .i64) w A1 l1.length l1) (hc1 : l1.length ≤ c1) (h : zaw.f k l0 l1 a2 a3 = some r),
  Calls Try.prog 69 #[.slice A0 l0.length c0, .slice A1 l1.length c1, .int .i64 a2, .int .i64 a3] w fun e w' => ∃ v0_ : Value, e = .returned (v0_) ∧ Kd.S (Kd.slice 3 (Kd.int .i64)) 35 w' w.heap.size (fun _ => True) v0_ r ∧ Below w.heap.size w w' := by
 induction k using Nat.strongRecOn with
 | _ k ih =>
 intro A0 c0 l0 A1 c1 l1 a2 a3 r w hr0 hc0 hr1 hc1 h
 cases k with
 | zero => exact absurd h (by simp [zaw.f])
 | succ k =>
 simp only [zaw.f] at h
 have HR0 := ax hr0
 have HC0 := ax hc0
 clear hr0 hc0
 have HR1 := ax hr1
 have HC1 := ax hc1
 clear hr1 hc1
 have HB := ax (Below.refl w.heap.size w)
 have H : ((some (([] : List (List Int)) : List (List Int))).bind fun y181 => (if a3 = (l1.length : Int) then (if a2 = 0 then (if y181.length < 5864062014805 then (some (y181 ++ [(([] : List Int))])) else (none)) else (some y181)) else (if 0 ≤ a3 then (if a3 < (l1.length : Int) then (if a3 > 0 then ((zcv.f l0 (wrap64 (a3 - 1))).bind fun t191 => ((zda.f (rd l1 a3) t191).bind fun t192 => (zaw.j0 k l0 l1 a2 a3 y181 t192))) else (zaw.j0 k l0 l1 a2 a3 y181 (rd l1 a3))) else (none)) else (none)))) = some r := h
 clear h
 obtain ⟨y181, Ny181, H⟩ := xg H
 by_cases c5 : a3 = (l1.length : Int)
 ·rw [if_pos c5] at H
  have c5b0 : (a3 == (l1.length : Int)) = true := beq_iff_eq.mpr c5
  have c5b1 : (a3 != (l1.length : Int)) = false := bne_eq_false_iff_eq.mpr c5
  clear c5
  by_cases c6 : a2 = 0
  ·rw [if_pos c6] at H
   have c6b0 : (a2 == 0) = true := beq_iff_eq.mpr c6
   have c6b1 : (a2 != 0) = false := bne_eq_false_iff_eq.mpr c6
   clear c6
   obtain ⟨y184, hy184⟩ : ∃ y_ : List Int, y_ = (([] : List Int)) := ⟨_, rfl⟩
   replace H : (if y181.length < 5864062014805 then (some (y181 ++ [y184])) else (none)) = some r := xv hy184 H
   have Ny184 := ax hy184
   clear hy184
   obtain ⟨c7, H⟩ := xp H
   have LMc7 := ax c7
   clear c7
   obtain ⟨y187, hy187⟩ : ∃ y_ : List (List Int), y_ = (y181 ++ [y184]) := ⟨_, rfl⟩
   replace H : (some y187) = some r := xv hy187 H
   have Ny187 := ax hy187
   clear hy187
   obtain rfl := Option.some.inj H
   go_enter Try.func69, Try.ntmps69
   go_wp2_with (first | ((with_reducible refine zaG (N := 14) rfl ?_); refine Kd.ziS (Kd.slice 3 (Kd.int .i64)) _ 35 ?hg (N := 14) ?hd (xs := ([] : List (List Int))) (inner := []) (ok := fun _ => True) (okp := fun _ => True) ?hr ?hp (fun _ hk => hk) trivial (Below.refl _ _) (Nat.le_refl _) (by simp) ?_; (case hd => rfl); (case hg => rfl); (case hr => first | (go_simp; done) | (go_simp; rfl)); (case hp => exact (Reps.none _ _)); intro v182 w8 ho9 hb hg_ hnew_; clear hg_ hnew_; (first | rw [← Ny181.out] at ho9 | (simp only [Int.reduceToNat] at ho9; rw [← Ny181.out] at ho9)); have HO183 := ax (Kd.zcZ ho9 (zaf (xb HB.out))); replace HB := yB HB hb; clear hb ho9) | ((with_reducible refine zaG (N := 22) rfl ?_); refine Kd.zes (Kd.int .i64) _ 3 ?hg (N := 22) ?hd (xs := ([] : List Int)) (inner := []) (ok := fun _ => True) (okp := fun _ => True) ?hr ?hp (fun _ hk => hk) trivial (Below.refl _ _) (Nat.le_refl _) (by simp) ?_; (case hd => rfl); (case hg => rfl); (case hr => first | (go_simp; done) | (go_simp; rfl)); (case hp => exact (Reps.none _ _)); intro v185 w10 ho11 hb hg_ hnew_; clear hg_ hnew_; (first | rw [← Ny184.out] at ho11 | (simp only [Int.reduceToNat] at ho11; rw [← Ny184.out] at ho11)); replace HO183 := ax (Kd.zc2 (xS HO183.out) (Kd.zbh ho11) hb); have HO186 := ax (Kd.zbL ho11 (zaf (xb HB.out))); replace HB := yB HB hb; clear hb ho11; obtain ⟨Ao13, co13, eo13⟩ := Kd.zbT HO186.out; subst eo13) | ((with_reducible refine zbN (b := .append) (xs := #[.tmp 21, .tmp 23]) rfl ?_); at_builtin; refine Kd.zeP (Kd.slice 3 (Kd.int .i64)) (w0 := w) w.heap.size rfl (.tmp 21) (.tmp 23) 64 35 (.slice none 0 0) 24 rfl Try.underlying64 zfr rfl (by decide) (by omega) v182 y181 y184 [.slice Ao13 y184.length co13] (fun _ => True) (fun k_ => some k_ = (.slice Ao13 y184.length co13 : Value).ownBlock) rfl rfl ?aP (fun k_ hk_ => ((Kd.za7 (ok' := fun k_ => ((fun _ => True)) k_ ∧ some k_ ≠ (v182 : Value).ownBlock) (Kd.zbP (HO186.out) (Kd.zc7 HO183.out) (by decide)) (fun k_ hk => ⟨trivial, hk.2⟩))).1 k_ hk_.symm) ?aF ?aO ?aB ?aS ?aL ?_; (case aP => exact Kd.zjD (Kd.za7 (Kd.zdi rfl (Kd.za7 (ok' := fun k_ => ((fun _ => True)) k_ ∧ some k_ ≠ (v182 : Value).ownBlock) (Kd.zbP (HO186.out) (Kd.zc7 HO183.out) (by decide)) (fun k_ hk => ⟨trivial, hk.2⟩))) (fun _ h_ => h_))); (case aB => exact (xb HB.out)); (case aF => exact (fun _ _ => trivial)); (case aO => exact (by (with_reducible repeat (first | apply Kd.zbk | apply Kd.zbf | apply Kd.zbw)); exact Kd.zbr HO183.out (fun k_ hk => ⟨trivial, fun e_ => hk.2 e_⟩))); (case aS => exact (zaf (xb HB.out))); (case aL => have := LMc7.out; omega); intro v188 w12 ho hb hg hat; rw [← Ny187.out] at ho; have n0_ := ax (hb); have n1_ := ax (ho); clear HB; clear HO183; clear HO186; have HB := n0_; have HO189 := n1_; clear n0_ n1_; clear ho hb hg hat))
   go_ret
   exact ⟨_, xe, xS HO189.out, xb HB.out⟩
  ·rw [if_neg c6] at H
   have c6b0 : (a2 == 0) = false := beq_eq_false_iff_ne.mpr c6
   have c6b1 : (a2 != 0) = true := bne_iff_ne.mpr c6
   obtain rfl := Option.some.inj H
   go_enter Try.func69, Try.ntmps69
   go_wp2_with (first | ((with_reducible refine zaG (N := 14) rfl ?_); refine Kd.ziS (Kd.slice 3 (Kd.int .i64)) _ 35 ?hg (N := 14) ?hd (xs := ([] : List (List Int))) (inner := []) (ok := fun _ => True) (okp := fun _ => True) ?hr ?hp (fun _ hk => hk) trivial (Below.refl _ _) (Nat.le_refl _) (by simp) ?_; (case hd => rfl); (case hg => rfl); (case hr => first | (go_simp; done) | (go_simp; rfl)); (case hp => exact (Reps.none _ _)); intro v182 w14 ho15 hb hg_ hnew_; clear hg_ hnew_; (first | rw [← Ny181.out] at ho15 | (simp only [Int.reduceToNat] at ho15; rw [← Ny181.out] at ho15)); have HO183 := ax (Kd.zcZ ho15 (zaf (xb HB.out))); replace HB := yB HB hb; clear hb ho15))
   go_ret
   exact ⟨_, xe, xS HO183.out, xb HB.out⟩
 ·rw [if_neg c5] at H
  have c5b0 : (a3 == (l1.length : Int)) = false := beq_eq_false_iff_ne.mpr c5
  have c5b1 : (a3 != (l1.length : Int)) = true := bne_iff_ne.mpr c5
  obtain ⟨c16b0, H⟩ := xq H
  obtain ⟨c17b0, H⟩ := xq H
  have HC18 := ax H
  clear H
  go_enter Try.func69, Try.ntmps69
  go_upto_if 31 with (first | ((with_reducible refine zaG (N := 14) rfl ?_); refine Kd.ziS (Kd.slice 3 (Kd.int .i64)) _ 35 ?hg (N := 14) ?hd (xs := ([] : List (List Int))) (inner := []) (ok := fun _ => True) (okp := fun _ => True) ?hr ?hp (fun _ hk => hk) trivial (Below.refl _ _) (Nat.le_refl _) (by simp) ?_; (case hd => rfl); (case hg => rfl); (case hr => first | (go_simp; done) | (go_simp; rfl)); (case hp => exact (Reps.none _ _)); intro v182 w19 ho20 hb hg_ hnew_; clear hg_ hnew_; (first | rw [← Ny181.out] at ho20 | (simp only [Int.reduceToNat] at ho20; rw [← Ny181.out] at ho20)); have HO183 := ax (Kd.zcZ ho20 (zaf (xb HB.out))); replace HB := yB HB hb; clear hb ho20; have p190 : 0 ≤ (a3 : Int) := xd; have q190 : a3 < (l1.length : Int) := xd; obtain ⟨ad190, e190, hx190_0⟩ := Kd.zbK HR1.out a3 p190 q190; cases e190; replace hx190_0 := (HB.out.cell (World.block_lt_of_cell? w _ hx190_0)).trans hx190_0; replace p190 := eq_true p190; replace q190 := eq_true q190))
  (try simp only [Act.put, List.setIfInBounds_toArray, List.set_cons_zero, List.set_cons_succ])
  go_cut [10] (fun v10 wc => ∃ (kq : Nat) (x10_17 : Int), v10 = .int .i64 x10_17 ∧ zao (zaw.j0 kq l0 l1 a2 a3 y181 x10_17 = some r) ∧ zao (kq ≤ k) ∧ zao (Kd.S (Kd.slice 3 (Kd.int .i64)) 35 wc w.heap.size (fun _ => True) v182 y181) ∧ zao (Below w.heap.size w wc))
  case first =>
   have H := HC18.out
   clear HC18
   by_cases c21 : a3 > 0
   ·rw [if_pos c21] at H
    have c21b0 : decide (0 < a3) = true := decide_eq_true c21
    clear c21
    (first | rw [c21b0] | (simp only [zcd, zcw]; rw [c21b0]) | skip)
    obtain ⟨t191, A22, H⟩ := xI H
    obtain ⟨t192, A23, H⟩ := xI H
    have H' := ax H
    clear H
    go_wp2_with (first | ((with_reducible refine zan (f := 83) rfl ?_); refine zaM (some 36) rfl rfl Try.func83 (by kernel_rfl) rfl #[.slice A0 l0.length c0, .int .i64 (wrap64 (a3 - 1))] rfl xm ?_; (with_reducible refine (zcv.calls _ _ l0 (wrap64 (a3 - 1)) t191 _ ?side1 ?side2 A22.out).mono ?_); (case side1 => exact xz HR0.out HB.out); (case side2 => exact HC0.out); rintro e w' ⟨rfl, ⟨nd, rfl⟩⟩; refine ⟨_, rfl, ?_⟩) | ((with_reducible refine zan (f := 82) rfl ?_); refine zaM (some 37) rfl rfl Try.func82 (by kernel_rfl) rfl #[.int .i64 (rd l1 a3), .int .i64 t191] rfl xm ?_; (with_reducible refine (zda.calls (rd l1 a3) t191 t192 _ A23.out).mono ?_); rintro e w' ⟨rfl, ⟨nd, rfl⟩⟩; refine ⟨_, rfl, ?_⟩))
    go_meet
    case rel => exact ⟨_, (t192), xr, H', ⟨by first | omega | exact Nat.le_refl _⟩, ⟨xS HO183.out⟩, ⟨xb HB.out⟩⟩
   ·rw [if_neg c21] at H
    have c21b0 : decide (0 < a3) = false := decide_eq_false c21
    clear c21
    (first | rw [c21b0] | (simp only [zcd, zcw]; rw [c21b0]) | skip)
    have H' := ax H
    clear H
    go_wp2
    go_meet
    case rel => exact ⟨_, (rd l1 a3), xr, H', ⟨by first | omega | exact Nat.le_refl _⟩, ⟨xS HO183.out⟩, ⟨xb HB.out⟩⟩
  case rest =>
   clear HC18
   (try clear c1); (try clear c5); (try clear c5b0); (try clear c5b1); (try clear c6); (try clear c6b0); (try clear c6b1); (try clear c7); (try clear c16); (try clear c16b0); (try clear c17); (try clear c17b0); (try clear c21); (try clear c21b0); (try clear hx190_0); (try clear p190); (try clear q190)
   obtain ⟨kq, x10_17, rfl, HA, HJ17, HO_9, HB⟩ := hcut
   cases kq with
   | zero => exact absurd HA.out (by simp [zaw.j0])
   | succ kj17 =>
    have H := HA.out
    clear HA
    simp only [zaw.j0] at H
    obtain ⟨t193, A24, H⟩ := xI H
    have H' := ax H
    clear H
    go_wp2_with (first | ((with_reducible refine zan (f := 83) rfl ?_); refine zaM (some 40) rfl rfl Try.func83 (by kernel_rfl) rfl #[.slice A0 l0.length c0, .int .i64 a3] rfl xm ?_; (with_reducible refine (zcv.calls _ _ l0 a3 t193 _ ?side1 ?side2 A24.out).mono ?_); (case side1 => exact xz HR0.out HB.out); (case side2 => exact HC0.out); rintro e w' ⟨rfl, ⟨nd, rfl⟩⟩; refine ⟨_, rfl, ?_⟩))
    go_loopg [9, 11] kj17 (fun kq v9 v11 w' => ∃ (x9_2 : List (List Int)) (x11_2 : Int), v11 = .int .i64 x11_2 ∧ zao (zaw.l0 kq l0 l1 a2 a3 x9_2 x10_17 x11_2 = some r) ∧ zao (kq ≤ kj17) ∧ zao (Kd.S (Kd.slice 3 (Kd.int .i64)) 35 w' w.heap.size (fun _ => True) v9 x9_2) ∧ zao (Below w.heap.size w w'))
    case atStart => exact ⟨(y181), (t193), xr, H', ⟨Nat.le_refl _⟩, ⟨xS HO_9.out⟩, ⟨xb HB.out⟩⟩
    case round =>
     clear H'
     (try clear c1); (try clear c5); (try clear c5b0); (try clear c5b1); (try clear c6); (try clear c6b0); (try clear c6b1); (try clear c7); (try clear c16); (try clear c16b0); (try clear c17); (try clear c17b0); (try clear c21); (try clear c21b0); (try clear hx190_0); (try clear p190); (try clear q190)
     obtain ⟨x9_2, x11_2, rfl, HA, HK2, HO_9, HB⟩ := hrel
     cases gk with
     | zero => exact absurd HA.out (by simp [zaw.l0])
     | succ k2 =>
      have H := HA.out
      clear HA
      simp only [zaw.l0] at H
      have HC25 := ax H
      clear H
      go_upto_region 10 with (fail)
      go_cut [52] (fun v52 wc => ∃ (kq : Nat) (x52_24 : Bool), v52 = .bool x52_24 ∧ zao (zaw.j2 kq l0 l1 a2 a3 x9_2 x10_17 x11_2 x52_24 = some r) ∧ zao (kq ≤ k2) ∧ zao (Kd.S (Kd.slice 3 (Kd.int .i64)) 35 wc w.heap.size (fun _ => True) u9 x9_2) ∧ zao (Below w.heap.size w wc))
      case first =>
       have H := HC25.out
       clear HC25
       by_cases c26 : x11_2 ≤ x10_17
       ·rw [if_pos c26] at H
        have c26b0 := decide_eq_true c26
        clear c26
        (first | rw [c26b0] | (simp only [zcd, zcw]; rw [c26b0]) | skip)
        obtain ⟨t194, A27, H⟩ := xI H
        have H' := ax H
        clear H
        go_wp2_with (first | (go_at_call 83; (with_reducible refine (zcv.calls _ _ l0 a3 t194 _ ?side1 ?side2 A27.out).mono ?_); (case side1 => exact xz HR0.out HB.out); (case side2 => exact HC0.out); rintro e w' ⟨rfl, ⟨nd, rfl⟩⟩))
        go_meet
        case rel => exact ⟨_, (decide ((wrap64 (x11_2 - t194)) ≤ a2)), xr, H', ⟨by have := HJ17.out; have := HK2.out; first | omega | exact Nat.le_refl _⟩, ⟨xS HO_9.out⟩, ⟨xb HB.out⟩⟩
       ·rw [if_neg c26] at H
        have c26b0 := decide_eq_false c26
        clear c26
        (first | rw [c26b0] | (simp only [zcd, zcw]; rw [c26b0]) | skip)
        have H' := ax H
        clear H
        go_wp2
        go_meet
        case rel => exact ⟨_, (false), xr, H', ⟨by have := HJ17.out; have := HK2.out; first | omega | exact Nat.le_refl _⟩, ⟨xS HO_9.out⟩, ⟨xb HB.out⟩⟩
      case rest =>
       clear HC25
       (try clear c1); (try clear c5); (try clear c5b0); (try clear c5b1); (try clear c6); (try clear c6b0); (try clear c6b1); (try clear c7); (try clear c16); (try clear c16b0); (try clear c17); (try clear c17b0); (try clear c21); (try clear c21b0); (try clear c26); (try clear c26b0); (try clear hx190_0); (try clear p190); (try clear q190)
       obtain ⟨kq, x52_24, rfl, HA, HJ24, HO_9, HB⟩ := hcut
       cases kq with
       | zero => exact absurd HA.out (by simp [zaw.j2])
       | succ kj24 =>
        have H := HA.out
        clear HA
        simp only [zaw.j2] at H
        by_cases c28 : x52_24 = true
        ·subst c28
         rw [if_pos rfl] at H
         obtain ⟨t195, A29, H⟩ := xI H
         obtain ⟨t196, A30, H⟩ := xI H
         have H' := ax H
         clear H
         go_wp2_with (first | ((with_reducible refine zan (f := 83) rfl ?_); refine zaM (some 62) rfl rfl Try.func83 (by kernel_rfl) rfl #[.slice A0 l0.length c0, .int .i64 a3] rfl xm ?_; (with_reducible refine (zcv.calls _ _ l0 a3 t195 _ ?side1 ?side2 A29.out).mono ?_); (case side1 => exact xz HR0.out HB.out); (case side2 => exact HC0.out); rintro e w' ⟨rfl, ⟨nd, rfl⟩⟩; refine ⟨_, rfl, ?_⟩) | ((with_reducible refine zan (f := 69) rfl ?_); refine zaM (some 66) rfl rfl Try.func69 (by kernel_rfl) rfl #[.slice A0 l0.length c0, .slice (some ad190) l1.length c1, .int .i64 (wrap64 ((wrap64 (a2 - x11_2)) + t195)), .int .i64 (wrap64 (a3 + 1))] rfl xm ?_; (with_reducible refine (ih kj24 (by have := HJ17.out; have := HK2.out; have := HJ24.out; omega) _ _ l0 _ _ l1 (wrap64 ((wrap64 (a2 - x11_2)) + t195)) (wrap64 (a3 + 1)) t196 _ ?side1 ?side2 ?side3 ?side4 A30.out).mono ?_); (case side1 => exact xc (Kd.za8 HR0.out (xb HB.out))); (case side2 => exact HC0.out); (case side3 => exact xc (Kd.za8 HR1.out (xb HB.out))); (case side4 => exact HC1.out); rintro e w31 ⟨v197, rfl, ho0, hb⟩; refine ⟨_, rfl, ?_⟩; have HO198 := ax (Kd.zcZ (Kd.zdg ho0 (Kd.S_lt (xS HO_9.out))) (zaf (xb HB.out))); replace HO_9 := ax (Kd.zc2 (xS HO_9.out) (Kd.zcT ho0) hb); replace HB := yB HB hb; (try clear hb); (try clear ho0)))
         go_loopg [9, 13] kj24 (fun kq v9 v13 w' => ∃ (x9_4 : List (List Int)) (x13_4 : Int), v13 = .int .i64 x13_4 ∧ zao (zaw.l1 kq l0 l1 a2 a3 x9_4 x10_17 x11_2 t196 x13_4 = some r) ∧ zao (kq ≤ kj24) ∧ zao (Kd.S (Kd.slice 3 (Kd.int .i64)) 35 w' w.heap.size (fun k_ => some k_ ≠ (v197 : Value).ownBlock) v9 x9_4) ∧ zao (Kd.S (Kd.slice 3 (Kd.int .i64)) 35 w' w.heap.size (fun k_ => some k_ ≠ (v9 : Value).ownBlock) v197 t196) ∧ zao (Below w.heap.size w w'))
         case atStart => exact ⟨(x9_2), (0), xr, H', ⟨Nat.le_refl _⟩, ⟨by (with_reducible repeat (first | apply Kd.zbk | apply Kd.zbf | apply Kd.zbw)); exact Kd.zbr HO_9.out (fun _ hk => hk.2)⟩, ⟨by (with_reducible repeat (first | apply Kd.zbk | apply Kd.zbf | apply Kd.zbw)); exact Kd.zbr HO198.out (fun _ hk => hk.2)⟩, ⟨xb HB.out⟩⟩
         case round =>
          clear H'
          (try clear c1); (try clear c5); (try clear c5b0); (try clear c5b1); (try clear c6); (try clear c6b0); (try clear c6b1); (try clear c7); (try clear c16); (try clear c16b0); (try clear c17); (try clear c17b0); (try clear c21); (try clear c21b0); (try clear c26); (try clear c26b0); (try clear c28); (try clear hx190_0); (try clear p190); (try clear q190)
          obtain ⟨x9_4, x13_4, rfl, HA, HK4, HO_9, HO_12, HB⟩ := hrel
          cases gk with
          | zero => exact absurd HA.out (by simp [zaw.l1])
          | succ k4 =>
           have H := HA.out
           clear HA
           simp only [zaw.l1] at H
           by_cases c32 : x13_4 < (t196.length : Int)
           ·rw [if_pos c32] at H
            have c32b0 := decide_eq_true c32
            clear c32
            obtain ⟨y199, Ny199, H⟩ := xg H
            obtain ⟨c33b0, H⟩ := xq H
            obtain ⟨c34, H⟩ := xp H
            have LMc34 := ax c34
            clear c34
            obtain ⟨y203, hy203⟩ : ∃ y_ : List Int, y_ = (y199 ++ (zbX t196 x13_4)) := ⟨_, rfl⟩
            replace H : (if x9_4.length < 5864062014805 then (zaw.l1 k4 l0 l1 a2 a3 (x9_4 ++ [y203]) x10_17 x11_2 t196 (wrap64 (x13_4 + 1))) else (none)) = some r := xv hy203 H
            have Ny203 := ax hy203
            clear hy203
            obtain ⟨c35, H⟩ := xp H
            have LMc35 := ax c35
            clear c35
            obtain ⟨y206, hy206⟩ : ∃ y_ : List (List Int), y_ = (x9_4 ++ [y203]) := ⟨_, rfl⟩
            replace H : (zaw.l1 k4 l0 l1 a2 a3 y206 x10_17 x11_2 t196 (wrap64 (x13_4 + 1))) = some r := xv hy206 H
            have Ny206 := ax hy206
            clear hy206
            have H' := ax H
            clear H
            obtain ⟨Ao36, co36, eo36⟩ := Kd.zcY HO_12.out
            subst eo36
            go_wp2_with (first | ((with_reducible refine zaG (N := 75) rfl ?_); refine Kd.zes (Kd.int .i64) _ 3 ?hg (N := 75) ?hd (xs := ([x11_2] : List Int)) (inner := [.int .i64 x11_2]) (ok := fun _ => True) (okp := fun _ => True) ?hr ?hp (fun _ hk => hk) trivial (Below.refl _ _) (Nat.le_refl _) (by simp) ?_; (case hd => rfl); (case hg => rfl); (case hr => first | (go_simp; done) | (go_simp; rfl)); (case hp => exact (Reps.one (show Kd.M (Kd.int .i64) _ _ _ x11_2 [.int .i64 x11_2] from rfl) (Reps.none _ _))); intro v200 w37 ho38 hb hg_ hnew_; clear hg_ hnew_; (first | rw [← Ny199.out] at ho38 | (simp only [Int.reduceToNat] at ho38; rw [← Ny199.out] at ho38)); replace HO_9 := ax (Kd.zc2 (xS HO_9.out) (Kd.zbh ho38) hb); replace HO_12 := ax (Kd.zc2 (xS HO_12.out) (Kd.zbh ho38) hb); have HO201 := ax (Kd.zbL ho38 (zaf (xb HB.out))); replace HB := yB HB hb; clear hb ho38; have p202 : 0 ≤ (x13_4 : Int) := xd; have q202 : x13_4 < (t196.length : Int) := xd; obtain ⟨ad202, A202_0, c202_0, e202, hx202_0, hl202_0, hi202_0⟩ := zfa (Kd.zbg HO_12.out).2.2 x13_4 p202 q202; cases e202; obtain ⟨ce202, hce202, hMe202, hcc202⟩ := Kd.zkx HO_12.out [] x13_4 p202 (by first | exact q202 | exact xd | (have e_ := (Kd.zbg HO_12.out).1; omega)); obtain ⟨ve202_0, rfl, ge202_0⟩ := hMe202; have hv202_0 := hcc202 0 _ rfl; rw [Nat.add_zero, show ((Kd.slice 3 (Kd.int .i64))).sz = 1 from rfl, Nat.mul_one] at hv202_0; replace hv202_0 := Option.some.inj (hv202_0.symm.trans hx202_0); rw [hv202_0] at ge202_0; have HL202_0 := ax (show Kd.R (Kd.int .i64) 3 _ _ _ _ (zbX t196 x13_4) from ge202_0); clear hv202_0 ge202_0; clear hcc202 hce202; have HR202_0 := ax hi202_0; have HC202_0 := ax hl202_0; clear hi202_0 hl202_0; replace p202 := eq_true p202; replace q202 := eq_true q202) | ((with_reducible refine zbN (b := .append) (xs := #[.tmp 75, .tmp 79]) rfl ?_); at_builtin; refine Kd.zcu (Kd.int .i64) (w0 := w) w.heap.size rfl (.tmp 75) (.tmp 79) 35 3 (.int .i64 0) 8 rfl Try.underlying35 zfj rfl (by decide) (by omega) v200 y199 (zbX t196 x13_4) _ _ _ (fun _ => True) (fun _ => False) rfl rfl ?aO ?aR (fun _ _ h => h) (fun _ h => h.elim) ?aF ?aB ?aS ?aL ?_; (case aR => exact xw HR202_0.out); (case aB => exact (xb HB.out)); (case aF => exact (fun _ _ => trivial)); (case aO => exact (xR HO201.out)); (case aS => exact (zaf (xb HB.out))); (case aL => have := LMc34.out; omega); intro v204 w39 ho hb hg hat; rw [← Ny203.out] at ho; have n0_ := ax (Kd.zeq (ok := (fun k_ => some k_ ≠ (.slice (some ad202) t196.length co36 : Value).ownBlock)) (xS HO_9.out) hg hat); have n1_ := ax (Kd.zeq (ok := (fun k_ => some k_ ≠ (u9 : Value).ownBlock)) (xS HO_12.out) hg hat); have n2_ := ax (Kd.zet (ok := (fun k_ => some k_ ≠ (u9 : Value).ownBlock ∧ some k_ ≠ (.slice (some ad202) t196.length co36 : Value).ownBlock)) (by (with_reducible repeat (first | apply Kd.zbd | apply Kd.zbc | apply Kd.zbq)); exact Kd.za7 HL202_0.out (fun _ hk => ⟨⟨hk.1.1, hk.2⟩, hk.1.2⟩)) hg hat); have n3_ := ax (hb); have n4_ := ax (ho); clear HO_9; clear HO_12; clear HL202_0; clear HB; clear HO201; have HO_9 := n0_; have HO_12 := n1_; have HL202_0 := n2_; have HB := n3_; have HO205 := n4_; clear n0_ n1_ n2_ n3_ n4_; clear ho hb hg hat; obtain ⟨Ao41, co41, eo41⟩ := Kd.zbT HO205.out; subst eo41) | ((with_reducible refine zbN (b := .append) (xs := #[.tmp 73, .tmp 81]) rfl ?_); at_builtin; refine Kd.zeP (Kd.slice 3 (Kd.int .i64)) (w0 := w) w.heap.size rfl (.tmp 73) (.tmp 81) 64 35 (.slice none 0 0) 24 rfl Try.underlying64 zfr rfl (by decide) (by omega) u9 x9_4 y203 [.slice Ao41 y203.length co41] (fun k_ => some k_ ≠ (.slice (some ad202) t196.length co36 : Value).ownBlock) (fun k_ => some k_ = (.slice Ao41 y203.length co41 : Value).ownBlock) rfl rfl ?aP (fun k_ hk_ => ((Kd.za7 (ok' := fun k_ => ((fun k_ => some k_ ≠ (.slice (some ad202) t196.length co36 : Value).ownBlock)) k_ ∧ some k_ ≠ (u9 : Value).ownBlock) (Kd.zbP (Kd.zbP (HO205.out) (Kd.zc7 HO_12.out) (by decide)) (Kd.zc7 HO_9.out) (by decide)) (fun k_ hk => ⟨hk.1.2, hk.2⟩))).1 k_ hk_.symm) ?aF ?aO ?aB ?aS ?aL ?_; (case aP => exact Kd.zjD (Kd.za7 (Kd.zdi rfl (Kd.za7 (ok' := fun k_ => ((fun k_ => some k_ ≠ (.slice (some ad202) t196.length co36 : Value).ownBlock)) k_ ∧ some k_ ≠ (u9 : Value).ownBlock) (Kd.zbP (Kd.zbP (HO205.out) (Kd.zc7 HO_12.out) (by decide)) (Kd.zc7 HO_9.out) (by decide)) (fun k_ hk => ⟨hk.1.2, hk.2⟩))) (fun _ h_ => h_))); (case aB => exact (xb HB.out)); (case aF => exact (fun k_ hk => Kd.fresh' (Kd.S_lt (xS HO_12.out)) k_ hk)); (case aO => exact (by (with_reducible repeat (first | apply Kd.zbk | apply Kd.zbf | apply Kd.zbw)); exact Kd.zbr HO_9.out (fun k_ hk => ⟨hk.1, fun e_ => hk.2 e_⟩))); (case aS => exact (zaf (xb HB.out))); (case aL => have := LMc35.out; omega); intro v207 w40 ho hb hg hat; rw [← Ny206.out] at ho; have n0_ := ax (Kd.zeq (ok := (fun k_ => some k_ ≠ (.slice Ao41 y203.length co41 : Value).ownBlock)) (by (with_reducible repeat (first | apply Kd.zbk | apply Kd.zbf | apply Kd.zbw)); exact Kd.zbr HO_12.out (fun _ hk => ⟨hk.2, hk.1⟩)) hg hat); have n1_ := ax (Kd.zet (ok := (fun k_ => some k_ ≠ (.slice (some ad202) t196.length co36 : Value).ownBlock ∧ some k_ ≠ (.slice Ao41 y203.length co41 : Value).ownBlock)) (by (with_reducible repeat (first | apply Kd.zbd | apply Kd.zbc | apply Kd.zbq)); exact Kd.za7 HL202_0.out (fun _ hk => ⟨⟨hk.1.2, hk.2⟩, hk.1.1⟩)) hg hat); have n2_ := ax (hb); have n3_ := ax (ho); clear HO_12; clear HL202_0; clear HB; clear HO_9; clear HO205; have HO_12 := n0_; have HL202_0 := n1_; have HB := n2_; have HO208 := n3_; clear n0_ n1_ n2_ n3_; clear ho hb hg hat))
            go_roundg k4
            case measure => have := HJ17.out; have := HK2.out; have := HJ24.out; have := HK4.out; omega
            case rel => exact ⟨(y206), (wrap64 (x13_4 + 1)), xr, H', ⟨by have := HJ17.out; have := HK2.out; have := HJ24.out; have := HK4.out; omega⟩, ⟨xS HO208.out⟩, ⟨by (with_reducible repeat (first | apply Kd.zbk | apply Kd.zbf | apply Kd.zbw)); exact Kd.zbr HO_12.out (fun _ hk => hk.2)⟩, ⟨xb HB.out⟩⟩
           ·rw [if_neg c32] at H
            have c32b0 := decide_eq_false c32
            clear c32
            have H' := ax H
            clear H
            obtain ⟨Ao42, co42, eo42⟩ := Kd.zcY HO_12.out
            subst eo42
            go_wp2
            go_roundg k4
            case measure => have := HJ17.out; have := HK2.out; have := HJ24.out; have := HK4.out; omega
            case rel => exact ⟨(x9_4), (wrap64 (x11_2 + 1)), xr, H', ⟨by have := HJ17.out; have := HK2.out; have := HJ24.out; have := HK4.out; omega⟩, ⟨by (with_reducible repeat (first | apply Kd.zbk | apply Kd.zbf | apply Kd.zbw)); exact Kd.zbr HO_9.out (fun _ hk => trivial)⟩, ⟨xb HB.out⟩⟩
        ·replace c28 := Bool.eq_false_iff.mpr c28
         subst c28
         rw [if_neg (show ¬ (false = true) by decide)] at H
         obtain rfl := Option.some.inj H
         go_wp2
         go_ret
         exact ⟨_, xe, xS HO_9.out, xb HB.out⟩

/-! ### zbj: function 70 -/
def zbj.l0 : Nat → List Int → Int → Option (List Int)
 | 0, _, _ => none
 | k + 1, x0, x3 => if x3 > 0 then (if 0 ≤ (wrap64 (x3 - 1)) then (if (wrap64 (x3 - 1)) < (x0.length : Int) then (if (rd x0 (wrap64 (x3 - 1))) = 0 then (zbj.l0 k x0 (wrap64 (x3 - 1))) else ((some (([] : List Int) : List Int)).bind fun y210 => (if 0 ≤ x3 then (if x3 ≤ (x0.length : Int) then (if y210.length + (x0.take (x3 : Int).toNat).length < 17592186044416 then (some (y210 ++ (x0.take (x3 : Int).toNat))) else (none)) else (none)) else (none)))) else (none)) else (none)) else ((some (([] : List Int) : List Int)).bind fun y217 => (if 0 ≤ x3 then (if x3 ≤ (x0.length : Int) then (if y217.length + (x0.take (x3 : Int).toNat).length < 17592186044416 then (some (y217 ++ (x0.take (x3 : Int).toNat))) else (none)) else (none)) else (none)))
def zbj.f (k : Nat) (l0 : List Int) : Option (List Int) := zbj.l0 k l0 (l0.length : Int)
theorem zbj.zaZ : ∀ k, (∀ y0 y1, LeO (zbj.l0 k y0 y1) (zbj.l0 (k + 1) y0 y1))
 | 0 => fun _ _ r h => by simp [zbj.l0] at h
 | k + 1 => by
  have ih0 := zbj.zaZ k
  ·intro y0 y1
   unfold zbj.l0
   repeat' with_reducible first | exact ih0 _ _ | exact xl | refine LeO.ite ?_ ?_ | refine LeO.bind ?_ fun _ => ?_
theorem zbj.mono : ∀ a0 k, LeO (zbj.f k a0) (zbj.f (k + 1) a0) := by
 intro a0 k
 have ih0 := zbj.zaZ k
 unfold zbj.f
 repeat' with_reducible first | exact ih0 _ _ | exact xl | refine LeO.ite ?_ ?_ | refine LeO.bind ?_ fun _ => ?_
theorem zbj.calls (k : Nat) (A0 : Option Addr) (c0 : Nat) (l0 : List Int) (r : List Int) (w : World) (hr0 : Kd.C (Kd.int .i64) w A0 l0.length l0) (hc0 : l0.length ≤ c0) (h : zbj.f k l0 = some r) :
  Calls Try.prog 70 #[.slice A0 l0.length c0] w fun e w' => ∃ v0_ : Value, e = .returned (v0_) ∧ Kd.R (Kd.int .i64) 3 w' w.heap.size (fun _ => True) v0_ r ∧ Below w.heap.size w w' := by
 have HR0 := ax hr0
 have HC0 := ax hc0
 clear hr0 hc0
 have HB := ax (Below.refl w.heap.size w)
 have H : (zbj.l0 k l0 (l0.length : Int)) = some r := h
 clear h
 have H' := ax H
 clear H
 go_enter Try.func70, Try.ntmps70
 go_wp2
 go_loopg [3] k (fun kq v3 w' => ∃ (x3_1 : Int), v3 = .int .i64 x3_1 ∧ zao (zbj.l0 kq l0 x3_1 = some r) ∧ zao (kq ≤ k) ∧ zao (Below w.heap.size w w'))
 case atStart => exact ⟨((l0.length : Int)), xr, H', ⟨Nat.le_refl _⟩, ⟨xb HB.out⟩⟩
 case round =>
  clear H'
  obtain ⟨x3_1, rfl, HA, HK1, HB⟩ := hrel
  cases gk with
  | zero => exact absurd HA.out (by simp [zbj.l0])
  | succ k1 =>
   have H := HA.out
   clear HA
   simp only [zbj.l0] at H
   by_cases c2 : x3_1 > 0
   ·rw [if_pos c2] at H
    have c2b0 : decide (0 < x3_1) = true := decide_eq_true c2
    clear c2
    obtain ⟨ji3, hji3⟩ : ∃ j_ : Int, (wrap64 (x3_1 - 1)) = j_ := ⟨_, rfl⟩
    replace H : (if 0 ≤ (ji3) then (if (ji3) < (l0.length : Int) then (if (rd l0 (ji3)) = 0 then (zbj.l0 k1 l0 ji3) else ((some (([] : List Int) : List Int)).bind fun y210 => (if 0 ≤ x3_1 then (if x3_1 ≤ (l0.length : Int) then (if y210.length + (l0.take (x3_1 : Int).toNat).length < 17592186044416 then (some (y210 ++ (l0.take (x3_1 : Int).toNat))) else (none)) else (none)) else (none)))) else (none)) else (none)) = some r := by first | (rw [hji3] at H; exact H) | (simp only [hji3] at H ⊢; exact H)
    have hji3w : (IntKind.i64.wrap (x3_1 - 1)) = ji3 := (zcd _).trans hji3
    obtain ⟨c4b0, H⟩ := xq H
    obtain ⟨c5b0, H⟩ := xq H
    by_cases c6 : (rd l0 (ji3)) = 0
    ·rw [if_pos c6] at H
     have c6b0 : ((rd l0 (ji3)) == 0) = true := beq_iff_eq.mpr c6
     have c6b1 : ((rd l0 (ji3)) != 0) = false := bne_eq_false_iff_eq.mpr c6
     clear c6
     have H' := ax H
     clear H
     have p209 : 0 ≤ ((ji3) : Int) := xd
     have q209 : (ji3) < (l0.length : Int) := xd
     obtain ⟨ad209, e209, hx209_0⟩ := Kd.zbK HR0.out (ji3) p209 q209
     cases e209
     (try replace hx209_0 := (HB.out.cell (World.block_lt_of_cell? w _ hx209_0)).trans hx209_0)
     replace p209 := eq_true p209
     replace q209 := eq_true q209
     go_wp2
     go_roundg k1
     case measure => have := HK1.out; omega
     case rel => exact ⟨(ji3), (by first | rfl | (simp; done) | (simp only [← hji3] <;> (first | rfl | simp)) | (simp [*]; done)), H', ⟨by have := HK1.out; omega⟩, ⟨xb HB.out⟩⟩
    ·rw [if_neg c6] at H
     have c6b0 : ((rd l0 (ji3)) == 0) = false := beq_eq_false_iff_ne.mpr c6
     have c6b1 : ((rd l0 (ji3)) != 0) = true := bne_iff_ne.mpr c6
     obtain ⟨y210, Ny210, H⟩ := xg H
     obtain ⟨c7, H⟩ := xp H
     have c7b0 := eq_true c7
     have c7b1 := decide_eq_true c7
     clear c7
     obtain ⟨c8, H⟩ := xp H
     have c8b0 := eq_true c8
     have c8b1 := decide_eq_true c8
     clear c8
     obtain ⟨c9, H⟩ := xp H
     have LMc9 := ax c9
     clear c9
     obtain ⟨y214, hy214⟩ : ∃ y_ : List Int, y_ = (y210 ++ (l0.take (x3_1 : Int).toNat)) := ⟨_, rfl⟩
     replace H : (some y214) = some r := xv hy214 H
     have Ny214 := ax hy214
     clear hy214
     obtain rfl := Option.some.inj H
     have p209 : 0 ≤ ((ji3) : Int) := xd
     have q209 : (ji3) < (l0.length : Int) := xd
     obtain ⟨ad209, e209, hx209_0⟩ := Kd.zbK HR0.out (ji3) p209 q209
     cases e209
     (try replace hx209_0 := (HB.out.cell (World.block_lt_of_cell? w _ hx209_0)).trans hx209_0)
     replace p209 := eq_true p209
     replace q209 := eq_true q209
     go_wp2_with (first | ((with_reducible refine zaG (N := 18) rfl ?_); refine Kd.zes (Kd.int .i64) _ 3 ?hg (N := 18) ?hd (xs := ([] : List Int)) (inner := []) (ok := fun _ => True) (okp := fun _ => True) ?hr ?hp (fun _ hk => hk) trivial (Below.refl _ _) (Nat.le_refl _) (by simp) ?_; (case hd => rfl); (case hg => rfl); (case hr => first | (go_simp; done) | (go_simp; rfl)); (case hp => exact (Reps.none _ _)); intro v211 w10 ho11 hb hg_ hnew_; clear hg_ hnew_; (first | rw [← Ny210.out] at ho11 | (simp only [Int.reduceToNat] at ho11; rw [← Ny210.out] at ho11)); have HO212 := ax (Kd.zbL ho11 (zaf (xb HB.out))); replace HB := yB HB hb; clear hb ho11; obtain ⟨i012, hi012, _, hsz12, _⟩ := info_parts zfj; obtain ⟨hcut12, hA12, hC12⟩ := zd9 (P := Try.prog) (Value.int .i64) 0 35 3 .i64 Try.underlying35 hi012 hsz12 (some ad209) c0 l0 x3_1 (xd) (xd) HC0.out; have HR213 := ax (Kd.zfC (h1 := fun _ => rfl) (hA12 _ (Kd.zej HR0.out))); have HC213 := ax hC12; clear hA12 hC12 hi012 hsz12) | ((with_reducible refine zbN (b := .append) (xs := #[.tmp 18, .tmp 21]) rfl ?_); at_builtin; refine Kd.zcu (Kd.int .i64) (w0 := w) w.heap.size rfl (.tmp 18) (.tmp 21) 35 3 (.int .i64 0) 8 rfl Try.underlying35 zfj rfl (by decide) (by omega) v211 y210 (l0.take (x3_1 : Int).toNat) _ _ _ (fun _ => True) (fun _ => False) rfl rfl ?aO ?aR (fun _ _ h => h) (fun _ h => h.elim) ?aF ?aB ?aS ?aL ?_; (case aR => first | (have h0_ := HR213.out; rw [show (l0.take (x3_1 : Int).toNat).length = x3_1.toNat from (by rw [List.length_take]; have h_ : (x3_1 : Int) ≤ (l0.length : Int) := xd; omega)] at h0_; exact Kd.za8 h0_ HB.out) | (rw [← show (l0.take (x3_1 : Int).toNat).length = x3_1.toNat from (by rw [List.length_take]; have h_ : (x3_1 : Int) ≤ (l0.length : Int) := xd; omega)]; repeat (first | exact (Kd.za8 HR213.out HB.out) | (with_reducible refine Kd.zbR ?_ _) | (with_reducible refine Kd.zbQ ?_ _) | (with_reducible refine Kd.zb2 ?_))) | (repeat (first | exact (Kd.za8 HR213.out HB.out) | (with_reducible refine Kd.zbR ?_ _) | (with_reducible refine Kd.zbQ ?_ _) | (with_reducible refine Kd.zb2 ?_)))); (case aB => exact (xb HB.out)); (case aF => exact (fun _ _ => trivial)); (case aO => exact (xR HO212.out)); (case aS => exact (zaf (xb HB.out))); (case aL => have := LMc9.out; have hlx_ := (show (l0.take (x3_1 : Int).toNat).length = x3_1.toNat from (by rw [List.length_take]; have h_ : (x3_1 : Int) ≤ (l0.length : Int) := xd; omega)); omega); intro v215 w13 ho hb hg hat; rw [← Ny214.out] at ho; have n0_ := ax (hb); have n1_ := ax (ho); clear HB; clear HO212; have HB := n0_; have HO216 := n1_; clear n0_ n1_; clear ho hb hg hat))
     go_ret
     exact ⟨_, by first | rfl | (simp [zc5, zc4] <;> rfl) | (simp only [← hji3]; first | rfl | (simp [zc5, zc4] <;> rfl)) | (simp [*, zc5, zc4] <;> rfl), xR HO216.out, xb HB.out⟩
   ·rw [if_neg c2] at H
    have c2b0 : decide (0 < x3_1) = false := decide_eq_false c2
    clear c2
    obtain ⟨y217, Ny217, H⟩ := xg H
    obtain ⟨c14, H⟩ := xp H
    have c14b0 := eq_true c14
    have c14b1 := decide_eq_true c14
    clear c14
    obtain ⟨c15, H⟩ := xp H
    have c15b0 := eq_true c15
    have c15b1 := decide_eq_true c15
    clear c15
    obtain ⟨c16, H⟩ := xp H
    have LMc16 := ax c16
    clear c16
    obtain ⟨y221, hy221⟩ : ∃ y_ : List Int, y_ = (y217 ++ (l0.take (x3_1 : Int).toNat)) := ⟨_, rfl⟩
    replace H : (some y221) = some r := xv hy221 H
    have Ny221 := ax hy221
    clear hy221
    obtain rfl := Option.some.inj H
    go_wp2_with (first | ((with_reducible refine zaG (N := 18) rfl ?_); refine Kd.zes (Kd.int .i64) _ 3 ?hg (N := 18) ?hd (xs := ([] : List Int)) (inner := []) (ok := fun _ => True) (okp := fun _ => True) ?hr ?hp (fun _ hk => hk) trivial (Below.refl _ _) (Nat.le_refl _) (by simp) ?_; (case hd => rfl); (case hg => rfl); (case hr => first | (go_simp; done) | (go_simp; rfl)); (case hp => exact (Reps.none _ _)); intro v218 w17 ho18 hb hg_ hnew_; clear hg_ hnew_; (first | rw [← Ny217.out] at ho18 | (simp only [Int.reduceToNat] at ho18; rw [← Ny217.out] at ho18)); have HO219 := ax (Kd.zbL ho18 (zaf (xb HB.out))); replace HB := yB HB hb; clear hb ho18; obtain ⟨i019, hi019, _, hsz19, _⟩ := info_parts zfj; obtain ⟨hcut19, hA19, hC19⟩ := zd9 (P := Try.prog) (Value.int .i64) 0 35 3 .i64 Try.underlying35 hi019 hsz19 A0 c0 l0 x3_1 (xd) (xd) HC0.out; have HR220 := ax (Kd.zfC (h1 := fun _ => rfl) (hA19 _ (Kd.zej HR0.out))); have HC220 := ax hC19; clear hA19 hC19 hi019 hsz19) | ((with_reducible refine zbN (b := .append) (xs := #[.tmp 18, .tmp 21]) rfl ?_); at_builtin; refine Kd.zcu (Kd.int .i64) (w0 := w) w.heap.size rfl (.tmp 18) (.tmp 21) 35 3 (.int .i64 0) 8 rfl Try.underlying35 zfj rfl (by decide) (by omega) v218 y217 (l0.take (x3_1 : Int).toNat) _ _ _ (fun _ => True) (fun _ => False) rfl rfl ?aO ?aR (fun _ _ h => h) (fun _ h => h.elim) ?aF ?aB ?aS ?aL ?_; (case aR => first | (have h0_ := HR220.out; rw [show (l0.take (x3_1 : Int).toNat).length = x3_1.toNat from (by rw [List.length_take]; have h_ : (x3_1 : Int) ≤ (l0.length : Int) := xd; omega)] at h0_; exact Kd.za8 h0_ HB.out) | (rw [← show (l0.take (x3_1 : Int).toNat).length = x3_1.toNat from (by rw [List.length_take]; have h_ : (x3_1 : Int) ≤ (l0.length : Int) := xd; omega)]; repeat (first | exact (Kd.za8 HR220.out HB.out) | (with_reducible refine Kd.zbR ?_ _) | (with_reducible refine Kd.zbQ ?_ _) | (with_reducible refine Kd.zb2 ?_))) | (repeat (first | exact (Kd.za8 HR220.out HB.out) | (with_reducible refine Kd.zbR ?_ _) | (with_reducible refine Kd.zbQ ?_ _) | (with_reducible refine Kd.zb2 ?_)))); (case aB => exact (xb HB.out)); (case aF => exact (fun _ _ => trivial)); (case aO => exact (xR HO219.out)); (case aS => exact (zaf (xb HB.out))); (case aL => have := LMc16.out; have hlx_ := (show (l0.take (x3_1 : Int).toNat).length = x3_1.toNat from (by rw [List.length_take]; have h_ : (x3_1 : Int) ≤ (l0.length : Int) := xd; omega)); omega); intro v222 w20 ho hb hg hat; rw [← Ny221.out] at ho; have n0_ := ax (hb); have n1_ := ax (ho); clear HB; clear HO219; have HB := n0_; have HO223 := n1_; clear n0_ n1_; clear ho hb hg hat))
    go_ret
    exact ⟨_, xe, xR HO223.out, xb HB.out⟩

end Go.Proofs.Ytneipehcmmigeaa.PFnExactSchurPoly
