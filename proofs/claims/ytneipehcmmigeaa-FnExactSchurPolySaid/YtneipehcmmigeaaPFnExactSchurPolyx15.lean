import Derived.Test.YtneipehcmmigeaaPFnExactSchurPolyx14
namespace Go.Proofs.Ytneipehcmmigeaa.PFnExactSchurPoly
open Go.RowKit Go.Proofs.YtneipehcmmigeaaW.PrintWords Go.Proofs.YtneipehcmmigeaaW.PrintLast Go.Proofs.YtneipehcmmigeaaW.PrintMore
attribute [local go_sem] zfO zfM zgA zgz ze4 ze3 zfN zfL
set_option linter.unusedVariables false
set_option linter.unusedSimpArgs false
set_option maxHeartbeats 8000000
set_option maxRecDepth 100000
/-! ### zaF: function 97 -/
mutual
def zaF.l0 : Nat → Int → List (List Int) → Int → Option ((List (List Int)))
 | 0, _, _, _ => none
 | k + 1, x0, x5, x6 => if x6 > 0 then ((zaF.f k (wrap64 (x0 - x6)) x6).bind fun t330 => (zaF.l1 k x0 x5 x6 t330 (t330.length : Int) 0)) else (some x5)
def zaF.l1 : Nat → Int → List (List Int) → Int → List (List Int) → Int → Int → Option ((List (List Int)))
 | 0, _, _, _, _, _, _ => none
 | k + 1, x0, x5, x6, x25, x26, x27 => if x27 < x26 then (if 0 ≤ x27 then (if x27 < (x25.length : Int) then ((some (([x6] : List Int) : List Int)).bind fun y334 => (if y334.length + (zbX x25 x27).length < 17592186044416 then (if x5.length < 5864062014805 then (zaF.l1 k x0 (x5 ++ [(y334 ++ (zbX x25 x27))]) x6 x25 x26 (wrap64 (x27 + 1))) else (none)) else (none))) else (none)) else (none)) else (zaF.l0 k x0 x5 (wrap64 (x6 - 1)))
def zaF.f : Nat → Int → Int → Option ((List (List Int)))
 | 0, _, _ => none
 | k + 1, a0, a1 => if a0 = 0 then (some (([(([] : List Int))] : List (List Int)))) else (zaF.l0 k a0 (([] : List (List Int))) (mn a0 a1))
end
theorem zaF.zaZ : ∀ k, (∀ y0 y1, LeO (zaF.f k y0 y1) (zaF.f (k + 1) y0 y1)) ∧ (∀ y0 y1 y2, LeO (zaF.l0 k y0 y1 y2) (zaF.l0 (k + 1) y0 y1 y2)) ∧ (∀ y0 y1 y2 y3 y4 y5, LeO (zaF.l1 k y0 y1 y2 y3 y4 y5) (zaF.l1 (k + 1) y0 y1 y2 y3 y4 y5))
 | 0 => ⟨fun _ _ r h => by simp [zaF.f] at h, fun _ _ _ r h => by simp [zaF.l0] at h, fun _ _ _ _ _ _ r h => by simp [zaF.l1] at h⟩
 | k + 1 => by
  obtain ⟨ih0, ih1, ih2⟩ := zaF.zaZ k
  refine ⟨?_, ?_, ?_⟩ <;> intros <;> (first | unfold zaF.f | unfold zaF.l0 | unfold zaF.l1) <;> repeat' with_reducible first | exact ih0 _ _ | exact ih1 _ _ _ | exact ih2 _ _ _ _ _ _ | exact xl | refine LeO.ite ?_ ?_ | refine LeO.bind ?_ fun _ => ?_
theorem zaF.mono : ∀ a0 a1 k, LeO (zaF.f k a0 a1) (zaF.f (k + 1) a0 a1) := by
 intro a0 a1 k
 obtain ⟨ih0, ih1, ih2⟩ := zaF.zaZ k
 exact ih0 a0 a1
theorem zaF.calls (k : Nat) : ∀ (a0 : Int) (a1 : Int) (r : List (List Int)) (w : World) (h : zaF.f k a0 a1 = some r),
  Calls Try.prog 97 #[.int .i64 a0, .int .i64 a1] w fun e w' => ∃ v0_ : Value, e = .returned (v0_) ∧ Kd.N (Kd.slice 3 (Kd.int .i64)) 35 w' w.heap.size (fun k_ => (w.heap.size ≤ k_)) v0_ r ∧ Below w.heap.size w w' := by
 induction k using Nat.strongRecOn with
 | _ k ih =>
 intro a0 a1 r w h
 cases k with
 | zero => exact absurd h (by simp [zaF.f])
 | succ k =>
 simp only [zaF.f] at h
 have HB := ax (Below.refl w.heap.size w)
 have H : (if a0 = 0 then (some (([(([] : List Int))] : List (List Int)))) else (zaF.l0 k a0 (([] : List (List Int))) (mn a0 a1))) = some r := h
 clear h
 by_cases c3 : a0 = 0
 ·rw [if_pos c3] at H
  have c3b0 : (a0 == 0) = true := beq_iff_eq.mpr c3
  have c3b1 : (a0 != 0) = false := bne_eq_false_iff_eq.mpr c3
  clear c3
  obtain ⟨y321, hy321⟩ : ∃ y_ : List Int, y_ = (([] : List Int)) := ⟨_, rfl⟩
  replace H : (some (([y321] : List (List Int)))) = some r := xv hy321 H
  have Ny321 := ax hy321
  clear hy321
  obtain ⟨y324, hy324⟩ : ∃ y_ : List (List Int), y_ = (([y321] : List (List Int))) := ⟨_, rfl⟩
  replace H : (some y324) = some r := xv hy324 H
  have Ny324 := ax hy324
  clear hy324
  obtain rfl := Option.some.inj H
  go_enter Try.func97, Try.ntmps97
  go_wp2_with (first | ((with_reducible refine zaG (N := 11) rfl ?_); refine Kd.zes (Kd.int .i64) _ 3 ?hg (N := 11) ?hd (xs := ([] : List Int)) (inner := []) (ok := fun _ => True) (okp := fun _ => True) ?hr ?hp (fun _ hk => hk) trivial (Below.refl _ _) (Nat.le_refl _) (by simp) ?_; (case hd => rfl); (case hg => rfl); (case hr => first | (go_simp; done) | (go_simp; rfl)); (case hp => exact (Reps.none _ _)); intro v322 w4 ho5 hb hg_ hnew_; clear hg_ hnew_; (first | rw [← Ny321.out] at ho5 | (simp only [Int.reduceToNat] at ho5; rw [← Ny321.out] at ho5)); have HO323 := ax (Kd.zbL (Kd.zec (M := fun k_ => (w.heap.size ≤ k_)) ho5 (zaf (xb HB.out)) (fun k_ h_ => h_)) (zaf (xb HB.out))); replace HB := yB HB hb; clear hb ho5; obtain ⟨Ao6, co6, eo6⟩ := Kd.zbT HO323.out; subst eo6) | ((with_reducible refine zaG (N := 12) rfl ?_); refine Kd.zhv (Kd.slice 3 (Kd.int .i64)) _ 35 ?hg (N' := 12) ?hd (xs := ([y321] : List (List Int))) (inner := [.slice Ao6 y321.length co6]) (ok := (fun k_ => (w.heap.size ≤ k_))) (okp := (fun k_ => (w.heap.size ≤ k_))) ?hr ?hp (fun _ hk => hk) ((show ∀ k_, w4.heap.size ≤ k_ → (fun k_ => (w.heap.size ≤ k_)) k_ from fun k_ hk => (Nat.le_trans (zaf (xb HB.out)) hk)) _ (Nat.le_refl _)) (Below.refl _ _) (Nat.le_refl _) (by simp) ?_; (case hd => rfl); (case hg => rfl); (case hr => first | (go_simp; done) | (go_simp; rfl)); (case hp => exact (Reps.one (show Kd.FK (Kd.slice 3 (Kd.int .i64)) _ _ y321 [.slice Ao6 y321.length co6] from (Kd.zd2 (Kd.zbi (Kd.za7 (ok' := (fun k_ => (w.heap.size ≤ k_))) (HO323.out) (fun k_ hk => hk.1))).2.1 (Kd.R_F (Kd.za7 (ok' := (fun k_ => (w.heap.size ≤ k_))) (HO323.out) (fun k_ hk => hk.1))))) (Reps.none _ _))); intro v325 w7 ho8 hb hg_ hnew_; clear hg_ hnew_; (first | rw [← Ny324.out] at ho8 | (simp only [Int.reduceToNat] at ho8; rw [← Ny324.out] at ho8)); have n0_ := ax (Kd.zcD ho8 (zaf (xb HB.out))); have n1_ := ax (zat (xb HB.out) hb); clear HB; clear HO323; have HO326 := n0_; have HB := n1_; clear n0_ n1_; clear hb ho8))
  go_ret
  exact ⟨_, xe, xN HO326.out, xb HB.out⟩
 ·rw [if_neg c3] at H
  have c3b0 : (a0 == 0) = false := beq_eq_false_iff_ne.mpr c3
  have c3b1 : (a0 != 0) = true := bne_iff_ne.mpr c3
  obtain ⟨y327, hy327⟩ : ∃ y_ : List (List Int), y_ = (([] : List (List Int))) := ⟨_, rfl⟩
  replace H : (zaF.l0 k a0 y327 (mn a0 a1)) = some r := xv hy327 H
  have Ny327 := ax hy327
  clear hy327
  obtain ⟨ji9, hji9⟩ : ∃ j_ : Int, (mn a0 a1) = j_ := ⟨_, rfl⟩
  replace H : (zaF.l0 k a0 y327 ji9) = some r := by first | (rw [hji9] at H; exact H) | (simp only [hji9] at H ⊢; exact H)
  have hji9_ : (if a1 < a0 then a1 else a0) = ji9 := hji9
  have H' := ax H
  clear H
  go_enter Try.func97, Try.ntmps97
  go_wp2_with (first | ((with_reducible refine zaG (N := 13) rfl ?_); refine Kd.zhv (Kd.slice 3 (Kd.int .i64)) _ 35 ?hg (N' := 13) ?hd (xs := ([] : List (List Int))) (inner := []) (ok := (fun k_ => (w.heap.size ≤ k_))) (okp := (fun k_ => (w.heap.size ≤ k_))) ?hr ?hp (fun _ hk => hk) ((show ∀ k_, w.heap.size ≤ k_ → (fun k_ => (w.heap.size ≤ k_)) k_ from fun k_ hk => (Nat.le_trans (zaf (xb HB.out)) hk)) _ (Nat.le_refl _)) (Below.refl _ _) (Nat.le_refl _) (by simp) ?_; (case hd => rfl); (case hg => rfl); (case hr => first | (go_simp; done) | (go_simp; rfl)); (case hp => exact (Reps.none _ _)); intro v328 w10 ho11 hb hg_ hnew_; clear hg_ hnew_; (first | rw [← Ny327.out] at ho11 | (simp only [Int.reduceToNat] at ho11; rw [← Ny327.out] at ho11)); have HO329 := ax (Kd.zcD ho11 (zaf (xb HB.out))); replace HB := yB HB hb; clear hb ho11))
  go_loopg [5, 6] k (fun kq v5 v6 w' => ∃ (x5_1 : List (List Int)) (x6_1 : Int), v6 = .int .i64 x6_1 ∧ zao (zaF.l0 kq a0 x5_1 x6_1 = some r) ∧ zao (kq ≤ k) ∧ zao (Kd.N (Kd.slice 3 (Kd.int .i64)) 35 w' w.heap.size (fun k_ => (w.heap.size ≤ k_)) v5 x5_1) ∧ zao (Below w.heap.size w w'))
  case atStart => exact ⟨(y327), (ji9), (by first | rfl | (simp; done) | (simp only [← hji9] <;> (first | rfl | simp)) | (simp [*]; done)), H', ⟨Nat.le_refl _⟩, ⟨xN HO329.out⟩, ⟨xb HB.out⟩⟩
  case round =>
   clear H'
   (try clear c3); (try clear c3b0); (try clear c3b1)
   obtain ⟨x5_1, x6_1, rfl, HA, HK1, HO_5, HB⟩ := hrel
   cases gk with
   | zero => exact absurd HA.out (by simp [zaF.l0])
   | succ k1 =>
    have H := HA.out
    clear HA
    simp only [zaF.l0] at H
    by_cases c12 : x6_1 > 0
    ·rw [if_pos c12] at H
     have c12b0 : decide (0 < x6_1) = true := decide_eq_true c12
     clear c12
     obtain ⟨t330, A13, H⟩ := xI H
     have H' := ax H
     clear H
     go_wp2_with (first | ((with_reducible refine zan (f := 97) rfl ?_); refine zaM (some 25) rfl rfl Try.func97 (by kernel_rfl) rfl #[.int .i64 (wrap64 (a0 - x6_1)), .int .i64 x6_1] rfl xm ?_; (with_reducible refine (ih k1 (by have := HK1.out; omega) (wrap64 (a0 - x6_1)) x6_1 t330 _ A13.out).mono ?_); rintro e w14 ⟨v331, rfl, ho0, hb⟩; refine ⟨_, rfl, ?_⟩; have HO332 := ax (Kd.zcD (Kd.zaQ (ok' := fun k_ => (w.heap.size ≤ k_) ∧ some k_ ≠ (u5 : Value).ownBlock) ho0 (fun k_ hk_ => ⟨(Nat.le_trans (zaf (xb HB.out)) hk_), (Kd.fresh' (Kd.N_lt (xN HO_5.out)) k_ hk_)⟩)) (zaf (xb HB.out))); replace HO_5 := ax (Kd.zbI (xN HO_5.out) (by first | exact Kd.zdu ho0 | exact Kd.zcT ho0 | exact Kd.zbh ho0) hb); replace HB := yB HB hb; (try clear hb); (try clear ho0); obtain ⟨Ao15, co15, eo15⟩ := Kd.zbx HO332.out; subst eo15))
     go_loopg [5, 27] k1 (fun kq v5 v27 w' => ∃ (x5_2 : List (List Int)) (x27_2 : Int), v27 = .int .i64 x27_2 ∧ zao (zaF.l1 kq a0 x5_2 x6_1 t330 (t330.length : Int) x27_2 = some r) ∧ zao (kq ≤ k1) ∧ zao (Kd.N (Kd.slice 3 (Kd.int .i64)) 35 w' w.heap.size (fun k_ => (w.heap.size ≤ k_) ∧ some k_ ≠ ((.slice Ao15 t330.length co15) : Value).ownBlock) v5 x5_2) ∧ zao (Kd.N (Kd.slice 3 (Kd.int .i64)) 35 w' w.heap.size (fun k_ => (w.heap.size ≤ k_) ∧ some k_ ≠ (v5 : Value).ownBlock) (.slice Ao15 t330.length co15) t330) ∧ zao (Below w.heap.size w w'))
     case atStart => exact ⟨(x5_1), (0), xr, H', ⟨Nat.le_refl _⟩, ⟨xN HO_5.out⟩, ⟨xN HO332.out⟩, ⟨xb HB.out⟩⟩
     case round =>
      clear H'
      (try clear c3); (try clear c3b0); (try clear c3b1); (try clear c12); (try clear c12b0)
      obtain ⟨x5_2, x27_2, rfl, HA, HK2, HO_5, HO_25, HB⟩ := hrel
      cases gk with
      | zero => exact absurd HA.out (by simp [zaF.l1])
      | succ k2 =>
       have H := HA.out
       clear HA
       simp only [zaF.l1] at H
       by_cases c16 : x27_2 < (t330.length : Int)
       ·rw [if_pos c16] at H
        have c16b0 := decide_eq_true c16
        clear c16
        obtain ⟨c17b0, H⟩ := xq H
        obtain ⟨c18b0, H⟩ := xq H
        obtain ⟨y334, Ny334, H⟩ := xg H
        obtain ⟨c19, H⟩ := xp H
        have LMc19 := ax c19
        clear c19
        obtain ⟨y337, hy337⟩ : ∃ y_ : List Int, y_ = (y334 ++ (zbX t330 x27_2)) := ⟨_, rfl⟩
        replace H : (if x5_2.length < 5864062014805 then (zaF.l1 k2 a0 (x5_2 ++ [y337]) x6_1 t330 (t330.length : Int) (wrap64 (x27_2 + 1))) else (none)) = some r := xv hy337 H
        have Ny337 := ax hy337
        clear hy337
        obtain ⟨c20, H⟩ := xp H
        have LMc20 := ax c20
        clear c20
        obtain ⟨y340, hy340⟩ : ∃ y_ : List (List Int), y_ = (x5_2 ++ [y337]) := ⟨_, rfl⟩
        replace H : (zaF.l1 k2 a0 y340 x6_1 t330 (t330.length : Int) (wrap64 (x27_2 + 1))) = some r := xv hy340 H
        have Ny340 := ax hy340
        clear hy340
        have H' := ax H
        clear H
        have p333 : 0 ≤ (x27_2 : Int) := xd
        have q333 : x27_2 < (t330.length : Int) := xd
        obtain ⟨ad333, A333_0, c333_0, e333, hx333_0, hl333_0, hi333_0⟩ := zfa (Kd.zay HO_25.out).2.2 x27_2 p333 q333
        cases e333
        obtain ⟨ce333, hce333, hMe333, hcc333⟩ := Kd.zcl HO_25.out [] x27_2 p333 (by first | exact q333 | exact xd | (have e_ := (Kd.zay HO_25.out).1; omega))
        obtain ⟨ua333_0, uc333_0, rfl, ul333_0, ge333_0⟩ := Kd.zcg hMe333
        have hv333_0 := hcc333 0 _ rfl
        rw [Nat.add_zero, show ((Kd.slice 3 (Kd.int .i64))).sz = 1 from rfl, Nat.mul_one] at hv333_0
        replace hv333_0 := Option.some.inj (hv333_0.symm.trans hx333_0)
        injection hv333_0 with hva_ hvn_ hvc_
        rw [hva_] at ge333_0
        rw [hvc_] at ul333_0
        have HL333_0 := ax (show Kd.V (Kd.int .i64) 3 _ w.heap.size _ _ (zbX t330 x27_2) from Kd.V_mk ul333_0 ge333_0)
        clear hva_ hvn_ hvc_ ge333_0 ul333_0 hcc333 hce333
        have HR333_0 := ax hi333_0
        have HC333_0 := ax hl333_0
        clear hi333_0 hl333_0
        replace p333 := eq_true p333
        replace q333 := eq_true q333
        go_wp2_with (first | ((with_reducible refine zaG (N := 33) rfl ?_); refine Kd.zes (Kd.int .i64) _ 3 ?hg (N := 33) ?hd (xs := ([x6_1] : List Int)) (inner := [.int .i64 x6_1]) (ok := fun _ => True) (okp := fun _ => True) ?hr ?hp (fun _ hk => hk) trivial (Below.refl _ _) (Nat.le_refl _) (by simp) ?_; (case hd => rfl); (case hg => rfl); (case hr => first | (go_simp; done) | (go_simp; rfl)); (case hp => exact (Reps.one (show Kd.M (Kd.int .i64) _ _ _ x6_1 [.int .i64 x6_1] from rfl) (Reps.none _ _))); intro v335 w21 ho22 hb hg_ hnew_; clear hg_ hnew_; (first | rw [← Ny334.out] at ho22 | (simp only [Int.reduceToNat] at ho22; rw [← Ny334.out] at ho22)); replace HO_5 := ax (Kd.zbI (xN HO_5.out) (Kd.zbh ho22) hb); replace HO_25 := ax (Kd.zbI (xN HO_25.out) (Kd.zbh ho22) hb); replace HL333_0 := ax (Kd.zcM (xV HL333_0.out) (Kd.zbh ho22) hb); have HO336 := ax (Kd.zbL (Kd.zec (M := fun k_ => (w.heap.size ≤ k_)) ho22 (zaf (xb HB.out)) (fun k_ h_ => h_)) (zaf (xb HB.out))); replace HR333_0 := ax (Kd.za8 (xw HR333_0.out) hb); replace HB := yB HB hb; clear hb ho22) | ((with_reducible refine zbN (b := .append) (xs := #[.tmp 33, .tmp 34]) rfl ?_); at_builtin; refine Kd.zcu (Kd.int .i64) (w0 := w) w.heap.size rfl (.tmp 33) (.tmp 34) 35 3 (.int .i64 0) 8 rfl Try.underlying35 zfj rfl (by decide) (by omega) v335 y334 (zbX t330 x27_2) _ _ _ (fun k_ => (w.heap.size ≤ k_)) (fun _ => False) rfl rfl ?aO ?aR (fun _ _ h => h) (fun _ h => h.elim) ?aF ?aB ?aS ?aL ?_; (case aR => exact xw HR333_0.out); (case aB => exact (xb HB.out)); (case aF => exact (fun k_ hk => (Nat.le_trans (zaf (xb HB.out)) hk))); (case aO => exact (by (with_reducible repeat (first | apply Kd.zbd | apply Kd.zbc | apply Kd.zbq)); exact Kd.za7 HO336.out (fun _ hk => hk.1))); (case aS => exact (zaf (xb HB.out))); (case aL => have := LMc19.out; omega); intro v338 w23 ho hb hg hat; rw [← Ny337.out] at ho; have n0_ := ax (Kd.zcJ (ok := (fun k_ => (w.heap.size ≤ k_) ∧ some k_ ≠ (.slice (some ad333) t330.length co15 : Value).ownBlock)) (xN HO_5.out) hg hat); have n1_ := ax (Kd.zcJ (ok := (fun k_ => (w.heap.size ≤ k_) ∧ some k_ ≠ (u5 : Value).ownBlock)) (xN HO_25.out) hg hat); have n2_ := ax (Kd.zcN (ok := (fun k_ => (w.heap.size ≤ k_) ∧ some k_ ≠ (u5 : Value).ownBlock ∧ some k_ ≠ (.slice (some ad333) t330.length co15 : Value).ownBlock)) (by (with_reducible repeat (first | apply Kd.zb1 | apply Kd.zb0 | apply Kd.zbV)); exact Kd.zbA HL333_0.out (fun _ hk => ⟨⟨hk.1.1.1, ⟨hk.1.1.2, hk.1.2⟩⟩, hk.2⟩)) hg hat); have n3_ := ax (hb); have n4_ := ax (ho); clear HO_5; clear HO_25; clear HL333_0; clear HB; clear HO336; have HO_5 := n0_; have HO_25 := n1_; have HL333_0 := n2_; have HB := n3_; have HO339 := n4_; clear n0_ n1_ n2_ n3_ n4_; clear ho hb hg hat; obtain ⟨Ao25, co25, eo25⟩ := Kd.zbT HO339.out; subst eo25) | ((with_reducible refine zbN (b := .append) (xs := #[.tmp 31, .tmp 36]) rfl ?_); at_builtin; refine Kd.zha (Kd.slice 3 (Kd.int .i64)) (w0 := w) w.heap.size rfl (.tmp 31) (.tmp 36) 64 35 (.slice none 0 0) 24 rfl Try.underlying64 zfr rfl (by decide) (by omega) u5 x5_2 y337 [.slice Ao25 y337.length co25] (fun k_ => (w.heap.size ≤ k_) ∧ some k_ ≠ (.slice (some ad333) t330.length co15 : Value).ownBlock) (fun k_ => ((fun k_ => (w.heap.size ≤ k_) ∧ some k_ ≠ (.slice (some ad333) t330.length co15 : Value).ownBlock)) k_ ∧ some k_ ≠ (u5 : Value).ownBlock) rfl rfl ?aP (fun _ hk => hk) ?aF ?aO ?aB ?aS ?aL ?_; (case aP => exact (Kd.zd2 (Kd.zbi (Kd.za7 (ok' := (fun k_ => ((fun k_ => (w.heap.size ≤ k_) ∧ some k_ ≠ (.slice (some ad333) t330.length co15 : Value).ownBlock)) k_ ∧ some k_ ≠ (u5 : Value).ownBlock)) (Kd.zbP (Kd.zbP (HO339.out) (Kd.zcy HO_25.out) (by decide)) (Kd.zcy HO_5.out) (by decide)) (fun k_ hk => ⟨⟨hk.1.1, hk.1.2⟩, hk.2⟩))).2.1 (Kd.R_F (Kd.za7 (ok' := (fun k_ => ((fun k_ => (w.heap.size ≤ k_) ∧ some k_ ≠ (.slice (some ad333) t330.length co15 : Value).ownBlock)) k_ ∧ some k_ ≠ (u5 : Value).ownBlock)) (Kd.zbP (Kd.zbP (HO339.out) (Kd.zcy HO_25.out) (by decide)) (Kd.zcy HO_5.out) (by decide)) (fun k_ hk => ⟨⟨hk.1.1, hk.1.2⟩, hk.2⟩))))); (case aB => exact (xb HB.out)); (case aF => exact (fun k_ hk => ⟨(Nat.le_trans (zaf (xb HB.out)) hk), Kd.fresh' (Kd.N_lt (xN HO_25.out)) k_ hk⟩)); (case aO => exact (by (with_reducible repeat (first | apply Kd.za4 | apply Kd.za3 | apply Kd.zaY)); exact Kd.zaQ HO_5.out (fun _ hk => ⟨hk.1.1, hk.1.2⟩))); (case aS => exact (zaf (xb HB.out))); (case aL => have := LMc20.out; omega); intro v341 w24 ho hb hg hat; rw [← Ny340.out] at ho; have n0_ := ax (Kd.zcJ (ok := (fun k_ => (w.heap.size ≤ k_) ∧ some k_ ≠ (.slice Ao25 y337.length co25 : Value).ownBlock)) (by (with_reducible repeat (first | apply Kd.za4 | apply Kd.za3 | apply Kd.zaY)); exact Kd.zaQ HO_25.out (fun _ hk => ⟨⟨hk.1.1, hk.2⟩, hk.1.2⟩)) hg hat); have n1_ := ax (Kd.zcN (ok := (fun k_ => (w.heap.size ≤ k_) ∧ some k_ ≠ (.slice (some ad333) t330.length co15 : Value).ownBlock ∧ some k_ ≠ (.slice Ao25 y337.length co25 : Value).ownBlock)) (by (with_reducible repeat (first | apply Kd.zb1 | apply Kd.zb0 | apply Kd.zbV)); exact Kd.zbA HL333_0.out (fun _ hk => ⟨⟨hk.1.1, ⟨hk.1.2.2, hk.2⟩⟩, hk.1.2.1⟩)) hg hat); have n2_ := ax (hb); have n3_ := ax (ho); clear HO_25; clear HL333_0; clear HB; clear HO_5; clear HO339; have HO_25 := n0_; have HL333_0 := n1_; have HB := n2_; have HO342 := n3_; clear n0_ n1_ n2_ n3_; clear ho hb hg hat))
        go_roundg k2
        case measure => have := HK1.out; have := HK2.out; omega
        case rel => exact ⟨(y340), (wrap64 (x27_2 + 1)), xr, H', ⟨by have := HK1.out; have := HK2.out; omega⟩, ⟨xN HO342.out⟩, ⟨by (with_reducible repeat (first | apply Kd.za4 | apply Kd.za3 | apply Kd.zaY)); exact Kd.zaQ HO_25.out (fun _ hk => ⟨hk.1.1, hk.2⟩)⟩, ⟨xb HB.out⟩⟩
       ·rw [if_neg c16] at H
        have c16b0 := decide_eq_false c16
        clear c16
        have H' := ax H
        clear H
        go_wp2
        go_roundg k2
        case measure => have := HK1.out; have := HK2.out; omega
        case rel => exact ⟨(x5_2), (wrap64 (x6_1 - 1)), xr, H', ⟨by have := HK1.out; have := HK2.out; omega⟩, ⟨by (with_reducible repeat (first | apply Kd.za4 | apply Kd.za3 | apply Kd.zaY)); exact Kd.zaQ HO_5.out (fun _ hk => hk.1)⟩, ⟨xb HB.out⟩⟩
    ·rw [if_neg c12] at H
     have c12b0 : decide (0 < x6_1) = false := decide_eq_false c12
     clear c12
     obtain rfl := Option.some.inj H
     go_wp2
     go_ret
     exact ⟨_, by first | rfl | (simp [zc5, zc4] <;> rfl) | (simp only [← hji9]; first | rfl | (simp [zc5, zc4] <;> rfl)) | (simp [*, zc5, zc4] <;> rfl), xN HO_5.out, xb HB.out⟩

/-! ### zbu: function 95 -/
def zbu.f (k : Nat) (a0 : Int) : Option ((List (List Int))) := (zbv.f a0 0 9).bind fun t343 => (if t343 = true then ((zaF.f k a0 a0).bind fun t344 => (some t344)) else (some ([] : List (List Int))))
theorem zbu.mono : ∀ a0 k, LeO (zbu.f k a0) (zbu.f (k + 1) a0) := by
 intro a0 k
 unfold zbu.f
 repeat' with_reducible first | exact zaF.mono _ _ _ | exact xl | refine LeO.ite ?_ ?_ | refine LeO.bind ?_ fun _ => ?_
theorem zbu.calls (k : Nat) (a0 : Int) (r : List (List Int)) (w : World) (h : zbu.f k a0 = some r) :
  Calls Try.prog 95 #[.int .i64 a0] w fun e w' => ∃ v0_ : Value, e = .returned (v0_) ∧ Kd.N (Kd.slice 3 (Kd.int .i64)) 35 w' w.heap.size (fun k_ => (w.heap.size ≤ k_)) v0_ r ∧ Below w.heap.size w w' := by
 have HB := ax (Below.refl w.heap.size w)
 have H : ((zbv.f a0 0 9).bind fun t343 => (if t343 = true then ((zaF.f k a0 a0).bind fun t344 => (some t344)) else (some ([] : List (List Int))))) = some r := h
 clear h
 obtain ⟨t343, A2, H⟩ := xI H
 by_cases c3 : t343 = true
 ·subst c3
  rw [if_pos rfl] at H
  obtain ⟨t344, A4, H⟩ := xI H
  obtain rfl := Option.some.inj H
  go_enter Try.func95, Try.ntmps95
  go_wp2_with (first | ((with_reducible refine zan (f := 42) rfl ?_); refine zaM (some 4) rfl rfl Try.func42 (by kernel_rfl) rfl #[.int .i64 a0, .int .i64 0, .int .i64 9] rfl xm ?_; (with_reducible refine (zbv.calls a0 0 9 true _ A2.out).mono ?_); rintro e w' ⟨rfl, ⟨nd, rfl⟩⟩; refine ⟨_, rfl, ?_⟩) | ((with_reducible refine zan (f := 97) rfl ?_); refine zaM (some 8) rfl rfl Try.func97 (by kernel_rfl) rfl #[.int .i64 a0, .int .i64 a0] rfl xm ?_; (with_reducible refine (zaF.calls k a0 a0 t344 _ A4.out).mono ?_); rintro e w5 ⟨v345, rfl, ho0, hb⟩; refine ⟨_, rfl, ?_⟩; have HO346 := ax (Kd.zcD (Kd.zaQ (ok' := fun k_ => (w.heap.size ≤ k_)) ho0 (fun k_ hk_ => (Nat.le_trans (zaf (xb HB.out)) hk_))) (zaf (xb HB.out))); replace HB := yB HB hb; (try clear hb); (try clear ho0)))
  go_ret
  exact ⟨_, xe, xN HO346.out, xb HB.out⟩
 ·replace c3 := Bool.eq_false_iff.mpr c3
  subst c3
  rw [if_neg (show ¬ (false = true) by decide)] at H
  obtain rfl := Option.some.inj H
  go_enter Try.func95, Try.ntmps95
  go_wp2_with (first | ((with_reducible refine zan (f := 42) rfl ?_); refine zaM (some 4) rfl rfl Try.func42 (by kernel_rfl) rfl #[.int .i64 a0, .int .i64 0, .int .i64 9] rfl xm ?_; (with_reducible refine (zbv.calls a0 0 9 false _ A2.out).mono ?_); rintro e w' ⟨rfl, ⟨nd, rfl⟩⟩; refine ⟨_, rfl, ?_⟩))
  go_ret
  exact ⟨_, xe, by first | exact Kd.zgM _ _ _ _ _ | exact Kd.zgs _ _ _ _ _ | exact Kd.zgK _ _ _ _ _ | exact Kd.zgO _ _ _ _ _ | exact Kd.zeJ _ _ _ _ _, xb HB.out⟩

-- NOT PRINTED: function 92 (impl_chosen)

-- NOT PRINTED: function 93 (impl_removed_1)

-- NOT PRINTED: function 87 (impl_removed)

/-! ### zaI: function 88 -/
def zaI.l0 : Nat → Int → List Int → List Int → Option (Bool)
 | 0, _, _, _ => none
 | k + 1, x3, x1000, x1002 => if x3 < (x1000.length : Int) then (if 0 ≤ x3 then ((zcV.f x1002 (wrap64 (x3 - 1))).bind fun t350 => (if (rd x1000 x3) > t350 then (some false) else (zaI.l0 k (wrap64 (x3 + 1)) x1000 x1002))) else (none)) else (some true)
def zaI.f (k : Nat) (l0_0 : List Int) (l0_1 : List Int) : Option (Bool) := (za1.f k l0_0 l0_1).bind fun t348 => (if t348 = true then (zaI.l0 k 1 l0_0 l0_1) else (some false))
theorem zaI.zaZ : ∀ k, (∀ y0 y1 y2, LeO (zaI.l0 k y0 y1 y2) (zaI.l0 (k + 1) y0 y1 y2))
 | 0 => fun _ _ _ r h => by simp [zaI.l0] at h
 | k + 1 => by
  have ih0 := zaI.zaZ k
  ·intro y0 y1 y2
   unfold zaI.l0
   repeat' with_reducible first | exact ih0 _ _ _ | exact za1.mono _ _ _ | exact xl | refine LeO.ite ?_ ?_ | refine LeO.bind ?_ fun _ => ?_
theorem zaI.mono : ∀ a0 a1 k, LeO (zaI.f k a0 a1) (zaI.f (k + 1) a0 a1) := by
 intro a0 a1 k
 have ih0 := zaI.zaZ k
 unfold zaI.f
 repeat' with_reducible first | exact ih0 _ _ _ | exact za1.mono _ _ _ | exact xl | refine LeO.ite ?_ ?_ | refine LeO.bind ?_ fun _ => ?_
theorem zaI.calls (k : Nat) (A0_0 : Option Addr) (c0_0 : Nat) (l0_0 : List Int) (A0_1 : Option Addr) (c0_1 : Nat) (l0_1 : List Int) (r : Bool) (w : World) (hr0_0 : Kd.C (Kd.int .i64) w A0_0 l0_0.length l0_0) (hc0_0 : l0_0.length ≤ c0_0) (hr0_1 : Kd.C (Kd.int .i64) w A0_1 l0_1.length l0_1) (hc0_1 : l0_1.length ≤ c0_1) (h : zaI.f k l0_0 l0_1 = some r) :
  Calls Try.prog 88 #[.agg #[.slice A0_0 l0_0.length c0_0, .slice A0_1 l0_1.length c0_1]] w fun e w' => e = .returned (.bool r) ∧ Below w.heap.size w w' := by
 have hu40 := Try.underlying40
 have HR0_0 := ax hr0_0
 have HC0_0 := ax hc0_0
 clear hr0_0 hc0_0
 have HR0_1 := ax hr0_1
 have HC0_1 := ax hc0_1
 clear hr0_1 hc0_1
 have HB := ax (Below.refl w.heap.size w)
 have H : ((za1.f k l0_0 l0_1).bind fun t348 => (if t348 = true then (zaI.l0 k 1 l0_0 l0_1) else (some false))) = some r := h
 clear h
 obtain ⟨t348, A2, H⟩ := xI H
 by_cases c3 : t348 = true
 ·subst c3
  rw [if_pos rfl] at H
  have H' := ax H
  clear H
  go_enter Try.func88, Try.ntmps88
  go_wp2_with (first | ((with_reducible refine zaG (N := 1) rfl ?_); refine zaK ?hg (N := 1) ?hd (cs := #[.slice A0_0 l0_0.length c0_0, .slice A0_1 l0_1.length c0_1]) (t := 40) ?hr ?_; (case hd => rfl); (case hg => rfl); (case hr => first | (go_simp; done) | (go_simp; rfl)); intro gb347 hg w4 hbox hb; have BK347 := ax (hbox); have GW347 := ax ((by rw [hg]; exact (zaf (xb HB.out)) : w.heap.size ≤ gb347)); have GE347 := ax ((by rw [hg]; exact (zaf (xb HB.out)) : w.heap.size ≤ gb347)); replace HB := yB HB hb; clear hb hbox hg; have hcz5_0 := bc0 BK347.out; have hcz5_1 := bc1 BK347.out; have hfz5_0 := zae BK347.out 0; have hfz5_1 := zae BK347.out 1) | (go_at_call 41; (with_reducible refine (za1.calls k _ _ l0_0 _ _ l0_1 true _ ?side1 ?side2 ?side3 ?side4 A2.out).mono ?_); (case side1 => exact xz HR0_0.out HB.out); (case side2 => exact HC0_0.out); (case side3 => exact xz HR0_1.out HB.out); (case side4 => exact HC0_1.out); rintro e w6 ⟨rfl, hb⟩; replace BK347 := ax (bb BK347.out hb); replace HB := ax (zat (xs HB.out GE347.out) hb); (try clear hb)))
  repeat (go_quiet (first | ((with_reducible refine zaG (N := 1) rfl ?_); refine zaK ?hg (N := 1) ?hd (cs := #[.slice A0_0 l0_0.length c0_0, .slice A0_1 l0_1.length c0_1]) (t := 40) ?hr ?_; (case hd => rfl); (case hg => rfl); (case hr => first | (go_simp; done) | (go_simp; rfl)); intro gb347 hg w4 hbox hb; have BK347 := ax (hbox); have GW347 := ax ((by rw [hg]; exact (zaf (xb HB.out)) : w.heap.size ≤ gb347)); have GE347 := ax ((by rw [hg]; exact (zaf (xb HB.out)) : w.heap.size ≤ gb347)); replace HB := yB HB hb; clear hb hbox hg; have hcz5_0 := bc0 BK347.out; have hcz5_1 := bc1 BK347.out; have hfz5_0 := zae BK347.out 0; have hfz5_1 := zae BK347.out 1) | (go_at_call 41; (with_reducible refine (za1.calls k _ _ l0_0 _ _ l0_1 true _ ?side1 ?side2 ?side3 ?side4 A2.out).mono ?_); (case side1 => exact xz HR0_0.out HB.out); (case side2 => exact HC0_0.out); (case side3 => exact xz HR0_1.out HB.out); (case side4 => exact HC0_1.out); rintro e w6 ⟨rfl, hb⟩; replace BK347 := ax (bb BK347.out hb); replace HB := ax (zat (xs HB.out GE347.out) hb); (try clear hb))); try go_wp2_with (first | ((with_reducible refine zaG (N := 1) rfl ?_); refine zaK ?hg (N := 1) ?hd (cs := #[.slice A0_0 l0_0.length c0_0, .slice A0_1 l0_1.length c0_1]) (t := 40) ?hr ?_; (case hd => rfl); (case hg => rfl); (case hr => first | (go_simp; done) | (go_simp; rfl)); intro gb347 hg w4 hbox hb; have BK347 := ax (hbox); have GW347 := ax ((by rw [hg]; exact (zaf (xb HB.out)) : w.heap.size ≤ gb347)); have GE347 := ax ((by rw [hg]; exact (zaf (xb HB.out)) : w.heap.size ≤ gb347)); replace HB := yB HB hb; clear hb hbox hg; have hcz5_0 := bc0 BK347.out; have hcz5_1 := bc1 BK347.out; have hfz5_0 := zae BK347.out 0; have hfz5_1 := zae BK347.out 1) | (go_at_call 41; (with_reducible refine (za1.calls k _ _ l0_0 _ _ l0_1 true _ ?side1 ?side2 ?side3 ?side4 A2.out).mono ?_); (case side1 => exact xz HR0_0.out HB.out); (case side2 => exact HC0_0.out); (case side3 => exact xz HR0_1.out HB.out); (case side4 => exact HC0_1.out); rintro e w6 ⟨rfl, hb⟩; replace BK347 := ax (bb BK347.out hb); replace HB := ax (zat (xs HB.out GE347.out) hb); (try clear hb))))
  go_loopg [3] k (fun kq v3 w' => ∃ (x3_1 : Int), v3 = .int .i64 x3_1 ∧ zao (zaI.l0 kq x3_1 l0_0 l0_1 = some r) ∧ zao (kq ≤ k) ∧ zao (w'.heap[gb347]? = some (.cells #[(.slice A0_0 l0_0.length c0_0), (.slice A0_1 l0_1.length c0_1)] 40 (0, 0))) ∧ zao (Below w.heap.size w w'))
  case atStart => exact ⟨(1), xr, H', ⟨Nat.le_refl _⟩, ⟨xk BK347.out⟩, ⟨xs HB.out GE347.out⟩⟩
  case round =>
   clear H'
   (try clear c3); (try clear hcz5_0); (try clear hcz5_1); (try clear hfz5_0); (try clear hfz5_1)
   obtain ⟨x3_1, rfl, HA, HK1, BK347, HB⟩ := hrel
   cases gk with
   | zero => exact absurd HA.out (by simp [zaI.l0])
   | succ k1 =>
    have H := HA.out
    clear HA
    simp only [zaI.l0] at H
    by_cases c7 : x3_1 < (l0_0.length : Int)
    ·rw [if_pos c7] at H
     have c7b0 := decide_eq_true c7
     clear c7
     obtain ⟨c8b0, H⟩ := xq H
     obtain ⟨t350, A9, H⟩ := xI H
     by_cases c10 : (rd l0_0 x3_1) > t350
     ·rw [if_pos c10] at H
      have c10b0 : decide (t350 < (rd l0_0 x3_1)) = true := decide_eq_true c10
      clear c10
      obtain rfl := Option.some.inj H
      have hcz11_0 := bc0 BK347.out
      have hcz11_1 := bc1 BK347.out
      have hfz11_0 := zae BK347.out 0
      have hfz11_1 := zae BK347.out 1
      have p349 : 0 ≤ (x3_1 : Int) := xd
      have q349 : x3_1 < (l0_0.length : Int) := xd
      obtain ⟨ad349, e349, hx349_0⟩ := Kd.zbK HR0_0.out x3_1 p349 q349
      cases e349
      (try replace hx349_0 := (HB.out.cell (World.block_lt_of_cell? w _ hx349_0)).trans hx349_0)
      replace p349 := eq_true p349
      replace q349 := eq_true q349
      go_wp2_with (first | (go_at_call 85; (with_reducible refine (zcV.calls _ _ l0_1 (wrap64 (x3_1 - 1)) t350 _ ?side1 ?side2 A9.out).mono ?_); (case side1 => exact xz HR0_1.out HB.out); (case side2 => exact HC0_1.out); rintro e w' ⟨rfl, ⟨nd, rfl⟩⟩; (try first | exact ⟨rfl, _, World.drewN_drewN _ _ _⟩ | exact ⟨rfl, _, Eq.trans (World.drewN_drewN _ _ _) (congrArg (World.drewN _) (Nat.add_assoc _ _ _))⟩)))
      repeat (go_quiet (first | (go_at_call 85; (with_reducible refine (zcV.calls _ _ l0_1 (wrap64 (x3_1 - 1)) t350 _ ?side1 ?side2 A9.out).mono ?_); (case side1 => exact xz HR0_1.out HB.out); (case side2 => exact HC0_1.out); rintro e w' ⟨rfl, ⟨nd, rfl⟩⟩; (try first | exact ⟨rfl, _, World.drewN_drewN _ _ _⟩ | exact ⟨rfl, _, Eq.trans (World.drewN_drewN _ _ _) (congrArg (World.drewN _) (Nat.add_assoc _ _ _))⟩))); try go_wp2_with (first | (go_at_call 85; (with_reducible refine (zcV.calls _ _ l0_1 (wrap64 (x3_1 - 1)) t350 _ ?side1 ?side2 A9.out).mono ?_); (case side1 => exact xz HR0_1.out HB.out); (case side2 => exact HC0_1.out); rintro e w' ⟨rfl, ⟨nd, rfl⟩⟩; (try first | exact ⟨rfl, _, World.drewN_drewN _ _ _⟩ | exact ⟨rfl, _, Eq.trans (World.drewN_drewN _ _ _) (congrArg (World.drewN _) (Nat.add_assoc _ _ _))⟩))))
      go_ret
      exact ⟨xe, xs HB.out GE347.out⟩
     ·rw [if_neg c10] at H
      have c10b0 : decide (t350 < (rd l0_0 x3_1)) = false := decide_eq_false c10
      clear c10
      have H' := ax H
      clear H
      have hcz12_0 := bc0 BK347.out
      have hcz12_1 := bc1 BK347.out
      have hfz12_0 := zae BK347.out 0
      have hfz12_1 := zae BK347.out 1
      have p349 : 0 ≤ (x3_1 : Int) := xd
      have q349 : x3_1 < (l0_0.length : Int) := xd
      obtain ⟨ad349, e349, hx349_0⟩ := Kd.zbK HR0_0.out x3_1 p349 q349
      cases e349
      (try replace hx349_0 := (HB.out.cell (World.block_lt_of_cell? w _ hx349_0)).trans hx349_0)
      replace p349 := eq_true p349
      replace q349 := eq_true q349
      go_wp2_with (first | (go_at_call 85; (with_reducible refine (zcV.calls _ _ l0_1 (wrap64 (x3_1 - 1)) t350 _ ?side1 ?side2 A9.out).mono ?_); (case side1 => exact xz HR0_1.out HB.out); (case side2 => exact HC0_1.out); rintro e w' ⟨rfl, ⟨nd, rfl⟩⟩; (try first | exact ⟨rfl, _, World.drewN_drewN _ _ _⟩ | exact ⟨rfl, _, Eq.trans (World.drewN_drewN _ _ _) (congrArg (World.drewN _) (Nat.add_assoc _ _ _))⟩)))
      repeat (go_quiet (first | (go_at_call 85; (with_reducible refine (zcV.calls _ _ l0_1 (wrap64 (x3_1 - 1)) t350 _ ?side1 ?side2 A9.out).mono ?_); (case side1 => exact xz HR0_1.out HB.out); (case side2 => exact HC0_1.out); rintro e w' ⟨rfl, ⟨nd, rfl⟩⟩; (try first | exact ⟨rfl, _, World.drewN_drewN _ _ _⟩ | exact ⟨rfl, _, Eq.trans (World.drewN_drewN _ _ _) (congrArg (World.drewN _) (Nat.add_assoc _ _ _))⟩))); try go_wp2_with (first | (go_at_call 85; (with_reducible refine (zcV.calls _ _ l0_1 (wrap64 (x3_1 - 1)) t350 _ ?side1 ?side2 A9.out).mono ?_); (case side1 => exact xz HR0_1.out HB.out); (case side2 => exact HC0_1.out); rintro e w' ⟨rfl, ⟨nd, rfl⟩⟩; (try first | exact ⟨rfl, _, World.drewN_drewN _ _ _⟩ | exact ⟨rfl, _, Eq.trans (World.drewN_drewN _ _ _) (congrArg (World.drewN _) (Nat.add_assoc _ _ _))⟩))))
      go_roundg k1
      case measure => have := HK1.out; omega
      case rel => exact ⟨(wrap64 (x3_1 + 1)), xr, H', ⟨by have := HK1.out; omega⟩, ⟨xk BK347.out⟩, ⟨xs HB.out GE347.out⟩⟩
    ·rw [if_neg c7] at H
     have c7b0 := decide_eq_false c7
     clear c7
     obtain rfl := Option.some.inj H
     have hcz13_0 := bc0 BK347.out
     have hcz13_1 := bc1 BK347.out
     have hfz13_0 := zae BK347.out 0
     have hfz13_1 := zae BK347.out 1
     go_wp2
     repeat (go_quiet (fail); try go_wp2)
     go_ret
     exact ⟨xe, xs HB.out GE347.out⟩
 ·replace c3 := Bool.eq_false_iff.mpr c3
  subst c3
  rw [if_neg (show ¬ (false = true) by decide)] at H
  obtain rfl := Option.some.inj H
  go_enter Try.func88, Try.ntmps88
  go_wp2_with (first | ((with_reducible refine zaG (N := 1) rfl ?_); refine zaK ?hg (N := 1) ?hd (cs := #[.slice A0_0 l0_0.length c0_0, .slice A0_1 l0_1.length c0_1]) (t := 40) ?hr ?_; (case hd => rfl); (case hg => rfl); (case hr => first | (go_simp; done) | (go_simp; rfl)); intro gb347 hg w14 hbox hb; have BK347 := ax (hbox); have GW347 := ax ((by rw [hg]; exact (zaf (xb HB.out)) : w.heap.size ≤ gb347)); have GE347 := ax ((by rw [hg]; exact (zaf (xb HB.out)) : w.heap.size ≤ gb347)); replace HB := yB HB hb; clear hb hbox hg; have hcz15_0 := bc0 BK347.out; have hcz15_1 := bc1 BK347.out; have hfz15_0 := zae BK347.out 0; have hfz15_1 := zae BK347.out 1) | (go_at_call 41; (with_reducible refine (za1.calls k _ _ l0_0 _ _ l0_1 false _ ?side1 ?side2 ?side3 ?side4 A2.out).mono ?_); (case side1 => exact xz HR0_0.out HB.out); (case side2 => exact HC0_0.out); (case side3 => exact xz HR0_1.out HB.out); (case side4 => exact HC0_1.out); rintro e w16 ⟨rfl, hb⟩; replace BK347 := ax (bb BK347.out hb); replace HB := ax (zat (xs HB.out GE347.out) hb); (try clear hb)))
  repeat (go_quiet (first | ((with_reducible refine zaG (N := 1) rfl ?_); refine zaK ?hg (N := 1) ?hd (cs := #[.slice A0_0 l0_0.length c0_0, .slice A0_1 l0_1.length c0_1]) (t := 40) ?hr ?_; (case hd => rfl); (case hg => rfl); (case hr => first | (go_simp; done) | (go_simp; rfl)); intro gb347 hg w14 hbox hb; have BK347 := ax (hbox); have GW347 := ax ((by rw [hg]; exact (zaf (xb HB.out)) : w.heap.size ≤ gb347)); have GE347 := ax ((by rw [hg]; exact (zaf (xb HB.out)) : w.heap.size ≤ gb347)); replace HB := yB HB hb; clear hb hbox hg; have hcz15_0 := bc0 BK347.out; have hcz15_1 := bc1 BK347.out; have hfz15_0 := zae BK347.out 0; have hfz15_1 := zae BK347.out 1) | (go_at_call 41; (with_reducible refine (za1.calls k _ _ l0_0 _ _ l0_1 false _ ?side1 ?side2 ?side3 ?side4 A2.out).mono ?_); (case side1 => exact xz HR0_0.out HB.out); (case side2 => exact HC0_0.out); (case side3 => exact xz HR0_1.out HB.out); (case side4 => exact HC0_1.out); rintro e w16 ⟨rfl, hb⟩; replace BK347 := ax (bb BK347.out hb); replace HB := ax (zat (xs HB.out GE347.out) hb); (try clear hb))); try go_wp2_with (first | ((with_reducible refine zaG (N := 1) rfl ?_); refine zaK ?hg (N := 1) ?hd (cs := #[.slice A0_0 l0_0.length c0_0, .slice A0_1 l0_1.length c0_1]) (t := 40) ?hr ?_; (case hd => rfl); (case hg => rfl); (case hr => first | (go_simp; done) | (go_simp; rfl)); intro gb347 hg w14 hbox hb; have BK347 := ax (hbox); have GW347 := ax ((by rw [hg]; exact (zaf (xb HB.out)) : w.heap.size ≤ gb347)); have GE347 := ax ((by rw [hg]; exact (zaf (xb HB.out)) : w.heap.size ≤ gb347)); replace HB := yB HB hb; clear hb hbox hg; have hcz15_0 := bc0 BK347.out; have hcz15_1 := bc1 BK347.out; have hfz15_0 := zae BK347.out 0; have hfz15_1 := zae BK347.out 1) | (go_at_call 41; (with_reducible refine (za1.calls k _ _ l0_0 _ _ l0_1 false _ ?side1 ?side2 ?side3 ?side4 A2.out).mono ?_); (case side1 => exact xz HR0_0.out HB.out); (case side2 => exact HC0_0.out); (case side3 => exact xz HR0_1.out HB.out); (case side4 => exact HC0_1.out); rintro e w16 ⟨rfl, hb⟩; replace BK347 := ax (bb BK347.out hb); replace HB := ax (zat (xs HB.out GE347.out) hb); (try clear hb))))
  go_ret
  exact ⟨xe, xs HB.out GE347.out⟩

/-! ### zaH: function 124 -/
def zaH.f (k : Nat) (l0 : List Int)  (l2 : List Int) : Option (Bool) := (zaI.f k l2 l0).bind fun t353 => (some t353)
theorem zaH.mono : ∀ a0 a1 k, LeO (zaH.f k a0 a1) (zaH.f (k + 1) a0 a1) := by
 intro a0 a1 k
 unfold zaH.f
 repeat' with_reducible first | exact zaI.mono _ _ _ | exact xl | refine LeO.ite ?_ ?_ | refine LeO.bind ?_ fun _ => ?_
theorem zaH.calls (k : Nat) (A0 : Option Addr) (c0 : Nat) (l0 : List Int) (g1 : Nat) (g2 : Nat) (A2 : Option Addr) (c2 : Nat) (l2 : List Int) (r : Bool) (w : World) (hr0 : Kd.C (Kd.int .i64) w A0 l0.length l0) (hc0 : l0.length ≤ c0) (hb1 : w.heap[g1]? = some (.cells #[.func (.func 88) #[] #[]] 58 (0, 0))) (hb2 : w.heap[g2]? = some (.cells #[.slice A2 l2.length c2] 35 (0, 0))) (hr2 : Kd.C (Kd.int .i64) w A2 l2.length l2) (hc2 : l2.length ≤ c2) (h : zaH.f k l0 l2 = some r) :
  Calls Try.prog 93 #[.slice A0 l0.length c0, .pointer (some ⟨g1, 0, none⟩), .pointer (some ⟨g2, 0, none⟩)] w fun e w' => e = .returned (.bool r) ∧ Below w.heap.size w w' := by
 have hu40 := Try.underlying40
 have HR0 := ax hr0
 have HC0 := ax hc0
 clear hr0 hc0
 have HR2 := ax hr2
 have HC2 := ax hc2
 clear hr2 hc2
 have HX1 := ax hb1
 clear hb1
 have HX2 := ax hb2
 clear hb2
 have HB := ax (Below.refl w.heap.size w)
 have H : ((zaI.f k l2 l0).bind fun t353 => (some t353)) = some r := h
 clear h
 obtain ⟨t353, A4, H⟩ := xI H
 obtain rfl := Option.some.inj H
 have hcz5_0 : w.cell? ⟨g1, 0, none⟩ = some (.func (.func 88) #[] #[]) := (zaC HX1.out 0).trans rfl
 have hfz5_0 := zae HX1.out 0
 have hcz6_0 : w.cell? ⟨g2, 0, none⟩ = some (.slice A2 l2.length c2) := (zaC HX2.out 0).trans rfl
 have hfz6_0 := zae HX2.out 0
 go_enter Try.func93, Try.ntmps93
 go_wp2_with (first | (go_at_call 88; (with_reducible refine (zaI.calls k _ _ l2 _ _ l0 t353 _ ?side1 ?side2 ?side3 ?side4 A4.out).mono ?_); (case side1 => exact xc HR2.out); (case side2 => exact HC2.out); (case side3 => exact xc HR0.out); (case side4 => exact HC0.out); rintro e w7 ⟨rfl, hb⟩; replace HX1 := ax (bb HX1.out hb); replace HX2 := ax (bb HX2.out hb); replace HB := ax (zat (bh HB.out) hb); (try clear hb)))
 go_ret
 exact ⟨xe, bh HB.out⟩

/-! ### zag: function 123 -/
def zag.l0 : Nat → List (List Int) → List (List Int) → Int → Int → List Int → Option ((List (List Int)))
 | 0, _, _, _, _, _ => none
 | k + 1, x5, x10, x11, x12, x1001 => if x12 < x11 then (if 0 ≤ x12 then (if x12 < (x10.length : Int) then ((zaH.f k (zbX x10 x12) x1001).bind fun t363 => (if t363 = true then (if x5.length < 5864062014805 then (zag.l0 k (x5 ++ [zbX x10 x12]) x10 x11 (wrap64 (x12 + 1)) x1001) else (none)) else (zag.l0 k x5 x10 x11 (wrap64 (x12 + 1)) x1001))) else (none)) else (none)) else (some x5)
def zag.f (k : Nat) (a0 : Int) (l1_1 : List Int) : Option ((List (List Int))) := (zbu.f k a0).bind fun t359 => (zag.l0 k (([] : List (List Int))) t359 (t359.length : Int) 0 l1_1)
theorem zag.zaZ : ∀ k, (∀ y0 y1 y2 y3 y4, LeO (zag.l0 k y0 y1 y2 y3 y4) (zag.l0 (k + 1) y0 y1 y2 y3 y4))
 | 0 => fun _ _ _ _ _ r h => by simp [zag.l0] at h
 | k + 1 => by
  have ih0 := zag.zaZ k
  ·intro y0 y1 y2 y3 y4
   unfold zag.l0
   repeat' with_reducible first | exact ih0 _ _ _ _ _ | exact zbu.mono _ _ | exact zaH.mono _ _ _ | exact xl | refine LeO.ite ?_ ?_ | refine LeO.bind ?_ fun _ => ?_
theorem zag.mono : ∀ a0 a1 k, LeO (zag.f k a0 a1) (zag.f (k + 1) a0 a1) := by
 intro a0 a1 k
 have ih0 := zag.zaZ k
 unfold zag.f
 repeat' with_reducible first | exact ih0 _ _ _ _ _ | exact zbu.mono _ _ | exact zaH.mono _ _ _ | exact xl | refine LeO.ite ?_ ?_ | refine LeO.bind ?_ fun _ => ?_
theorem zag.calls (k : Nat) (a0 : Int) (g1_0 : Nat) (g1_1 : Nat) (A1_1 : Option Addr) (c1_1 : Nat) (l1_1 : List Int) (r : List (List Int)) (w : World) (hb1_0 : w.heap[g1_0]? = some (.cells #[.func (.func 88) #[] #[]] 58 (0, 0))) (hb1_1 : w.heap[g1_1]? = some (.cells #[.slice A1_1 l1_1.length c1_1] 35 (0, 0))) (hr1_1 : Kd.C (Kd.int .i64) w A1_1 l1_1.length l1_1) (hc1_1 : l1_1.length ≤ c1_1) (h : zag.f k a0 l1_1 = some r) :
  Calls Try.prog 92 #[.int .i64 a0, .func (.func 93) #[] #[.pointer (some ⟨g1_0, 0, none⟩), .pointer (some ⟨g1_1, 0, none⟩)]] w fun e w' => ∃ v0_ : Value, e = .returned (v0_) ∧ Kd.N (Kd.slice 3 (Kd.int .i64)) 35 w' w.heap.size (fun k_ => (w.heap.size ≤ k_)) v0_ r ∧ Below w.heap.size w w' := by
 have HR1_1 := ax hr1_1
 have HC1_1 := ax hc1_1
 clear hr1_1 hc1_1
 have HX1_0 := ax hb1_0
 clear hb1_0
 have HX1_1 := ax hb1_1
 clear hb1_1
 have HB := ax (Below.refl w.heap.size w)
 have H : ((zbu.f k a0).bind fun t359 => (zag.l0 k (([] : List (List Int))) t359 (t359.length : Int) 0 l1_1)) = some r := h
 clear h
 obtain ⟨y356, hy356⟩ : ∃ y_ : List (List Int), y_ = (([] : List (List Int))) := ⟨_, rfl⟩
 replace H : ((zbu.f k a0).bind fun t359 => (zag.l0 k y356 t359 (t359.length : Int) 0 l1_1)) = some r := xv hy356 H
 have Ny356 := ax hy356
 clear hy356
 obtain ⟨t359, A3, H⟩ := xI H
 have H' := ax H
 clear H
 go_enter Try.func92, Try.ntmps92
 go_wp2_with (first | ((with_reducible refine zaG (N := 8) rfl ?_); refine Kd.zhv (Kd.slice 3 (Kd.int .i64)) _ 35 ?hg (N' := 8) ?hd (xs := ([] : List (List Int))) (inner := []) (ok := (fun k_ => (w.heap.size ≤ k_) ∧ k_ ≠ g1_0 ∧ k_ ≠ g1_1)) (okp := (fun k_ => (w.heap.size ≤ k_) ∧ k_ ≠ g1_0 ∧ k_ ≠ g1_1)) ?hr ?hp (fun _ hk => hk) ((show ∀ k_, w.heap.size ≤ k_ → (fun k_ => (w.heap.size ≤ k_) ∧ k_ ≠ g1_0 ∧ k_ ≠ g1_1) k_ from fun k_ hk => ⟨(Nat.le_trans (zaf (bh HB.out)) hk), Kd.zb9 (g := g1_0) (o := .cells #[.func (.func 88) #[] #[]] 58 (0, 0)) (xk HX1_0.out) k_ hk, Kd.zb9 (g := g1_1) (o := .cells #[.slice A1_1 l1_1.length c1_1] 35 (0, 0)) (xk HX1_1.out) k_ hk⟩) _ (Nat.le_refl _)) (Below.refl _ _) (Nat.le_refl _) (by simp) ?_; (case hd => rfl); (case hg => rfl); (case hr => first | (go_simp; done) | (go_simp; rfl)); (case hp => exact (Reps.none _ _)); intro v357 w4 ho5 hb hg_ hnew_; clear hg_ hnew_; (first | rw [← Ny356.out] at ho5 | (simp only [Int.reduceToNat] at ho5; rw [← Ny356.out] at ho5)); have HO358 := ax (Kd.zcD ho5 (zaf (bh HB.out))); replace HX1_0 := ax (bb HX1_0.out hb); replace HX1_1 := ax (bb HX1_1.out hb); replace HB := ax (zat (bh HB.out) hb); clear hb ho5) | ((with_reducible refine zan (f := 95) rfl ?_); refine zaM (some 10) rfl rfl Try.func95 (by kernel_rfl) rfl #[.int .i64 a0] rfl xm ?_; (with_reducible refine (zbu.calls k a0 t359 _ A3.out).mono ?_); rintro e w6 ⟨v360, rfl, ho0, hb⟩; refine ⟨_, rfl, ?_⟩; have HO361 := ax (Kd.zcD (Kd.zaQ (ok' := fun k_ => (w.heap.size ≤ k_) ∧ some k_ ≠ (v357 : Value).ownBlock ∧ k_ ≠ g1_0 ∧ k_ ≠ g1_1) ho0 (fun k_ hk_ => ⟨(Nat.le_trans (zaf (bh HB.out)) hk_), (Kd.fresh' (Kd.N_lt (xN HO358.out)) k_ hk_), (Kd.zb9 (g := g1_0) (o := .cells #[.func (.func 88) #[] #[]] 58 (0, 0)) (xk HX1_0.out) k_ hk_), (Kd.zb9 (g := g1_1) (o := .cells #[.slice A1_1 l1_1.length c1_1] 35 (0, 0)) (xk HX1_1.out) k_ hk_)⟩)) (zaf (bh HB.out))); replace HO358 := ax (Kd.zbI (xN HO358.out) (by first | exact Kd.zdu ho0 | exact Kd.zcT ho0 | exact Kd.zbh ho0) hb); replace HX1_0 := ax (bb HX1_0.out hb); replace HX1_1 := ax (bb HX1_1.out hb); replace HB := ax (zat (bh HB.out) hb); (try clear hb); (try clear ho0); obtain ⟨Ao7, co7, eo7⟩ := Kd.zbx HO361.out; subst eo7))
 go_loopg [5, 12] k (fun kq v5 v12 w' => ∃ (x5_1 : List (List Int)) (x12_1 : Int), v12 = .int .i64 x12_1 ∧ zao (zag.l0 kq x5_1 t359 (t359.length : Int) x12_1 l1_1 = some r) ∧ zao (kq ≤ k) ∧ zao (Kd.N (Kd.slice 3 (Kd.int .i64)) 35 w' w.heap.size (fun k_ => (w.heap.size ≤ k_) ∧ some k_ ≠ ((.slice Ao7 t359.length co7) : Value).ownBlock ∧ k_ ≠ g1_0 ∧ k_ ≠ g1_1) v5 x5_1) ∧ zao (Kd.N (Kd.slice 3 (Kd.int .i64)) 35 w' w.heap.size (fun k_ => (w.heap.size ≤ k_) ∧ some k_ ≠ (v5 : Value).ownBlock ∧ k_ ≠ g1_0 ∧ k_ ≠ g1_1) (.slice Ao7 t359.length co7) t359) ∧ zao (w'.heap[g1_0]? = some (.cells #[.func (.func 88) #[] #[]] 58 (0, 0))) ∧ zao (w'.heap[g1_1]? = some (.cells #[(.slice A1_1 l1_1.length c1_1)] 35 (0, 0))) ∧ zao (Below w.heap.size w w'))
 case atStart => exact ⟨(y356), (0), xr, H', ⟨Nat.le_refl _⟩, ⟨by (with_reducible repeat (first | apply Kd.za4 | apply Kd.za3 | apply Kd.zaY)); exact Kd.zaQ HO358.out (fun _ hk => ⟨hk.1.1, ⟨hk.2, ⟨hk.1.2.1, hk.1.2.2⟩⟩⟩)⟩, ⟨xN HO361.out⟩, ⟨xk HX1_0.out⟩, ⟨xk HX1_1.out⟩, ⟨bh HB.out⟩⟩
 case round =>
  clear H'
  obtain ⟨x5_1, x12_1, rfl, HA, HK1, HO_5, HO_10, HX1_0, HX1_1, HB⟩ := hrel
  cases gk with
  | zero => exact absurd HA.out (by simp [zag.l0])
  | succ k1 =>
   have H := HA.out
   clear HA
   simp only [zag.l0] at H
   by_cases c8 : x12_1 < (t359.length : Int)
   ·rw [if_pos c8] at H
    have c8b0 := decide_eq_true c8
    clear c8
    obtain ⟨c9b0, H⟩ := xq H
    obtain ⟨c10b0, H⟩ := xq H
    obtain ⟨t363, A11, H⟩ := xI H
    by_cases c12 : t363 = true
    ·subst c12
     rw [if_pos rfl] at H
     obtain ⟨c13, H⟩ := xp H
     have LMc13 := ax c13
     clear c13
     obtain ⟨y364, hy364⟩ : ∃ y_ : List (List Int), y_ = (x5_1 ++ [zbX t359 x12_1]) := ⟨_, rfl⟩
     replace H : (zag.l0 k1 y364 t359 (t359.length : Int) (wrap64 (x12_1 + 1)) l1_1) = some r := xv hy364 H
     have Ny364 := ax hy364
     clear hy364
     have H' := ax H
     clear H
     have p362 : 0 ≤ (x12_1 : Int) := xd
     have q362 : x12_1 < (t359.length : Int) := xd
     obtain ⟨ad362, A362_0, c362_0, e362, hx362_0, hl362_0, hi362_0⟩ := zfa (Kd.zay HO_10.out).2.2 x12_1 p362 q362
     cases e362
     obtain ⟨ce362, hce362, hMe362, hcc362⟩ := Kd.zcl HO_10.out [] x12_1 p362 (by first | exact q362 | exact xd | (have e_ := (Kd.zay HO_10.out).1; omega))
     obtain ⟨ua362_0, uc362_0, rfl, ul362_0, ge362_0⟩ := Kd.zcg hMe362
     have hv362_0 := hcc362 0 _ rfl
     rw [Nat.add_zero, show ((Kd.slice 3 (Kd.int .i64))).sz = 1 from rfl, Nat.mul_one] at hv362_0
     replace hv362_0 := Option.some.inj (hv362_0.symm.trans hx362_0)
     injection hv362_0 with hva_ hvn_ hvc_
     rw [hva_] at ge362_0
     rw [hvc_] at ul362_0
     have HL362_0 := ax (show Kd.V (Kd.int .i64) 3 _ w.heap.size _ _ (zbX t359 x12_1) from Kd.V_mk ul362_0 ge362_0)
     clear hva_ hvn_ hvc_ ge362_0 ul362_0 hcc362 hce362
     have HR362_0 := ax hi362_0
     have HC362_0 := ax hl362_0
     clear hi362_0 hl362_0
     replace p362 := eq_true p362
     replace q362 := eq_true q362
     go_wp2_with (first | (go_at_call 93; (with_reducible refine (zaH.calls k1 _ _ (zbX t359 x12_1) g1_0 g1_1 A1_1 c1_1 l1_1 true _ ?side1 ?side2 ?side3 ?side4 ?side5 ?side6 A11.out).mono ?_); (case side1 => exact xw HR362_0.out); (case side2 => exact HC362_0.out); (case side3 => (with_reducible repeat (first | refine zak ?_ _ | refine zal ?_ | refine zai ?_ _)); exact HX1_0.out); (case side4 => (with_reducible repeat (first | refine zak ?_ _ | refine zal ?_ | refine zai ?_ _)); exact HX1_1.out); (case side5 => exact xz HR1_1.out HB.out); (case side6 => exact HC1_1.out); rintro e w14 ⟨rfl, hb⟩; replace HO_5 := ax (Kd.zbH (xN HO_5.out) hb); replace HO_10 := ax (Kd.zbH (xN HO_10.out) hb); replace HL362_0 := yV HL362_0 hb; replace HX1_0 := ax (bb HX1_0.out hb); replace HX1_1 := ax (bb HX1_1.out hb); replace HR362_0 := ax (Kd.za8 (xw HR362_0.out) hb); replace HB := ax (zat (bh HB.out) hb); (try clear hb)) | ((with_reducible refine zbN (b := .append) (xs := #[.tmp 19, .tmp 21]) rfl ?_); at_builtin; refine Kd.zha (Kd.slice 3 (Kd.int .i64)) (w0 := w) w.heap.size rfl (.tmp 19) (.tmp 21) 64 35 (.slice none 0 0) 24 rfl Try.underlying64 zfr rfl (by decide) (by omega) u5 x5_1 (zbX t359 x12_1) [.slice A362_0 (zbX t359 x12_1).length c362_0] (fun k_ => (w.heap.size ≤ k_) ∧ some k_ ≠ (.slice (some ad362) t359.length co7 : Value).ownBlock ∧ k_ ≠ g1_0 ∧ k_ ≠ g1_1) (fun k_ => ((fun k_ => (w.heap.size ≤ k_) ∧ some k_ ≠ (.slice (some ad362) t359.length co7 : Value).ownBlock ∧ k_ ≠ g1_0 ∧ k_ ≠ g1_1)) k_ ∧ some k_ ≠ (u5 : Value).ownBlock) rfl rfl ?aP (fun _ hk => hk) ?aF ?aO ?aB ?aS ?aL ?_; (case aP => exact (Kd.zd2 (Kd.zc (Kd.zbA (ok' := (fun k_ => ((fun k_ => (w.heap.size ≤ k_) ∧ some k_ ≠ (.slice (some ad362) t359.length co7 : Value).ownBlock ∧ k_ ≠ g1_0 ∧ k_ ≠ g1_1)) k_ ∧ some k_ ≠ (u5 : Value).ownBlock)) (HL362_0.out) (fun k_ hk => ⟨⟨hk.1.1, ⟨hk.2, ⟨hk.1.2.2.1, hk.1.2.2.2⟩⟩⟩, hk.1.2.1⟩))).2.1 (Kd.V_F (Kd.zbA (ok' := (fun k_ => ((fun k_ => (w.heap.size ≤ k_) ∧ some k_ ≠ (.slice (some ad362) t359.length co7 : Value).ownBlock ∧ k_ ≠ g1_0 ∧ k_ ≠ g1_1)) k_ ∧ some k_ ≠ (u5 : Value).ownBlock)) (HL362_0.out) (fun k_ hk => ⟨⟨hk.1.1, ⟨hk.2, ⟨hk.1.2.2.1, hk.1.2.2.2⟩⟩⟩, hk.1.2.1⟩))))); (case aB => exact (bh HB.out)); (case aF => exact (fun k_ hk => ⟨(Nat.le_trans (zaf (bh HB.out)) hk), Kd.fresh' (Kd.N_lt (xN HO_10.out)) k_ hk, Kd.zb9 (g := g1_0) (o := .cells #[.func (.func 88) #[] #[]] 58 (0, 0)) (xk HX1_0.out) k_ hk, Kd.zb9 (g := g1_1) (o := .cells #[.slice A1_1 l1_1.length c1_1] 35 (0, 0)) (xk HX1_1.out) k_ hk⟩)); (case aO => exact (xN HO_5.out)); (case aS => exact (zaf (bh HB.out))); (case aL => have := LMc13.out; omega); intro v365 w15 ho hb hg hat; rw [← Ny364.out] at ho; have n0_ := ax (Kd.zcJ (ok := (fun k_ => (w.heap.size ≤ k_) ∧ k_ ≠ g1_0 ∧ k_ ≠ g1_1)) (by (with_reducible repeat (first | apply Kd.za4 | apply Kd.za3 | apply Kd.zaY)); exact Kd.zaQ HO_10.out (by first | exact (fun _ hk => ⟨⟨hk.1, ⟨hk.2.2.1, hk.2.2.2⟩⟩, hk.2.1⟩) | exact xi)) hg hat); have n1_ := ax (zce (g := g1_0) (o := .cells #[.func (.func 88) #[] #[]] 58 (0, 0)) (xk HX1_0.out) hg (Kd.N_ne HO_5.out HX1_0.out (by decide))); have n2_ := ax (zce (g := g1_1) (o := .cells #[.slice A1_1 l1_1.length c1_1] 35 (0, 0)) (xk HX1_1.out) hg (Kd.zfe HO_5.out (fun _ hk => hk.2.2.2))); have n3_ := ax (Kd.zcN (ok := (fun k_ => (w.heap.size ≤ k_) ∧ some k_ ≠ (.slice (some ad362) t359.length co7 : Value).ownBlock ∧ k_ ≠ g1_0 ∧ k_ ≠ g1_1)) (by (with_reducible repeat (first | apply Kd.zb1 | apply Kd.zb0 | apply Kd.zbV)); exact Kd.zbA HL362_0.out (by first | exact (fun _ hk => ⟨⟨hk.1.1, ⟨hk.2, ⟨hk.1.2.2.1, hk.1.2.2.2⟩⟩⟩, hk.1.2.1⟩) | exact xi)) hg hat); have n4_ := ax (hb); have n5_ := ax (ho); clear HO_10; clear HX1_0; clear HX1_1; clear HL362_0; clear HB; clear HO_5; have HO_10 := n0_; have HX1_0 := n1_; have HX1_1 := n2_; have HL362_0 := n3_; have HB := n4_; have HO366 := n5_; clear n0_ n1_ n2_ n3_ n4_ n5_; clear ho hb hg hat))
     go_roundg k1
     case measure => have := HK1.out; omega
     case rel => exact ⟨(y364), (wrap64 (x12_1 + 1)), xr, H', ⟨by have := HK1.out; omega⟩, ⟨xN HO366.out⟩, ⟨by (with_reducible repeat (first | apply Kd.za4 | apply Kd.za3 | apply Kd.zaY)); exact Kd.zaQ HO_10.out (fun _ hk => ⟨hk.1.1, ⟨hk.2, ⟨hk.1.2.1, hk.1.2.2⟩⟩⟩)⟩, ⟨xk HX1_0.out⟩, ⟨xk HX1_1.out⟩, ⟨bh HB.out⟩⟩
    ·replace c12 := Bool.eq_false_iff.mpr c12
     subst c12
     rw [if_neg (show ¬ (false = true) by decide)] at H
     have H' := ax H
     clear H
     have p362 : 0 ≤ (x12_1 : Int) := xd
     have q362 : x12_1 < (t359.length : Int) := xd
     obtain ⟨ad362, A362_0, c362_0, e362, hx362_0, hl362_0, hi362_0⟩ := zfa (Kd.zay HO_10.out).2.2 x12_1 p362 q362
     cases e362
     obtain ⟨ce362, hce362, hMe362, hcc362⟩ := Kd.zcl HO_10.out [] x12_1 p362 (by first | exact q362 | exact xd | (have e_ := (Kd.zay HO_10.out).1; omega))
     obtain ⟨ua362_0, uc362_0, rfl, ul362_0, ge362_0⟩ := Kd.zcg hMe362
     have hv362_0 := hcc362 0 _ rfl
     rw [Nat.add_zero, show ((Kd.slice 3 (Kd.int .i64))).sz = 1 from rfl, Nat.mul_one] at hv362_0
     replace hv362_0 := Option.some.inj (hv362_0.symm.trans hx362_0)
     injection hv362_0 with hva_ hvn_ hvc_
     rw [hva_] at ge362_0
     rw [hvc_] at ul362_0
     have HL362_0 := ax (show Kd.V (Kd.int .i64) 3 _ w.heap.size _ _ (zbX t359 x12_1) from Kd.V_mk ul362_0 ge362_0)
     clear hva_ hvn_ hvc_ ge362_0 ul362_0 hcc362 hce362
     have HR362_0 := ax hi362_0
     have HC362_0 := ax hl362_0
     clear hi362_0 hl362_0
     replace p362 := eq_true p362
     replace q362 := eq_true q362
     go_wp2_with (first | (go_at_call 93; (with_reducible refine (zaH.calls k1 _ _ (zbX t359 x12_1) g1_0 g1_1 A1_1 c1_1 l1_1 false _ ?side1 ?side2 ?side3 ?side4 ?side5 ?side6 A11.out).mono ?_); (case side1 => exact xw HR362_0.out); (case side2 => exact HC362_0.out); (case side3 => (with_reducible repeat (first | refine zak ?_ _ | refine zal ?_ | refine zai ?_ _)); exact HX1_0.out); (case side4 => (with_reducible repeat (first | refine zak ?_ _ | refine zal ?_ | refine zai ?_ _)); exact HX1_1.out); (case side5 => exact xz HR1_1.out HB.out); (case side6 => exact HC1_1.out); rintro e w16 ⟨rfl, hb⟩; replace HO_5 := ax (Kd.zbH (xN HO_5.out) hb); replace HO_10 := ax (Kd.zbH (xN HO_10.out) hb); replace HL362_0 := yV HL362_0 hb; replace HX1_0 := ax (bb HX1_0.out hb); replace HX1_1 := ax (bb HX1_1.out hb); replace HR362_0 := ax (Kd.za8 (xw HR362_0.out) hb); replace HB := ax (zat (bh HB.out) hb); (try clear hb)))
     go_roundg k1
     case measure => have := HK1.out; omega
     case rel => exact ⟨(x5_1), (wrap64 (x12_1 + 1)), xr, H', ⟨by have := HK1.out; omega⟩, ⟨xN HO_5.out⟩, ⟨xN HO_10.out⟩, ⟨xk HX1_0.out⟩, ⟨xk HX1_1.out⟩, ⟨bh HB.out⟩⟩
   ·rw [if_neg c8] at H
    have c8b0 := decide_eq_false c8
    clear c8
    obtain rfl := Option.some.inj H
    go_wp2
    go_ret
    exact ⟨_, xe, by (with_reducible repeat (first | apply Kd.za4 | apply Kd.za3 | apply Kd.zaY)); exact Kd.zaQ HO_5.out (fun _ hk => hk.1), bh HB.out⟩

/-! ### zas: function 122 -/
def zas.j0 : Nat → Int → Bool → List Int → Option ((List (List Int)))
 | 0, _, _, _ => none
 | k + 1, x1, x16, x1003 => if x16 = true then (some ([] : List (List Int))) else ((zbl.f k x1003).bind fun t356 => ((zag.f k (wrap64 (t356 - x1)) x1003).bind fun t357 => (some t357)))
def zas.f (k : Nat) (l0 : List Int) (a1 : Int)  : Option ((List (List Int))) := (zau.f k l0).bind fun t353 => (if t353 = true then ((zbl.f k l0).bind fun t354 => ((zbv.f a1 0 t354).bind fun t355 => (zas.j0 k a1 (!t355) l0))) else (zas.j0 k a1 true l0))
theorem zas.zaZ : ∀ k, (∀ y0 y1 y2, LeO (zas.j0 k y0 y1 y2) (zas.j0 (k + 1) y0 y1 y2))
 | 0 => fun _ _ _ r h => by simp [zas.j0] at h
 | k + 1 => by
  have ih0 := zas.zaZ k
  ·intro y0 y1 y2
   unfold zas.j0
   repeat' with_reducible first | exact ih0 _ _ _ | exact zau.mono _ _ | exact zag.mono _ _ _ | exact zbl.mono _ _ | exact xl | refine LeO.ite ?_ ?_ | refine LeO.bind ?_ fun _ => ?_
theorem zas.mono : ∀ a0 a1 k, LeO (zas.f k a0 a1) (zas.f (k + 1) a0 a1) := by
 intro a0 a1 k
 have ih0 := zas.zaZ k
 unfold zas.f
 repeat' with_reducible first | exact ih0 _ _ _ | exact zau.mono _ _ | exact zag.mono _ _ _ | exact zbl.mono _ _ | exact xl | refine LeO.ite ?_ ?_ | refine LeO.bind ?_ fun _ => ?_
theorem zas.calls (k : Nat) (A0 : Option Addr) (c0 : Nat) (l0 : List Int) (a1 : Int)  (r : List (List Int)) (w : World) (hr0 : Kd.C (Kd.int .i64) w A0 l0.length l0) (hc0 : l0.length ≤ c0) (h : zas.f k l0 a1 = some r) :
  Calls Try.prog 87 #[.slice A0 l0.length c0, .int .i64 a1, .func (.func 88) #[] #[]] w fun e w' => ∃ v0_ : Value, e = .returned (v0_) ∧ Kd.N (Kd.slice 3 (Kd.int .i64)) 35 w' w.heap.size (fun k_ => (w.heap.size ≤ k_)) v0_ r ∧ Below w.heap.size w w' := by
 have HR0 := ax hr0
 have HC0 := ax hc0
 clear hr0 hc0
 have HB := ax (Below.refl w.heap.size w)
 have H : ((zau.f k l0).bind fun t353 => (if t353 = true then ((zbl.f k l0).bind fun t354 => ((zbv.f a1 0 t354).bind fun t355 => (zas.j0 k a1 (!t355) l0))) else (zas.j0 k a1 true l0))) = some r := h
 clear h
 have HC4 := ax H
 clear H
 go_enter Try.func87, Try.ntmps87
 go_upto_region 1 with (first | ((with_reducible refine zaG (N := 3) rfl ?_); refine zaK ?hg (N := 3) ?hd (cs := #[.slice A0 l0.length c0]) (t := 35) ?hr ?_; (case hd => rfl); (case hg => rfl); (case hr => first | (go_simp; done) | (go_simp; rfl)); intro gb351 hg w5 hbox hb; have BK351 := ax (hbox); have GW351 := ax ((by rw [hg]; exact (zaf (xb HB.out)) : w.heap.size ≤ gb351)); have GE351 := ax ((by rw [hg]; exact (zaf (xb HB.out)) : w.heap.size ≤ gb351)); replace HB := yB HB hb; clear hb hbox hg) | ((with_reducible refine zaG (N := 5) rfl ?_); refine zaK ?hg (N := 5) ?hd (cs := #[.func (.func 88) #[] #[]]) (t := 58) ?hr ?_; (case hd => rfl); (case hg => rfl); (case hr => first | (go_simp; done) | (go_simp; rfl)); intro gb352 hg w6 hbox hb; have BK352 := ax (hbox); have GW352 := ax ((by rw [hg]; exact (zaf (xs HB.out GE351.out)) : w.heap.size ≤ gb352)); have GE352 := ax ((by rw [hg]; exact (zaf (xs HB.out GE351.out)) : w.heap.size ≤ gb352)); replace HB := ax (zat (xs HB.out GE351.out) hb); have NB351_352 := ax (bn hg BK351.out); have NB352_351 := ax (bm hg BK351.out); replace BK351 := ax (bb BK351.out hb); clear hb hbox hg))
 (try simp only [Act.put, List.setIfInBounds_toArray, List.set_cons_zero, List.set_cons_succ])
 go_cut [16] (fun v16 wc => ∃ (kq : Nat) (x16_3 : Bool), v16 = .bool x16_3 ∧ zao (zas.j0 kq a1 x16_3 l0 = some r) ∧ zao (kq ≤ k) ∧ zao (wc.heap[gb351]? = some (.cells #[(.slice A0 l0.length c0)] 35 (0, 0))) ∧ zao (wc.heap[gb352]? = some (.cells #[.func (.func 88) #[] #[]] 58 (0, 0))) ∧ zao (Below w.heap.size w wc))
 case first =>
  have H := HC4.out
  clear HC4
  obtain ⟨t353, A7, H⟩ := xI H
  by_cases c8 : t353 = true
  ·subst c8
   rw [if_pos rfl] at H
   obtain ⟨t354, A9, H⟩ := xI H
   obtain ⟨t355, A10, H⟩ := xI H
   have H' := ax H
   clear H
   have hnb11 := NB351_352.out
   have hnc11 := NB352_351.out
   have hcz12_0 := bcs BK351.out
   have hfz12_0 := zae BK351.out 0
   go_wp2_with (first | ((with_reducible refine zan (f := 84) rfl ?_); refine zaM (some 8) rfl rfl Try.func84 (by kernel_rfl) rfl #[.slice A0 l0.length c0] rfl xm ?_; (with_reducible refine (zau.calls k _ _ l0 true _ ?side1 ?side2 A7.out).mono ?_); (case side1 => exact xz HR0.out HB.out); (case side2 => exact HC0.out); rintro e w' ⟨rfl, ⟨nd, rfl⟩⟩; refine ⟨_, rfl, ?_⟩) | (go_at_call 86; (with_reducible refine (zbl.calls k _ _ l0 t354 _ ?side1 ?side2 A9.out).mono ?_); (case side1 => repeat (first | exact (Kd.za8 HR0.out (bh HB.out)) | (with_reducible refine Kd.zbR ?_ _) | (with_reducible refine Kd.zbQ ?_ _) | (with_reducible refine Kd.zb2 ?_))); (case side2 => exact HC0.out); rintro e w' ⟨rfl, ⟨nd, rfl⟩⟩) | (go_at_call 42; (with_reducible refine (zbv.calls a1 0 t354 t355 _ A10.out).mono ?_); rintro e w' ⟨rfl, ⟨nd, rfl⟩⟩))
   go_meet
   case rel => exact ⟨_, (!t355), xr, H', ⟨by first | omega | exact Nat.le_refl _⟩, ⟨xk BK351.out⟩, ⟨xk BK352.out⟩, ⟨bh HB.out⟩⟩
  ·replace c8 := Bool.eq_false_iff.mpr c8
   subst c8
   rw [if_neg (show ¬ (false = true) by decide)] at H
   have H' := ax H
   clear H
   have hnb13 := NB351_352.out
   have hnc13 := NB352_351.out
   have hcz14_0 := bcs BK351.out
   have hfz14_0 := zae BK351.out 0
   go_wp2_with (first | ((with_reducible refine zan (f := 84) rfl ?_); refine zaM (some 8) rfl rfl Try.func84 (by kernel_rfl) rfl #[.slice A0 l0.length c0] rfl xm ?_; (with_reducible refine (zau.calls k _ _ l0 false _ ?side1 ?side2 A7.out).mono ?_); (case side1 => exact xz HR0.out HB.out); (case side2 => exact HC0.out); rintro e w' ⟨rfl, ⟨nd, rfl⟩⟩; refine ⟨_, rfl, ?_⟩))
   go_meet
   case rel => exact ⟨_, (true), xr, H', ⟨by first | omega | exact Nat.le_refl _⟩, ⟨xk BK351.out⟩, ⟨xk BK352.out⟩, ⟨bh HB.out⟩⟩
 case rest =>
  clear HC4
  (try clear c8); (try clear hcz12_0); (try clear hcz14_0); (try clear hfz12_0); (try clear hfz14_0)
  obtain ⟨kq, x16_3, rfl, HA, HJ3, BK351, BK352, HB⟩ := hcut
  cases kq with
  | zero => exact absurd HA.out (by simp [zas.j0])
  | succ kj3 =>
   have H := HA.out
   clear HA
   simp only [zas.j0] at H
   by_cases c15 : x16_3 = true
   ·subst c15
    rw [if_pos rfl] at H
    obtain rfl := Option.some.inj H
    go_wp2
    go_ret
    exact ⟨_, xe, by first | exact Kd.zgM _ _ _ _ _ | exact Kd.zgs _ _ _ _ _ | exact Kd.zgK _ _ _ _ _ | exact Kd.zgO _ _ _ _ _ | exact Kd.zeJ _ _ _ _ _, bh HB.out⟩
   ·replace c15 := Bool.eq_false_iff.mpr c15
    subst c15
    rw [if_neg (show ¬ (false = true) by decide)] at H
    obtain ⟨t356, A16, H⟩ := xI H
    obtain ⟨t357, A17, H⟩ := xI H
    obtain rfl := Option.some.inj H
    have hnb18 := NB351_352.out
    have hnc18 := NB352_351.out
    have hcz19_0 := bcs BK351.out
    have hfz19_0 := zae BK351.out 0
    go_wp2_with (first | ((with_reducible refine zan (f := 86) rfl ?_); refine zaM (some 18) rfl rfl Try.func86 (by kernel_rfl) rfl #[.slice A0 l0.length c0] rfl xm ?_; (with_reducible refine (zbl.calls kj3 _ _ l0 t356 _ ?side1 ?side2 A16.out).mono ?_); (case side1 => exact xz HR0.out HB.out); (case side2 => exact HC0.out); rintro e w' ⟨rfl, ⟨nd, rfl⟩⟩; refine ⟨_, rfl, ?_⟩) | ((with_reducible refine zan (f := 92) rfl ?_); refine zaM (some 22) rfl rfl Try.func92 (by kernel_rfl) rfl #[.int .i64 (wrap64 (t356 - a1)), .func (.func 93) #[] #[.pointer (some ⟨gb352, 0, none⟩), .pointer (some ⟨gb351, 0, none⟩)]] rfl xm ?_; (with_reducible refine (zag.calls kj3 (wrap64 (t356 - a1)) gb352 gb351 A0 c0 l0 t357 _ ?side1 ?side2 ?side3 ?side4 A17.out).mono ?_); (case side1 => (with_reducible repeat (first | refine zak ?_ _ | refine zal ?_ | refine zai ?_ _)); exact BK352.out); (case side2 => (with_reducible repeat (first | refine zak ?_ _ | refine zal ?_ | refine zai ?_ _)); exact BK351.out); (case side3 => repeat (first | exact (Kd.za8 HR0.out (bh HB.out)) | (with_reducible refine Kd.zbR ?_ _) | (with_reducible refine Kd.zbQ ?_ _) | (with_reducible refine Kd.zb2 ?_))); (case side4 => exact HC0.out); rintro e w20 ⟨v358, rfl, ho0, hb⟩; refine ⟨_, rfl, ?_⟩; have HO359 := ax (Kd.zcD (Kd.zaQ (ok' := fun k_ => (w.heap.size ≤ k_) ∧ k_ ≠ gb351 ∧ k_ ≠ gb352) ho0 (fun k_ hk_ => ⟨(Nat.le_trans (zaf (bh HB.out)) hk_), (Kd.zb9 (g := gb351) (o := .cells #[.slice A0 l0.length c0] 35 (0, 0)) (xk BK351.out) k_ hk_), (Kd.zb9 (g := gb352) (o := .cells #[.func (.func 88) #[] #[]] 58 (0, 0)) (xk BK352.out) k_ hk_)⟩)) (zaf (bh HB.out))); replace BK351 := ax (bb BK351.out hb); replace BK352 := ax (bb BK352.out hb); replace HB := ax (zat (bh HB.out) hb); (try clear hb); (try clear ho0)))
    go_ret
    exact ⟨_, xe, by (with_reducible repeat (first | apply Kd.za4 | apply Kd.za3 | apply Kd.zaY)); exact Kd.zaQ HO359.out (fun _ hk => hk.1), bh HB.out⟩

/-! ### zbe: function 73 -/
def zbe.f (k : Nat) (l0 : List Int) (a1 : Int) : Option ((List (List Int))) := (zas.f k l0 a1).bind fun t351 => (some t351)
theorem zbe.mono : ∀ a0 a1 k, LeO (zbe.f k a0 a1) (zbe.f (k + 1) a0 a1) := by
 intro a0 a1 k
 unfold zbe.f
 repeat' with_reducible first | exact zas.mono _ _ _ | exact xl | refine LeO.ite ?_ ?_ | refine LeO.bind ?_ fun _ => ?_
theorem zbe.calls (k : Nat) (A0 : Option Addr) (c0 : Nat) (l0 : List Int) (a1 : Int) (r : List (List Int)) (w : World) (hr0 : Kd.C (Kd.int .i64) w A0 l0.length l0) (hc0 : l0.length ≤ c0) (h : zbe.f k l0 a1 = some r) :
  Calls Try.prog 73 #[.slice A0 l0.length c0, .int .i64 a1] w fun e w' => ∃ v0_ : Value, e = .returned (v0_) ∧ Kd.N (Kd.slice 3 (Kd.int .i64)) 35 w' w.heap.size (fun k_ => (w.heap.size ≤ k_)) v0_ r ∧ Below w.heap.size w w' := by
 have HR0 := ax hr0
 have HC0 := ax hc0
 clear hr0 hc0
 have HB := ax (Below.refl w.heap.size w)
 have H : ((zas.f k l0 a1).bind fun t351 => (some t351)) = some r := h
 clear h
 obtain ⟨t351, A3, H⟩ := xI H
 obtain rfl := Option.some.inj H
 go_enter Try.func73, Try.ntmps73
 go_wp2_with (first | ((with_reducible refine zan (f := 87) rfl ?_); refine zaM (some 7) rfl rfl Try.func87 (by kernel_rfl) rfl #[.slice A0 l0.length c0, .int .i64 a1, .func (.func 88) #[] #[]] rfl xm ?_; (with_reducible refine (zas.calls k _ _ l0 a1  t351 _ ?side1 ?side2 A3.out).mono ?_); (case side1 => exact xc HR0.out); (case side2 => exact HC0.out); rintro e w4 ⟨v352, rfl, ho0, hb⟩; refine ⟨_, rfl, ?_⟩; have HO353 := ax (Kd.zcD (Kd.zaQ (ok' := fun k_ => (w.heap.size ≤ k_)) ho0 (fun k_ hk_ => (Nat.le_trans (zaf (xb HB.out)) hk_))) (zaf (xb HB.out))); replace HB := yB HB hb; (try clear hb); (try clear ho0)))
 go_ret
 exact ⟨_, xe, xN HO353.out, xb HB.out⟩

end Go.Proofs.Ytneipehcmmigeaa.PFnExactSchurPoly
