import Derived.Test.YtneipehcmmigeaaPFnExactAddPolysx0
namespace Go.Proofs.Ytneipehcmmigeaa.PFnExactAddPolys
open Go.RowKit Go.Proofs.YtneipehcmmigeaaW.PrintWords Go.Proofs.YtneipehcmmigeaaW.PrintLast Go.Proofs.YtneipehcmmigeaaW.PrintMore
set_option linter.unusedVariables false
set_option linter.unusedSimpArgs false
set_option maxHeartbeats 8000000
set_option maxRecDepth 100000
def zad.l0 : Nat → List (S48) → Int → Int → Int → Int → Option ((List (S48)))
 | 0, _, _, _, _, _ => none
 | k + 1, x0, x1, x2, x3, x10 => if x10 < x3 then (if 0 ≤ (wrap64 (x2 + x10)) then (if (wrap64 (x2 + x10)) < (x0.length : Int) then (if 0 ≤ (wrap64 (x1 + x10)) then (if (wrap64 (x1 + x10)) < (x0.length : Int) then (zad.l0 k ((x0.set ((wrap64 (x1 + x10)) : Int).toNat (⟨(zab x0 (wrap64 (x2 + x10))).f0, (zab x0 (wrap64 (x2 + x10))).f1⟩ : S48)).set ((wrap64 (x2 + x10)) : Int).toNat (⟨(zab x0 (wrap64 (x1 + x10))).f0, (zab x0 (wrap64 (x1 + x10))).f1⟩ : S48)) x1 x2 x3 (wrap64 (x10 + 1))) else (none)) else (none)) else (none)) else (none)) else (some x0)
def zad.f (k : Nat) (l0 : List (S48)) (a1 : Int) (a2 : Int) (a3 : Int)  : Option ((List (S48))) := zad.l0 k l0 a1 a2 a3 0
theorem zad.za8 : ∀ k, (∀ y0 y1 y2 y3 y4, LeO (zad.l0 k y0 y1 y2 y3 y4) (zad.l0 (k + 1) y0 y1 y2 y3 y4))
 | 0 => fun _ _ _ _ _ r h => by simp [zad.l0] at h
 | k + 1 => by
  have ih0 := zad.za8 k
  ·intro y0 y1 y2 y3 y4
   unfold zad.l0
   repeat' with_reducible first | exact ih0 _ _ _ _ _ | exact xl | refine LeO.ite ?_ ?_ | refine LeO.bind ?_ fun _ => ?_
theorem zad.mono : ∀ a0 a1 a2 a3 k, LeO (zad.f k a0 a1 a2 a3) (zad.f (k + 1) a0 a1 a2 a3) := by
 intro a0 a1 a2 a3 k
 have ih0 := zad.za8 k
 unfold zad.f
 repeat' with_reducible first | exact ih0 _ _ _ _ _ | exact xl | refine LeO.ite ?_ ?_ | refine LeO.bind ?_ fun _ => ?_
def zad.T3 : Bool × List (List Nat × List Nat) := (true, [([], []), ([], []), ([], []), ([1, 2], [1, 2]), ([], []), ([], []), ([], []), ([5, 6], [5, 6]), ([], []), ([], []), ([], []), ([9, 10], [9, 10]), ([8, 11], [8, 11]), ([12], [12]), ([], []), ([], []), ([], []), ([15, 16], [15, 16]), ([14, 17], [14, 17]), ([18], [18]), ([0, 3, 0, 1, 2, 3, 8, 9, 10, 11, 12, 13, 19], [0, 3]), ([20, 13, 0, 1, 2, 3, 8, 9, 10, 11, 12, 13, 19], [13, 20]), ([4, 7, 0, 1, 2, 3, 4, 5, 6, 7, 8, 9, 10, 11, 12, 13, 14, 15, 16, 17, 18, 19, 20, 21], [4, 7]), ([22, 19, 21, 0, 1, 2, 3, 4, 5, 6, 7, 8, 9, 10, 11, 12, 13, 14, 15, 16, 17, 18, 19, 20, 21], [19, 22])])
def zad.B3 : List Nat := [0, 0, 0, 6, 0, 0, 0, 96, 0, 0, 0, 1536, 3840, 7936, 0, 0, 0, 98304, 245760, 507904, 1048335, 2096911, 4194303, 8388607]
theorem zad.tab3 : rtab .any (opsOf Try.f96 3) = zad.T3 := by kernel_rfl
theorem zad.zjn : zbS zad.T3.2 zad.B3 = true := by kernel_rfl
theorem zad.calls (k : Nat) (P0_ Z0_ : Nat → Prop) (u9000_ : Value) (l0 : List (S48)) (a1 : Int) (a2 : Int) (a3 : Int)  (r : List (S48)) (w0 w : World) (hB : Below w0.heap.size w0 w) (ho0 : Kd.N k48 48 w w0.heap.size P0_ u9000_ l0) (hz0 : ∀ k_, u9000_.ownBlock = some k_ → Z0_ k_) (h : zad.f k l0 a1 a2 a3 = some r) :
  Calls Try.prog 96 #[u9000_, .int .i64 a1, .int .i64 a2, .int .i64 a3, .func (.func 60) #[] #[]] w fun e w' => e = .returned (.tuple #[]) ∧ Kd.N k48 48 w' w0.heap.size (fun k_ => P0_ k_) u9000_ r ∧ Below w0.heap.size w0 w' ∧ Kept w w' (fun k_ => Z0_ k_) := by
 have hu48 := Try.underlying48
 have HO0 := ax (show Kd.N k48 48 w w0.heap.size (fun k_ => P0_ k_) u9000_ l0 from Kd.zbe ho0 (fun k_ hk => hk))
 have HZ0 := ax hz0
 clear hz0
 have HK := ax (Kept.refl w (fun k_ => Z0_ k_))
 have HW0 := ax hB.size
 have HB := ax hB
 clear hB
 have H : (zad.l0 k l0 a1 a2 a3 0) = some r := h
 clear h
 have H' := ax H
 clear H
 go_enter Try.func96, Try.ntmps96
 go_wp2
 (try simp only [Act.put, List.setIfInBounds_toArray, List.set_cons_zero, List.set_cons_succ])
 go_loopg [10] k (fun kq v10 w' => ∃ (x0_1 : List (S48)) (x10_1 : Int), v10 = .int .i64 x10_1 ∧ zap (zad.l0 kq x0_1 a1 a2 a3 x10_1 = some r) ∧ zap (kq ≤ k) ∧ zap (Kd.N k48 48 w' w0.heap.size (fun k_ => P0_ k_) u9000_ x0_1) ∧ zap (Kept w w' (fun k_ => Z0_ k_)) ∧ zap (Below w0.heap.size w0 w'))
 case atStart => exact ⟨(l0), (0), xr, H', ⟨Nat.le_refl _⟩, ⟨xN HO0.out⟩, ⟨by repeat (first | (with_reducible first | exact HK.out | apply Kept.alloc | apply Kept.drewN | apply Kept.drew) | exact HK.out)⟩, ⟨xb HB.out⟩⟩
 case round =>
  clear H'
  obtain ⟨x0_1, x10_1, rfl, HA, HK1, HO_0, HK, HB⟩ := hrel
  cases gk with
  | zero => exact absurd HA.out (by simp [zad.l0])
  | succ k1 =>
   have H := HA.out
   clear HA
   simp only [zad.l0] at H
   by_cases c6 : x10_1 < a3
   ·rw [if_pos c6] at H
    have c6b0 := decide_eq_true c6
    clear c6
    obtain ⟨ji7, hji7⟩ : ∃ j_ : Int, (wrap64 (a2 + x10_1)) = j_ := ⟨_, rfl⟩
    replace H : (if 0 ≤ (ji7) then (if (ji7) < (x0_1.length : Int) then (if 0 ≤ (wrap64 (a1 + x10_1)) then (if (wrap64 (a1 + x10_1)) < (x0_1.length : Int) then (zad.l0 k1 ((x0_1.set ((wrap64 (a1 + x10_1)) : Int).toNat (⟨(zab x0_1 (ji7)).f0, (zab x0_1 (ji7)).f1⟩ : S48)).set ((ji7) : Int).toNat (⟨(zab x0_1 (wrap64 (a1 + x10_1))).f0, (zab x0_1 (wrap64 (a1 + x10_1))).f1⟩ : S48)) a1 a2 a3 (wrap64 (x10_1 + 1))) else (none)) else (none)) else (none)) else (none)) = some r := by first | (rw [hji7] at H; exact H) | (simp only [hji7] at H ⊢; exact H)
    have hji7w : (IntKind.i64.wrap (a2 + x10_1)) = ji7 := (zbZ _).trans hji7
    obtain ⟨c8b0, H⟩ := xq H
    obtain ⟨c9b0, H⟩ := xq H
    obtain ⟨ji10, hji10⟩ : ∃ j_ : Int, (wrap64 (a1 + x10_1)) = j_ := ⟨_, rfl⟩
    replace H : (if 0 ≤ (ji10) then (if (ji10) < (x0_1.length : Int) then (zad.l0 k1 ((x0_1.set ((ji10) : Int).toNat (⟨(zab x0_1 (ji7)).f0, (zab x0_1 (ji7)).f1⟩ : S48)).set ((ji7) : Int).toNat (⟨(zab x0_1 (ji10)).f0, (zab x0_1 (ji10)).f1⟩ : S48)) a1 a2 a3 (wrap64 (x10_1 + 1))) else (none)) else (none)) = some r := by first | (rw [hji10] at H; exact H) | (simp only [hji10] at H ⊢; exact H)
    have hji10w : (IntKind.i64.wrap (a1 + x10_1)) = ji10 := (zbZ _).trans hji10
    (try simp only [hji10] at hji7)
    (try simp only [hji10] at hji7w)
    obtain ⟨c11b0, H⟩ := xq H
    obtain ⟨c12b0, H⟩ := xq H
    obtain ⟨y235, hy235⟩ : ∃ y_ : List (S48), y_ = (x0_1.set ((ji10) : Int).toNat (⟨(zab x0_1 (ji7)).f0, (zab x0_1 (ji7)).f1⟩ : S48)) := ⟨_, rfl⟩
    replace H : (zad.l0 k1 (y235.set ((ji7) : Int).toNat (⟨(zab x0_1 (ji10)).f0, (zab x0_1 (ji10)).f1⟩ : S48)) a1 a2 a3 (wrap64 (x10_1 + 1))) = some r := xv hy235 H
    have Ny235 := ax hy235
    clear hy235
    obtain ⟨y236, hy236⟩ : ∃ y_ : List (S48), y_ = (y235.set ((ji7) : Int).toNat (⟨(zab x0_1 (ji10)).f0, (zab x0_1 (ji10)).f1⟩ : S48)) := ⟨_, rfl⟩
    replace H : (zad.l0 k1 y236 a1 a2 a3 (wrap64 (x10_1 + 1))) = some r := xv hy236 H
    have Ny236 := ax hy236
    clear hy236
    have H' := ax H
    clear H
    try go_wp2
    replace HO_0 := ax (Kd.zbp HO_0.out); replace HK := ax (Kept.drew HK.out); replace HB := ax (zaN HB.out)
    obtain ⟨Ao16, co16, eo16⟩ := Kd.zbt HO_0.out
    (first | subst eo16 | (injection eo16 with f1_ f2_ f3_; have f4_ := f1_.symm; have f5_ := f3_.symm; clear f1_ f2_ f3_; subst f4_; subst f5_))
    have p233 : 0 ≤ ((ji7) : Int) := xd
    have q233 : (ji7) < (x0_1.length : Int) := xd
    obtain ⟨ad233, A233_0, c233_0, e233, hx233_0, hx233_1, hl233_0, hi233_0⟩ := zbs (Kd.zaE HO_0.out).2.2 (ji7) p233 q233
    cases e233
    obtain ⟨ce233, hce233, hMe233, hcc233⟩ := Kd.zco HO_0.out z48 (ji7) p233 (by first | exact q233 | exact xd | (have e_ := (Kd.zaE HO_0.out).1; omega))
    obtain ⟨ua233_0, uc233_0, rfl, ul233_0, ge233_0⟩ := zaX hMe233
    have hv233_0 := hcc233 0 _ rfl
    rw [Nat.add_zero] at hv233_0
    replace hv233_0 := Option.some.inj (hv233_0.symm.trans hx233_0)
    injection hv233_0 with hva_ hvn_ hvc_
    rw [hva_] at ge233_0
    rw [hvc_] at ul233_0
    have HL233_0 := ax (show Kd.V (Kd.int .i64) 3 _ w0.heap.size _ _ ((zab x0_1 (ji7)).f0) from Kd.V_mk ul233_0 ge233_0)
    clear hva_ hvn_ hvc_ ge233_0 ul233_0 hcc233 hce233
    have HR233_0 := ax hi233_0
    have HC233_0 := ax hl233_0
    clear hi233_0 hl233_0
    replace p233 := eq_true p233
    replace q233 := eq_true q233
    have p234 : 0 ≤ ((ji10) : Int) := xd
    have q234 : (ji10) < (x0_1.length : Int) := xd
    obtain ⟨ad234, A234_0, c234_0, e234, hx234_0, hx234_1, hl234_0, hi234_0⟩ := zbs (Kd.zaE HO_0.out).2.2 (ji10) p234 q234
    obtain rfl : ad233 = ad234 := (by injection e234)
    obtain ⟨ce234, hce234, hMe234, hcc234⟩ := Kd.zco HO_0.out z48 (ji10) p234 (by first | exact q234 | exact xd | (have e_ := (Kd.zaE HO_0.out).1; omega))
    obtain ⟨ua234_0, uc234_0, rfl, ul234_0, ge234_0⟩ := zaX hMe234
    have hv234_0 := hcc234 0 _ rfl
    rw [Nat.add_zero] at hv234_0
    replace hv234_0 := Option.some.inj (hv234_0.symm.trans hx234_0)
    injection hv234_0 with hva_ hvn_ hvc_
    rw [hva_] at ge234_0
    rw [hvc_] at ul234_0
    have HL234_0 := ax (show Kd.V (Kd.int .i64) 3 _ w0.heap.size _ _ ((zab x0_1 (ji10)).f0) from Kd.V_mk ul234_0 ge234_0)
    clear hva_ hvn_ hvc_ ge234_0 ul234_0 hcc234 hce234
    have HR234_0 := ax hi234_0
    have HC234_0 := ax hl234_0
    clear hi234_0 hl234_0
    replace p234 := eq_true p234
    replace q234 := eq_true q234
    have p13 : 0 ≤ ((ji10) : Int) := xd
    have q13 : ((ji10) : Int) < ((x0_1.length : Int) : Int) := xd
    obtain ⟨go13, co13, eo13, gb13, gl13, cl13, HG13⟩ := Kd.zeb HO_0.out (by omega)
    (first | cases eo13 | (injection eo13 with ea_ en_ ec_; (first | subst ea_ | (injection ea_ with ea_; subst ea_)); subst ec_; clear en_))
    have GB13 := ax gb13
    have GG13 := ax HG13
    clear gb13 gl13 HG13
    have HMgo13 := ax (show Z0_ go13 ∨ w.heap.size ≤ go13 from .inl (HZ0.out _ rfl))
    (first | simp only [add_plain] at hx233_0 | skip)
    (first | simp only [add_plain] at hx233_1 | skip)
    (first | simp only [add_plain] at hx234_0 | skip)
    (first | simp only [add_plain] at hx234_1 | skip)
    obtain ⟨ce13, hcl13, hM13, hcc13, hfr13⟩ := Kd.zc HO_0.out z48 ((ji10) : Int) p13 q13
    obtain ⟨ua13_0, uc13_0, rfl, ul13_0, ge13_0⟩ := zaX hM13
    have hx13_0 : World.cell? _ ⟨go13, ((ji10) : Int).toNat * 2, none⟩ = some (.slice ua13_0 ((zab x0_1 (ji10)).f0).length uc13_0) := hcc13 0 _ rfl
    have hx13_1 : World.cell? _ ⟨go13, ((ji10) : Int).toNat * 2 + 1, none⟩ = some (.int .i64 ((zab x0_1 (ji10)).f1)) := hcc13 1 _ rfl
    have hf13_0 : World.frozen? _ ⟨go13, ((ji10) : Int).toNat * 2, none⟩ = false := hfr13 0
    have hf13_1 : World.frozen? _ ⟨go13, ((ji10) : Int).toNat * 2 + 1, none⟩ = false := hfr13 1
    clear hcl13 hcc13 hfr13; (try clear hM13)
    replace p13 := eq_true p13
    replace q13 := eq_true q13
    have HX17 := ax (show Kd.N k48 48 _ w0.heap.size (fun k_ => P0_ k_) (.slice (some ⟨go13, 0, none⟩) x0_1.length co16) x0_1 from (Kd.zbe (HO_0.out) (fun k_ hk => hk)))
    obtain ⟨ce17, hcl17, hM17, hcc17, hfr17⟩ := Kd.zc HX17.out z48 ((ji10) : Int) (xd) (by have h_ : ((ji10) : Int) < ((x0_1.length : Int) : Int) := xd; first | exact h_ | (have e_ := (Kd.zaE HO_0.out).1; omega) | simpa using h_)
    obtain ⟨ua17_0, uc17_0, rfl, ul17_0, ge17_0⟩ := zaX hM17
    have HP17 := (Kd.zeC HX17.out ((ji10) : Int) (xd) (by have h_ : ((ji10) : Int) < ((x0_1.length : Int) : Int) := xd; first | exact h_ | (have e_ := (Kd.zaE HO_0.out).1; omega) | simpa using h_) (seg := [.slice A233_0 ((zab x0_1 (ji7)).f0).length c233_0, .int .i64 ((zab x0_1 (ji7)).f1)]) (j := 0) hcl17 hcc17 (show 2 ≤ 2 from by decide) (x' := (⟨(zab x0_1 (ji7)).f0, (zab x0_1 (ji7)).f1⟩ : S48)) (zde _ _ (⟨(zab x0_1 (ji7)).f0, (zab x0_1 (ji7)).f1⟩ : S48) (Kd.za2 (Kd.zaP (ok' := (fun k_ => ((fun k_ => P0_ k_)) k_ ∧ k_ ≠ go13)) (HL233_0.out) (fun k_ hk => ⟨hk.1, fun e_ => (hk.2) (by rw [e_]; rfl)⟩))).2.1 (Kd.V_F (Kd.zaP (ok' := (fun k_ => ((fun k_ => P0_ k_)) k_ ∧ k_ ≠ go13)) (HL233_0.out) (fun k_ hk => ⟨hk.1, fun e_ => (hk.2) (by rw [e_]; rfl)⟩)))) (fun _ hk => hk)).1
    rw [← Ny235.out] at HP17
    have HQ17 := ax HP17
    clear hcl17 hcc17 hfr17; (try clear hM17); clear HP17
    have p14 : 0 ≤ ((ji7) : Int) := xd
    have q14 : ((ji7) : Int) < ((x0_1.length : Int) : Int) := xd
    obtain ⟨ce14, hcl14, hM14, hcc14, hfr14⟩ := Kd.zc HQ17.out z48 ((ji7) : Int) p14 q14
    obtain ⟨ua14_0, uc14_0, rfl, ul14_0, ge14_0⟩ := zaX hM14
    have hx14_0 : World.cell? _ ⟨go13, ((ji7) : Int).toNat * 2, none⟩ = some (.slice ua14_0 ((zab y235 (ji7)).f0).length uc14_0) := hcc14 0 _ rfl
    have hx14_1 : World.cell? _ ⟨go13, ((ji7) : Int).toNat * 2 + 1, none⟩ = some (.int .i64 ((zab y235 (ji7)).f1)) := hcc14 1 _ rfl
    have hf14_0 : World.frozen? _ ⟨go13, ((ji7) : Int).toNat * 2, none⟩ = false := hfr14 0
    have hf14_1 : World.frozen? _ ⟨go13, ((ji7) : Int).toNat * 2 + 1, none⟩ = false := hfr14 1
    clear hcl14 hcc14 hfr14; (try clear hM14)
    replace p14 := eq_true p14
    replace q14 := eq_true q14
    have HX18 := ax (show Kd.N k48 48 _ w0.heap.size (fun k_ => P0_ k_) (.slice (some ⟨go13, 0, none⟩) x0_1.length co16) y235 from (Kd.zbe (HQ17.out) (fun k_ hk => hk)))
    obtain ⟨ce18, hcl18, hM18, hcc18, hfr18⟩ := Kd.zc HX18.out z48 ((ji7) : Int) (xd) (by have h_ : ((ji7) : Int) < ((x0_1.length : Int) : Int) := xd; first | exact h_ | (have e_ := (Kd.zaE HO_0.out).1; omega) | simpa using h_)
    obtain ⟨ua18_0, uc18_0, rfl, ul18_0, ge18_0⟩ := zaX hM18
    have HP18 := (Kd.zeC HX18.out ((ji7) : Int) (xd) (by have h_ : ((ji7) : Int) < ((x0_1.length : Int) : Int) := xd; first | exact h_ | (have e_ := (Kd.zaE HO_0.out).1; omega) | simpa using h_) (seg := [.slice A234_0 ((zab x0_1 (ji10)).f0).length c234_0, .int .i64 ((zab x0_1 (ji10)).f1)]) (j := 0) hcl18 hcc18 (show 2 ≤ 2 from by decide) (x' := (⟨(zab x0_1 (ji10)).f0, (zab x0_1 (ji10)).f1⟩ : S48)) (zde _ _ (⟨(zab x0_1 (ji10)).f0, (zab x0_1 (ji10)).f1⟩ : S48) (Kd.za2 (Kd.zaP (ok' := (fun k_ => ((fun k_ => P0_ k_)) k_ ∧ k_ ≠ go13)) (HL234_0.out) (fun k_ hk => ⟨hk.1, fun e_ => (hk.2) (by rw [e_]; rfl)⟩))).2.1 (Kd.zfk (Kd.zfk (Kd.V_F (Kd.zaP (ok' := (fun k_ => ((fun k_ => P0_ k_)) k_ ∧ k_ ≠ go13)) (HL234_0.out) (fun k_ hk => ⟨hk.1, fun e_ => (hk.2) (by rw [e_]; rfl)⟩))) (fun _ hk => hk.2) _) (fun _ hk => hk.2) _)) (fun _ hk => hk)).1
    rw [← Ny236.out] at HP18
    have HQ18 := ax HP18
    clear hcl18 hcc18 hfr18; (try clear hM18); clear HP18
    refine zbJ (n := 24) (S := fun w' => w'.cell? ⟨go13, ((ji7)).toNat * 2, none⟩ = some (.slice A233_0 ((zab x0_1 (ji7)).f0).length c233_0) ∧ w'.cell? ⟨go13, ((ji7)).toNat * 2 + 1, none⟩ = some (.int .i64 ((zab x0_1 (ji7)).f1)) ∧ w'.cell? ⟨go13, ((ji10)).toNat * 2, none⟩ = some (.slice A234_0 ((zab x0_1 (ji10)).f0).length c234_0) ∧ w'.cell? ⟨go13, ((ji10)).toNat * 2 + 1, none⟩ = some (.int .i64 ((zab x0_1 (ji10)).f1))) (ds := [21, 23]) (xB 24 0) (by kernel_rfl) rfl (by kernel_rfl) ⟨hx233_0, hx233_1, hx234_0, hx234_1⟩ (fun hHeld => ?_); refine zbg zad.tab3 zad.zjn (fun HT_ HW_ => ?_)
    generalize wr.drew = w15 at HO_0 HK HB GG13 HL233_0 HL234_0 HQ17 HQ18 HR233_0 HR234_0 hf13_0 hf13_1 hf14_0 hf14_1 hx13_0 hx13_1 hx14_0 hx14_1 hx233_0 hx233_1 hx234_0 hx234_1 hHeld ⊢
    (try simp [go_sem, World.setCells, show (k48).sz = 2 from rfl] at hf13_0)
    (try simp [go_sem, World.setCells, show (k48).sz = 2 from rfl] at hf13_1)
    (try simp [go_sem, World.setCells, show (k48).sz = 2 from rfl] at hf14_0)
    (try simp [go_sem, World.setCells, show (k48).sz = 2 from rfl] at hf14_1)
    (try simp [go_sem, World.setCells, show (k48).sz = 2 from rfl] at hx13_0)
    (try simp [go_sem, World.setCells, show (k48).sz = 2 from rfl] at hx13_1)
    (try simp [go_sem, World.setCells, show (k48).sz = 2 from rfl] at hx14_0)
    (try simp [go_sem, World.setCells, show (k48).sz = 2 from rfl] at hx14_1)
    (try simp [go_sem, World.setCells, show (k48).sz = 2 from rfl] at hx233_0)
    (try simp [go_sem, World.setCells, show (k48).sz = 2 from rfl] at hx233_1)
    (try simp [go_sem, World.setCells, show (k48).sz = 2 from rfl] at hx234_0)
    (try simp [go_sem, World.setCells, show (k48).sz = 2 from rfl] at hx234_1)
    refine pu (i := 0) (N := some 16) (xB 24 1) HT_.out ?_
    refine pu (i := 1) (N := some 17) (xB 24 3) HT_.out ?_
    refine pu (i := 2) (N := some 18) (xB 24 7) HT_.out ?_
    refine pu (i := 3) (N := some 19) (xB 24 15) HT_.out ?_
    refine pu (i := 4) (N := some 20) (xB 24 31) HT_.out ?_
    refine pu (i := 5) (N := some 21) (xB 24 63) HT_.out ?_
    refine pu (i := 6) (N := some 22) (xB 24 127) HT_.out ?_
    refine pu (i := 7) (N := some 23) (xB 24 255) HT_.out ?_
    refine pu (i := 8) (N := some 24) (xB 24 511) HT_.out ?_
    refine pu (i := 9) (N := some 25) (xB 24 1023) HT_.out ?_
    refine pu (i := 10) (N := some 26) (xB 24 2047) HT_.out ?_
    refine pu (i := 11) (N := some 27) (xB 24 4095) HT_.out ?_
    refine pu (i := 12) (N := some 28) (xB 24 8191) HT_.out ?_
    refine pu (i := 14) (N := some 30) (xB 24 24575) HT_.out ?_
    refine pu (i := 15) (N := some 31) (xB 24 57343) HT_.out ?_
    refine pu (i := 16) (N := some 32) (xB 24 122879) HT_.out ?_
    refine pu (i := 17) (N := some 33) (xB 24 253951) HT_.out ?_
    refine pu (i := 18) (N := some 34) (xB 24 516095) HT_.out ?_
    refine tk (i := 13) (N := some 29) (xB 24 524287) HT_.out HW_.out hHeld ?_
    refine tk (i := 19) (N := some 35) (xB 24 1048575) HT_.out HW_.out hHeld ?_
    refine pu (i := 20) (N := some 36) (xB 24 2097151) HT_.out ?_
    refine zev (i := 21) (N := none) (xB 24 4194303) rfl rfl (zbj HT_.out (by kernel_rfl)) (by decide) (fun K hK => ?_)
    refine zdF (w1 := ?_) (by rfl) rfl ?_ ?_
    rotate_left
    ·go_simp
     rfl
    refine hK.out _ _ ?_
    clear hK K
    refine pu (i := 22) (N := some 37) (xB 24 8388607) HT_.out ?_
    refine zev (i := 23) (N := none) (xB 24 16777215) rfl rfl (zbj HT_.out (by kernel_rfl)) (by decide) (fun K hK => ?_)
    refine zdF (w1 := ?_) (by rfl) rfl ?_ ?_
    rotate_left
    ·go_simp
     rfl
    refine hK.out _ _ ?_
    clear hK K
    refine zb6 (zbB HT_.out (by kernel_rfl)) ?_
    try go_wp2
    go_roundg k1
    case measure => have := HK1.out; omega
    case rel => exact ⟨(y236), (wrap64 (x10_1 + 1)), xr, H', ⟨by have := HK1.out; omega⟩, ⟨by (with_reducible repeat (first | apply Kd.zbD | apply Kd.zbz | apply Kd.zbp)); exact HQ18.out⟩, ⟨by repeat (first | (with_reducible first | exact HK.out | apply Kept.alloc | apply Kept.drewN | apply Kept.drew | refine Kept.setCell ?_ HMgo13.out _ | refine Kept.setCell ?_ HMgo13.out _ | refine Kept.setCell ?_ HMgo13.out _ | refine Kept.setCell ?_ HMgo13.out _) | exact HK.out)⟩, ⟨bh HB.out⟩⟩
   ·rw [if_neg c6] at H
    have c6b0 := decide_eq_false c6
    clear c6
    obtain rfl := Option.some.inj H
    go_wp2
    first | go_end0 | ((try simp only [Exit.inBlock, Exit.then]); refine bodyPost_ret (results_none rfl _ _ _) rfl ?_)
    exact ⟨xe, xN HO_0.out, xb HB.out, by repeat (first | (with_reducible first | exact HK.out | apply Kept.alloc | apply Kept.drewN | apply Kept.drew) | exact HK.out)⟩

def zal.l0 : Nat → List (S48) → Int → Int → Int → Option ((List (S48)))
 | 0, _, _, _, _ => none
 | k + 1, x0, x2, x10, x11 => if x10 = x11 then ((zad.f k x0 (wrap64 (x2 - x10)) x2 x10).bind fun t233 => (some t233)) else (if x10 > x11 then ((zad.f k x0 (wrap64 (x2 - x10)) x2 x11).bind fun t234 => (zal.l0 k t234 x2 (wrap64 (x10 - x11)) x11)) else ((zad.f k x0 (wrap64 (x2 - x10)) (wrap64 ((wrap64 (x2 + x11)) - x10)) x10).bind fun t235 => (zal.l0 k t235 x2 x10 (wrap64 (x11 - x10)))))
def zal.f (k : Nat) (l0 : List (S48)) (a1 : Int) (a2 : Int) (a3 : Int)  : Option ((List (S48))) := zal.l0 k l0 a2 (wrap64 (a2 - a1)) (wrap64 (a3 - a2))
theorem zal.za8 : ∀ k, (∀ y0 y1 y2 y3, LeO (zal.l0 k y0 y1 y2 y3) (zal.l0 (k + 1) y0 y1 y2 y3))
 | 0 => fun _ _ _ _ r h => by simp [zal.l0] at h
 | k + 1 => by
  have ih0 := zal.za8 k
  ·intro y0 y1 y2 y3
   unfold zal.l0
   repeat' with_reducible first | exact ih0 _ _ _ _ | exact zad.mono _ _ _ _ _ | exact xl | refine LeO.ite ?_ ?_ | refine LeO.bind ?_ fun _ => ?_
theorem zal.mono : ∀ a0 a1 a2 a3 k, LeO (zal.f k a0 a1 a2 a3) (zal.f (k + 1) a0 a1 a2 a3) := by
 intro a0 a1 a2 a3 k
 have ih0 := zal.za8 k
 unfold zal.f
 repeat' with_reducible first | exact ih0 _ _ _ _ | exact zad.mono _ _ _ _ _ | exact xl | refine LeO.ite ?_ ?_ | refine LeO.bind ?_ fun _ => ?_
theorem zal.calls (k : Nat) (P0_ Z0_ : Nat → Prop) (u9000_ : Value) (l0 : List (S48)) (a1 : Int) (a2 : Int) (a3 : Int)  (r : List (S48)) (w0 w : World) (hB : Below w0.heap.size w0 w) (ho0 : Kd.N k48 48 w w0.heap.size P0_ u9000_ l0) (hz0 : ∀ k_, u9000_.ownBlock = some k_ → Z0_ k_) (h : zal.f k l0 a1 a2 a3 = some r) :
  Calls Try.prog 94 #[u9000_, .int .i64 a1, .int .i64 a2, .int .i64 a3, .func (.func 60) #[] #[]] w fun e w' => e = .returned (.tuple #[]) ∧ Kd.N k48 48 w' w0.heap.size (fun k_ => P0_ k_) u9000_ r ∧ Below w0.heap.size w0 w' ∧ Kept w w' (fun k_ => Z0_ k_) := by
 have HO0 := ax (show Kd.N k48 48 w w0.heap.size (fun k_ => P0_ k_) u9000_ l0 from Kd.zbe ho0 (fun k_ hk => hk))
 have HZ0 := ax hz0
 clear hz0
 have HK := ax (Kept.refl w (fun k_ => Z0_ k_))
 have HW0 := ax hB.size
 have HB := ax hB
 clear hB
 have H : (zal.l0 k l0 a2 (wrap64 (a2 - a1)) (wrap64 (a3 - a2))) = some r := h
 clear h
 have H' := ax H
 clear H
 go_enter Try.func94, Try.ntmps94
 go_wp2
 (try simp only [Act.put, List.setIfInBounds_toArray, List.set_cons_zero, List.set_cons_succ])
 go_loopg [10, 11] k (fun kq v10 v11 w' => ∃ (x0_1 : List (S48)) (x10_1 : Int) (x11_1 : Int), v10 = .int .i64 x10_1 ∧ v11 = .int .i64 x11_1 ∧ zap (zal.l0 kq x0_1 a2 x10_1 x11_1 = some r) ∧ zap (kq ≤ k) ∧ zap (Kd.N k48 48 w' w0.heap.size (fun k_ => P0_ k_) u9000_ x0_1) ∧ zap (Kept w w' (fun k_ => Z0_ k_)) ∧ zap (Below w0.heap.size w0 w'))
 case atStart => exact ⟨(l0), (wrap64 (a2 - a1)), (wrap64 (a3 - a2)), xr, xr, H', ⟨Nat.le_refl _⟩, ⟨xN HO0.out⟩, ⟨by repeat (first | (with_reducible first | exact HK.out | apply Kept.alloc | apply Kept.drewN | apply Kept.drew) | exact HK.out)⟩, ⟨xb HB.out⟩⟩
 case round =>
  clear H'
  obtain ⟨x0_1, x10_1, x11_1, rfl, rfl, HA, HK1, HO_0, HK, HB⟩ := hrel
  cases gk with
  | zero => exact absurd HA.out (by simp [zal.l0])
  | succ k1 =>
   have H := HA.out
   clear HA
   simp only [zal.l0] at H
   by_cases c6 : x10_1 = x11_1
   ·rw [if_pos c6] at H
    have c6b0 : (x10_1 == x11_1) = true := beq_iff_eq.mpr c6
    have c6b1 : (x10_1 != x11_1) = false := bne_eq_false_iff_eq.mpr c6
    clear c6
    obtain ⟨t233, A7, H⟩ := xI H
    obtain rfl := Option.some.inj H
    obtain ⟨Ao8, co8, eo8⟩ := Kd.zbt HO_0.out
    subst eo8
    go_wp2_with (first | ((with_reducible refine zas (f := 96) rfl ?_); refine za3 (some 57) rfl rfl Try.func96 (by kernel_rfl) rfl #[.slice Ao8 x0_1.length co8, .int .i64 (wrap64 (a2 - x10_1)), .int .i64 a2, .int .i64 x10_1, .func (.func 60) #[] #[]] rfl xm ?_; (with_reducible refine (zad.calls k1 (fun k_ => P0_ k_) (fun k_ => some k_ = (.slice Ao8 x0_1.length co8 : Value).ownBlock) (.slice Ao8 x0_1.length co8) x0_1 (wrap64 (a2 - x10_1)) a2 x10_1  t233 w0 _ ?side1 ?side2 ?side3 A7.out).mono ?_); (case side1 => exact xb HB.out); (case side2 => exact HO_0.out); (case side3 => exact fun k_ e_ => e_.symm); rintro e w9 ⟨rfl, hy0, hb, hkp⟩; refine ⟨_, rfl, ?_⟩; replace HO_0 := ax (hy0); replace HK := ax (Kept.zc8 (S := (fun k_ => Z0_ k_)) (by repeat (first | (with_reducible first | exact HK.out | apply Kept.alloc | apply Kept.drewN | apply Kept.drew) | exact HK.out)) hkp (fun k_ hs_ => (fun e_ => (by first | exact .inl (HZ0.out k_ e_.symm) | exact .inl (zcH HZ0.out (e_.symm)))) hs_)); replace HB := ax (hb); (try clear hb); (try clear hkp); (try clear hy0)))
    first | go_end0 | ((try simp only [Exit.inBlock, Exit.then]); refine bodyPost_ret (results_none rfl _ _ _) rfl ?_)
    exact ⟨xe, xN HO_0.out, xb HB.out, by repeat (first | (with_reducible first | exact HK.out | apply Kept.alloc | apply Kept.drewN | apply Kept.drew) | exact HK.out)⟩
   ·rw [if_neg c6] at H
    have c6b0 : (x10_1 == x11_1) = false := beq_eq_false_iff_ne.mpr c6
    have c6b1 : (x10_1 != x11_1) = true := bne_iff_ne.mpr c6
    by_cases c10 : x10_1 > x11_1
    ·rw [if_pos c10] at H
     have c10b0 : decide (x11_1 < x10_1) = true := decide_eq_true c10
     clear c10
     obtain ⟨t234, A11, H⟩ := xI H
     have H' := ax H
     clear H
     obtain ⟨Ao12, co12, eo12⟩ := Kd.zbt HO_0.out
     subst eo12
     go_wp2_with (first | ((with_reducible refine zas (f := 96) rfl ?_); refine za3 (some 31) rfl rfl Try.func96 (by kernel_rfl) rfl #[.slice Ao12 x0_1.length co12, .int .i64 (wrap64 (a2 - x10_1)), .int .i64 a2, .int .i64 x11_1, .func (.func 60) #[] #[]] rfl xm ?_; (with_reducible refine (zad.calls k1 (fun k_ => P0_ k_) (fun k_ => some k_ = (.slice Ao12 x0_1.length co12 : Value).ownBlock) (.slice Ao12 x0_1.length co12) x0_1 (wrap64 (a2 - x10_1)) a2 x11_1  t234 w0 _ ?side1 ?side2 ?side3 A11.out).mono ?_); (case side1 => exact xb HB.out); (case side2 => exact HO_0.out); (case side3 => exact fun k_ e_ => e_.symm); rintro e w13 ⟨rfl, hy0, hb, hkp⟩; refine ⟨_, rfl, ?_⟩; replace HO_0 := ax (hy0); replace HK := ax (Kept.zc8 (S := (fun k_ => Z0_ k_)) (by repeat (first | (with_reducible first | exact HK.out | apply Kept.alloc | apply Kept.drewN | apply Kept.drew) | exact HK.out)) hkp (fun k_ hs_ => (fun e_ => (by first | exact .inl (HZ0.out k_ e_.symm) | exact .inl (zcH HZ0.out (e_.symm)))) hs_)); replace HB := ax (hb); (try clear hb); (try clear hkp); (try clear hy0)))
     go_roundg k1
     case measure => have := HK1.out; omega
     case rel => exact ⟨(t234), (wrap64 (x10_1 - x11_1)), (x11_1), xr, xr, H', ⟨by have := HK1.out; omega⟩, ⟨xN HO_0.out⟩, ⟨by repeat (first | (with_reducible first | exact HK.out | apply Kept.alloc | apply Kept.drewN | apply Kept.drew) | exact HK.out)⟩, ⟨xb HB.out⟩⟩
    ·rw [if_neg c10] at H
     have c10b0 : decide (x11_1 < x10_1) = false := decide_eq_false c10
     clear c10
     obtain ⟨t235, A14, H⟩ := xI H
     have H' := ax H
     clear H
     obtain ⟨Ao15, co15, eo15⟩ := Kd.zbt HO_0.out
     subst eo15
     go_wp2_with (first | ((with_reducible refine zas (f := 96) rfl ?_); refine za3 (some 46) rfl rfl Try.func96 (by kernel_rfl) rfl #[.slice Ao15 x0_1.length co15, .int .i64 (wrap64 (a2 - x10_1)), .int .i64 (wrap64 ((wrap64 (a2 + x11_1)) - x10_1)), .int .i64 x10_1, .func (.func 60) #[] #[]] rfl xm ?_; (with_reducible refine (zad.calls k1 (fun k_ => P0_ k_) (fun k_ => some k_ = (.slice Ao15 x0_1.length co15 : Value).ownBlock) (.slice Ao15 x0_1.length co15) x0_1 (wrap64 (a2 - x10_1)) (wrap64 ((wrap64 (a2 + x11_1)) - x10_1)) x10_1  t235 w0 _ ?side1 ?side2 ?side3 A14.out).mono ?_); (case side1 => exact xb HB.out); (case side2 => exact HO_0.out); (case side3 => exact fun k_ e_ => e_.symm); rintro e w16 ⟨rfl, hy0, hb, hkp⟩; refine ⟨_, rfl, ?_⟩; replace HO_0 := ax (hy0); replace HK := ax (Kept.zc8 (S := (fun k_ => Z0_ k_)) (by repeat (first | (with_reducible first | exact HK.out | apply Kept.alloc | apply Kept.drewN | apply Kept.drew) | exact HK.out)) hkp (fun k_ hs_ => (fun e_ => (by first | exact .inl (HZ0.out k_ e_.symm) | exact .inl (zcH HZ0.out (e_.symm)))) hs_)); replace HB := ax (hb); (try clear hb); (try clear hkp); (try clear hy0)))
     go_roundg k1
     case measure => have := HK1.out; omega
     case rel => exact ⟨(t235), (x10_1), (wrap64 (x11_1 - x10_1)), xr, xr, H', ⟨by have := HK1.out; omega⟩, ⟨xN HO_0.out⟩, ⟨by repeat (first | (with_reducible first | exact HK.out | apply Kept.alloc | apply Kept.drewN | apply Kept.drew) | exact HK.out)⟩, ⟨xb HB.out⟩⟩

end Go.Proofs.Ytneipehcmmigeaa.PFnExactAddPolys
