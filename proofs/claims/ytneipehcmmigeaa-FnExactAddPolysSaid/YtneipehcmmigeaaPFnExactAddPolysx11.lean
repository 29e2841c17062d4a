import Derived.Test.YtneipehcmmigeaaPFnExactAddPolysx10
namespace Go.Proofs.Ytneipehcmmigeaa.PFnExactAddPolys
open Go.RowKit Go.Proofs.YtneipehcmmigeaaW.PrintWords Go.Proofs.YtneipehcmmigeaaW.PrintLast Go.Proofs.YtneipehcmmigeaaW.PrintMore
set_option linter.unusedVariables false
set_option linter.unusedSimpArgs false
set_option maxHeartbeats 8000000
set_option maxRecDepth 100000
mutual
def zaa.l0 : Nat → List (S48) → Int → Int → Int → Option ((List (S48)))
 | 0, _, _, _, _ => none
 | k + 1, x0, x1, x2, x8 => if x8 < x2 then (zaa.l1 k x0 x1 x2 x8 x8) else (some x0)
def zaa.l1 : Nat → List (S48) → Int → Int → Int → Int → Option ((List (S48)))
 | 0, _, _, _, _, _ => none
 | k + 1, x0, x1, x2, x8, x9 => if x9 > x1 then (if 0 ≤ x9 then (if x9 < (x0.length : Int) then (if 0 ≤ (wrap64 (x9 - 1)) then (if (wrap64 (x9 - 1)) < (x0.length : Int) then ((zaS.f k ((zab x0 x9).f0) ((zab x0 x9).f1) ((zab x0 (wrap64 (x9 - 1))).f0) ((zab x0 (wrap64 (x9 - 1))).f1)).bind fun t235 => (if t235 < 0 then (zaa.l1 k ((x0.set (x9 : Int).toNat (⟨(zab x0 (wrap64 (x9 - 1))).f0, (zab x0 (wrap64 (x9 - 1))).f1⟩ : S48)).set ((wrap64 (x9 - 1)) : Int).toNat (⟨(zab x0 x9).f0, (zab x0 x9).f1⟩ : S48)) x1 x2 x8 (wrap64 (x9 - 1))) else (zaa.l0 k x0 x1 x2 (wrap64 (x8 + 1))))) else (none)) else (none)) else (none)) else (none)) else (zaa.l0 k x0 x1 x2 (wrap64 (x8 + 1)))
end
def zaa.f (k : Nat) (l0 : List (S48)) (a1 : Int) (a2 : Int)  : Option ((List (S48))) := zaa.l0 k l0 a1 a2 (wrap64 (a1 + 1))
theorem zaa.za8 : ∀ k, (∀ y0 y1 y2 y3, LeO (zaa.l0 k y0 y1 y2 y3) (zaa.l0 (k + 1) y0 y1 y2 y3)) ∧ (∀ y0 y1 y2 y3 y4, LeO (zaa.l1 k y0 y1 y2 y3 y4) (zaa.l1 (k + 1) y0 y1 y2 y3 y4))
 | 0 => ⟨fun _ _ _ _ r h => by simp [zaa.l0] at h, fun _ _ _ _ _ r h => by simp [zaa.l1] at h⟩
 | k + 1 => by
  obtain ⟨ih0, ih1⟩ := zaa.za8 k
  refine ⟨?_, ?_⟩ <;> intros <;> (first | unfold zaa.l0 | unfold zaa.l1) <;> repeat' with_reducible first | exact ih0 _ _ _ _ | exact ih1 _ _ _ _ _ | exact zaS.mono _ _ _ _ _ | exact xl | refine LeO.ite ?_ ?_ | refine LeO.bind ?_ fun _ => ?_
theorem zaa.mono : ∀ a0 a1 a2 k, LeO (zaa.f k a0 a1 a2) (zaa.f (k + 1) a0 a1 a2) := by
 intro a0 a1 a2 k
 obtain ⟨ih0, ih1⟩ := zaa.za8 k
 unfold zaa.f
 repeat' with_reducible first | exact ih0 _ _ _ _ | exact ih1 _ _ _ _ _ | exact zaS.mono _ _ _ _ _ | exact xl | refine LeO.ite ?_ ?_ | refine LeO.bind ?_ fun _ => ?_
def zaa.T4 : Bool × List (List Nat × List Nat) := (true, [([], []), ([], []), ([0, 1], [0, 1]), ([2], [2]), ([3], [3]), ([3], [3]), ([3], [3]), ([5, 6, 3], [3, 5, 6]), ([7, 3], [3, 7]), ([3], [3]), ([3], [3]), ([10, 3], [3, 10]), ([9, 11, 3], [3, 9, 11]), ([12, 3], [3, 12]), ([4, 8, 13, 3, 3], [3, 4, 8, 13]), ([14, 3], [3, 14]), ([3, 15], [3, 15])])
def zaa.B4 : List Nat := [0, 0, 3, 7, 15, 15, 15, 111, 239, 15, 15, 1039, 3599, 7695, 16383, 32767, 65535]
theorem zaa.tab4 : rtab .any (opsOf Try.f90 4) = zaa.T4 := by kernel_rfl
theorem zaa.zfV : zbS zaa.T4.2 zaa.B4 = true := by kernel_rfl
def zaa.T6 : Bool × List (List Nat × List Nat) := (true, [([], []), ([], []), ([], []), ([], []), ([3], [3]), ([], []), ([], []), ([6], [6]), ([5, 7], [5, 7]), ([8], [8]), ([], []), ([], []), ([10, 11], [10, 11]), ([12], [12]), ([0, 1, 0, 1, 5, 6, 7, 8, 9, 13], [0, 1]), ([14, 9, 0, 1, 5, 6, 7, 8, 9, 13], [9, 14]), ([2, 4, 0, 1, 2, 3, 4, 5, 6, 7, 8, 9, 10, 11, 12, 13, 14, 15], [2, 4]), ([16, 13, 15, 0, 1, 2, 3, 4, 5, 6, 7, 8, 9, 10, 11, 12, 13, 14, 15], [13, 16])])
def zaa.B6 : List Nat := [0, 0, 0, 0, 8, 0, 0, 64, 224, 480, 0, 0, 3072, 7168, 16355, 32739, 65535, 131071]
theorem zaa.tab6 : rtab .any (opsOf Try.f90 6) = zaa.T6 := by kernel_rfl
theorem zaa.zfb : zbS zaa.T6.2 zaa.B6 = true := by kernel_rfl
theorem zaa.calls (k : Nat) (P0_ Z0_ : Nat → Prop) (u9000_ : Value) (l0 : List (S48)) (a1 : Int) (a2 : Int)  (r : List (S48)) (w0 w : World) (hB : Below w0.heap.size w0 w) (ho0 : Kd.N k48 48 w w0.heap.size P0_ u9000_ l0) (hz0 : ∀ k_, u9000_.ownBlock = some k_ → Z0_ k_) (h : zaa.f k l0 a1 a2 = some r) :
  Calls Try.prog 90 #[u9000_, .int .i64 a1, .int .i64 a2, .func (.func 60) #[] #[]] w fun e w' => e = .returned (.tuple #[]) ∧ Kd.N k48 48 w' w0.heap.size (fun k_ => P0_ k_) u9000_ r ∧ Below w0.heap.size w0 w' ∧ Kept w w' (fun k_ => Z0_ k_) := by
 have hu48 := Try.underlying48
 have HO0 := ax (show Kd.N k48 48 w w0.heap.size (fun k_ => P0_ k_) u9000_ l0 from Kd.zbe ho0 (fun k_ hk => hk))
 have HZ0 := ax hz0
 clear hz0
 have HK := ax (Kept.refl w (fun k_ => Z0_ k_))
 have HW0 := ax hB.size
 have HB := ax hB
 clear hB
 have H : (zaa.l0 k l0 a1 a2 (wrap64 (a1 + 1))) = some r := h
 clear h
 have H' := ax H
 clear H
 go_enter Try.func90, Try.ntmps90
 go_wp2
 (try simp only [Act.put, List.setIfInBounds_toArray, List.set_cons_zero, List.set_cons_succ])
 go_loopg [8] k (fun kq v8 w' => ∃ (x0_1 : List (S48)) (x8_1 : Int), v8 = .int .i64 x8_1 ∧ zap (zaa.l0 kq x0_1 a1 a2 x8_1 = some r) ∧ zap (kq ≤ k) ∧ zap (Kd.N k48 48 w' w0.heap.size (fun k_ => P0_ k_) u9000_ x0_1) ∧ zap (Kept w w' (fun k_ => Z0_ k_)) ∧ zap (Below w0.heap.size w0 w'))
 case atStart => exact ⟨(l0), (wrap64 (a1 + 1)), xr, H', ⟨Nat.le_refl _⟩, ⟨xN HO0.out⟩, ⟨by repeat (first | (with_reducible first | exact HK.out | apply Kept.alloc | apply Kept.drewN | apply Kept.drew) | exact HK.out)⟩, ⟨xb HB.out⟩⟩
 case round =>
  clear H'
  obtain ⟨x0_1, x8_1, rfl, HA, HK1, HO_0, HK, HB⟩ := hrel
  cases gk with
  | zero => exact absurd HA.out (by simp [zaa.l0])
  | succ k1 =>
   have H := HA.out
   clear HA
   simp only [zaa.l0] at H
   by_cases c5 : x8_1 < a2
   ·rw [if_pos c5] at H
    have c5b0 := decide_eq_true c5
    clear c5
    have H' := ax H
    clear H
    go_wp2
    (try simp only [Act.put, List.setIfInBounds_toArray, List.set_cons_zero, List.set_cons_succ])
    go_loopg [9] k1 (fun kq v9 w' => ∃ (x0_2 : List (S48)) (x9_2 : Int), v9 = .int .i64 x9_2 ∧ zap (zaa.l1 kq x0_2 a1 a2 x8_1 x9_2 = some r) ∧ zap (kq ≤ k1) ∧ zap (Kd.N k48 48 w' w0.heap.size (fun k_ => P0_ k_) u9000_ x0_2) ∧ zap (Kept w w' (fun k_ => Z0_ k_)) ∧ zap (Below w0.heap.size w0 w'))
    case atStart => exact ⟨(x0_1), (x8_1), xr, H', ⟨Nat.le_refl _⟩, ⟨xN HO_0.out⟩, ⟨by repeat (first | (with_reducible first | exact HK.out | apply Kept.alloc | apply Kept.drewN | apply Kept.drew) | exact HK.out)⟩, ⟨xb HB.out⟩⟩
    case round =>
     clear H'
     (try clear c5); (try clear c5b0)
     obtain ⟨x0_2, x9_2, rfl, HA, HK2, HO_0, HK, HB⟩ := hrel
     cases gk with
     | zero => exact absurd HA.out (by simp [zaa.l1])
     | succ k2 =>
      have H := HA.out
      clear HA
      simp only [zaa.l1] at H
      by_cases c6 : x9_2 > a1
      ·rw [if_pos c6] at H
       have c6b0 : decide (a1 < x9_2) = true := decide_eq_true c6
       clear c6
       obtain ⟨c7b0, H⟩ := xq H
       obtain ⟨c8b0, H⟩ := xq H
       obtain ⟨ji9, hji9⟩ : ∃ j_ : Int, (wrap64 (x9_2 - 1)) = j_ := ⟨_, rfl⟩
       replace H : (if 0 ≤ (ji9) then (if (ji9) < (x0_2.length : Int) then ((zaS.f k2 ((zab x0_2 x9_2).f0) ((zab x0_2 x9_2).f1) ((zab x0_2 (ji9)).f0) ((zab x0_2 (ji9)).f1)).bind fun t235 => (if t235 < 0 then (zaa.l1 k2 ((x0_2.set (x9_2 : Int).toNat (⟨(zab x0_2 (ji9)).f0, (zab x0_2 (ji9)).f1⟩ : S48)).set ((ji9) : Int).toNat (⟨(zab x0_2 x9_2).f0, (zab x0_2 x9_2).f1⟩ : S48)) a1 a2 x8_1 ji9) else (zaa.l0 k2 x0_2 a1 a2 (wrap64 (x8_1 + 1))))) else (none)) else (none)) = some r := by first | (rw [hji9] at H; exact H) | (simp only [hji9] at H ⊢; exact H)
       have hji9w : (IntKind.i64.wrap (x9_2 - 1)) = ji9 := (zbZ _).trans hji9
       obtain ⟨c10b0, H⟩ := xq H
       obtain ⟨c11b0, H⟩ := xq H
       obtain ⟨t235, A12, H⟩ := xI H
       by_cases c13 : t235 < 0
       ·rw [if_pos c13] at H
        have c13b0 := decide_eq_true c13
        clear c13
        obtain ⟨y238, hy238⟩ : ∃ y_ : List (S48), y_ = (x0_2.set (x9_2 : Int).toNat (⟨(zab x0_2 (ji9)).f0, (zab x0_2 (ji9)).f1⟩ : S48)) := ⟨_, rfl⟩
        replace H : (zaa.l1 k2 (y238.set ((ji9) : Int).toNat (⟨(zab x0_2 x9_2).f0, (zab x0_2 x9_2).f1⟩ : S48)) a1 a2 x8_1 ji9) = some r := xv hy238 H
        have Ny238 := ax hy238
        clear hy238
        obtain ⟨y239, hy239⟩ : ∃ y_ : List (S48), y_ = (y238.set ((ji9) : Int).toNat (⟨(zab x0_2 x9_2).f0, (zab x0_2 x9_2).f1⟩ : S48)) := ⟨_, rfl⟩
        replace H : (zaa.l1 k2 y239 a1 a2 x8_1 ji9) = some r := xv hy239 H
        have Ny239 := ax hy239
        clear hy239
        have H' := ax H
        clear H
        try go_wp2
        replace HO_0 := ax (Kd.zbp HO_0.out); replace HK := ax (Kept.drew HK.out); replace HB := ax (zaN HB.out)
        obtain ⟨Ao17, co17, eo17⟩ := Kd.zbt HO_0.out
        (first | subst eo17 | (injection eo17 with f1_ f2_ f3_; have f4_ := f1_.symm; have f5_ := f3_.symm; clear f1_ f2_ f3_; subst f4_; subst f5_))
        have p233 : 0 ≤ (x9_2 : Int) := xd
        have q233 : x9_2 < (x0_2.length : Int) := xd
        obtain ⟨ad233, A233_0, c233_0, e233, hx233_0, hx233_1, hl233_0, hi233_0⟩ := zbs (Kd.zaE HO_0.out).2.2 x9_2 p233 q233
        cases e233
        obtain ⟨ce233, hce233, hMe233, hcc233⟩ := Kd.zco HO_0.out z48 x9_2 p233 (by first | exact q233 | exact xd | (have e_ := (Kd.zaE HO_0.out).1; omega))
        obtain ⟨ua233_0, uc233_0, rfl, ul233_0, ge233_0⟩ := zaX hMe233
        have hv233_0 := hcc233 0 _ rfl
        rw [Nat.add_zero] at hv233_0
        replace hv233_0 := Option.some.inj (hv233_0.symm.trans hx233_0)
        injection hv233_0 with hva_ hvn_ hvc_
        rw [hva_] at ge233_0
        rw [hvc_] at ul233_0
        have HL233_0 := ax (show Kd.V (Kd.int .i64) 3 _ w0.heap.size _ _ ((zab x0_2 x9_2).f0) from Kd.V_mk ul233_0 ge233_0)
        clear hva_ hvn_ hvc_ ge233_0 ul233_0 hcc233 hce233
        have HR233_0 := ax hi233_0
        have HC233_0 := ax hl233_0
        clear hi233_0 hl233_0
        replace p233 := eq_true p233
        replace q233 := eq_true q233
        have p234 : 0 ≤ ((ji9) : Int) := xd
        have q234 : (ji9) < (x0_2.length : Int) := xd
        obtain ⟨ad234, A234_0, c234_0, e234, hx234_0, hx234_1, hl234_0, hi234_0⟩ := zbs (Kd.zaE HO_0.out).2.2 (ji9) p234 q234
        obtain rfl : ad233 = ad234 := (by injection e234)
        obtain ⟨ce234, hce234, hMe234, hcc234⟩ := Kd.zco HO_0.out z48 (ji9) p234 (by first | exact q234 | exact xd | (have e_ := (Kd.zaE HO_0.out).1; omega))
        obtain ⟨ua234_0, uc234_0, rfl, ul234_0, ge234_0⟩ := zaX hMe234
        have hv234_0 := hcc234 0 _ rfl
        rw [Nat.add_zero] at hv234_0
        replace hv234_0 := Option.some.inj (hv234_0.symm.trans hx234_0)
        injection hv234_0 with hva_ hvn_ hvc_
        rw [hva_] at ge234_0
        rw [hvc_] at ul234_0
        have HL234_0 := ax (show Kd.V (Kd.int .i64) 3 _ w0.heap.size _ _ ((zab x0_2 (ji9)).f0) from Kd.V_mk ul234_0 ge234_0)
        clear hva_ hvn_ hvc_ ge234_0 ul234_0 hcc234 hce234
        have HR234_0 := ax hi234_0
        have HC234_0 := ax hl234_0
        clear hi234_0 hl234_0
        replace p234 := eq_true p234
        replace q234 := eq_true q234
        refine zbJ (n := 17) (S := fun w' => w'.cell? (ad233.add ((x9_2).toNat * 2)) = some (.slice A233_0 ((zab x0_2 x9_2).f0).length c233_0) ∧ w'.cell? ⟨(ad233.add ((x9_2).toNat * 2)).block, (ad233.add ((x9_2).toNat * 2)).off + 1, none⟩ = some (.int .i64 ((zab x0_2 x9_2).f1)) ∧ w'.cell? (ad233.add (((ji9)).toNat * 2)) = some (.slice A234_0 ((zab x0_2 (ji9)).f0).length c234_0) ∧ w'.cell? ⟨(ad233.add (((ji9)).toNat * 2)).block, (ad233.add (((ji9)).toNat * 2)).off + 1, none⟩ = some (.int .i64 ((zab x0_2 (ji9)).f1))) (ds := []) (xB 17 0) (by kernel_rfl) rfl (by kernel_rfl) ⟨hx233_0, hx233_1, hx234_0, hx234_1⟩ (fun hHeld => ?_); refine zbg zaa.tab4 zaa.zfV (fun HT_ HW_ => ?_)
        generalize wr.drew = w16 at HO_0 HK HB HL233_0 HL234_0 HR233_0 HR234_0 hx233_0 hx233_1 hx234_0 hx234_1 hHeld ⊢
        (try simp [go_sem, World.setCells, show (k48).sz = 2 from rfl] at hx233_0)
        (try simp [go_sem, World.setCells, show (k48).sz = 2 from rfl] at hx233_1)
        (try simp [go_sem, World.setCells, show (k48).sz = 2 from rfl] at hx234_0)
        (try simp [go_sem, World.setCells, show (k48).sz = 2 from rfl] at hx234_1)
        refine pu (i := 0) (N := some 18) (xB 17 1) HT_.out ?_
        refine pu (i := 1) (N := some 19) (xB 17 3) HT_.out ?_
        refine pu (i := 2) (N := some 20) (xB 17 7) HT_.out ?_
        refine pu (i := 3) (N := some 21) (xB 17 15) HT_.out ?_
        refine pu (i := 4) (N := some 22) (xB 17 31) HT_.out ?_
        refine pu (i := 5) (N := some 23) (xB 17 63) HT_.out ?_
        refine pu (i := 6) (N := some 24) (xB 17 127) HT_.out ?_
        refine pu (i := 7) (N := some 25) (xB 17 255) HT_.out ?_
        refine pu (i := 9) (N := some 27) (xB 17 767) HT_.out ?_
        refine pu (i := 10) (N := some 28) (xB 17 1791) HT_.out ?_
        refine pu (i := 11) (N := some 29) (xB 17 3839) HT_.out ?_
        refine pu (i := 12) (N := some 30) (xB 17 7935) HT_.out ?_
        refine tk (i := 8) (N := some 26) (xB 17 8191) HT_.out HW_.out hHeld ?_
        refine tk (i := 13) (N := some 31) (xB 17 16383) HT_.out HW_.out hHeld ?_
        refine one_ (i := 14) (N := some 32) (xB 17 32767) rfl rfl (zbj HT_.out (by kernel_rfl)) (by decide) (fun K hK => ?_)
        (first | refine zbQ Try.func60 (by kernel_rfl) rfl #[.agg #[.slice A233_0 ((zab x0_2 x9_2).f0).length c233_0, .int .i64 ((zab x0_2 x9_2).f1)], .agg #[.slice A234_0 ((zab x0_2 (ji9)).f0).length c234_0, .int .i64 ((zab x0_2 (ji9)).f1)]] (by rfl) rfl rfl (by (try simp only [List.map_toArray, List.map_cons, List.map_nil]); first | done | (simp only [hji9]; rfl) | rfl | (simp only [List.length_drop, List.length_take]; rfl)) ?_ | refine zd9 Try.func60 (by kernel_rfl) rfl #[.agg #[.slice A233_0 ((zab x0_2 x9_2).f0).length c233_0, .int .i64 ((zab x0_2 x9_2).f1)], .agg #[.slice A234_0 ((zab x0_2 (ji9)).f0).length c234_0, .int .i64 ((zab x0_2 (ji9)).f1)]] (by rfl) rfl rfl rfl (by (try simp only [List.map_toArray, List.map_cons, List.map_nil]); first | done | (simp only [hji9]; rfl) | rfl | (simp only [List.length_drop, List.length_take]; rfl)) ?_)
        with_reducible refine (zaS.calls k2 _ _ ((zab x0_2 x9_2).f0) ((zab x0_2 x9_2).f1) _ _ ((zab x0_2 (ji9)).f0) ((zab x0_2 (ji9)).f1) t235 _ ?side1 ?side2 ?side3 ?side4 A12.out).mono ?_
        (case side1 => exact xw HR233_0.out)
        (case side2 => exact HC233_0.out)
        (case side3 => exact xw HR234_0.out)
        (case side4 => exact HC234_0.out)
        rintro e w18 ⟨rfl, hb⟩
        have HS0_ := (hb.cell (World.block_lt_of_cell? _ _ (hHeld.1))).trans (hHeld.1)
        have HS1_ := (hb.cell (World.block_lt_of_cell? _ _ (hHeld.2.1))).trans (hHeld.2.1)
        have HS2_ := (hb.cell (World.block_lt_of_cell? _ _ (hHeld.2.2.1))).trans (hHeld.2.2.1)
        have HS3_ := (hb.cell (World.block_lt_of_cell? _ _ (hHeld.2.2.2))).trans (hHeld.2.2.2)
        refine ⟨_, rfl, ?_⟩
        replace HO_0 := ax (Kd.zbL (xN HO_0.out) hb); replace HL233_0 := yV HL233_0 hb; replace HL234_0 := yV HL234_0 hb; replace HR233_0 := ax (Kd.zbE (xw HR233_0.out) hb); replace HR234_0 := ax (Kd.zbE (xw HR234_0.out) hb); replace HK := ax (Kept.below (S := (fun k_ => Z0_ k_)) (by repeat (first | (with_reducible first | exact HK.out | apply Kept.alloc | apply Kept.drewN | apply Kept.drew) | exact HK.out)) hb); replace HB := yB HB hb
        (try clear hb)
        (try clear hk)
        refine hK.out _ _ ⟨HS0_, HS1_, HS2_, HS3_⟩ (fun hHeld => ?_)
        clear hK K
        refine nm ?_
        refine pu (i := 15) (N := some 33) (xB 17 65535) HT_.out ?_
        refine pu (i := 16) (N := some 34) (xB 17 131071) HT_.out ?_
        refine zb6 (zbB HT_.out (by kernel_rfl)) ?_
        try go_wp2
        replace HO_0 := ax (Kd.zbp HO_0.out); replace HL233_0 := ax (Kd.zbm HL233_0.out); replace HL234_0 := ax (Kd.zbm HL234_0.out); replace HR233_0 := ax (Kd.zdm HR233_0.out); replace HR234_0 := ax (Kd.zdm HR234_0.out); replace HK := ax (Kept.drew HK.out); replace HB := ax (zaN HB.out)
        have p236 : 0 ≤ ((ji9) : Int) := xd
        have q236 : (ji9) < (x0_2.length : Int) := xd
        obtain ⟨ad236, A236_0, c236_0, e236, hx236_0, hx236_1, hl236_0, hi236_0⟩ := zbs (Kd.zaE HO_0.out).2.2 (ji9) p236 q236
        obtain rfl : ad233 = ad236 := (by injection e236)
        obtain ⟨ce236, hce236, hMe236, hcc236⟩ := Kd.zco HO_0.out z48 (ji9) p236 (by first | exact q236 | exact xd | (have e_ := (Kd.zaE HO_0.out).1; omega))
        obtain ⟨ua236_0, uc236_0, rfl, ul236_0, ge236_0⟩ := zaX hMe236
        have hv236_0 := hcc236 0 _ rfl
        rw [Nat.add_zero] at hv236_0
        replace hv236_0 := Option.some.inj (hv236_0.symm.trans hx236_0)
        injection hv236_0 with hva_ hvn_ hvc_
        rw [hva_] at ge236_0
        rw [hvc_] at ul236_0
        have HL236_0 := ax (show Kd.V (Kd.int .i64) 3 _ w0.heap.size _ _ ((zab x0_2 (ji9)).f0) from Kd.V_mk ul236_0 ge236_0)
        clear hva_ hvn_ hvc_ ge236_0 ul236_0 hcc236 hce236
        have HR236_0 := ax hi236_0
        have HC236_0 := ax hl236_0
        clear hi236_0 hl236_0
        replace p236 := eq_true p236
        replace q236 := eq_true q236
        have p237 : 0 ≤ (x9_2 : Int) := xd
        have q237 : x9_2 < (x0_2.length : Int) := xd
        obtain ⟨ad237, A237_0, c237_0, e237, hx237_0, hx237_1, hl237_0, hi237_0⟩ := zbs (Kd.zaE HO_0.out).2.2 x9_2 p237 q237
        obtain rfl : ad233 = ad237 := (by injection e237)
        obtain ⟨rfl, rfl⟩ : A233_0 = A237_0 ∧ c233_0 = c237_0 := by first | exact zbi hx233_0 hx237_0 | exact zbi HS0_ hx237_0 | exact zbi HS1_ hx237_0 | exact zbi HS2_ hx237_0 | exact zbi hHeld hx237_0 | exact zbi hHeld.1 hx237_0 | exact zbi hHeld.2 hx237_0 | exact zbi hHeld.2.1 hx237_0 | exact zbi hHeld.2.2 hx237_0 | exact zbi hHeld.2.2.1 hx237_0 | exact zbi hHeld.2.2.2 hx237_0 | exact zbi hHeld.2.2.2.1 hx237_0 | exact zbi hHeld.2.2.2.2 hx237_0 | exact zbi hHeld.2.2.2.2.1 hx237_0 | exact zbi hHeld.2.2.2.2.2 hx237_0
        obtain ⟨ce237, hce237, hMe237, hcc237⟩ := Kd.zco HO_0.out z48 x9_2 p237 (by first | exact q237 | exact xd | (have e_ := (Kd.zaE HO_0.out).1; omega))
        obtain ⟨ua237_0, uc237_0, rfl, ul237_0, ge237_0⟩ := zaX hMe237
        have hv237_0 := hcc237 0 _ rfl
        rw [Nat.add_zero] at hv237_0
        replace hv237_0 := Option.some.inj (hv237_0.symm.trans hx237_0)
        injection hv237_0 with hva_ hvn_ hvc_
        rw [hva_] at ge237_0
        rw [hvc_] at ul237_0
        have HL237_0 := ax (show Kd.V (Kd.int .i64) 3 _ w0.heap.size _ _ ((zab x0_2 x9_2).f0) from Kd.V_mk ul237_0 ge237_0)
        clear hva_ hvn_ hvc_ ge237_0 ul237_0 hcc237 hce237
        have HR237_0 := ax hi237_0
        have HC237_0 := ax hl237_0
        clear hi237_0 hl237_0
        replace p237 := eq_true p237
        replace q237 := eq_true q237
        have p14 : 0 ≤ (x9_2 : Int) := xd
        have q14 : (x9_2 : Int) < ((x0_2.length : Int) : Int) := xd
        obtain ⟨go14, co14, eo14, gb14, gl14, cl14, HG14⟩ := Kd.zeb HO_0.out (by omega)
        (first | cases eo14 | (injection eo14 with ea_ en_ ec_; (first | subst ea_ | (injection ea_ with ea_; subst ea_)); subst ec_; clear en_))
        have GB14 := ax gb14
        have GG14 := ax HG14
        clear gb14 gl14 HG14
        have HMgo14 := ax (show Z0_ go14 ∨ w.heap.size ≤ go14 from .inl (HZ0.out _ rfl))
        (first | simp only [add_plain] at hx233_0 | skip)
        (first | simp only [add_plain] at hx233_1 | skip)
        (first | simp only [add_plain] at hx234_0 | skip)
        (first | simp only [add_plain] at hx234_1 | skip)
        (first | simp only [add_plain] at hx236_0 | skip)
        (first | simp only [add_plain] at hx236_1 | skip)
        (first | simp only [add_plain] at hx237_0 | skip)
        (first | simp only [add_plain] at hx237_1 | skip)
        obtain ⟨ce14, hcl14, hM14, hcc14, hfr14⟩ := Kd.zc HO_0.out z48 (x9_2 : Int) p14 q14
        obtain ⟨ua14_0, uc14_0, rfl, ul14_0, ge14_0⟩ := zaX hM14
        have hx14_0 : World.cell? _ ⟨go14, (x9_2 : Int).toNat * 2, none⟩ = some (.slice ua14_0 ((zab x0_2 x9_2).f0).length uc14_0) := hcc14 0 _ rfl
        have hx14_1 : World.cell? _ ⟨go14, (x9_2 : Int).toNat * 2 + 1, none⟩ = some (.int .i64 ((zab x0_2 x9_2).f1)) := hcc14 1 _ rfl
        have hf14_0 : World.frozen? _ ⟨go14, (x9_2 : Int).toNat * 2, none⟩ = false := hfr14 0
        have hf14_1 : World.frozen? _ ⟨go14, (x9_2 : Int).toNat * 2 + 1, none⟩ = false := hfr14 1
        clear hcl14 hcc14 hfr14; (try clear hM14)
        replace p14 := eq_true p14
        replace q14 := eq_true q14
        have HX20 := ax (show Kd.N k48 48 _ w0.heap.size (fun k_ => P0_ k_) (.slice (some ⟨go14, 0, none⟩) x0_2.length co17) x0_2 from (Kd.zbe (HO_0.out) (fun k_ hk => hk)))
        obtain ⟨ce20, hcl20, hM20, hcc20, hfr20⟩ := Kd.zc HX20.out z48 (x9_2 : Int) (xd) (by have h_ : (x9_2 : Int) < ((x0_2.length : Int) : Int) := xd; first | exact h_ | (have e_ := (Kd.zaE HO_0.out).1; omega) | simpa using h_)
        obtain ⟨ua20_0, uc20_0, rfl, ul20_0, ge20_0⟩ := zaX hM20
        have HP20 := (Kd.zeC HX20.out (x9_2 : Int) (xd) (by have h_ : (x9_2 : Int) < ((x0_2.length : Int) : Int) := xd; first | exact h_ | (have e_ := (Kd.zaE HO_0.out).1; omega) | simpa using h_) (seg := [.slice A236_0 ((zab x0_2 (ji9)).f0).length c236_0, .int .i64 ((zab x0_2 (ji9)).f1)]) (j := 0) hcl20 hcc20 (show 2 ≤ 2 from by decide) (x' := (⟨(zab x0_2 (ji9)).f0, (zab x0_2 (ji9)).f1⟩ : S48)) (zde _ _ (⟨(zab x0_2 (ji9)).f0, (zab x0_2 (ji9)).f1⟩ : S48) (Kd.za2 (Kd.zaP (ok' := (fun k_ => ((fun k_ => P0_ k_)) k_ ∧ k_ ≠ go14)) (HL236_0.out) (fun k_ hk => ⟨hk.1, fun e_ => (hk.2) (by rw [e_]; rfl)⟩))).2.1 (Kd.V_F (Kd.zaP (ok' := (fun k_ => ((fun k_ => P0_ k_)) k_ ∧ k_ ≠ go14)) (HL236_0.out) (fun k_ hk => ⟨hk.1, fun e_ => (hk.2) (by rw [e_]; rfl)⟩)))) (fun _ hk => hk)).1
        rw [← Ny238.out] at HP20
        have HQ20 := ax HP20
        clear hcl20 hcc20 hfr20; (try clear hM20); clear HP20
        have p15 : 0 ≤ ((ji9) : Int) := xd
        have q15 : ((ji9) : Int) < ((x0_2.length : Int) : Int) := xd
        obtain ⟨ce15, hcl15, hM15, hcc15, hfr15⟩ := Kd.zc HQ20.out z48 ((ji9) : Int) p15 q15
        obtain ⟨ua15_0, uc15_0, rfl, ul15_0, ge15_0⟩ := zaX hM15
        have hx15_0 : World.cell? _ ⟨go14, ((ji9) : Int).toNat * 2, none⟩ = some (.slice ua15_0 ((zab y238 (ji9)).f0).length uc15_0) := hcc15 0 _ rfl
        have hx15_1 : World.cell? _ ⟨go14, ((ji9) : Int).toNat * 2 + 1, none⟩ = some (.int .i64 ((zab y238 (ji9)).f1)) := hcc15 1 _ rfl
        have hf15_0 : World.frozen? _ ⟨go14, ((ji9) : Int).toNat * 2, none⟩ = false := hfr15 0
        have hf15_1 : World.frozen? _ ⟨go14, ((ji9) : Int).toNat * 2 + 1, none⟩ = false := hfr15 1
        clear hcl15 hcc15 hfr15; (try clear hM15)
        replace p15 := eq_true p15
        replace q15 := eq_true q15
        have HX21 := ax (show Kd.N k48 48 _ w0.heap.size (fun k_ => P0_ k_) (.slice (some ⟨go14, 0, none⟩) x0_2.length co17) y238 from (Kd.zbe (HQ20.out) (fun k_ hk => hk)))
        obtain ⟨ce21, hcl21, hM21, hcc21, hfr21⟩ := Kd.zc HX21.out z48 ((ji9) : Int) (xd) (by have h_ : ((ji9) : Int) < ((x0_2.length : Int) : Int) := xd; first | exact h_ | (have e_ := (Kd.zaE HO_0.out).1; omega) | simpa using h_)
        obtain ⟨ua21_0, uc21_0, rfl, ul21_0, ge21_0⟩ := zaX hM21
        have HP21 := (Kd.zeC HX21.out ((ji9) : Int) (xd) (by have h_ : ((ji9) : Int) < ((x0_2.length : Int) : Int) := xd; first | exact h_ | (have e_ := (Kd.zaE HO_0.out).1; omega) | simpa using h_) (seg := [.slice A233_0 ((zab x0_2 x9_2).f0).length c233_0, .int .i64 ((zab x0_2 x9_2).f1)]) (j := 0) hcl21 hcc21 (show 2 ≤ 2 from by decide) (x' := (⟨(zab x0_2 x9_2).f0, (zab x0_2 x9_2).f1⟩ : S48)) (zde _ _ (⟨(zab x0_2 x9_2).f0, (zab x0_2 x9_2).f1⟩ : S48) (Kd.za2 (Kd.zaP (ok' := (fun k_ => ((fun k_ => P0_ k_)) k_ ∧ k_ ≠ go14)) (HL237_0.out) (fun k_ hk => ⟨hk.1, fun e_ => (hk.2) (by rw [e_]; rfl)⟩))).2.1 (Kd.zfk (Kd.zfk (Kd.V_F (Kd.zaP (ok' := (fun k_ => ((fun k_ => P0_ k_)) k_ ∧ k_ ≠ go14)) (HL237_0.out) (fun k_ hk => ⟨hk.1, fun e_ => (hk.2) (by rw [e_]; rfl)⟩))) (fun _ hk => hk.2) _) (fun _ hk => hk.2) _)) (fun _ hk => hk)).1
        rw [← Ny239.out] at HP21
        have HQ21 := ax HP21
        clear hcl21 hcc21 hfr21; (try clear hM21); clear HP21
        refine zbJ (n := 18) (S := fun w' => w'.cell? ⟨go14, ((ji9)).toNat * 2, none⟩ = some (.slice A236_0 ((zab x0_2 (ji9)).f0).length c236_0) ∧ w'.cell? ⟨go14, ((ji9)).toNat * 2 + 1, none⟩ = some (.int .i64 ((zab x0_2 (ji9)).f1)) ∧ w'.cell? ⟨go14, ((x9_2).toNat * 2), none⟩ = some (.slice A233_0 ((zab x0_2 x9_2).f0).length c233_0) ∧ w'.cell? ⟨go14, ((x9_2).toNat * 2) + 1, none⟩ = some (.int .i64 ((zab x0_2 x9_2).f1))) (ds := [15, 17]) (xB 18 0) (by kernel_rfl) rfl (by kernel_rfl) ⟨hx236_0, hx236_1, hx237_0, hx237_1⟩ (fun hHeld => ?_); refine zbg zaa.tab6 zaa.zfb (fun HT_ HW_ => ?_)
        generalize w18.drew = w19 at HO_0 HL233_0 HL234_0 HR233_0 HR234_0 HK HB GG14 HL236_0 HL237_0 HQ20 HQ21 HR236_0 HR237_0 hf14_0 hf14_1 hf15_0 hf15_1 hx14_0 hx14_1 hx15_0 hx15_1 hx233_0 hx233_1 hx234_0 hx234_1 hx236_0 hx236_1 hx237_0 hx237_1 hHeld ⊢
        (try simp [go_sem, World.setCells, show (k48).sz = 2 from rfl] at hf14_0)
        (try simp [go_sem, World.setCells, show (k48).sz = 2 from rfl] at hf14_1)
        (try simp [go_sem, World.setCells, show (k48).sz = 2 from rfl] at hf15_0)
        (try simp [go_sem, World.setCells, show (k48).sz = 2 from rfl] at hf15_1)
        (try simp [go_sem, World.setCells, show (k48).sz = 2 from rfl] at hx14_0)
        (try simp [go_sem, World.setCells, show (k48).sz = 2 from rfl] at hx14_1)
        (try simp [go_sem, World.setCells, show (k48).sz = 2 from rfl] at hx15_0)
        (try simp [go_sem, World.setCells, show (k48).sz = 2 from rfl] at hx15_1)
        (try simp [go_sem, World.setCells, show (k48).sz = 2 from rfl] at hx233_0)
        (try simp [go_sem, World.setCells, show (k48).sz = 2 from rfl] at hx233_1)
        (try simp [go_sem, World.setCells, show (k48).sz = 2 from rfl] at hx234_0)
        (try simp [go_sem, World.setCells, show (k48).sz = 2 from rfl] at hx234_1)
        (try simp [go_sem, World.setCells, show (k48).sz = 2 from rfl] at hx236_0)
        (try simp [go_sem, World.setCells, show (k48).sz = 2 from rfl] at hx236_1)
        (try simp [go_sem, World.setCells, show (k48).sz = 2 from rfl] at hx237_0)
        (try simp [go_sem, World.setCells, show (k48).sz = 2 from rfl] at hx237_1)
        refine pu (i := 0) (N := some 37) (xB 18 1) HT_.out ?_
        refine pu (i := 1) (N := some 38) (xB 18 3) HT_.out ?_
        refine pu (i := 2) (N := some 39) (xB 18 7) HT_.out ?_
        refine pu (i := 3) (N := some 40) (xB 18 15) HT_.out ?_
        refine pu (i := 4) (N := some 41) (xB 18 31) HT_.out ?_
        refine pu (i := 5) (N := some 42) (xB 18 63) HT_.out ?_
        refine pu (i := 6) (N := some 43) (xB 18 127) HT_.out ?_
        refine pu (i := 7) (N := some 44) (xB 18 255) HT_.out ?_
        refine pu (i := 8) (N := some 45) (xB 18 511) HT_.out ?_
        refine pu (i := 10) (N := some 47) (xB 18 1535) HT_.out ?_
        refine pu (i := 11) (N := some 48) (xB 18 3583) HT_.out ?_
        refine pu (i := 12) (N := some 49) (xB 18 7679) HT_.out ?_
        refine tk (i := 9) (N := some 46) (xB 18 8191) HT_.out HW_.out hHeld ?_
        refine tk (i := 13) (N := some 50) (xB 18 16383) HT_.out HW_.out hHeld ?_
        refine pu (i := 14) (N := some 51) (xB 18 32767) HT_.out ?_
        refine zev (i := 15) (N := none) (xB 18 65535) rfl rfl (zbj HT_.out (by kernel_rfl)) (by decide) (fun K hK => ?_)
        refine zdF (w1 := ?_) (by rfl) rfl ?_ ?_
        rotate_left
        ·go_simp
         rfl
        refine hK.out _ _ ?_
        clear hK K
        refine pu (i := 16) (N := some 52) (xB 18 131071) HT_.out ?_
        refine zev (i := 17) (N := none) (xB 18 262143) rfl rfl (zbj HT_.out (by kernel_rfl)) (by decide) (fun K hK => ?_)
        refine zdF (w1 := ?_) (by rfl) rfl ?_ ?_
        rotate_left
        ·go_simp
         rfl
        refine hK.out _ _ ?_
        clear hK K
        refine zb6 (zbB HT_.out (by kernel_rfl)) ?_
        try go_wp2
        go_roundg k2
        case measure => have := HK1.out; have := HK2.out; omega
        case rel => exact ⟨(y239), (ji9), (by first | rfl | (simp; done) | (simp only [← hji9] <;> (first | rfl | simp)) | (simp [*]; done)), H', ⟨by have := HK1.out; have := HK2.out; omega⟩, ⟨by (with_reducible repeat (first | apply Kd.zbD | apply Kd.zbz | apply Kd.zbp)); exact HQ21.out⟩, ⟨by repeat (first | (with_reducible first | exact HK.out | apply Kept.alloc | apply Kept.drewN | apply Kept.drew | refine Kept.setCell ?_ HMgo14.out _ | refine Kept.setCell ?_ HMgo14.out _ | refine Kept.setCell ?_ HMgo14.out _ | refine Kept.setCell ?_ HMgo14.out _) | exact HK.out)⟩, ⟨bh HB.out⟩⟩
       ·rw [if_neg c13] at H
        have c13b0 := decide_eq_false c13
        clear c13
        have H' := ax H
        clear H
        try go_wp2
        replace HO_0 := ax (Kd.zbp HO_0.out); replace HK := ax (Kept.drew HK.out); replace HB := ax (zaN HB.out)
        obtain ⟨Ao23, co23, eo23⟩ := Kd.zbt HO_0.out
        (first | subst eo23 | (injection eo23 with f1_ f2_ f3_; have f4_ := f1_.symm; have f5_ := f3_.symm; clear f1_ f2_ f3_; subst f4_; subst f5_))
        have p233 : 0 ≤ (x9_2 : Int) := xd
        have q233 : x9_2 < (x0_2.length : Int) := xd
        obtain ⟨ad233, A233_0, c233_0, e233, hx233_0, hx233_1, hl233_0, hi233_0⟩ := zbs (Kd.zaE HO_0.out).2.2 x9_2 p233 q233
        cases e233
        obtain ⟨ce233, hce233, hMe233, hcc233⟩ := Kd.zco HO_0.out z48 x9_2 p233 (by first | exact q233 | exact xd | (have e_ := (Kd.zaE HO_0.out).1; omega))
        obtain ⟨ua233_0, uc233_0, rfl, ul233_0, ge233_0⟩ := zaX hMe233
        have hv233_0 := hcc233 0 _ rfl
        rw [Nat.add_zero] at hv233_0
        replace hv233_0 := Option.some.inj (hv233_0.symm.trans hx233_0)
        injection hv233_0 with hva_ hvn_ hvc_
        rw [hva_] at ge233_0
        rw [hvc_] at ul233_0
        have HL233_0 := ax (show Kd.V (Kd.int .i64) 3 _ w0.heap.size _ _ ((zab x0_2 x9_2).f0) from Kd.V_mk ul233_0 ge233_0)
        clear hva_ hvn_ hvc_ ge233_0 ul233_0 hcc233 hce233
        have HR233_0 := ax hi233_0
        have HC233_0 := ax hl233_0
        clear hi233_0 hl233_0
        replace p233 := eq_true p233
        replace q233 := eq_true q233
        have p234 : 0 ≤ ((ji9) : Int) := xd
        have q234 : (ji9) < (x0_2.length : Int) := xd
        obtain ⟨ad234, A234_0, c234_0, e234, hx234_0, hx234_1, hl234_0, hi234_0⟩ := zbs (Kd.zaE HO_0.out).2.2 (ji9) p234 q234
        obtain rfl : ad233 = ad234 := (by injection e234)
        obtain ⟨ce234, hce234, hMe234, hcc234⟩ := Kd.zco HO_0.out z48 (ji9) p234 (by first | exact q234 | exact xd | (have e_ := (Kd.zaE HO_0.out).1; omega))
        obtain ⟨ua234_0, uc234_0, rfl, ul234_0, ge234_0⟩ := zaX hMe234
        have hv234_0 := hcc234 0 _ rfl
        rw [Nat.add_zero] at hv234_0
        replace hv234_0 := Option.some.inj (hv234_0.symm.trans hx234_0)
        injection hv234_0 with hva_ hvn_ hvc_
        rw [hva_] at ge234_0
        rw [hvc_] at ul234_0
        have HL234_0 := ax (show Kd.V (Kd.int .i64) 3 _ w0.heap.size _ _ ((zab x0_2 (ji9)).f0) from Kd.V_mk ul234_0 ge234_0)
        clear hva_ hvn_ hvc_ ge234_0 ul234_0 hcc234 hce234
        have HR234_0 := ax hi234_0
        have HC234_0 := ax hl234_0
        clear hi234_0 hl234_0
        replace p234 := eq_true p234
        replace q234 := eq_true q234
        refine zbJ (n := 17) (S := fun w' => w'.cell? (ad233.add ((x9_2).toNat * 2)) = some (.slice A233_0 ((zab x0_2 x9_2).f0).length c233_0) ∧ w'.cell? ⟨(ad233.add ((x9_2).toNat * 2)).block, (ad233.add ((x9_2).toNat * 2)).off + 1, none⟩ = some (.int .i64 ((zab x0_2 x9_2).f1)) ∧ w'.cell? (ad233.add (((ji9)).toNat * 2)) = some (.slice A234_0 ((zab x0_2 (ji9)).f0).length c234_0) ∧ w'.cell? ⟨(ad233.add (((ji9)).toNat * 2)).block, (ad233.add (((ji9)).toNat * 2)).off + 1, none⟩ = some (.int .i64 ((zab x0_2 (ji9)).f1))) (ds := []) (xB 17 0) (by kernel_rfl) rfl (by kernel_rfl) ⟨hx233_0, hx233_1, hx234_0, hx234_1⟩ (fun hHeld => ?_); refine zbg zaa.tab4 zaa.zfV (fun HT_ HW_ => ?_)
        generalize wr.drew = w22 at HO_0 HK HB HL233_0 HL234_0 HR233_0 HR234_0 hx233_0 hx233_1 hx234_0 hx234_1 hHeld ⊢
        (try simp [go_sem, World.setCells, show (k48).sz = 2 from rfl] at hx233_0)
        (try simp [go_sem, World.setCells, show (k48).sz = 2 from rfl] at hx233_1)
        (try simp [go_sem, World.setCells, show (k48).sz = 2 from rfl] at hx234_0)
        (try simp [go_sem, World.setCells, show (k48).sz = 2 from rfl] at hx234_1)
        refine pu (i := 0) (N := some 18) (xB 17 1) HT_.out ?_
        refine pu (i := 1) (N := some 19) (xB 17 3) HT_.out ?_
        refine pu (i := 2) (N := some 20) (xB 17 7) HT_.out ?_
        refine pu (i := 3) (N := some 21) (xB 17 15) HT_.out ?_
        refine pu (i := 4) (N := some 22) (xB 17 31) HT_.out ?_
        refine pu (i := 5) (N := some 23) (xB 17 63) HT_.out ?_
        refine pu (i := 6) (N := some 24) (xB 17 127) HT_.out ?_
        refine pu (i := 7) (N := some 25) (xB 17 255) HT_.out ?_
        refine pu (i := 9) (N := some 27) (xB 17 767) HT_.out ?_
        refine pu (i := 10) (N := some 28) (xB 17 1791) HT_.out ?_
        refine pu (i := 11) (N := some 29) (xB 17 3839) HT_.out ?_
        refine pu (i := 12) (N := some 30) (xB 17 7935) HT_.out ?_
        refine tk (i := 8) (N := some 26) (xB 17 8191) HT_.out HW_.out hHeld ?_
        refine tk (i := 13) (N := some 31) (xB 17 16383) HT_.out HW_.out hHeld ?_
        refine one_ (i := 14) (N := some 32) (xB 17 32767) rfl rfl (zbj HT_.out (by kernel_rfl)) (by decide) (fun K hK => ?_)
        (first | refine zbQ Try.func60 (by kernel_rfl) rfl #[.agg #[.slice A233_0 ((zab x0_2 x9_2).f0).length c233_0, .int .i64 ((zab x0_2 x9_2).f1)], .agg #[.slice A234_0 ((zab x0_2 (ji9)).f0).length c234_0, .int .i64 ((zab x0_2 (ji9)).f1)]] (by rfl) rfl rfl (by (try simp only [List.map_toArray, List.map_cons, List.map_nil]); first | done | (simp only [hji9]; rfl) | rfl | (simp only [List.length_drop, List.length_take]; rfl)) ?_ | refine zd9 Try.func60 (by kernel_rfl) rfl #[.agg #[.slice A233_0 ((zab x0_2 x9_2).f0).length c233_0, .int .i64 ((zab x0_2 x9_2).f1)], .agg #[.slice A234_0 ((zab x0_2 (ji9)).f0).length c234_0, .int .i64 ((zab x0_2 (ji9)).f1)]] (by rfl) rfl rfl rfl (by (try simp only [List.map_toArray, List.map_cons, List.map_nil]); first | done | (simp only [hji9]; rfl) | rfl | (simp only [List.length_drop, List.length_take]; rfl)) ?_)
        with_reducible refine (zaS.calls k2 _ _ ((zab x0_2 x9_2).f0) ((zab x0_2 x9_2).f1) _ _ ((zab x0_2 (ji9)).f0) ((zab x0_2 (ji9)).f1) t235 _ ?side1 ?side2 ?side3 ?side4 A12.out).mono ?_
        (case side1 => exact xw HR233_0.out)
        (case side2 => exact HC233_0.out)
        (case side3 => exact xw HR234_0.out)
        (case side4 => exact HC234_0.out)
        rintro e w24 ⟨rfl, hb⟩
        have HS0_ := (hb.cell (World.block_lt_of_cell? _ _ (hHeld.1))).trans (hHeld.1)
        have HS1_ := (hb.cell (World.block_lt_of_cell? _ _ (hHeld.2.1))).trans (hHeld.2.1)
        have HS2_ := (hb.cell (World.block_lt_of_cell? _ _ (hHeld.2.2.1))).trans (hHeld.2.2.1)
        have HS3_ := (hb.cell (World.block_lt_of_cell? _ _ (hHeld.2.2.2))).trans (hHeld.2.2.2)
        refine ⟨_, rfl, ?_⟩
        replace HO_0 := ax (Kd.zbL (xN HO_0.out) hb); replace HL233_0 := yV HL233_0 hb; replace HL234_0 := yV HL234_0 hb; replace HR233_0 := ax (Kd.zbE (xw HR233_0.out) hb); replace HR234_0 := ax (Kd.zbE (xw HR234_0.out) hb); replace HK := ax (Kept.below (S := (fun k_ => Z0_ k_)) (by repeat (first | (with_reducible first | exact HK.out | apply Kept.alloc | apply Kept.drewN | apply Kept.drew) | exact HK.out)) hb); replace HB := yB HB hb
        (try clear hb)
        (try clear hk)
        refine hK.out _ _ ⟨HS0_, HS1_, HS2_, HS3_⟩ (fun hHeld => ?_)
        clear hK K
        refine nm ?_
        refine pu (i := 15) (N := some 33) (xB 17 65535) HT_.out ?_
        refine pu (i := 16) (N := some 34) (xB 17 131071) HT_.out ?_
        refine zb6 (zbB HT_.out (by kernel_rfl)) ?_
        try go_wp2
        go_roundg k2
        case measure => have := HK1.out; have := HK2.out; omega
        case rel => exact ⟨(x0_2), (wrap64 (x8_1 + 1)), xr, H', ⟨by have := HK1.out; have := HK2.out; omega⟩, ⟨xN HO_0.out⟩, ⟨by repeat (first | (with_reducible first | exact HK.out | apply Kept.alloc | apply Kept.drewN | apply Kept.drew) | exact HK.out)⟩, ⟨xb HB.out⟩⟩
      ·rw [if_neg c6] at H
       have c6b0 : decide (a1 < x9_2) = false := decide_eq_false c6
       clear c6
       have H' := ax H
       clear H
       try go_wp2
       replace HO_0 := ax (Kd.zbp HO_0.out); replace HK := ax (Kept.drew HK.out); replace HB := ax (zaN HB.out)
       refine zbJ (n := 17) (S := fun w' => True) (ds := []) (xB 17 0) (by kernel_rfl) rfl (by kernel_rfl) trivial (fun hHeld => ?_); refine zbg zaa.tab4 zaa.zfV (fun HT_ HW_ => ?_)
       generalize wr.drew = w25 at HO_0 HK HB hHeld ⊢
       refine pu (i := 0) (N := some 18) (xB 17 1) HT_.out ?_
       refine pu (i := 1) (N := some 19) (xB 17 3) HT_.out ?_
       refine pu (i := 2) (N := some 20) (xB 17 7) HT_.out ?_
       refine pu (i := 3) (N := some 21) (xB 17 15) HT_.out ?_
       refine pn (i := 4) (N := some 22) (xB 17 31) HT_.out ?_
       refine pn (i := 5) (N := some 23) (xB 17 63) HT_.out ?_
       refine pn (i := 6) (N := some 24) (xB 17 127) HT_.out ?_
       refine pn (i := 7) (N := some 25) (xB 17 255) HT_.out ?_
       refine pn (i := 8) (N := some 26) (xB 17 511) HT_.out ?_
       refine pn (i := 9) (N := some 27) (xB 17 1023) HT_.out ?_
       refine pn (i := 10) (N := some 28) (xB 17 2047) HT_.out ?_
       refine pn (i := 11) (N := some 29) (xB 17 4095) HT_.out ?_
       refine pn (i := 12) (N := some 30) (xB 17 8191) HT_.out ?_
       refine pn (i := 13) (N := some 31) (xB 17 16383) HT_.out ?_
       refine pn (i := 14) (N := some 32) (xB 17 32767) HT_.out ?_
       refine pn (i := 15) (N := some 33) (xB 17 65535) HT_.out ?_
       refine pu (i := 16) (N := some 34) (xB 17 131071) HT_.out ?_
       refine zb6 (zbB HT_.out (by kernel_rfl)) ?_
       try go_wp2
       go_roundg k2
       case measure => have := HK1.out; have := HK2.out; omega
       case rel => exact ⟨(x0_2), (wrap64 (x8_1 + 1)), xr, H', ⟨by have := HK1.out; have := HK2.out; omega⟩, ⟨xN HO_0.out⟩, ⟨by repeat (first | (with_reducible first | exact HK.out | apply Kept.alloc | apply Kept.drewN | apply Kept.drew) | exact HK.out)⟩, ⟨xb HB.out⟩⟩
   ·rw [if_neg c5] at H
    have c5b0 := decide_eq_false c5
    clear c5
    obtain rfl := Option.some.inj H
    go_wp2
    first | go_end0 | ((try simp only [Exit.inBlock, Exit.then]); refine bodyPost_ret (results_none rfl _ _ _) rfl ?_)
    exact ⟨xe, xN HO_0.out, xb HB.out, by repeat (first | (with_reducible first | exact HK.out | apply Kept.alloc | apply Kept.drewN | apply Kept.drew) | exact HK.out)⟩

end Go.Proofs.Ytneipehcmmigeaa.PFnExactAddPolys
