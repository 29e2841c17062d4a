import Derived.Test.YtneipehcmmigeaaPFnExactSchurPolyx8
namespace Go.Proofs.Ytneipehcmmigeaa.PFnExactSchurPoly
open Go.RowKit Go.Proofs.YtneipehcmmigeaaW.PrintWords Go.Proofs.YtneipehcmmigeaaW.PrintLast Go.Proofs.YtneipehcmmigeaaW.PrintMore
set_option linter.unusedVariables false
set_option linter.unusedSimpArgs false
set_option maxHeartbeats 8000000
set_option maxRecDepth 100000
/-! ### zaa: function 116 -/
mutual
def zaa.l0 : Nat → List (S48) → Int → Int → Int → Option ((List (S48)))
 | 0, _, _, _, _ => none
 | k + 1, x0, x1, x2, x8 => if x8 < x2 then (zaa.l1 k x0 x1 x2 x8 x8) else (some x0)
def zaa.l1 : Nat → List (S48) → Int → Int → Int → Int → Option ((List (S48)))
 | 0, _, _, _, _, _ => none
 | k + 1, x0, x1, x2, x8, x9 => if x9 > x1 then (if 0 ≤ x9 then (if x9 < (x0.length : Int) then (if 0 ≤ (wrap64 (x9 - 1)) then (if (wrap64 (x9 - 1)) < (x0.length : Int) then ((zaW.f k ((zac x0 x9).f0) ((zac x0 x9).f1) ((zac x0 (wrap64 (x9 - 1))).f0) ((zac x0 (wrap64 (x9 - 1))).f1)).bind fun t280 => (if t280 < 0 then (zaa.l1 k ((x0.set (x9 : Int).toNat (⟨(zac x0 (wrap64 (x9 - 1))).f0, (zac x0 (wrap64 (x9 - 1))).f1⟩ : S48)).set ((wrap64 (x9 - 1)) : Int).toNat (⟨(zac x0 x9).f0, (zac x0 x9).f1⟩ : S48)) x1 x2 x8 (wrap64 (x9 - 1))) else (zaa.l0 k x0 x1 x2 (wrap64 (x8 + 1))))) else (none)) else (none)) else (none)) else (none)) else (zaa.l0 k x0 x1 x2 (wrap64 (x8 + 1)))
end
def zaa.f (k : Nat) (l0 : List (S48)) (a1 : Int) (a2 : Int)  : Option ((List (S48))) := zaa.l0 k l0 a1 a2 (wrap64 (a1 + 1))
theorem zaa.zaZ : ∀ k, (∀ y0 y1 y2 y3, LeO (zaa.l0 k y0 y1 y2 y3) (zaa.l0 (k + 1) y0 y1 y2 y3)) ∧ (∀ y0 y1 y2 y3 y4, LeO (zaa.l1 k y0 y1 y2 y3 y4) (zaa.l1 (k + 1) y0 y1 y2 y3 y4))
 | 0 => ⟨fun _ _ _ _ r h => by simp [zaa.l0] at h, fun _ _ _ _ _ r h => by simp [zaa.l1] at h⟩
 | k + 1 => by
  obtain ⟨ih0, ih1⟩ := zaa.zaZ k
  refine ⟨?_, ?_⟩ <;> intros <;> (first | unfold zaa.l0 | unfold zaa.l1) <;> repeat' with_reducible first | exact ih0 _ _ _ _ | exact ih1 _ _ _ _ _ | exact zaW.mono _ _ _ _ _ | exact xl | refine LeO.ite ?_ ?_ | refine LeO.bind ?_ fun _ => ?_
theorem zaa.mono : ∀ a0 a1 a2 k, LeO (zaa.f k a0 a1 a2) (zaa.f (k + 1) a0 a1 a2) := by
 intro a0 a1 a2 k
 obtain ⟨ih0, ih1⟩ := zaa.zaZ k
 unfold zaa.f
 repeat' with_reducible first | exact ih0 _ _ _ _ | exact ih1 _ _ _ _ _ | exact zaW.mono _ _ _ _ _ | exact xl | refine LeO.ite ?_ ?_ | refine LeO.bind ?_ fun _ => ?_
def zaa.T4 : Bool × List (List Nat × List Nat) := (true, [([], []), ([], []), ([0, 1], [0, 1]), ([2], [2]), ([3], [3]), ([3], [3]), ([3], [3]), ([5, 6, 3], [3, 5, 6]), ([7, 3], [3, 7]), ([3], [3]), ([3], [3]), ([10, 3], [3, 10]), ([9, 11, 3], [3, 9, 11]), ([12, 3], [3, 12]), ([4, 8, 13, 3, 3], [3, 4, 8, 13]), ([14, 3], [3, 14]), ([3, 15], [3, 15])])
def zaa.B4 : List Nat := [0, 0, 3, 7, 15, 15, 15, 111, 239, 15, 15, 1039, 3599, 7695, 16383, 32767, 65535]
theorem zaa.tab4 : rtab .any (opsOf Try.f90 4) = zaa.T4 := by kernel_rfl
theorem zaa.zkr : zcm zaa.T4.2 zaa.B4 = true := by kernel_rfl
def zaa.T6 : Bool × List (List Nat × List Nat) := (true, [([], []), ([], []), ([], []), ([], []), ([3], [3]), ([], []), ([], []), ([6], [6]), ([5, 7], [5, 7]), ([8], [8]), ([], []), ([], []), ([10, 11], [10, 11]), ([12], [12]), ([0, 1, 0, 1, 5, 6, 7, 8, 9, 13], [0, 1]), ([14, 9, 0, 1, 5, 6, 7, 8, 9, 13], [9, 14]), ([2, 4, 0, 1, 2, 3, 4, 5, 6, 7, 8, 9, 10, 11, 12, 13, 14, 15], [2, 4]), ([16, 13, 15, 0, 1, 2, 3, 4, 5, 6, 7, 8, 9, 10, 11, 12, 13, 14, 15], [13, 16])])
def zaa.B6 : List Nat := [0, 0, 0, 0, 8, 0, 0, 64, 224, 480, 0, 0, 3072, 7168, 16355, 32739, 65535, 131071]
theorem zaa.tab6 : rtab .any (opsOf Try.f90 6) = zaa.T6 := by kernel_rfl
theorem zaa.zjy : zcm zaa.T6.2 zaa.B6 = true := by kernel_rfl
theorem zaa.calls (k : Nat) (P0_ Z0_ : Nat → Prop) (u9000_ : Value) (l0 : List (S48)) (a1 : Int) (a2 : Int)  (r : List (S48)) (w0 w : World) (hB : Below w0.heap.size w0 w) (ho0 : Kd.N k48 48 w w0.heap.size P0_ u9000_ l0) (hz0 : ∀ k_, u9000_.ownBlock = some k_ → Z0_ k_) (h : zaa.f k l0 a1 a2 = some r) :
  Calls Try.prog 90 #[u9000_, .int .i64 a1, .int .i64 a2, .func (.func 60) #[] #[]] w fun e w' => e = .returned (.tuple #[]) ∧ Kd.N k48 48 w' w0.heap.size (fun k_ => P0_ k_) u9000_ r ∧ Below w0.heap.size w0 w' ∧ Kept w w' (fun k_ => Z0_ k_) := by
 have hu48 := Try.underlying48
 have HO0 := ax (show Kd.N k48 48 w w0.heap.size (fun k_ => P0_ k_) u9000_ l0 from Kd.zaQ ho0 (fun k_ hk => hk))
 have HZ0 := ax hz0
 clear hz0
 have HK := ax (Kept.refl w (fun k_ => Z0_ k_))
 have HW0 := ax hB.size
 have HB := ax hB
 clear hB
 have H : (zaa.l0 k l0 a1 a2 (wrap64 (a1 + 1))) = some r := h
 clear h
 have H' := ax H
 clear H
 go_enter Try.func90, Try.ntmps90
 go_wp2
 (try simp only [Act.put, List.setIfInBounds_toArray, List.set_cons_zero, List.set_cons_succ])
 go_loopg [8] k (fun kq v8 w' => ∃ (x0_1 : List (S48)) (x8_1 : Int), v8 = .int .i64 x8_1 ∧ zao (zaa.l0 kq x0_1 a1 a2 x8_1 = some r) ∧ zao (kq ≤ k) ∧ zao (Kd.N k48 48 w' w0.heap.size (fun k_ => P0_ k_) u9000_ x0_1) ∧ zao (Kept w w' (fun k_ => Z0_ k_)) ∧ zao (Below w0.heap.size w0 w'))
 case atStart => exact ⟨(l0), (wrap64 (a1 + 1)), xr, H', ⟨Nat.le_refl _⟩, ⟨xN HO0.out⟩, ⟨by repeat (first | (with_reducible first | exact HK.out | apply Kept.alloc | apply Kept.drewN | apply Kept.drew) | exact HK.out)⟩, ⟨xb HB.out⟩⟩
 case round =>
  clear H'
  obtain ⟨x0_1, x8_1, rfl, HA, HK1, HO_0, HK, HB⟩ := hrel
  cases gk with
  | zero => exact absurd HA.out (by simp [zaa.l0])
  | succ k1 =>
   have H := HA.out
   clear HA
   simp only [zaa.l0] at H
   by_cases c5 : x8_1 < a2
   ·rw [if_pos c5] at H
    have c5b0 := decide_eq_true c5
    clear c5
    have H' := ax H
    clear H
    go_wp2
    (try simp only [Act.put, List.setIfInBounds_toArray, List.set_cons_zero, List.set_cons_succ])
    go_loopg [9] k1 (fun kq v9 w' => ∃ (x0_2 : List (S48)) (x9_2 : Int), v9 = .int .i64 x9_2 ∧ zao (zaa.l1 kq x0_2 a1 a2 x8_1 x9_2 = some r) ∧ zao (kq ≤ k1) ∧ zao (Kd.N k48 48 w' w0.heap.size (fun k_ => P0_ k_) u9000_ x0_2) ∧ zao (Kept w w' (fun k_ => Z0_ k_)) ∧ zao (Below w0.heap.size w0 w'))
    case atStart => exact ⟨(x0_1), (x8_1), xr, H', ⟨Nat.le_refl _⟩, ⟨xN HO_0.out⟩, ⟨by repeat (first | (with_reducible first | exact HK.out | apply Kept.alloc | apply Kept.drewN | apply Kept.drew) | exact HK.out)⟩, ⟨xb HB.out⟩⟩
    case round =>
     clear H'
     (try clear c5); (try clear c5b0)
     obtain ⟨x0_2, x9_2, rfl, HA, HK2, HO_0, HK, HB⟩ := hrel
     cases gk with
     | zero => exact absurd HA.out (by simp [zaa.l1])
     | succ k2 =>
      have H := HA.out
      clear HA
      simp only [zaa.l1] at H
      by_cases c6 : x9_2 > a1
      ·rw [if_pos c6] at H
       have c6b0 : decide (a1 < x9_2) = true := decide_eq_true c6
       clear c6
       obtain ⟨c7b0, H⟩ := xq H
       obtain ⟨c8b0, H⟩ := xq H
       obtain ⟨ji9, hji9⟩ : ∃ j_ : Int, (wrap64 (x9_2 - 1)) = j_ := ⟨_, rfl⟩
       replace H : (if 0 ≤ (ji9) then (if (ji9) < (x0_2.length : Int) then ((zaW.f k2 ((zac x0_2 x9_2).f0) ((zac x0_2 x9_2).f1) ((zac x0_2 (ji9)).f0) ((zac x0_2 (ji9)).f1)).bind fun t280 => (if t280 < 0 then (zaa.l1 k2 ((x0_2.set (x9_2 : Int).toNat (⟨(zac x0_2 (ji9)).f0, (zac x0_2 (ji9)).f1⟩ : S48)).set ((ji9) : Int).toNat (⟨(zac x0_2 x9_2).f0, (zac x0_2 x9_2).f1⟩ : S48)) a1 a2 x8_1 ji9) else (zaa.l0 k2 x0_2 a1 a2 (wrap64 (x8_1 + 1))))) else (none)) else (none)) = some r := by first | (rw [hji9] at H; exact H) | (simp only [hji9] at H ⊢; exact H)
       have hji9w : (IntKind.i64.wrap (x9_2 - 1)) = ji9 := (zcd _).trans hji9
       obtain ⟨c10b0, H⟩ := xq H
       obtain ⟨c11b0, H⟩ := xq H
       obtain ⟨t280, A12, H⟩ := xI H
       by_cases c13 : t280 < 0
       ·rw [if_pos c13] at H
        have c13b0 := decide_eq_true c13
        clear c13
        obtain ⟨y283, hy283⟩ : ∃ y_ : List (S48), y_ = (x0_2.set (x9_2 : Int).toNat (⟨(zac x0_2 (ji9)).f0, (zac x0_2 (ji9)).f1⟩ : S48)) := ⟨_, rfl⟩
        replace H : (zaa.l1 k2 (y283.set ((ji9) : Int).toNat (⟨(zac x0_2 x9_2).f0, (zac x0_2 x9_2).f1⟩ : S48)) a1 a2 x8_1 ji9) = some r := xv hy283 H
        have Ny283 := ax hy283
        clear hy283
        obtain ⟨y284, hy284⟩ : ∃ y_ : List (S48), y_ = (y283.set ((ji9) : Int).toNat (⟨(zac x0_2 x9_2).f0, (zac x0_2 x9_2).f1⟩ : S48)) := ⟨_, rfl⟩
        replace H : (zaa.l1 k2 y284 a1 a2 x8_1 ji9) = some r := xv hy284 H
        have Ny284 := ax hy284
        clear hy284
        have H' := ax H
        clear H
        try go_wp2
        replace HO_0 := ax (Kd.zaY HO_0.out); replace HK := ax (Kept.drew HK.out); replace HB := ax (zba HB.out)
        obtain ⟨Ao17, co17, eo17⟩ := Kd.zbx HO_0.out
        (first | subst eo17 | (injection eo17 with f1_ f2_ f3_; have f4_ := f1_.symm; have f5_ := f3_.symm; clear f1_ f2_ f3_; subst f4_; subst f5_))
        have p278 : 0 ≤ (x9_2 : Int) := xd
        have q278 : x9_2 < (x0_2.length : Int) := xd
        obtain ⟨ad278, A278_0, c278_0, e278, hx278_0, hx278_1, hl278_0, hi278_0⟩ := zbO (Kd.zay HO_0.out).2.2 x9_2 p278 q278
        cases e278
        obtain ⟨ce278, hce278, hMe278, hcc278⟩ := Kd.zcl HO_0.out z48 x9_2 p278 (by first | exact q278 | exact xd | (have e_ := (Kd.zay HO_0.out).1; omega))
        obtain ⟨ua278_0, uc278_0, rfl, ul278_0, ge278_0⟩ := za0 hMe278
        have hv278_0 := hcc278 0 _ rfl
        rw [Nat.add_zero] at hv278_0
        replace hv278_0 := Option.some.inj (hv278_0.symm.trans hx278_0)
        injection hv278_0 with hva_ hvn_ hvc_
        rw [hva_] at ge278_0
        rw [hvc_] at ul278_0
        have HL278_0 := ax (show Kd.V (Kd.int .i64) 3 _ w0.heap.size _ _ ((zac x0_2 x9_2).f0) from Kd.V_mk ul278_0 ge278_0)
        clear hva_ hvn_ hvc_ ge278_0 ul278_0 hcc278 hce278
        have HR278_0 := ax hi278_0
        have HC278_0 := ax hl278_0
        clear hi278_0 hl278_0
        replace p278 := eq_true p278
        replace q278 := eq_true q278
        have p279 : 0 ≤ ((ji9) : Int) := xd
        have q279 : (ji9) < (x0_2.length : Int) := xd
        obtain ⟨ad279, A279_0, c279_0, e279, hx279_0, hx279_1, hl279_0, hi279_0⟩ := zbO (Kd.zay HO_0.out).2.2 (ji9) p279 q279
        obtain rfl : ad278 = ad279 := (by injection e279)
        obtain ⟨ce279, hce279, hMe279, hcc279⟩ := Kd.zcl HO_0.out z48 (ji9) p279 (by first | exact q279 | exact xd | (have e_ := (Kd.zay HO_0.out).1; omega))
        obtain ⟨ua279_0, uc279_0, rfl, ul279_0, ge279_0⟩ := za0 hMe279
        have hv279_0 := hcc279 0 _ rfl
        rw [Nat.add_zero] at hv279_0
        replace hv279_0 := Option.some.inj (hv279_0.symm.trans hx279_0)
        injection hv279_0 with hva_ hvn_ hvc_
        rw [hva_] at ge279_0
        rw [hvc_] at ul279_0
        have HL279_0 := ax (show Kd.V (Kd.int .i64) 3 _ w0.heap.size _ _ ((zac x0_2 (ji9)).f0) from Kd.V_mk ul279_0 ge279_0)
        clear hva_ hvn_ hvc_ ge279_0 ul279_0 hcc279 hce279
        have HR279_0 := ax hi279_0
        have HC279_0 := ax hl279_0
        clear hi279_0 hl279_0
        replace p279 := eq_true p279
        replace q279 := eq_true q279
        refine zcj (n := 17) (S := fun w' => w'.cell? (ad278.add ((x9_2).toNat * 2)) = some (.slice A278_0 ((zac x0_2 x9_2).f0).length c278_0) ∧ w'.cell? ⟨(ad278.add ((x9_2).toNat * 2)).block, (ad278.add ((x9_2).toNat * 2)).off + 1, none⟩ = some (.int .i64 ((zac x0_2 x9_2).f1)) ∧ w'.cell? (ad278.add (((ji9)).toNat * 2)) = some (.slice A279_0 ((zac x0_2 (ji9)).f0).length c279_0) ∧ w'.cell? ⟨(ad278.add (((ji9)).toNat * 2)).block, (ad278.add (((ji9)).toNat * 2)).off + 1, none⟩ = some (.int .i64 ((zac x0_2 (ji9)).f1))) (ds := []) (xB 17 0) (by kernel_rfl) rfl (by kernel_rfl) ⟨hx278_0, hx278_1, hx279_0, hx279_1⟩ (fun hHeld => ?_); refine zbD zaa.tab4 zaa.zkr (fun HT_ HW_ => ?_)
        generalize wr.drew = w16 at HO_0 HK HB HL278_0 HL279_0 HR278_0 HR279_0 hx278_0 hx278_1 hx279_0 hx279_1 hHeld ⊢
        (try simp [go_sem, World.setCells, show (k48).sz = 2 from rfl] at hx278_0)
        (try simp [go_sem, World.setCells, show (k48).sz = 2 from rfl] at hx278_1)
        (try simp [go_sem, World.setCells, show (k48).sz = 2 from rfl] at hx279_0)
        (try simp [go_sem, World.setCells, show (k48).sz = 2 from rfl] at hx279_1)
        refine pu (i := 0) (N := some 18) (xB 17 1) HT_.out ?_
        refine pu (i := 1) (N := some 19) (xB 17 3) HT_.out ?_
        refine pu (i := 2) (N := some 20) (xB 17 7) HT_.out ?_
        refine pu (i := 3) (N := some 21) (xB 17 15) HT_.out ?_
        refine pu (i := 4) (N := some 22) (xB 17 31) HT_.out ?_
        refine pu (i := 5) (N := some 23) (xB 17 63) HT_.out ?_
        refine pu (i := 6) (N := some 24) (xB 17 127) HT_.out ?_
        refine pu (i := 7) (N := some 25) (xB 17 255) HT_.out ?_
        refine pu (i := 9) (N := some 27) (xB 17 767) HT_.out ?_
        refine pu (i := 10) (N := some 28) (xB 17 1791) HT_.out ?_
        refine pu (i := 11) (N := some 29) (xB 17 3839) HT_.out ?_
        refine pu (i := 12) (N := some 30) (xB 17 7935) HT_.out ?_
        refine tk (i := 8) (N := some 26) (xB 17 8191) HT_.out HW_.out hHeld ?_
        refine tk (i := 13) (N := some 31) (xB 17 16383) HT_.out HW_.out hHeld ?_
        refine one_ (i := 14) (N := some 32) (xB 17 32767) rfl rfl (zbU HT_.out (by kernel_rfl)) (by decide) (fun K hK => ?_)
        (first | refine zc6 Try.func60 (by kernel_rfl) rfl #[.agg #[.slice A278_0 ((zac x0_2 x9_2).f0).length c278_0, .int .i64 ((zac x0_2 x9_2).f1)], .agg #[.slice A279_0 ((zac x0_2 (ji9)).f0).length c279_0, .int .i64 ((zac x0_2 (ji9)).f1)]] (by rfl) rfl rfl (by (try simp only [List.map_toArray, List.map_cons, List.map_nil]); first | done | (simp only [hji9]; rfl) | rfl | (simp only [List.length_drop, List.length_take]; rfl)) ?_ | refine zez Try.func60 (by kernel_rfl) rfl #[.agg #[.slice A278_0 ((zac x0_2 x9_2).f0).length c278_0, .int .i64 ((zac x0_2 x9_2).f1)], .agg #[.slice A279_0 ((zac x0_2 (ji9)).f0).length c279_0, .int .i64 ((zac x0_2 (ji9)).f1)]] (by rfl) rfl rfl rfl (by (try simp only [List.map_toArray, List.map_cons, List.map_nil]); first | done | (simp only [hji9]; rfl) | rfl | (simp only [List.length_drop, List.length_take]; rfl)) ?_)
        with_reducible refine (zaW.calls k2 _ _ ((zac x0_2 x9_2).f0) ((zac x0_2 x9_2).f1) _ _ ((zac x0_2 (ji9)).f0) ((zac x0_2 (ji9)).f1) t280 _ ?side1 ?side2 ?side3 ?side4 A12.out).mono ?_
        (case side1 => exact xw HR278_0.out)
        (case side2 => exact HC278_0.out)
        (case side3 => exact xw HR279_0.out)
        (case side4 => exact HC279_0.out)
        rintro e w18 ⟨rfl, hb⟩
        have HS0_ := (hb.cell (World.block_lt_of_cell? _ _ (hHeld.1))).trans (hHeld.1)
        have HS1_ := (hb.cell (World.block_lt_of_cell? _ _ (hHeld.2.1))).trans (hHeld.2.1)
        have HS2_ := (hb.cell (World.block_lt_of_cell? _ _ (hHeld.2.2.1))).trans (hHeld.2.2.1)
        have HS3_ := (hb.cell (World.block_lt_of_cell? _ _ (hHeld.2.2.2))).trans (hHeld.2.2.2)
        refine ⟨_, rfl, ?_⟩
        replace HO_0 := ax (Kd.zbH (xN HO_0.out) hb); replace HL278_0 := yV HL278_0 hb; replace HL279_0 := yV HL279_0 hb; replace HR278_0 := ax (Kd.za8 (xw HR278_0.out) hb); replace HR279_0 := ax (Kd.za8 (xw HR279_0.out) hb); replace HK := ax (Kept.below (S := (fun k_ => Z0_ k_)) (by repeat (first | (with_reducible first | exact HK.out | apply Kept.alloc | apply Kept.drewN | apply Kept.drew) | exact HK.out)) hb); replace HB := yB HB hb
        (try clear hb)
        (try clear hk)
        refine hK.out _ _ ⟨HS0_, HS1_, HS2_, HS3_⟩ (fun hHeld => ?_)
        clear hK K
        refine nm ?_
        refine pu (i := 15) (N := some 33) (xB 17 65535) HT_.out ?_
        refine pu (i := 16) (N := some 34) (xB 17 131071) HT_.out ?_
        refine zcR (zb6 HT_.out (by kernel_rfl)) ?_
        try go_wp2
        replace HO_0 := ax (Kd.zaY HO_0.out); replace HL278_0 := ax (Kd.zbV HL278_0.out); replace HL279_0 := ax (Kd.zbV HL279_0.out); replace HR278_0 := ax (Kd.zb2 HR278_0.out); replace HR279_0 := ax (Kd.zb2 HR279_0.out); replace HK := ax (Kept.drew HK.out); replace HB := ax (zba HB.out)
        have p281 : 0 ≤ ((ji9) : Int) := xd
        have q281 : (ji9) < (x0_2.length : Int) := xd
        obtain ⟨ad281, A281_0, c281_0, e281, hx281_0, hx281_1, hl281_0, hi281_0⟩ := zbO (Kd.zay HO_0.out).2.2 (ji9) p281 q281
        obtain rfl : ad278 = ad281 := (by injection e281)
        obtain ⟨ce281, hce281, hMe281, hcc281⟩ := Kd.zcl HO_0.out z48 (ji9) p281 (by first | exact q281 | exact xd | (have e_ := (Kd.zay HO_0.out).1; omega))
        obtain ⟨ua281_0, uc281_0, rfl, ul281_0, ge281_0⟩ := za0 hMe281
        have hv281_0 := hcc281 0 _ rfl
        rw [Nat.add_zero] at hv281_0
        replace hv281_0 := Option.some.inj (hv281_0.symm.trans hx281_0)
        injection hv281_0 with hva_ hvn_ hvc_
        rw [hva_] at ge281_0
        rw [hvc_] at ul281_0
        have HL281_0 := ax (show Kd.V (Kd.int .i64) 3 _ w0.heap.size _ _ ((zac x0_2 (ji9)).f0) from Kd.V_mk ul281_0 ge281_0)
        clear hva_ hvn_ hvc_ ge281_0 ul281_0 hcc281 hce281
        have HR281_0 := ax hi281_0
        have HC281_0 := ax hl281_0
        clear hi281_0 hl281_0
        replace p281 := eq_true p281
        replace q281 := eq_true q281
        have p282 : 0 ≤ (x9_2 : Int) := xd
        have q282 : x9_2 < (x0_2.length : Int) := xd
        obtain ⟨ad282, A282_0, c282_0, e282, hx282_0, hx282_1, hl282_0, hi282_0⟩ := zbO (Kd.zay HO_0.out).2.2 x9_2 p282 q282
        obtain rfl : ad278 = ad282 := (by injection e282)
        obtain ⟨rfl, rfl⟩ : A278_0 = A282_0 ∧ c278_0 = c282_0 := by first | exact zcQ hx278_0 hx282_0 | exact zcQ HS0_ hx282_0 | exact zcQ HS1_ hx282_0 | exact zcQ HS2_ hx282_0 | exact zcQ hHeld hx282_0 | exact zcQ hHeld.1 hx282_0 | exact zcQ hHeld.2 hx282_0 | exact zcQ hHeld.2.1 hx282_0 | exact zcQ hHeld.2.2 hx282_0 | exact zcQ hHeld.2.2.1 hx282_0 | exact zcQ hHeld.2.2.2 hx282_0 | exact zcQ hHeld.2.2.2.1 hx282_0 | exact zcQ hHeld.2.2.2.2 hx282_0 | exact zcQ hHeld.2.2.2.2.1 hx282_0 | exact zcQ hHeld.2.2.2.2.2 hx282_0
        obtain ⟨ce282, hce282, hMe282, hcc282⟩ := Kd.zcl HO_0.out z48 x9_2 p282 (by first | exact q282 | exact xd | (have e_ := (Kd.zay HO_0.out).1; omega))
        obtain ⟨ua282_0, uc282_0, rfl, ul282_0, ge282_0⟩ := za0 hMe282
        have hv282_0 := hcc282 0 _ rfl
        rw [Nat.add_zero] at hv282_0
        replace hv282_0 := Option.some.inj (hv282_0.symm.trans hx282_0)
        injection hv282_0 with hva_ hvn_ hvc_
        rw [hva_] at ge282_0
        rw [hvc_] at ul282_0
        have HL282_0 := ax (show Kd.V (Kd.int .i64) 3 _ w0.heap.size _ _ ((zac x0_2 x9_2).f0) from Kd.V_mk ul282_0 ge282_0)
        clear hva_ hvn_ hvc_ ge282_0 ul282_0 hcc282 hce282
        have HR282_0 := ax hi282_0
        have HC282_0 := ax hl282_0
        clear hi282_0 hl282_0
        replace p282 := eq_true p282
        replace q282 := eq_true q282
        have p14 : 0 ≤ (x9_2 : Int) := xd
        have q14 : (x9_2 : Int) < ((x0_2.length : Int) : Int) := xd
        obtain ⟨go14, co14, eo14, gb14, gl14, cl14, HG14⟩ := Kd.zfd HO_0.out (by omega)
        (first | cases eo14 | (injection eo14 with ea_ en_ ec_; (first | subst ea_ | (injection ea_ with ea_; subst ea_)); subst ec_; clear en_))
        have GB14 := ax gb14
        have GG14 := ax HG14
        clear gb14 gl14 HG14
        have HMgo14 := ax (show Z0_ go14 ∨ w.heap.size ≤ go14 from .inl (HZ0.out _ rfl))
        (first | simp only [add_plain] at hx278_0 | skip)
        (first | simp only [add_plain] at hx278_1 | skip)
        (first | simp only [add_plain] at hx279_0 | skip)
        (first | simp only [add_plain] at hx279_1 | skip)
        (first | simp only [add_plain] at hx281_0 | skip)
        (first | simp only [add_plain] at hx281_1 | skip)
        (first | simp only [add_plain] at hx282_0 | skip)
        (first | simp only [add_plain] at hx282_1 | skip)
        obtain ⟨ce14, hcl14, hM14, hcc14, hfr14⟩ := Kd.zcE HO_0.out z48 (x9_2 : Int) p14 q14
        obtain ⟨ua14_0, uc14_0, rfl, ul14_0, ge14_0⟩ := za0 hM14
        have hx14_0 : World.cell? _ ⟨go14, (x9_2 : Int).toNat * 2, none⟩ = some (.slice ua14_0 ((zac x0_2 x9_2).f0).length uc14_0) := hcc14 0 _ rfl
        have hx14_1 : World.cell? _ ⟨go14, (x9_2 : Int).toNat * 2 + 1, none⟩ = some (.int .i64 ((zac x0_2 x9_2).f1)) := hcc14 1 _ rfl
        have hf14_0 : World.frozen? _ ⟨go14, (x9_2 : Int).toNat * 2, none⟩ = false := hfr14 0
        have hf14_1 : World.frozen? _ ⟨go14, (x9_2 : Int).toNat * 2 + 1, none⟩ = false := hfr14 1
        clear hcl14 hcc14 hfr14; (try clear hM14)
        replace p14 := eq_true p14
        replace q14 := eq_true q14
        have HX20 := ax (show Kd.N k48 48 _ w0.heap.size (fun k_ => P0_ k_) (.slice (some ⟨go14, 0, none⟩) x0_2.length co17) x0_2 from (Kd.zaQ (HO_0.out) (fun k_ hk => hk)))
        obtain ⟨ce20, hcl20, hM20, hcc20, hfr20⟩ := Kd.zcE HX20.out z48 (x9_2 : Int) (xd) (by have h_ : (x9_2 : Int) < ((x0_2.length : Int) : Int) := xd; first | exact h_ | (have e_ := (Kd.zay HO_0.out).1; omega) | simpa using h_)
        obtain ⟨ua20_0, uc20_0, rfl, ul20_0, ge20_0⟩ := za0 hM20
        have HP20 := (Kd.zfc HX20.out (x9_2 : Int) (xd) (by have h_ : (x9_2 : Int) < ((x0_2.length : Int) : Int) := xd; first | exact h_ | (have e_ := (Kd.zay HO_0.out).1; omega) | simpa using h_) (seg := [.slice A281_0 ((zac x0_2 (ji9)).f0).length c281_0, .int .i64 ((zac x0_2 (ji9)).f1)]) (j := 0) hcl20 hcc20 (show 2 ≤ 2 from by decide) (x' := (⟨(zac x0_2 (ji9)).f0, (zac x0_2 (ji9)).f1⟩ : S48)) (zdw _ _ (⟨(zac x0_2 (ji9)).f0, (zac x0_2 (ji9)).f1⟩ : S48) (Kd.zc (Kd.zbA (ok' := (fun k_ => ((fun k_ => P0_ k_)) k_ ∧ k_ ≠ go14)) (HL281_0.out) (fun k_ hk => ⟨hk.1, fun e_ => (hk.2) (by rw [e_]; rfl)⟩))).2.1 (Kd.V_F (Kd.zbA (ok' := (fun k_ => ((fun k_ => P0_ k_)) k_ ∧ k_ ≠ go14)) (HL281_0.out) (fun k_ hk => ⟨hk.1, fun e_ => (hk.2) (by rw [e_]; rfl)⟩)))) (fun _ hk => hk)).1
        rw [← Ny283.out] at HP20
        have HQ20 := ax HP20
        clear hcl20 hcc20 hfr20; (try clear hM20); clear HP20
        have p15 : 0 ≤ ((ji9) : Int) := xd
        have q15 : ((ji9) : Int) < ((x0_2.length : Int) : Int) := xd
        obtain ⟨ce15, hcl15, hM15, hcc15, hfr15⟩ := Kd.zcE HQ20.out z48 ((ji9) : Int) p15 q15
        obtain ⟨ua15_0, uc15_0, rfl, ul15_0, ge15_0⟩ := za0 hM15
        have hx15_0 : World.cell? _ ⟨go14, ((ji9) : Int).toNat * 2, none⟩ = some (.slice ua15_0 ((zac y283 (ji9)).f0).length uc15_0) := hcc15 0 _ rfl
        have hx15_1 : World.cell? _ ⟨go14, ((ji9) : Int).toNat * 2 + 1, none⟩ = some (.int .i64 ((zac y283 (ji9)).f1)) := hcc15 1 _ rfl
        have hf15_0 : World.frozen? _ ⟨go14, ((ji9) : Int).toNat * 2, none⟩ = false := hfr15 0
        have hf15_1 : World.frozen? _ ⟨go14, ((ji9) : Int).toNat * 2 + 1, none⟩ = false := hfr15 1
        clear hcl15 hcc15 hfr15; (try clear hM15)
        replace p15 := eq_true p15
        replace q15 := eq_true q15
        have HX21 := ax (show Kd.N k48 48 _ w0.heap.size (fun k_ => P0_ k_) (.slice (some ⟨go14, 0, none⟩) x0_2.length co17) y283 from (Kd.zaQ (HQ20.out) (fun k_ hk => hk)))
        obtain ⟨ce21, hcl21, hM21, hcc21, hfr21⟩ := Kd.zcE HX21.out z48 ((ji9) : Int) (xd) (by have h_ : ((ji9) : Int) < ((x0_2.length : Int) : Int) := xd; first | exact h_ | (have e_ := (Kd.zay HO_0.out).1; omega) | simpa using h_)
        obtain ⟨ua21_0, uc21_0, rfl, ul21_0, ge21_0⟩ := za0 hM21
        have HP21 := (Kd.zfc HX21.out ((ji9) : Int) (xd) (by have h_ : ((ji9) : Int) < ((x0_2.length : Int) : Int) := xd; first | exact h_ | (have e_ := (Kd.zay HO_0.out).1; omega) | simpa using h_) (seg := [.slice A278_0 ((zac x0_2 x9_2).f0).length c278_0, .int .i64 ((zac x0_2 x9_2).f1)]) (j := 0) hcl21 hcc21 (show 2 ≤ 2 from by decide) (x' := (⟨(zac x0_2 x9_2).f0, (zac x0_2 x9_2).f1⟩ : S48)) (zdw _ _ (⟨(zac x0_2 x9_2).f0, (zac x0_2 x9_2).f1⟩ : S48) (Kd.zc (Kd.zbA (ok' := (fun k_ => ((fun k_ => P0_ k_)) k_ ∧ k_ ≠ go14)) (HL282_0.out) (fun k_ hk => ⟨hk.1, fun e_ => (hk.2) (by rw [e_]; rfl)⟩))).2.1 (Kd.zfY (Kd.zfY (Kd.V_F (Kd.zbA (ok' := (fun k_ => ((fun k_ => P0_ k_)) k_ ∧ k_ ≠ go14)) (HL282_0.out) (fun k_ hk => ⟨hk.1, fun e_ => (hk.2) (by rw [e_]; rfl)⟩))) (fun _ hk => hk.2) _) (fun _ hk => hk.2) _)) (fun _ hk => hk)).1
        rw [← Ny284.out] at HP21
        have HQ21 := ax HP21
        clear hcl21 hcc21 hfr21; (try clear hM21); clear HP21
        refine zcj (n := 18) (S := fun w' => w'.cell? ⟨go14, ((ji9)).toNat * 2, none⟩ = some (.slice A281_0 ((zac x0_2 (ji9)).f0).length c281_0) ∧ w'.cell? ⟨go14, ((ji9)).toNat * 2 + 1, none⟩ = some (.int .i64 ((zac x0_2 (ji9)).f1)) ∧ w'.cell? ⟨go14, ((x9_2).toNat * 2), none⟩ = some (.slice A278_0 ((zac x0_2 x9_2).f0).length c278_0) ∧ w'.cell? ⟨go14, ((x9_2).toNat * 2) + 1, none⟩ = some (.int .i64 ((zac x0_2 x9_2).f1))) (ds := [15, 17]) (xB 18 0) (by kernel_rfl) rfl (by kernel_rfl) ⟨hx281_0, hx281_1, hx282_0, hx282_1⟩ (fun hHeld => ?_); refine zbD zaa.tab6 zaa.zjy (fun HT_ HW_ => ?_)
        generalize w18.drew = w19 at HO_0 HL278_0 HL279_0 HR278_0 HR279_0 HK HB GG14 HL281_0 HL282_0 HQ20 HQ21 HR281_0 HR282_0 hf14_0 hf14_1 hf15_0 hf15_1 hx14_0 hx14_1 hx15_0 hx15_1 hx278_0 hx278_1 hx279_0 hx279_1 hx281_0 hx281_1 hx282_0 hx282_1 hHeld ⊢
        (try simp [go_sem, World.setCells, show (k48).sz = 2 from rfl] at hf14_0)
        (try simp [go_sem, World.setCells, show (k48).sz = 2 from rfl] at hf14_1)
        (try simp [go_sem, World.setCells, show (k48).sz = 2 from rfl] at hf15_0)
        (try simp [go_sem, World.setCells, show (k48).sz = 2 from rfl] at hf15_1)
        (try simp [go_sem, World.setCells, show (k48).sz = 2 from rfl] at hx14_0)
        (try simp [go_sem, World.setCells, show (k48).sz = 2 from rfl] at hx14_1)
        (try simp [go_sem, World.setCells, show (k48).sz = 2 from rfl] at hx15_0)
        (try simp [go_sem, World.setCells, show (k48).sz = 2 from rfl] at hx15_1)
        (try simp [go_sem, World.setCells, show (k48).sz = 2 from rfl] at hx278_0)
        (try simp [go_sem, World.setCells, show (k48).sz = 2 from rfl] at hx278_1)
        (try simp [go_sem, World.setCells, show (k48).sz = 2 from rfl] at hx279_0)
        (try simp [go_sem, World.setCells, show (k48).sz = 2 from rfl] at hx279_1)
        (try simp [go_sem, World.setCells, show (k48).sz = 2 from rfl] at hx281_0)
        (try simp [go_sem, World.setCells, show (k48).sz = 2 from rfl] at hx281_1)
        (try simp [go_sem, World.setCells, show (k48).sz = 2 from rfl] at hx282_0)
        (try simp [go_sem, World.setCells, show (k48).sz = 2 from rfl] at hx282_1)
        refine pu (i := 0) (N := some 37) (xB 18 1) HT_.out ?_
        refine pu (i := 1) (N := some 38) (xB 18 3) HT_.out ?_
        refine pu (i := 2) (N := some 39) (xB 18 7) HT_.out ?_
        refine pu (i := 3) (N := some 40) (xB 18 15) HT_.out ?_
        refine pu (i := 4) (N := some 41) (xB 18 31) HT_.out ?_
        refine pu (i := 5) (N := some 42) (xB 18 63) HT_.out ?_
        refine pu (i := 6) (N := some 43) (xB 18 127) HT_.out ?_
        refine pu (i := 7) (N := some 44) (xB 18 255) HT_.out ?_
        refine pu (i := 8) (N := some 45) (xB 18 511) HT_.out ?_
        refine pu (i := 10) (N := some 47) (xB 18 1535) HT_.out ?_
        refine pu (i := 11) (N := some 48) (xB 18 3583) HT_.out ?_
        refine pu (i := 12) (N := some 49) (xB 18 7679) HT_.out ?_
        refine tk (i := 9) (N := some 46) (xB 18 8191) HT_.out HW_.out hHeld ?_
        refine tk (i := 13) (N := some 50) (xB 18 16383) HT_.out HW_.out hHeld ?_
        refine pu (i := 14) (N := some 51) (xB 18 32767) HT_.out ?_
        refine zeG (i := 15) (N := none) (xB 18 65535) rfl rfl (zbU HT_.out (by kernel_rfl)) (by decide) (fun K hK => ?_)
        refine zeD (w1 := ?_) (by rfl) rfl ?_ ?_
        rotate_left
        ·go_simp
         rfl
        refine hK.out _ _ ?_
        clear hK K
        refine pu (i := 16) (N := some 52) (xB 18 131071) HT_.out ?_
        refine zeG (i := 17) (N := none) (xB 18 262143) rfl rfl (zbU HT_.out (by kernel_rfl)) (by decide) (fun K hK => ?_)
        refine zeD (w1 := ?_) (by rfl) rfl ?_ ?_
        rotate_left
        ·go_simp
         rfl
        refine hK.out _ _ ?_
        clear hK K
        refine zcR (zb6 HT_.out (by kernel_rfl)) ?_
        try go_wp2
        go_roundg k2
        case measure => have := HK1.out; have := HK2.out; omega
        case rel => exact ⟨(y284), (ji9), (by first | rfl | (simp; done) | (simp only [← hji9] <;> (first | rfl | simp)) | (simp [*]; done)), H', ⟨by have := HK1.out; have := HK2.out; omega⟩, ⟨by (with_reducible repeat (first | apply Kd.za4 | apply Kd.za3 | apply Kd.zaY)); exact HQ21.out⟩, ⟨by repeat (first | (with_reducible first | exact HK.out | apply Kept.alloc | apply Kept.drewN | apply Kept.drew | refine Kept.setCell ?_ HMgo14.out _ | refine Kept.setCell ?_ HMgo14.out _ | refine Kept.setCell ?_ HMgo14.out _ | refine Kept.setCell ?_ HMgo14.out _) | exact HK.out)⟩, ⟨bh HB.out⟩⟩
       ·rw [if_neg c13] at H
        have c13b0 := decide_eq_false c13
        clear c13
        have H' := ax H
        clear H
        try go_wp2
        replace HO_0 := ax (Kd.zaY HO_0.out); replace HK := ax (Kept.drew HK.out); replace HB := ax (zba HB.out)
        obtain ⟨Ao23, co23, eo23⟩ := Kd.zbx HO_0.out
        (first | subst eo23 | (injection eo23 with f1_ f2_ f3_; have f4_ := f1_.symm; have f5_ := f3_.symm; clear f1_ f2_ f3_; subst f4_; subst f5_))
        have p278 : 0 ≤ (x9_2 : Int) := xd
        have q278 : x9_2 < (x0_2.length : Int) := xd
        obtain ⟨ad278, A278_0, c278_0, e278, hx278_0, hx278_1, hl278_0, hi278_0⟩ := zbO (Kd.zay HO_0.out).2.2 x9_2 p278 q278
        cases e278
        obtain ⟨ce278, hce278, hMe278, hcc278⟩ := Kd.zcl HO_0.out z48 x9_2 p278 (by first | exact q278 | exact xd | (have e_ := (Kd.zay HO_0.out).1; omega))
        obtain ⟨ua278_0, uc278_0, rfl, ul278_0, ge278_0⟩ := za0 hMe278
        have hv278_0 := hcc278 0 _ rfl
        rw [Nat.add_zero] at hv278_0
        replace hv278_0 := Option.some.inj (hv278_0.symm.trans hx278_0)
        injection hv278_0 with hva_ hvn_ hvc_
        rw [hva_] at ge278_0
        rw [hvc_] at ul278_0
        have HL278_0 := ax (show Kd.V (Kd.int .i64) 3 _ w0.heap.size _ _ ((zac x0_2 x9_2).f0) from Kd.V_mk ul278_0 ge278_0)
        clear hva_ hvn_ hvc_ ge278_0 ul278_0 hcc278 hce278
        have HR278_0 := ax hi278_0
        have HC278_0 := ax hl278_0
        clear hi278_0 hl278_0
        replace p278 := eq_true p278
        replace q278 := eq_true q278
        have p279 : 0 ≤ ((ji9) : Int) := xd
        have q279 : (ji9) < (x0_2.length : Int) := xd
        obtain ⟨ad279, A279_0, c279_0, e279, hx279_0, hx279_1, hl279_0, hi279_0⟩ := zbO (Kd.zay HO_0.out).2.2 (ji9) p279 q279
        obtain rfl : ad278 = ad279 := (by injection e279)
        obtain ⟨ce279, hce279, hMe279, hcc279⟩ := Kd.zcl HO_0.out z48 (ji9) p279 (by first | exact q279 | exact xd | (have e_ := (Kd.zay HO_0.out).1; omega))
        obtain ⟨ua279_0, uc279_0, rfl, ul279_0, ge279_0⟩ := za0 hMe279
        have hv279_0 := hcc279 0 _ rfl
        rw [Nat.add_zero] at hv279_0
        replace hv279_0 := Option.some.inj (hv279_0.symm.trans hx279_0)
        injection hv279_0 with hva_ hvn_ hvc_
        rw [hva_] at ge279_0
        rw [hvc_] at ul279_0
        have HL279_0 := ax (show Kd.V (Kd.int .i64) 3 _ w0.heap.size _ _ ((zac x0_2 (ji9)).f0) from Kd.V_mk ul279_0 ge279_0)
        clear hva_ hvn_ hvc_ ge279_0 ul279_0 hcc279 hce279
        have HR279_0 := ax hi279_0
        have HC279_0 := ax hl279_0
        clear hi279_0 hl279_0
        replace p279 := eq_true p279
        replace q279 := eq_true q279
        refine zcj (n := 17) (S := fun w' => w'.cell? (ad278.add ((x9_2).toNat * 2)) = some (.slice A278_0 ((zac x0_2 x9_2).f0).length c278_0) ∧ w'.cell? ⟨(ad278.add ((x9_2).toNat * 2)).block, (ad278.add ((x9_2).toNat * 2)).off + 1, none⟩ = some (.int .i64 ((zac x0_2 x9_2).f1)) ∧ w'.cell? (ad278.add (((ji9)).toNat * 2)) = some (.slice A279_0 ((zac x0_2 (ji9)).f0).length c279_0) ∧ w'.cell? ⟨(ad278.add (((ji9)).toNat * 2)).block, (ad278.add (((ji9)).toNat * 2)).off + 1, none⟩ = some (.int .i64 ((zac x0_2 (ji9)).f1))) (ds := []) (xB 17 0) (by kernel_rfl) rfl (by kernel_rfl) ⟨hx278_0, hx278_1, hx279_0, hx279_1⟩ (fun hHeld => ?_); refine zbD zaa.tab4 zaa.zkr (fun HT_ HW_ => ?_)
        generalize wr.drew = w22 at HO_0 HK HB HL278_0 HL279_0 HR278_0 HR279_0 hx278_0 hx278_1 hx279_0 hx279_1 hHeld ⊢
        (try simp [go_sem, World.setCells, show (k48).sz = 2 from rfl] at hx278_0)
        (try simp [go_sem, World.setCells, show (k48).sz = 2 from rfl] at hx278_1)
        (try simp [go_sem, World.setCells, show (k48).sz = 2 from rfl] at hx279_0)
        (try simp [go_sem, World.setCells, show (k48).sz = 2 from rfl] at hx279_1)
        refine pu (i := 0) (N := some 18) (xB 17 1) HT_.out ?_
        refine pu (i := 1) (N := some 19) (xB 17 3) HT_.out ?_
        refine pu (i := 2) (N := some 20) (xB 17 7) HT_.out ?_
        refine pu (i := 3) (N := some 21) (xB 17 15) HT_.out ?_
        refine pu (i := 4) (N := some 22) (xB 17 31) HT_.out ?_
        refine pu (i := 5) (N := some 23) (xB 17 63) HT_.out ?_
        refine pu (i := 6) (N := some 24) (xB 17 127) HT_.out ?_
        refine pu (i := 7) (N := some 25) (xB 17 255) HT_.out ?_
        refine pu (i := 9) (N := some 27) (xB 17 767) HT_.out ?_
        refine pu (i := 10) (N := some 28) (xB 17 1791) HT_.out ?_
        refine pu (i := 11) (N := some 29) (xB 17 3839) HT_.out ?_
        refine pu (i := 12) (N := some 30) (xB 17 7935) HT_.out ?_
        refine tk (i := 8) (N := some 26) (xB 17 8191) HT_.out HW_.out hHeld ?_
        refine tk (i := 13) (N := some 31) (xB 17 16383) HT_.out HW_.out hHeld ?_
        refine one_ (i := 14) (N := some 32) (xB 17 32767) rfl rfl (zbU HT_.out (by kernel_rfl)) (by decide) (fun K hK => ?_)
        (first | refine zc6 Try.func60 (by kernel_rfl) rfl #[.agg #[.slice A278_0 ((zac x0_2 x9_2).f0).length c278_0, .int .i64 ((zac x0_2 x9_2).f1)], .agg #[.slice A279_0 ((zac x0_2 (ji9)).f0).length c279_0, .int .i64 ((zac x0_2 (ji9)).f1)]] (by rfl) rfl rfl (by (try simp only [List.map_toArray, List.map_cons, List.map_nil]); first | done | (simp only [hji9]; rfl) | rfl | (simp only [List.length_drop, List.length_take]; rfl)) ?_ | refine zez Try.func60 (by kernel_rfl) rfl #[.agg #[.slice A278_0 ((zac x0_2 x9_2).f0).length c278_0, .int .i64 ((zac x0_2 x9_2).f1)], .agg #[.slice A279_0 ((zac x0_2 (ji9)).f0).length c279_0, .int .i64 ((zac x0_2 (ji9)).f1)]] (by rfl) rfl rfl rfl (by (try simp only [List.map_toArray, List.map_cons, List.map_nil]); first | done | (simp only [hji9]; rfl) | rfl | (simp only [List.length_drop, List.length_take]; rfl)) ?_)
        with_reducible refine (zaW.calls k2 _ _ ((zac x0_2 x9_2).f0) ((zac x0_2 x9_2).f1) _ _ ((zac x0_2 (ji9)).f0) ((zac x0_2 (ji9)).f1) t280 _ ?side1 ?side2 ?side3 ?side4 A12.out).mono ?_
        (case side1 => exact xw HR278_0.out)
        (case side2 => exact HC278_0.out)
        (case side3 => exact xw HR279_0.out)
        (case side4 => exact HC279_0.out)
        rintro e w24 ⟨rfl, hb⟩
        have HS0_ := (hb.cell (World.block_lt_of_cell? _ _ (hHeld.1))).trans (hHeld.1)
        have HS1_ := (hb.cell (World.block_lt_of_cell? _ _ (hHeld.2.1))).trans (hHeld.2.1)
        have HS2_ := (hb.cell (World.block_lt_of_cell? _ _ (hHeld.2.2.1))).trans (hHeld.2.2.1)
        have HS3_ := (hb.cell (World.block_lt_of_cell? _ _ (hHeld.2.2.2))).trans (hHeld.2.2.2)
        refine ⟨_, rfl, ?_⟩
        replace HO_0 := ax (Kd.zbH (xN HO_0.out) hb); replace HL278_0 := yV HL278_0 hb; replace HL279_0 := yV HL279_0 hb; replace HR278_0 := ax (Kd.za8 (xw HR278_0.out) hb); replace HR279_0 := ax (Kd.za8 (xw HR279_0.out) hb); replace HK := ax (Kept.below (S := (fun k_ => Z0_ k_)) (by repeat (first | (with_reducible first | exact HK.out | apply Kept.alloc | apply Kept.drewN | apply Kept.drew) | exact HK.out)) hb); replace HB := yB HB hb
        (try clear hb)
        (try clear hk)
        refine hK.out _ _ ⟨HS0_, HS1_, HS2_, HS3_⟩ (fun hHeld => ?_)
        clear hK K
        refine nm ?_
        refine pu (i := 15) (N := some 33) (xB 17 65535) HT_.out ?_
        refine pu (i := 16) (N := some 34) (xB 17 131071) HT_.out ?_
        refine zcR (zb6 HT_.out (by kernel_rfl)) ?_
        try go_wp2
        go_roundg k2
        case measure => have := HK1.out; have := HK2.out; omega
        case rel => exact ⟨(x0_2), (wrap64 (x8_1 + 1)), xr, H', ⟨by have := HK1.out; have := HK2.out; omega⟩, ⟨xN HO_0.out⟩, ⟨by repeat (first | (with_reducible first | exact HK.out | apply Kept.alloc | apply Kept.drewN | apply Kept.drew) | exact HK.out)⟩, ⟨xb HB.out⟩⟩
      ·rw [if_neg c6] at H
       have c6b0 : decide (a1 < x9_2) = false := decide_eq_false c6
       clear c6
       have H' := ax H
       clear H
       try go_wp2
       replace HO_0 := ax (Kd.zaY HO_0.out); replace HK := ax (Kept.drew HK.out); replace HB := ax (zba HB.out)
       refine zcj (n := 17) (S := fun w' => True) (ds := []) (xB 17 0) (by kernel_rfl) rfl (by kernel_rfl) trivial (fun hHeld => ?_); refine zbD zaa.tab4 zaa.zkr (fun HT_ HW_ => ?_)
       generalize wr.drew = w25 at HO_0 HK HB hHeld ⊢
       refine pu (i := 0) (N := some 18) (xB 17 1) HT_.out ?_
       refine pu (i := 1) (N := some 19) (xB 17 3) HT_.out ?_
       refine pu (i := 2) (N := some 20) (xB 17 7) HT_.out ?_
       refine pu (i := 3) (N := some 21) (xB 17 15) HT_.out ?_
       refine pn (i := 4) (N := some 22) (xB 17 31) HT_.out ?_
       refine pn (i := 5) (N := some 23) (xB 17 63) HT_.out ?_
       refine pn (i := 6) (N := some 24) (xB 17 127) HT_.out ?_
       refine pn (i := 7) (N := some 25) (xB 17 255) HT_.out ?_
       refine pn (i := 8) (N := some 26) (xB 17 511) HT_.out ?_
       refine pn (i := 9) (N := some 27) (xB 17 1023) HT_.out ?_
       refine pn (i := 10) (N := some 28) (xB 17 2047) HT_.out ?_
       refine pn (i := 11) (N := some 29) (xB 17 4095) HT_.out ?_
       refine pn (i := 12) (N := some 30) (xB 17 8191) HT_.out ?_
       refine pn (i := 13) (N := some 31) (xB 17 16383) HT_.out ?_
       refine pn (i := 14) (N := some 32) (xB 17 32767) HT_.out ?_
       refine pn (i := 15) (N := some 33) (xB 17 65535) HT_.out ?_
       refine pu (i := 16) (N := some 34) (xB 17 131071) HT_.out ?_
       refine zcR (zb6 HT_.out (by kernel_rfl)) ?_
       try go_wp2
       go_roundg k2
       case measure => have := HK1.out; have := HK2.out; omega
       case rel => exact ⟨(x0_2), (wrap64 (x8_1 + 1)), xr, H', ⟨by have := HK1.out; have := HK2.out; omega⟩, ⟨xN HO_0.out⟩, ⟨by repeat (first | (with_reducible first | exact HK.out | apply Kept.alloc | apply Kept.drewN | apply Kept.drew) | exact HK.out)⟩, ⟨xb HB.out⟩⟩
   ·rw [if_neg c5] at H
    have c5b0 := decide_eq_false c5
    clear c5
    obtain rfl := Option.some.inj H
    go_wp2
    first | go_end0 | ((try simp only [Exit.inBlock, Exit.then]); refine bodyPost_ret (results_none rfl _ _ _) rfl ?_)
    exact ⟨xe, xN HO_0.out, xb HB.out, by repeat (first | (with_reducible first | exact HK.out | apply Kept.alloc | apply Kept.drewN | apply Kept.drew) | exact HK.out)⟩

end Go.Proofs.Ytneipehcmmigeaa.PFnExactSchurPoly
