import Derived.Test.YtneipehcmmigeaaPFnExactCountTableauxx5
namespace Go.Proofs.Ytneipehcmmigeaa.PFnExactCountTableaux
open Go.RowKit Go.Proofs.YtneipehcmmigeaaW.PrintWords Go.Proofs.YtneipehcmmigeaaW.PrintLast Go.Proofs.YtneipehcmmigeaaW.PrintMore
set_option linter.unusedVariables false
set_option linter.unusedSimpArgs false
set_option maxHeartbeats 8000000
set_option maxRecDepth 100000
/-! ### slices_insertionSortCmpFunc_Mono__impl_ordered_1: function 116 -/
mutual
def slices_insertionSortCmpFunc_Mono__impl_ordered_1.l0 : Nat → List (S48) → Int → Int → Int → Option ((List (S48)))
 | 0, _, _, _, _ => none
 | k + 1, x0, x1, x2, x8 => if x8 < x2 then (slices_insertionSortCmpFunc_Mono__impl_ordered_1.l1 k x0 x1 x2 x8 x8) else (some x0)
def slices_insertionSortCmpFunc_Mono__impl_ordered_1.l1 : Nat → List (S48) → Int → Int → Int → Int → Option ((List (S48)))
 | 0, _, _, _, _, _ => none
 | k + 1, x0, x1, x2, x8, x9 => if x9 > x1 then (if 0 ≤ x9 then (if x9 < (x0.length : Int) then (if 0 ≤ (wrap64 (x9 - 1)) then (if (wrap64 (x9 - 1)) < (x0.length : Int) then ((impl_ordered_1.f k ((rd_T48 x0 x9).f0) ((rd_T48 x0 x9).f1) ((rd_T48 x0 (wrap64 (x9 - 1))).f0) ((rd_T48 x0 (wrap64 (x9 - 1))).f1)).bind fun t227 => (if t227 < 0 then (slices_insertionSortCmpFunc_Mono__impl_ordered_1.l1 k ((x0.set (x9 : Int).toNat (⟨(rd_T48 x0 (wrap64 (x9 - 1))).f0, (rd_T48 x0 (wrap64 (x9 - 1))).f1⟩ : S48)).set ((wrap64 (x9 - 1)) : Int).toNat (⟨(rd_T48 x0 x9).f0, (rd_T48 x0 x9).f1⟩ : S48)) x1 x2 x8 (wrap64 (x9 - 1))) else (slices_insertionSortCmpFunc_Mono__impl_ordered_1.l0 k x0 x1 x2 (wrap64 (x8 + 1))))) else (none)) else (none)) else (none)) else (none)) else (slices_insertionSortCmpFunc_Mono__impl_ordered_1.l0 k x0 x1 x2 (wrap64 (x8 + 1)))
end
def slices_insertionSortCmpFunc_Mono__impl_ordered_1.f (k : Nat) (l0 : List (S48)) (a1 : Int) (a2 : Int)  : Option ((List (S48))) := slices_insertionSortCmpFunc_Mono__impl_ordered_1.l0 k l0 a1 a2 (wrap64 (a1 + 1))
theorem slices_insertionSortCmpFunc_Mono__impl_ordered_1.mono_l : ∀ k, (∀ y0 y1 y2 y3, LeO (slices_insertionSortCmpFunc_Mono__impl_ordered_1.l0 k y0 y1 y2 y3) (slices_insertionSortCmpFunc_Mono__impl_ordered_1.l0 (k + 1) y0 y1 y2 y3)) ∧ (∀ y0 y1 y2 y3 y4, LeO (slices_insertionSortCmpFunc_Mono__impl_ordered_1.l1 k y0 y1 y2 y3 y4) (slices_insertionSortCmpFunc_Mono__impl_ordered_1.l1 (k + 1) y0 y1 y2 y3 y4))
 | 0 => ⟨fun _ _ _ _ r h => by simp [slices_insertionSortCmpFunc_Mono__impl_ordered_1.l0] at h, fun _ _ _ _ _ r h => by simp [slices_insertionSortCmpFunc_Mono__impl_ordered_1.l1] at h⟩
 | k + 1 => by
  obtain ⟨ih0, ih1⟩ := slices_insertionSortCmpFunc_Mono__impl_ordered_1.mono_l k
  refine ⟨?_, ?_⟩
  ·intro y0 y1 y2 y3
   unfold slices_insertionSortCmpFunc_Mono__impl_ordered_1.l0
   repeat' with_reducible first | exact ih0 _ _ _ _ | exact ih1 _ _ _ _ _ | exact impl_ordered_1.mono _ _ _ _ _ | exact xl | refine LeO.ite ?_ ?_ | refine LeO.bind ?_ fun _ => ?_
  ·intro y0 y1 y2 y3 y4
   unfold slices_insertionSortCmpFunc_Mono__impl_ordered_1.l1
   repeat' with_reducible first | exact ih0 _ _ _ _ | exact ih1 _ _ _ _ _ | exact impl_ordered_1.mono _ _ _ _ _ | exact xl | refine LeO.ite ?_ ?_ | refine LeO.bind ?_ fun _ => ?_
theorem slices_insertionSortCmpFunc_Mono__impl_ordered_1.mono : ∀ a0 a1 a2 k, LeO (slices_insertionSortCmpFunc_Mono__impl_ordered_1.f k a0 a1 a2) (slices_insertionSortCmpFunc_Mono__impl_ordered_1.f (k + 1) a0 a1 a2) := by
 intro a0 a1 a2 k
 obtain ⟨ih0, ih1⟩ := slices_insertionSortCmpFunc_Mono__impl_ordered_1.mono_l k
 unfold slices_insertionSortCmpFunc_Mono__impl_ordered_1.f
 repeat' with_reducible first | exact ih0 _ _ _ _ | exact ih1 _ _ _ _ _ | exact impl_ordered_1.mono _ _ _ _ _ | exact xl | refine LeO.ite ?_ ?_ | refine LeO.bind ?_ fun _ => ?_
def slices_insertionSortCmpFunc_Mono__impl_ordered_1.T4 : Bool × List (List Nat × List Nat) := (true, [([], []), ([], []), ([0, 1], [0, 1]), ([2], [2]), ([3], [3]), ([3], [3]), ([3], [3]), ([5, 6, 3], [3, 5, 6]), ([7, 3], [3, 7]), ([3], [3]), ([3], [3]), ([10, 3], [3, 10]), ([9, 11, 3], [3, 9, 11]), ([12, 3], [3, 12]), ([4, 8, 13, 3, 3], [3, 4, 8, 13]), ([14, 3], [3, 14]), ([3, 15], [3, 15])])
def slices_insertionSortCmpFunc_Mono__impl_ordered_1.B4 : List Nat := [0, 0, 3, 7, 15, 15, 15, 111, 239, 15, 15, 1039, 3599, 7695, 16383, 32767, 65535]
theorem slices_insertionSortCmpFunc_Mono__impl_ordered_1.tab4 : rtab .any (opsOf Try.f90 4) = slices_insertionSortCmpFunc_Mono__impl_ordered_1.T4 := by kernel_rfl
theorem slices_insertionSortCmpFunc_Mono__impl_ordered_1.bits4 : waitsOk slices_insertionSortCmpFunc_Mono__impl_ordered_1.T4.2 slices_insertionSortCmpFunc_Mono__impl_ordered_1.B4 = true := by kernel_rfl
def slices_insertionSortCmpFunc_Mono__impl_ordered_1.T6 : Bool × List (List Nat × List Nat) := (true, [([], []), ([], []), ([], []), ([], []), ([3], [3]), ([], []), ([], []), ([6], [6]), ([5, 7], [5, 7]), ([8], [8]), ([], []), ([], []), ([10, 11], [10, 11]), ([12], [12]), ([0, 1, 0, 1, 5, 6, 7, 8, 9, 13], [0, 1]), ([14, 9, 0, 1, 5, 6, 7, 8, 9, 13], [9, 14]), ([2, 4, 0, 1, 2, 3, 4, 5, 6, 7, 8, 9, 10, 11, 12, 13, 14, 15], [2, 4]), ([16, 13, 15, 0, 1, 2, 3, 4, 5, 6, 7, 8, 9, 10, 11, 12, 13, 14, 15], [13, 16])])
def slices_insertionSortCmpFunc_Mono__impl_ordered_1.B6 : List Nat := [0, 0, 0, 0, 8, 0, 0, 64, 224, 480, 0, 0, 3072, 7168, 16355, 32739, 65535, 131071]
theorem slices_insertionSortCmpFunc_Mono__impl_ordered_1.tab6 : rtab .any (opsOf Try.f90 6) = slices_insertionSortCmpFunc_Mono__impl_ordered_1.T6 := by kernel_rfl
theorem slices_insertionSortCmpFunc_Mono__impl_ordered_1.bits6 : waitsOk slices_insertionSortCmpFunc_Mono__impl_ordered_1.T6.2 slices_insertionSortCmpFunc_Mono__impl_ordered_1.B6 = true := by kernel_rfl
theorem slices_insertionSortCmpFunc_Mono__impl_ordered_1.calls (k : Nat) (P0_ Z0_ : Nat → Prop) (u9000_ : Value) (l0 : List (S48)) (a1 : Int) (a2 : Int)  (r : List (S48)) (w0 w : World) (hB : Below w0.heap.size w0 w) (ho0 : Kd.N k48 48 w w0.heap.size P0_ u9000_ l0) (hz0 : ∀ k_, u9000_.ownBlock = some k_ → Z0_ k_) (h : slices_insertionSortCmpFunc_Mono__impl_ordered_1.f k l0 a1 a2 = some r) :
  Calls Try.prog 90 #[u9000_, .int .i64 a1, .int .i64 a2, .func (.func 60) #[] #[]] w fun e w' => e = .returned (.tuple #[]) ∧ Kd.N k48 48 w' w0.heap.size (fun k_ => P0_ k_) u9000_ r ∧ Below w0.heap.size w0 w' ∧ Kept w w' (fun k_ => Z0_ k_) := by
 have hu48 := Try.underlying48
 have HO0 := ax (show Kd.N k48 48 w w0.heap.size (fun k_ => P0_ k_) u9000_ l0 from Kd.N_mono ho0 (fun k_ hk => hk))
 have HZ0 := ax hz0
 clear hz0
 have HK := ax (Kept.refl w (fun k_ => Z0_ k_))
 have HW0 := ax hB.size
 have HB := ax hB
 clear hB
 have H : (slices_insertionSortCmpFunc_Mono__impl_ordered_1.l0 k l0 a1 a2 (wrap64 (a1 + 1))) = some r := h
 clear h
 have H' := ax H
 clear H
 go_enter Try.func90, Try.ntmps90
 go_wp2
 (try simp only [Act.put, List.setIfInBounds_toArray, List.set_cons_zero, List.set_cons_succ])
 go_loopg [8] k (fun kq v8 w' => ∃ (x0_1 : List (S48)) (x8_1 : Int), v8 = .int .i64 x8_1 ∧ Aside0 (slices_insertionSortCmpFunc_Mono__impl_ordered_1.l0 kq x0_1 a1 a2 x8_1 = some r) ∧ Aside0 (kq ≤ k) ∧ Aside0 (Kd.N k48 48 w' w0.heap.size (fun k_ => P0_ k_) u9000_ x0_1) ∧ Aside0 (Kept w w' (fun k_ => Z0_ k_)) ∧ Aside0 (Below w0.heap.size w0 w'))
 case atStart => exact ⟨(l0), (wrap64 (a1 + 1)), xr, H', ⟨Nat.le_refl _⟩, ⟨xN HO0.out⟩, ⟨by repeat (first | (with_reducible first | exact HK.out | apply Kept.alloc | apply Kept.drewN | apply Kept.drew) | exact HK.out)⟩, ⟨xb HB.out⟩⟩
 case round =>
  clear H'
  obtain ⟨x0_1, x8_1, rfl, HA, HK1, HO_0, HK, HB⟩ := hrel
  cases gk with
  | zero => exact absurd HA.out (by simp [slices_insertionSortCmpFunc_Mono__impl_ordered_1.l0])
  | succ k1 =>
   have H := HA.out
   clear HA
   simp only [slices_insertionSortCmpFunc_Mono__impl_ordered_1.l0] at H
   by_cases c5 : x8_1 < a2
   ·rw [if_pos c5] at H
    have c5b0 := decide_eq_true c5
    clear c5
    have H' := ax H
    clear H
    go_wp2
    (try simp only [Act.put, List.setIfInBounds_toArray, List.set_cons_zero, List.set_cons_succ])
    go_loopg [9] k1 (fun kq v9 w' => ∃ (x0_2 : List (S48)) (x9_2 : Int), v9 = .int .i64 x9_2 ∧ Aside0 (slices_insertionSortCmpFunc_Mono__impl_ordered_1.l1 kq x0_2 a1 a2 x8_1 x9_2 = some r) ∧ Aside0 (kq ≤ k1) ∧ Aside0 (Kd.N k48 48 w' w0.heap.size (fun k_ => P0_ k_) u9000_ x0_2) ∧ Aside0 (Kept w w' (fun k_ => Z0_ k_)) ∧ Aside0 (Below w0.heap.size w0 w'))
    case atStart => exact ⟨(x0_1), (x8_1), xr, H', ⟨Nat.le_refl _⟩, ⟨xN HO_0.out⟩, ⟨by repeat (first | (with_reducible first | exact HK.out | apply Kept.alloc | apply Kept.drewN | apply Kept.drew) | exact HK.out)⟩, ⟨xb HB.out⟩⟩
    case round =>
     clear H'
     (try clear c5); (try clear c5b0)
     obtain ⟨x0_2, x9_2, rfl, HA, HK2, HO_0, HK, HB⟩ := hrel
     cases gk with
     | zero => exact absurd HA.out (by simp [slices_insertionSortCmpFunc_Mono__impl_ordered_1.l1])
     | succ k2 =>
      have H := HA.out
      clear HA
      simp only [slices_insertionSortCmpFunc_Mono__impl_ordered_1.l1] at H
      by_cases c6 : x9_2 > a1
      ·rw [if_pos c6] at H
       have c6b0 : decide (a1 < x9_2) = true := decide_eq_true c6
       clear c6
       obtain ⟨c7b0, H⟩ := xq H
       obtain ⟨c8b0, H⟩ := xq H
       obtain ⟨ji9, hji9⟩ : ∃ j_ : Int, (wrap64 (x9_2 - 1)) = j_ := ⟨_, rfl⟩
       replace H : (if 0 ≤ (ji9) then (if (ji9) < (x0_2.length : Int) then ((impl_ordered_1.f k2 ((rd_T48 x0_2 x9_2).f0) ((rd_T48 x0_2 x9_2).f1) ((rd_T48 x0_2 (ji9)).f0) ((rd_T48 x0_2 (ji9)).f1)).bind fun t227 => (if t227 < 0 then (slices_insertionSortCmpFunc_Mono__impl_ordered_1.l1 k2 ((x0_2.set (x9_2 : Int).toNat (⟨(rd_T48 x0_2 (ji9)).f0, (rd_T48 x0_2 (ji9)).f1⟩ : S48)).set ((ji9) : Int).toNat (⟨(rd_T48 x0_2 x9_2).f0, (rd_T48 x0_2 x9_2).f1⟩ : S48)) a1 a2 x8_1 ji9) else (slices_insertionSortCmpFunc_Mono__impl_ordered_1.l0 k2 x0_2 a1 a2 (wrap64 (x8_1 + 1))))) else (none)) else (none)) = some r := by first | (rw [hji9] at H; exact H) | (simp only [hji9] at H ⊢; exact H)
       have hji9w : (IntKind.i64.wrap (x9_2 - 1)) = ji9 := (i64_w _).trans hji9
       obtain ⟨c10b0, H⟩ := xq H
       obtain ⟨c11b0, H⟩ := xq H
       obtain ⟨t227, A12, H⟩ := xI H
       by_cases c13 : t227 < 0
       ·rw [if_pos c13] at H
        have c13b0 := decide_eq_true c13
        clear c13
        obtain ⟨y230, hy230⟩ : ∃ y_ : List (S48), y_ = (x0_2.set (x9_2 : Int).toNat (⟨(rd_T48 x0_2 (ji9)).f0, (rd_T48 x0_2 (ji9)).f1⟩ : S48)) := ⟨_, rfl⟩
        replace H : (slices_insertionSortCmpFunc_Mono__impl_ordered_1.l1 k2 (y230.set ((ji9) : Int).toNat (⟨(rd_T48 x0_2 x9_2).f0, (rd_T48 x0_2 x9_2).f1⟩ : S48)) a1 a2 x8_1 ji9) = some r := xv hy230 H
        have Ny230 := ax hy230
        clear hy230
        obtain ⟨y231, hy231⟩ : ∃ y_ : List (S48), y_ = (y230.set ((ji9) : Int).toNat (⟨(rd_T48 x0_2 x9_2).f0, (rd_T48 x0_2 x9_2).f1⟩ : S48)) := ⟨_, rfl⟩
        replace H : (slices_insertionSortCmpFunc_Mono__impl_ordered_1.l1 k2 y231 a1 a2 x8_1 ji9) = some r := xv hy231 H
        have Ny231 := ax hy231
        clear hy231
        have H' := ax H
        clear H
        try go_wp2
        replace HO_0 := ax (Kd.N_drew HO_0.out); replace HK := ax (Kept.drew HK.out); replace HB := ax (below_drew1 HB.out)
        obtain ⟨Ao17, co17, eo17⟩ := Kd.N_slice HO_0.out
        (first | subst eo17 | (injection eo17 with f1_ f2_ f3_; have f4_ := f1_.symm; have f5_ := f3_.symm; clear f1_ f2_ f3_; subst f4_; subst f5_))
        have p225 : 0 ≤ (x9_2 : Int) := xd
        have q225 : x9_2 < (x0_2.length : Int) := xd
        obtain ⟨ad225, A225_0, c225_0, e225, hx225_0, hx225_1, hl225_0, hi225_0⟩ := at_T48 (Kd.N_reads' HO_0.out).2.2 x9_2 p225 q225
        cases e225
        obtain ⟨ce225, hce225, hMe225, hcc225⟩ := Kd.N_get HO_0.out z48 x9_2 p225 (by first | exact q225 | exact xd | (have e_ := (Kd.N_reads' HO_0.out).1; omega))
        obtain ⟨ua225_0, uc225_0, rfl, ul225_0, ge225_0⟩ := k48_openF hMe225
        have hv225_0 := hcc225 0 _ rfl
        rw [Nat.add_zero] at hv225_0
        replace hv225_0 := Option.some.inj (hv225_0.symm.trans hx225_0)
        injection hv225_0 with hva_ hvn_ hvc_
        rw [hva_] at ge225_0
        rw [hvc_] at ul225_0
        have HL225_0 := ax (show Kd.V (Kd.int .i64) 3 _ w0.heap.size _ _ ((rd_T48 x0_2 x9_2).f0) from Kd.V_mk ul225_0 ge225_0)
        clear hva_ hvn_ hvc_ ge225_0 ul225_0 hcc225 hce225
        have HR225_0 := ax hi225_0
        have HC225_0 := ax hl225_0
        clear hi225_0 hl225_0
        replace p225 := eq_true p225
        replace q225 := eq_true q225
        have p226 : 0 ≤ ((ji9) : Int) := xd
        have q226 : (ji9) < (x0_2.length : Int) := xd
        obtain ⟨ad226, A226_0, c226_0, e226, hx226_0, hx226_1, hl226_0, hi226_0⟩ := at_T48 (Kd.N_reads' HO_0.out).2.2 (ji9) p226 q226
        obtain rfl : ad225 = ad226 := (by injection e226)
        obtain ⟨ce226, hce226, hMe226, hcc226⟩ := Kd.N_get HO_0.out z48 (ji9) p226 (by first | exact q226 | exact xd | (have e_ := (Kd.N_reads' HO_0.out).1; omega))
        obtain ⟨ua226_0, uc226_0, rfl, ul226_0, ge226_0⟩ := k48_openF hMe226
        have hv226_0 := hcc226 0 _ rfl
        rw [Nat.add_zero] at hv226_0
        replace hv226_0 := Option.some.inj (hv226_0.symm.trans hx226_0)
        injection hv226_0 with hva_ hvn_ hvc_
        rw [hva_] at ge226_0
        rw [hvc_] at ul226_0
        have HL226_0 := ax (show Kd.V (Kd.int .i64) 3 _ w0.heap.size _ _ ((rd_T48 x0_2 (ji9)).f0) from Kd.V_mk ul226_0 ge226_0)
        clear hva_ hvn_ hvc_ ge226_0 ul226_0 hcc226 hce226
        have HR226_0 := ax hi226_0
        have HC226_0 := ax hl226_0
        clear hi226_0 hl226_0
        replace p226 := eq_true p226
        replace q226 := eq_true q226
        refine start_ (n := 17) (S := fun w' => w'.cell? (ad225.add ((x9_2).toNat * 2)) = some (.slice A225_0 ((rd_T48 x0_2 x9_2).f0).length c225_0) ∧ w'.cell? ⟨(ad225.add ((x9_2).toNat * 2)).block, (ad225.add ((x9_2).toNat * 2)).off + 1, none⟩ = some (.int .i64 ((rd_T48 x0_2 x9_2).f1)) ∧ w'.cell? (ad225.add (((ji9)).toNat * 2)) = some (.slice A226_0 ((rd_T48 x0_2 (ji9)).f0).length c226_0) ∧ w'.cell? ⟨(ad225.add (((ji9)).toNat * 2)).block, (ad225.add (((ji9)).toNat * 2)).off + 1, none⟩ = some (.int .i64 ((rd_T48 x0_2 (ji9)).f1))) (ds := []) (xB 17 0) (by kernel_rfl) rfl (by kernel_rfl) ⟨hx225_0, hx225_1, hx226_0, hx226_1⟩ (fun hHeld => ?_); refine with_tabW slices_insertionSortCmpFunc_Mono__impl_ordered_1.tab4 slices_insertionSortCmpFunc_Mono__impl_ordered_1.bits4 (fun HT_ HW_ => ?_)
        generalize wr.drew = w16 at HO_0 HK HB HL225_0 HL226_0 HR225_0 HR226_0 hx225_0 hx225_1 hx226_0 hx226_1 hHeld ⊢
        (try simp [go_sem, World.setCells, show (k48).sz = 2 from rfl] at hx225_0)
        (try simp [go_sem, World.setCells, show (k48).sz = 2 from rfl] at hx225_1)
        (try simp [go_sem, World.setCells, show (k48).sz = 2 from rfl] at hx226_0)
        (try simp [go_sem, World.setCells, show (k48).sz = 2 from rfl] at hx226_1)
        refine pu (i := 0) (N := some 18) (xB 17 1) HT_.out ?_
        refine pu (i := 1) (N := some 19) (xB 17 3) HT_.out ?_
        refine pu (i := 2) (N := some 20) (xB 17 7) HT_.out ?_
        refine pu (i := 3) (N := some 21) (xB 17 15) HT_.out ?_
        refine pu (i := 4) (N := some 22) (xB 17 31) HT_.out ?_
        refine pu (i := 5) (N := some 23) (xB 17 63) HT_.out ?_
        refine pu (i := 6) (N := some 24) (xB 17 127) HT_.out ?_
        refine pu (i := 7) (N := some 25) (xB 17 255) HT_.out ?_
        refine pu (i := 9) (N := some 27) (xB 17 767) HT_.out ?_
        refine pu (i := 10) (N := some 28) (xB 17 1791) HT_.out ?_
        refine pu (i := 11) (N := some 29) (xB 17 3839) HT_.out ?_
        refine pu (i := 12) (N := some 30) (xB 17 7935) HT_.out ?_
        refine tk (i := 8) (N := some 26) (xB 17 8191) HT_.out HW_.out hHeld ?_
        refine tk (i := 13) (N := some 31) (xB 17 16383) HT_.out HW_.out hHeld ?_
        refine one_ (i := 14) (N := some 32) (xB 17 32767) rfl rfl (one_of HT_.out (by kernel_rfl)) (by decide) (fun K hK => ?_)
        (first | refine goes_ Try.func60 (by kernel_rfl) rfl #[.agg #[.slice A225_0 ((rd_T48 x0_2 x9_2).f0).length c225_0, .int .i64 ((rd_T48 x0_2 x9_2).f1)], .agg #[.slice A226_0 ((rd_T48 x0_2 (ji9)).f0).length c226_0, .int .i64 ((rd_T48 x0_2 (ji9)).f1)]] (by rfl) rfl rfl (by (try simp only [List.map_toArray, List.map_cons, List.map_nil]); first | done | (simp only [hji9]; rfl) | rfl | (simp only [List.length_drop, List.length_take]; rfl)) ?_ | refine goesD_ Try.func60 (by kernel_rfl) rfl #[.agg #[.slice A225_0 ((rd_T48 x0_2 x9_2).f0).length c225_0, .int .i64 ((rd_T48 x0_2 x9_2).f1)], .agg #[.slice A226_0 ((rd_T48 x0_2 (ji9)).f0).length c226_0, .int .i64 ((rd_T48 x0_2 (ji9)).f1)]] (by rfl) rfl rfl rfl (by (try simp only [List.map_toArray, List.map_cons, List.map_nil]); first | done | (simp only [hji9]; rfl) | rfl | (simp only [List.length_drop, List.length_take]; rfl)) ?_)
        with_reducible refine (impl_ordered_1.calls k2 _ _ ((rd_T48 x0_2 x9_2).f0) ((rd_T48 x0_2 x9_2).f1) _ _ ((rd_T48 x0_2 (ji9)).f0) ((rd_T48 x0_2 (ji9)).f1) t227 _ ?side1 ?side2 ?side3 ?side4 A12.out).mono ?_
        (case side1 => exact xw HR225_0.out)
        (case side2 => exact HC225_0.out)
        (case side3 => exact xw HR226_0.out)
        (case side4 => exact HC226_0.out)
        rintro e w18 ⟨rfl, hb⟩
        have HS0_ := (hb.cell (World.block_lt_of_cell? _ _ (hHeld.1))).trans (hHeld.1)
        have HS1_ := (hb.cell (World.block_lt_of_cell? _ _ (hHeld.2.1))).trans (hHeld.2.1)
        have HS2_ := (hb.cell (World.block_lt_of_cell? _ _ (hHeld.2.2.1))).trans (hHeld.2.2.1)
        have HS3_ := (hb.cell (World.block_lt_of_cell? _ _ (hHeld.2.2.2))).trans (hHeld.2.2.2)
        refine ⟨_, rfl, ?_⟩
        replace HO_0 := ax (Kd.N_below (xN HO_0.out) hb); replace HL225_0 := yV HL225_0 hb; replace HL226_0 := yV HL226_0 hb; replace HR225_0 := ax (Kd.C_below (xw HR225_0.out) hb); replace HR226_0 := ax (Kd.C_below (xw HR226_0.out) hb); replace HK := ax (Kept.below (S := (fun k_ => Z0_ k_)) (by repeat (first | (with_reducible first | exact HK.out | apply Kept.alloc | apply Kept.drewN | apply Kept.drew) | exact HK.out)) hb); replace HB := yB HB hb
        (try clear hb)
        (try clear hk)
        refine hK.out _ _ ⟨HS0_, HS1_, HS2_, HS3_⟩ (fun hHeld => ?_)
        clear hK K
        refine nm ?_
        refine pu (i := 15) (N := some 33) (xB 17 65535) HT_.out ?_
        refine pu (i := 16) (N := some 34) (xB 17 131071) HT_.out ?_
        refine done_ (done_of HT_.out (by kernel_rfl)) ?_
        try go_wp2
        replace HO_0 := ax (Kd.N_drew HO_0.out); replace HL225_0 := ax (Kd.V_drew HL225_0.out); replace HL226_0 := ax (Kd.V_drew HL226_0.out); replace HR225_0 := ax (Kd.C_drew HR225_0.out); replace HR226_0 := ax (Kd.C_drew HR226_0.out); replace HK := ax (Kept.drew HK.out); replace HB := ax (below_drew1 HB.out)
        have p228 : 0 ≤ ((ji9) : Int) := xd
        have q228 : (ji9) < (x0_2.length : Int) := xd
        obtain ⟨ad228, A228_0, c228_0, e228, hx228_0, hx228_1, hl228_0, hi228_0⟩ := at_T48 (Kd.N_reads' HO_0.out).2.2 (ji9) p228 q228
        obtain rfl : ad225 = ad228 := (by injection e228)
        obtain ⟨ce228, hce228, hMe228, hcc228⟩ := Kd.N_get HO_0.out z48 (ji9) p228 (by first | exact q228 | exact xd | (have e_ := (Kd.N_reads' HO_0.out).1; omega))
        obtain ⟨ua228_0, uc228_0, rfl, ul228_0, ge228_0⟩ := k48_openF hMe228
        have hv228_0 := hcc228 0 _ rfl
        rw [Nat.add_zero] at hv228_0
        replace hv228_0 := Option.some.inj (hv228_0.symm.trans hx228_0)
        injection hv228_0 with hva_ hvn_ hvc_
        rw [hva_] at ge228_0
        rw [hvc_] at ul228_0
        have HL228_0 := ax (show Kd.V (Kd.int .i64) 3 _ w0.heap.size _ _ ((rd_T48 x0_2 (ji9)).f0) from Kd.V_mk ul228_0 ge228_0)
        clear hva_ hvn_ hvc_ ge228_0 ul228_0 hcc228 hce228
        have HR228_0 := ax hi228_0
        have HC228_0 := ax hl228_0
        clear hi228_0 hl228_0
        replace p228 := eq_true p228
        replace q228 := eq_true q228
        have p229 : 0 ≤ (x9_2 : Int) := xd
        have q229 : x9_2 < (x0_2.length : Int) := xd
        obtain ⟨ad229, A229_0, c229_0, e229, hx229_0, hx229_1, hl229_0, hi229_0⟩ := at_T48 (Kd.N_reads' HO_0.out).2.2 x9_2 p229 q229
        obtain rfl : ad225 = ad229 := (by injection e229)
        obtain ⟨rfl, rfl⟩ : A225_0 = A229_0 ∧ c225_0 = c229_0 := by first | exact xsame hx225_0 hx229_0 | exact xsame HS0_ hx229_0 | exact xsame HS1_ hx229_0 | exact xsame HS2_ hx229_0 | exact xsame hHeld hx229_0 | exact xsame hHeld.1 hx229_0 | exact xsame hHeld.2 hx229_0 | exact xsame hHeld.2.1 hx229_0 | exact xsame hHeld.2.2 hx229_0 | exact xsame hHeld.2.2.1 hx229_0 | exact xsame hHeld.2.2.2 hx229_0 | exact xsame hHeld.2.2.2.1 hx229_0 | exact xsame hHeld.2.2.2.2 hx229_0 | exact xsame hHeld.2.2.2.2.1 hx229_0 | exact xsame hHeld.2.2.2.2.2 hx229_0
        obtain ⟨ce229, hce229, hMe229, hcc229⟩ := Kd.N_get HO_0.out z48 x9_2 p229 (by first | exact q229 | exact xd | (have e_ := (Kd.N_reads' HO_0.out).1; omega))
        obtain ⟨ua229_0, uc229_0, rfl, ul229_0, ge229_0⟩ := k48_openF hMe229
        have hv229_0 := hcc229 0 _ rfl
        rw [Nat.add_zero] at hv229_0
        replace hv229_0 := Option.some.inj (hv229_0.symm.trans hx229_0)
        injection hv229_0 with hva_ hvn_ hvc_
        rw [hva_] at ge229_0
        rw [hvc_] at ul229_0
        have HL229_0 := ax (show Kd.V (Kd.int .i64) 3 _ w0.heap.size _ _ ((rd_T48 x0_2 x9_2).f0) from Kd.V_mk ul229_0 ge229_0)
        clear hva_ hvn_ hvc_ ge229_0 ul229_0 hcc229 hce229
        have HR229_0 := ax hi229_0
        have HC229_0 := ax hl229_0
        clear hi229_0 hl229_0
        replace p229 := eq_true p229
        replace q229 := eq_true q229
        have p14 : 0 ≤ (x9_2 : Int) := xd
        have q14 : (x9_2 : Int) < ((x0_2.length : Int) : Int) := xd
        obtain ⟨go14, co14, eo14, gb14, gl14, cl14, HG14⟩ := Kd.N_form HO_0.out (by omega)
        (first | cases eo14 | (injection eo14 with ea_ en_ ec_; (first | subst ea_ | (injection ea_ with ea_; subst ea_)); subst ec_; clear en_))
        have GB14 := ax gb14
        have GG14 := ax HG14
        clear gb14 gl14 HG14
        have HMgo14 := ax (show Z0_ go14 ∨ w.heap.size ≤ go14 from .inl (HZ0.out _ rfl))
        (first | simp only [add_plain] at hx225_0 | skip)
        (first | simp only [add_plain] at hx225_1 | skip)
        (first | simp only [add_plain] at hx226_0 | skip)
        (first | simp only [add_plain] at hx226_1 | skip)
        (first | simp only [add_plain] at hx228_0 | skip)
        (first | simp only [add_plain] at hx228_1 | skip)
        (first | simp only [add_plain] at hx229_0 | skip)
        (first | simp only [add_plain] at hx229_1 | skip)
        obtain ⟨ce14, hcl14, hM14, hcc14, hfr14⟩ := Kd.N_elem HO_0.out z48 (x9_2 : Int) p14 q14
        obtain ⟨ua14_0, uc14_0, rfl, ul14_0, ge14_0⟩ := k48_openF hM14
        have hx14_0 : World.cell? _ ⟨go14, (x9_2 : Int).toNat * 2, none⟩ = some (.slice ua14_0 ((rd_T48 x0_2 x9_2).f0).length uc14_0) := hcc14 0 _ rfl
        have hx14_1 : World.cell? _ ⟨go14, (x9_2 : Int).toNat * 2 + 1, none⟩ = some (.int .i64 ((rd_T48 x0_2 x9_2).f1)) := hcc14 1 _ rfl
        have hf14_0 : World.frozen? _ ⟨go14, (x9_2 : Int).toNat * 2, none⟩ = false := hfr14 0
        have hf14_1 : World.frozen? _ ⟨go14, (x9_2 : Int).toNat * 2 + 1, none⟩ = false := hfr14 1
        clear hcl14 hcc14 hfr14; (try clear hM14)
        replace p14 := eq_true p14
        replace q14 := eq_true q14
        have HX20 := ax (show Kd.N k48 48 _ w0.heap.size (fun k_ => P0_ k_) (.slice (some ⟨go14, 0, none⟩) x0_2.length co17) x0_2 from (Kd.N_mono (HO_0.out) (fun k_ hk => hk)))
        obtain ⟨ce20, hcl20, hM20, hcc20, hfr20⟩ := Kd.N_elem HX20.out z48 (x9_2 : Int) (xd) (by have h_ : (x9_2 : Int) < ((x0_2.length : Int) : Int) := xd; first | exact h_ | (have e_ := (Kd.N_reads' HO_0.out).1; omega) | simpa using h_)
        obtain ⟨ua20_0, uc20_0, rfl, ul20_0, ge20_0⟩ := k48_openF hM20
        have HP20 := (Kd.N_seg HX20.out (x9_2 : Int) (xd) (by have h_ : (x9_2 : Int) < ((x0_2.length : Int) : Int) := xd; first | exact h_ | (have e_ := (Kd.N_reads' HO_0.out).1; omega) | simpa using h_) (seg := [.slice A228_0 ((rd_T48 x0_2 (ji9)).f0).length c228_0, .int .i64 ((rd_T48 x0_2 (ji9)).f1)]) (j := 0) hcl20 hcc20 (show 2 ≤ 2 from by decide) (x' := (⟨(rd_T48 x0_2 (ji9)).f0, (rd_T48 x0_2 (ji9)).f1⟩ : S48)) (k48_mkF _ _ (⟨(rd_T48 x0_2 (ji9)).f0, (rd_T48 x0_2 (ji9)).f1⟩ : S48) (Kd.V_reads' (Kd.V_mono (ok' := (fun k_ => ((fun k_ => P0_ k_)) k_ ∧ k_ ≠ go14)) (HL228_0.out) (fun k_ hk => ⟨hk.1, fun e_ => (hk.2) (by rw [e_]; rfl)⟩))).2.1 (Kd.V_F (Kd.V_mono (ok' := (fun k_ => ((fun k_ => P0_ k_)) k_ ∧ k_ ≠ go14)) (HL228_0.out) (fun k_ hk => ⟨hk.1, fun e_ => (hk.2) (by rw [e_]; rfl)⟩)))) (fun _ hk => hk)).1
        rw [← Ny230.out] at HP20
        have HQ20 := ax HP20
        clear hcl20 hcc20 hfr20; (try clear hM20); clear HP20
        have p15 : 0 ≤ ((ji9) : Int) := xd
        have q15 : ((ji9) : Int) < ((x0_2.length : Int) : Int) := xd
        obtain ⟨ce15, hcl15, hM15, hcc15, hfr15⟩ := Kd.N_elem HQ20.out z48 ((ji9) : Int) p15 q15
        obtain ⟨ua15_0, uc15_0, rfl, ul15_0, ge15_0⟩ := k48_openF hM15
        have hx15_0 : World.cell? _ ⟨go14, ((ji9) : Int).toNat * 2, none⟩ = some (.slice ua15_0 ((rd_T48 y230 (ji9)).f0).length uc15_0) := hcc15 0 _ rfl
        have hx15_1 : World.cell? _ ⟨go14, ((ji9) : Int).toNat * 2 + 1, none⟩ = some (.int .i64 ((rd_T48 y230 (ji9)).f1)) := hcc15 1 _ rfl
        have hf15_0 : World.frozen? _ ⟨go14, ((ji9) : Int).toNat * 2, none⟩ = false := hfr15 0
        have hf15_1 : World.frozen? _ ⟨go14, ((ji9) : Int).toNat * 2 + 1, none⟩ = false := hfr15 1
        clear hcl15 hcc15 hfr15; (try clear hM15)
        replace p15 := eq_true p15
        replace q15 := eq_true q15
        have HX21 := ax (show Kd.N k48 48 _ w0.heap.size (fun k_ => P0_ k_) (.slice (some ⟨go14, 0, none⟩) x0_2.length co17) y230 from (Kd.N_mono (HQ20.out) (fun k_ hk => hk)))
        obtain ⟨ce21, hcl21, hM21, hcc21, hfr21⟩ := Kd.N_elem HX21.out z48 ((ji9) : Int) (xd) (by have h_ : ((ji9) : Int) < ((x0_2.length : Int) : Int) := xd; first | exact h_ | (have e_ := (Kd.N_reads' HO_0.out).1; omega) | simpa using h_)
        obtain ⟨ua21_0, uc21_0, rfl, ul21_0, ge21_0⟩ := k48_openF hM21
        have HP21 := (Kd.N_seg HX21.out ((ji9) : Int) (xd) (by have h_ : ((ji9) : Int) < ((x0_2.length : Int) : Int) := xd; first | exact h_ | (have e_ := (Kd.N_reads' HO_0.out).1; omega) | simpa using h_) (seg := [.slice A225_0 ((rd_T48 x0_2 x9_2).f0).length c225_0, .int .i64 ((rd_T48 x0_2 x9_2).f1)]) (j := 0) hcl21 hcc21 (show 2 ≤ 2 from by decide) (x' := (⟨(rd_T48 x0_2 x9_2).f0, (rd_T48 x0_2 x9_2).f1⟩ : S48)) (k48_mkF _ _ (⟨(rd_T48 x0_2 x9_2).f0, (rd_T48 x0_2 x9_2).f1⟩ : S48) (Kd.V_reads' (Kd.V_mono (ok' := (fun k_ => ((fun k_ => P0_ k_)) k_ ∧ k_ ≠ go14)) (HL229_0.out) (fun k_ hk => ⟨hk.1, fun e_ => (hk.2) (by rw [e_]; rfl)⟩))).2.1 (Kd.F_far (Kd.F_far (Kd.V_F (Kd.V_mono (ok' := (fun k_ => ((fun k_ => P0_ k_)) k_ ∧ k_ ≠ go14)) (HL229_0.out) (fun k_ hk => ⟨hk.1, fun e_ => (hk.2) (by rw [e_]; rfl)⟩))) (fun _ hk => hk.2) _) (fun _ hk => hk.2) _)) (fun _ hk => hk)).1
        rw [← Ny231.out] at HP21
        have HQ21 := ax HP21
        clear hcl21 hcc21 hfr21; (try clear hM21); clear HP21
        refine start_ (n := 18) (S := fun w' => w'.cell? ⟨go14, ((ji9)).toNat * 2, none⟩ = some (.slice A228_0 ((rd_T48 x0_2 (ji9)).f0).length c228_0) ∧ w'.cell? ⟨go14, ((ji9)).toNat * 2 + 1, none⟩ = some (.int .i64 ((rd_T48 x0_2 (ji9)).f1)) ∧ w'.cell? ⟨go14, ((x9_2).toNat * 2), none⟩ = some (.slice A225_0 ((rd_T48 x0_2 x9_2).f0).length c225_0) ∧ w'.cell? ⟨go14, ((x9_2).toNat * 2) + 1, none⟩ = some (.int .i64 ((rd_T48 x0_2 x9_2).f1))) (ds := [15, 17]) (xB 18 0) (by kernel_rfl) rfl (by kernel_rfl) ⟨hx228_0, hx228_1, hx229_0, hx229_1⟩ (fun hHeld => ?_); refine with_tabW slices_insertionSortCmpFunc_Mono__impl_ordered_1.tab6 slices_insertionSortCmpFunc_Mono__impl_ordered_1.bits6 (fun HT_ HW_ => ?_)
        generalize w18.drew = w19 at HO_0 HL225_0 HL226_0 HR225_0 HR226_0 HK HB GG14 HL228_0 HL229_0 HQ20 HQ21 HR228_0 HR229_0 hf14_0 hf14_1 hf15_0 hf15_1 hx14_0 hx14_1 hx15_0 hx15_1 hx225_0 hx225_1 hx226_0 hx226_1 hx228_0 hx228_1 hx229_0 hx229_1 hHeld ⊢
        (try simp [go_sem, World.setCells, show (k48).sz = 2 from rfl] at hf14_0)
        (try simp [go_sem, World.setCells, show (k48).sz = 2 from rfl] at hf14_1)
        (try simp [go_sem, World.setCells, show (k48).sz = 2 from rfl] at hf15_0)
        (try simp [go_sem, World.setCells, show (k48).sz = 2 from rfl] at hf15_1)
        (try simp [go_sem, World.setCells, show (k48).sz = 2 from rfl] at hx14_0)
        (try simp [go_sem, World.setCells, show (k48).sz = 2 from rfl] at hx14_1)
        (try simp [go_sem, World.setCells, show (k48).sz = 2 from rfl] at hx15_0)
        (try simp [go_sem, World.setCells, show (k48).sz = 2 from rfl] at hx15_1)
        (try simp [go_sem, World.setCells, show (k48).sz = 2 from rfl] at hx225_0)
        (try simp [go_sem, World.setCells, show (k48).sz = 2 from rfl] at hx225_1)
        (try simp [go_sem, World.setCells, show (k48).sz = 2 from rfl] at hx226_0)
        (try simp [go_sem, World.setCells, show (k48).sz = 2 from rfl] at hx226_1)
        (try simp [go_sem, World.setCells, show (k48).sz = 2 from rfl] at hx228_0)
        (try simp [go_sem, World.setCells, show (k48).sz = 2 from rfl] at hx228_1)
        (try simp [go_sem, World.setCells, show (k48).sz = 2 from rfl] at hx229_0)
        (try simp [go_sem, World.setCells, show (k48).sz = 2 from rfl] at hx229_1)
        refine pu (i := 0) (N := some 37) (xB 18 1) HT_.out ?_
        refine pu (i := 1) (N := some 38) (xB 18 3) HT_.out ?_
        refine pu (i := 2) (N := some 39) (xB 18 7) HT_.out ?_
        refine pu (i := 3) (N := some 40) (xB 18 15) HT_.out ?_
        refine pu (i := 4) (N := some 41) (xB 18 31) HT_.out ?_
        refine pu (i := 5) (N := some 42) (xB 18 63) HT_.out ?_
        refine pu (i := 6) (N := some 43) (xB 18 127) HT_.out ?_
        refine pu (i := 7) (N := some 44) (xB 18 255) HT_.out ?_
        refine pu (i := 8) (N := some 45) (xB 18 511) HT_.out ?_
        refine pu (i := 10) (N := some 47) (xB 18 1535) HT_.out ?_
        refine pu (i := 11) (N := some 48) (xB 18 3583) HT_.out ?_
        refine pu (i := 12) (N := some 49) (xB 18 7679) HT_.out ?_
        refine tk (i := 9) (N := some 46) (xB 18 8191) HT_.out HW_.out hHeld ?_
        refine tk (i := 13) (N := some 50) (xB 18 16383) HT_.out HW_.out hHeld ?_
        refine pu (i := 14) (N := some 51) (xB 18 32767) HT_.out ?_
        refine last_ (i := 15) (N := none) (xB 18 65535) rfl rfl (one_of HT_.out (by kernel_rfl)) (by decide) (fun K hK => ?_)
        refine skip_ (w1 := ?_) (by rfl) rfl ?_ ?_
        rotate_left
        ·go_simp
         rfl
        refine hK.out _ _ ?_
        clear hK K
        refine pu (i := 16) (N := some 52) (xB 18 131071) HT_.out ?_
        refine last_ (i := 17) (N := none) (xB 18 262143) rfl rfl (one_of HT_.out (by kernel_rfl)) (by decide) (fun K hK => ?_)
        refine skip_ (w1 := ?_) (by rfl) rfl ?_ ?_
        rotate_left
        ·go_simp
         rfl
        refine hK.out _ _ ?_
        clear hK K
        refine done_ (done_of HT_.out (by kernel_rfl)) ?_
        try go_wp2
        go_roundg k2
        case measure => have := HK1.out; have := HK2.out; omega
        case rel => exact ⟨(y231), (ji9), (by first | rfl | (simp; done) | (simp only [← hji9] <;> (first | rfl | simp)) | (simp [*]; done)), H', ⟨by have := HK1.out; have := HK2.out; omega⟩, ⟨by (with_reducible repeat (first | apply Kd.N_alloc | apply Kd.N_drewN | apply Kd.N_drew)); exact HQ21.out⟩, ⟨by repeat (first | (with_reducible first | exact HK.out | apply Kept.alloc | apply Kept.drewN | apply Kept.drew | refine Kept.setCell ?_ HMgo14.out _ | refine Kept.setCell ?_ HMgo14.out _ | refine Kept.setCell ?_ HMgo14.out _ | refine Kept.setCell ?_ HMgo14.out _) | exact HK.out)⟩, ⟨by repeat (first | (with_reducible first | exact HB.out | apply below_alloc | apply pw_below_drewN | apply below_drew1 | refine below_set ?_ GB14.out | refine below_set ?_ GB14.out | refine below_set ?_ GB14.out | refine below_set ?_ GB14.out) | exact HB.out)⟩⟩
       ·rw [if_neg c13] at H
        have c13b0 := decide_eq_false c13
        clear c13
        have H' := ax H
        clear H
        try go_wp2
        replace HO_0 := ax (Kd.N_drew HO_0.out); replace HK := ax (Kept.drew HK.out); replace HB := ax (below_drew1 HB.out)
        obtain ⟨Ao23, co23, eo23⟩ := Kd.N_slice HO_0.out
        (first | subst eo23 | (injection eo23 with f1_ f2_ f3_; have f4_ := f1_.symm; have f5_ := f3_.symm; clear f1_ f2_ f3_; subst f4_; subst f5_))
        have p225 : 0 ≤ (x9_2 : Int) := xd
        have q225 : x9_2 < (x0_2.length : Int) := xd
        obtain ⟨ad225, A225_0, c225_0, e225, hx225_0, hx225_1, hl225_0, hi225_0⟩ := at_T48 (Kd.N_reads' HO_0.out).2.2 x9_2 p225 q225
        cases e225
        obtain ⟨ce225, hce225, hMe225, hcc225⟩ := Kd.N_get HO_0.out z48 x9_2 p225 (by first | exact q225 | exact xd | (have e_ := (Kd.N_reads' HO_0.out).1; omega))
        obtain ⟨ua225_0, uc225_0, rfl, ul225_0, ge225_0⟩ := k48_openF hMe225
        have hv225_0 := hcc225 0 _ rfl
        rw [Nat.add_zero] at hv225_0
        replace hv225_0 := Option.some.inj (hv225_0.symm.trans hx225_0)
        injection hv225_0 with hva_ hvn_ hvc_
        rw [hva_] at ge225_0
        rw [hvc_] at ul225_0
        have HL225_0 := ax (show Kd.V (Kd.int .i64) 3 _ w0.heap.size _ _ ((rd_T48 x0_2 x9_2).f0) from Kd.V_mk ul225_0 ge225_0)
        clear hva_ hvn_ hvc_ ge225_0 ul225_0 hcc225 hce225
        have HR225_0 := ax hi225_0
        have HC225_0 := ax hl225_0
        clear hi225_0 hl225_0
        replace p225 := eq_true p225
        replace q225 := eq_true q225
        have p226 : 0 ≤ ((ji9) : Int) := xd
        have q226 : (ji9) < (x0_2.length : Int) := xd
        obtain ⟨ad226, A226_0, c226_0, e226, hx226_0, hx226_1, hl226_0, hi226_0⟩ := at_T48 (Kd.N_reads' HO_0.out).2.2 (ji9) p226 q226
        obtain rfl : ad225 = ad226 := (by injection e226)
        obtain ⟨ce226, hce226, hMe226, hcc226⟩ := Kd.N_get HO_0.out z48 (ji9) p226 (by first | exact q226 | exact xd | (have e_ := (Kd.N_reads' HO_0.out).1; omega))
        obtain ⟨ua226_0, uc226_0, rfl, ul226_0, ge226_0⟩ := k48_openF hMe226
        have hv226_0 := hcc226 0 _ rfl
        rw [Nat.add_zero] at hv226_0
        replace hv226_0 := Option.some.inj (hv226_0.symm.trans hx226_0)
        injection hv226_0 with hva_ hvn_ hvc_
        rw [hva_] at ge226_0
        rw [hvc_] at ul226_0
        have HL226_0 := ax (show Kd.V (Kd.int .i64) 3 _ w0.heap.size _ _ ((rd_T48 x0_2 (ji9)).f0) from Kd.V_mk ul226_0 ge226_0)
        clear hva_ hvn_ hvc_ ge226_0 ul226_0 hcc226 hce226
        have HR226_0 := ax hi226_0
        have HC226_0 := ax hl226_0
        clear hi226_0 hl226_0
        replace p226 := eq_true p226
        replace q226 := eq_true q226
        refine start_ (n := 17) (S := fun w' => w'.cell? (ad225.add ((x9_2).toNat * 2)) = some (.slice A225_0 ((rd_T48 x0_2 x9_2).f0).length c225_0) ∧ w'.cell? ⟨(ad225.add ((x9_2).toNat * 2)).block, (ad225.add ((x9_2).toNat * 2)).off + 1, none⟩ = some (.int .i64 ((rd_T48 x0_2 x9_2).f1)) ∧ w'.cell? (ad225.add (((ji9)).toNat * 2)) = some (.slice A226_0 ((rd_T48 x0_2 (ji9)).f0).length c226_0) ∧ w'.cell? ⟨(ad225.add (((ji9)).toNat * 2)).block, (ad225.add (((ji9)).toNat * 2)).off + 1, none⟩ = some (.int .i64 ((rd_T48 x0_2 (ji9)).f1))) (ds := []) (xB 17 0) (by kernel_rfl) rfl (by kernel_rfl) ⟨hx225_0, hx225_1, hx226_0, hx226_1⟩ (fun hHeld => ?_); refine with_tabW slices_insertionSortCmpFunc_Mono__impl_ordered_1.tab4 slices_insertionSortCmpFunc_Mono__impl_ordered_1.bits4 (fun HT_ HW_ => ?_)
        generalize wr.drew = w22 at HO_0 HK HB HL225_0 HL226_0 HR225_0 HR226_0 hx225_0 hx225_1 hx226_0 hx226_1 hHeld ⊢
        (try simp [go_sem, World.setCells, show (k48).sz = 2 from rfl] at hx225_0)
        (try simp [go_sem, World.setCells, show (k48).sz = 2 from rfl] at hx225_1)
        (try simp [go_sem, World.setCells, show (k48).sz = 2 from rfl] at hx226_0)
        (try simp [go_sem, World.setCells, show (k48).sz = 2 from rfl] at hx226_1)
        refine pu (i := 0) (N := some 18) (xB 17 1) HT_.out ?_
        refine pu (i := 1) (N := some 19) (xB 17 3) HT_.out ?_
        refine pu (i := 2) (N := some 20) (xB 17 7) HT_.out ?_
        refine pu (i := 3) (N := some 21) (xB 17 15) HT_.out ?_
        refine pu (i := 4) (N := some 22) (xB 17 31) HT_.out ?_
        refine pu (i := 5) (N := some 23) (xB 17 63) HT_.out ?_
        refine pu (i := 6) (N := some 24) (xB 17 127) HT_.out ?_
        refine pu (i := 7) (N := some 25) (xB 17 255) HT_.out ?_
        refine pu (i := 9) (N := some 27) (xB 17 767) HT_.out ?_
        refine pu (i := 10) (N := some 28) (xB 17 1791) HT_.out ?_
        refine pu (i := 11) (N := some 29) (xB 17 3839) HT_.out ?_
        refine pu (i := 12) (N := some 30) (xB 17 7935) HT_.out ?_
        refine tk (i := 8) (N := some 26) (xB 17 8191) HT_.out HW_.out hHeld ?_
        refine tk (i := 13) (N := some 31) (xB 17 16383) HT_.out HW_.out hHeld ?_
        refine one_ (i := 14) (N := some 32) (xB 17 32767) rfl rfl (one_of HT_.out (by kernel_rfl)) (by decide) (fun K hK => ?_)
        (first | refine goes_ Try.func60 (by kernel_rfl) rfl #[.agg #[.slice A225_0 ((rd_T48 x0_2 x9_2).f0).length c225_0, .int .i64 ((rd_T48 x0_2 x9_2).f1)], .agg #[.slice A226_0 ((rd_T48 x0_2 (ji9)).f0).length c226_0, .int .i64 ((rd_T48 x0_2 (ji9)).f1)]] (by rfl) rfl rfl (by (try simp only [List.map_toArray, List.map_cons, List.map_nil]); first | done | (simp only [hji9]; rfl) | rfl | (simp only [List.length_drop, List.length_take]; rfl)) ?_ | refine goesD_ Try.func60 (by kernel_rfl) rfl #[.agg #[.slice A225_0 ((rd_T48 x0_2 x9_2).f0).length c225_0, .int .i64 ((rd_T48 x0_2 x9_2).f1)], .agg #[.slice A226_0 ((rd_T48 x0_2 (ji9)).f0).length c226_0, .int .i64 ((rd_T48 x0_2 (ji9)).f1)]] (by rfl) rfl rfl rfl (by (try simp only [List.map_toArray, List.map_cons, List.map_nil]); first | done | (simp only [hji9]; rfl) | rfl | (simp only [List.length_drop, List.length_take]; rfl)) ?_)
        with_reducible refine (impl_ordered_1.calls k2 _ _ ((rd_T48 x0_2 x9_2).f0) ((rd_T48 x0_2 x9_2).f1) _ _ ((rd_T48 x0_2 (ji9)).f0) ((rd_T48 x0_2 (ji9)).f1) t227 _ ?side1 ?side2 ?side3 ?side4 A12.out).mono ?_
        (case side1 => exact xw HR225_0.out)
        (case side2 => exact HC225_0.out)
        (case side3 => exact xw HR226_0.out)
        (case side4 => exact HC226_0.out)
        rintro e w24 ⟨rfl, hb⟩
        have HS0_ := (hb.cell (World.block_lt_of_cell? _ _ (hHeld.1))).trans (hHeld.1)
        have HS1_ := (hb.cell (World.block_lt_of_cell? _ _ (hHeld.2.1))).trans (hHeld.2.1)
        have HS2_ := (hb.cell (World.block_lt_of_cell? _ _ (hHeld.2.2.1))).trans (hHeld.2.2.1)
        have HS3_ := (hb.cell (World.block_lt_of_cell? _ _ (hHeld.2.2.2))).trans (hHeld.2.2.2)
        refine ⟨_, rfl, ?_⟩
        replace HO_0 := ax (Kd.N_below (xN HO_0.out) hb); replace HL225_0 := yV HL225_0 hb; replace HL226_0 := yV HL226_0 hb; replace HR225_0 := ax (Kd.C_below (xw HR225_0.out) hb); replace HR226_0 := ax (Kd.C_below (xw HR226_0.out) hb); replace HK := ax (Kept.below (S := (fun k_ => Z0_ k_)) (by repeat (first | (with_reducible first | exact HK.out | apply Kept.alloc | apply Kept.drewN | apply Kept.drew) | exact HK.out)) hb); replace HB := yB HB hb
        (try clear hb)
        (try clear hk)
        refine hK.out _ _ ⟨HS0_, HS1_, HS2_, HS3_⟩ (fun hHeld => ?_)
        clear hK K
        refine nm ?_
        refine pu (i := 15) (N := some 33) (xB 17 65535) HT_.out ?_
        refine pu (i := 16) (N := some 34) (xB 17 131071) HT_.out ?_
        refine done_ (done_of HT_.out (by kernel_rfl)) ?_
        try go_wp2
        go_roundg k2
        case measure => have := HK1.out; have := HK2.out; omega
        case rel => exact ⟨(x0_2), (wrap64 (x8_1 + 1)), xr, H', ⟨by have := HK1.out; have := HK2.out; omega⟩, ⟨xN HO_0.out⟩, ⟨by repeat (first | (with_reducible first | exact HK.out | apply Kept.alloc | apply Kept.drewN | apply Kept.drew) | exact HK.out)⟩, ⟨xb HB.out⟩⟩
      ·rw [if_neg c6] at H
       have c6b0 : decide (a1 < x9_2) = false := decide_eq_false c6
       clear c6
       have H' := ax H
       clear H
       try go_wp2
       replace HO_0 := ax (Kd.N_drew HO_0.out); replace HK := ax (Kept.drew HK.out); replace HB := ax (below_drew1 HB.out)
       refine start_ (n := 17) (S := fun w' => True) (ds := []) (xB 17 0) (by kernel_rfl) rfl (by kernel_rfl) trivial (fun hHeld => ?_); refine with_tabW slices_insertionSortCmpFunc_Mono__impl_ordered_1.tab4 slices_insertionSortCmpFunc_Mono__impl_ordered_1.bits4 (fun HT_ HW_ => ?_)
       generalize wr.drew = w25 at HO_0 HK HB hHeld ⊢
       refine pu (i := 0) (N := some 18) (xB 17 1) HT_.out ?_
       refine pu (i := 1) (N := some 19) (xB 17 3) HT_.out ?_
       refine pu (i := 2) (N := some 20) (xB 17 7) HT_.out ?_
       refine pu (i := 3) (N := some 21) (xB 17 15) HT_.out ?_
       refine pn (i := 4) (N := some 22) (xB 17 31) HT_.out ?_
       refine pn (i := 5) (N := some 23) (xB 17 63) HT_.out ?_
       refine pn (i := 6) (N := some 24) (xB 17 127) HT_.out ?_
       refine pn (i := 7) (N := some 25) (xB 17 255) HT_.out ?_
       refine pn (i := 8) (N := some 26) (xB 17 511) HT_.out ?_
       refine pn (i := 9) (N := some 27) (xB 17 1023) HT_.out ?_
       refine pn (i := 10) (N := some 28) (xB 17 2047) HT_.out ?_
       refine pn (i := 11) (N := some 29) (xB 17 4095) HT_.out ?_
       refine pn (i := 12) (N := some 30) (xB 17 8191) HT_.out ?_
       refine pn (i := 13) (N := some 31) (xB 17 16383) HT_.out ?_
       refine pn (i := 14) (N := some 32) (xB 17 32767) HT_.out ?_
       refine pn (i := 15) (N := some 33) (xB 17 65535) HT_.out ?_
       refine pu (i := 16) (N := some 34) (xB 17 131071) HT_.out ?_
       refine done_ (done_of HT_.out (by kernel_rfl)) ?_
       try go_wp2
       go_roundg k2
       case measure => have := HK1.out; have := HK2.out; omega
       case rel => exact ⟨(x0_2), (wrap64 (x8_1 + 1)), xr, H', ⟨by have := HK1.out; have := HK2.out; omega⟩, ⟨xN HO_0.out⟩, ⟨by repeat (first | (with_reducible first | exact HK.out | apply Kept.alloc | apply Kept.drewN | apply Kept.drew) | exact HK.out)⟩, ⟨xb HB.out⟩⟩
   ·rw [if_neg c5] at H
    have c5b0 := decide_eq_false c5
    clear c5
    obtain rfl := Option.some.inj H
    go_wp2
    first | go_end0 | ((try simp only [Exit.inBlock, Exit.then]); refine bodyPost_ret (results_none rfl _ _ _) rfl ?_)
    exact ⟨xe, xN HO_0.out, xb HB.out, by repeat (first | (with_reducible first | exact HK.out | apply Kept.alloc | apply Kept.drewN | apply Kept.drew) | exact HK.out)⟩

end Go.Proofs.Ytneipehcmmigeaa.PFnExactCountTableaux
