import Derived.Test.YtopmggldaicpaacGreatPFnKroneckerx5
namespace Go.Proofs.YtopmggldaicpaacGreat.PFnKronecker
open Go.RowKit Go.Proofs.YtopmggldaicpaacGreatW.PrintWords Go.Proofs.YtopmggldaicpaacGreatW.PrintLast Go.Proofs.YtopmggldaicpaacGreatW.PrintMore
set_option linter.unusedVariables false
set_option linter.unusedSimpArgs false
set_option maxHeartbeats 8000000
set_option maxRecDepth 100000
/-! ### slices_insertionSortOrdered_int: function 70 -/
mutual
def slices_insertionSortOrdered_int.l0 : Nat → List Int → Int → Int → Int → Option (List Int)
 | 0, _, _, _, _ => none
 | k + 1, x0, x1, x2, x6 => if x6 < x2 then (slices_insertionSortOrdered_int.l1 k x0 x1 x2 x6 x6) else (some x0)
def slices_insertionSortOrdered_int.l1 : Nat → List Int → Int → Int → Int → Int → Option (List Int)
 | 0, _, _, _, _, _ => none
 | k + 1, x0, x1, x2, x6, x7 => if x7 > x1 then (if 0 ≤ x7 then (if x7 < (x0.length : Int) then (if 0 ≤ (wrap64 (x7 - 1)) then (if (wrap64 (x7 - 1)) < (x0.length : Int) then ((cmp_Less_int.f (rd x0 x7) (rd x0 (wrap64 (x7 - 1)))).bind fun t291 => (if t291 = true then (slices_insertionSortOrdered_int.l1 k ((x0.set (x7 : Int).toNat (rd x0 (wrap64 (x7 - 1)))).set ((wrap64 (x7 - 1)) : Int).toNat (rd x0 x7)) x1 x2 x6 (wrap64 (x7 - 1))) else (slices_insertionSortOrdered_int.l0 k x0 x1 x2 (wrap64 (x6 + 1))))) else (none)) else (none)) else (none)) else (none)) else (slices_insertionSortOrdered_int.l0 k x0 x1 x2 (wrap64 (x6 + 1)))
end
def slices_insertionSortOrdered_int.f (k : Nat) (l0 : List Int) (a1 : Int) (a2 : Int) : Option (List Int) := slices_insertionSortOrdered_int.l0 k l0 a1 a2 (wrap64 (a1 + 1))
theorem slices_insertionSortOrdered_int.mono_l : ∀ k, (∀ y0 y1 y2 y3, LeO (slices_insertionSortOrdered_int.l0 k y0 y1 y2 y3) (slices_insertionSortOrdered_int.l0 (k + 1) y0 y1 y2 y3)) ∧ (∀ y0 y1 y2 y3 y4, LeO (slices_insertionSortOrdered_int.l1 k y0 y1 y2 y3 y4) (slices_insertionSortOrdered_int.l1 (k + 1) y0 y1 y2 y3 y4))
 | 0 => ⟨fun _ _ _ _ r h => by simp [slices_insertionSortOrdered_int.l0] at h, fun _ _ _ _ _ r h => by simp [slices_insertionSortOrdered_int.l1] at h⟩
 | k + 1 => by
  obtain ⟨ih0, ih1⟩ := slices_insertionSortOrdered_int.mono_l k
  refine ⟨?_, ?_⟩
  ·intro y0 y1 y2 y3
   unfold slices_insertionSortOrdered_int.l0
   repeat' with_reducible first | exact ih0 _ _ _ _ | exact ih1 _ _ _ _ _ | exact xl | refine LeO.ite ?_ ?_ | refine LeO.bind ?_ fun _ => ?_
  ·intro y0 y1 y2 y3 y4
   unfold slices_insertionSortOrdered_int.l1
   repeat' with_reducible first | exact ih0 _ _ _ _ | exact ih1 _ _ _ _ _ | exact xl | refine LeO.ite ?_ ?_ | refine LeO.bind ?_ fun _ => ?_
theorem slices_insertionSortOrdered_int.mono : ∀ a0 a1 a2 k, LeO (slices_insertionSortOrdered_int.f k a0 a1 a2) (slices_insertionSortOrdered_int.f (k + 1) a0 a1 a2) := by
 intro a0 a1 a2 k
 obtain ⟨ih0, ih1⟩ := slices_insertionSortOrdered_int.mono_l k
 unfold slices_insertionSortOrdered_int.f
 repeat' with_reducible first | exact ih0 _ _ _ _ | exact ih1 _ _ _ _ _ | exact xl | refine LeO.ite ?_ ?_ | refine LeO.bind ?_ fun _ => ?_
def slices_insertionSortOrdered_int.T4 : Bool × List (List Nat × List Nat) := (true, [([], []), ([], []), ([0, 1], [0, 1]), ([2], [2]), ([3], [3]), ([3], [3]), ([4, 5, 3], [3, 4, 5]), ([6, 3], [3, 6]), ([3], [3]), ([3], [3]), ([9, 3], [3, 9]), ([8, 10, 3], [3, 8, 10]), ([11, 3], [3, 11]), ([7, 12, 3, 3], [3, 7, 12]), ([3, 13], [3, 13])])
def slices_insertionSortOrdered_int.B4 : List Nat := [0, 0, 3, 7, 15, 15, 63, 127, 15, 15, 527, 1807, 3855, 8191, 16383]
theorem slices_insertionSortOrdered_int.tab4 : rtab .any (opsOf Tryz.f70 4) = slices_insertionSortOrdered_int.T4 := by kernel_rfl
theorem slices_insertionSortOrdered_int.bits4 : waitsOk slices_insertionSortOrdered_int.T4.2 slices_insertionSortOrdered_int.B4 = true := by kernel_rfl
def slices_insertionSortOrdered_int.T6 : Bool × List (List Nat × List Nat) := (true, [([], []), ([], []), ([], []), ([], []), ([3], [3]), ([], []), ([], []), ([6], [6]), ([5, 7], [5, 7]), ([8], [8]), ([], []), ([], []), ([10, 11], [10, 11]), ([12], [12]), ([0, 1, 0, 1, 5, 6, 7, 8, 9, 13], [0, 1]), ([14, 9, 0, 1, 5, 6, 7, 8, 9, 13], [9, 14]), ([2, 4, 0, 1, 2, 3, 4, 5, 6, 7, 8, 9, 10, 11, 12, 13, 14, 15], [2, 4]), ([16, 13, 15, 0, 1, 2, 3, 4, 5, 6, 7, 8, 9, 10, 11, 12, 13, 14, 15], [13, 16])])
def slices_insertionSortOrdered_int.B6 : List Nat := [0, 0, 0, 0, 8, 0, 0, 64, 224, 480, 0, 0, 3072, 7168, 16355, 32739, 65535, 131071]
theorem slices_insertionSortOrdered_int.tab6 : rtab .any (opsOf Tryz.f70 6) = slices_insertionSortOrdered_int.T6 := by kernel_rfl
theorem slices_insertionSortOrdered_int.bits6 : waitsOk slices_insertionSortOrdered_int.T6.2 slices_insertionSortOrdered_int.B6 = true := by kernel_rfl
theorem slices_insertionSortOrdered_int.calls (k : Nat) (P0_ : Nat → Prop) (u9000_ : Value) (l0 : List Int) (a1 : Int) (a2 : Int) (r : List Int) (w0 w : World) (hB : Below w0.heap.size w0 w) (ho0 : Kd.R (Kd.int .i64) 3 w w0.heap.size P0_ u9000_ l0) (h : slices_insertionSortOrdered_int.f k l0 a1 a2 = some r) :
  Calls Tryz.prog 70 #[u9000_, .int .i64 a1, .int .i64 a2] w fun e w' => e = .returned (.tuple #[]) ∧ Kd.R (Kd.int .i64) 3 w' w0.heap.size (fun k_ => (P0_ k_ ∨ w.heap.size ≤ k_)) u9000_ r ∧ Below w0.heap.size w0 w' ∧ Kept w w' (fun k_ => P0_ k_) := by
 have HO0 := ax (show Kd.R (Kd.int .i64) 3 w w0.heap.size (fun k_ => (P0_ k_ ∨ w.heap.size ≤ k_)) u9000_ l0 from Kd.R_mono ho0 (fun k_ hk => (.inl hk)))
 have HK := ax (Kept.refl w (fun k_ => P0_ k_))
 have HW0 := ax hB.size
 have HB := ax hB
 clear hB
 have H : (slices_insertionSortOrdered_int.l0 k l0 a1 a2 (wrap64 (a1 + 1))) = some r := h
 clear h
 have H' := ax H
 clear H
 go_enter Tryz.func70, Tryz.ntmps70
 go_wp2
 go_loopg [6] k (fun kq v6 w' => ∃ (x0_1 : List Int) (x6_1 : Int), v6 = .int .i64 x6_1 ∧ Aside0 (slices_insertionSortOrdered_int.l0 kq x0_1 a1 a2 x6_1 = some r) ∧ Aside0 (kq ≤ k) ∧ Aside0 (Kd.R (Kd.int .i64) 3 w' w0.heap.size (fun k_ => (P0_ k_ ∨ w.heap.size ≤ k_)) u9000_ x0_1) ∧ Aside0 (Kept w w' (fun k_ => P0_ k_)) ∧ Aside0 (Below w0.heap.size w0 w'))
 case atStart => exact ⟨(l0), (wrap64 (a1 + 1)), xr, H', ⟨Nat.le_refl _⟩, ⟨xR HO0.out⟩, ⟨by repeat (first | (with_reducible first | exact HK.out | apply Kept.alloc | apply Kept.drewN | apply Kept.drew) | exact HK.out)⟩, ⟨xb HB.out⟩⟩
 case round =>
  clear H'
  obtain ⟨x0_1, x6_1, rfl, HA, HK1, HO_0, HK, HB⟩ := hrel
  cases gk with
  | zero => exact absurd HA.out (by simp [slices_insertionSortOrdered_int.l0])
  | succ k1 =>
   have H := HA.out
   clear HA
   simp only [slices_insertionSortOrdered_int.l0] at H
   by_cases c4 : x6_1 < a2
   ·rw [if_pos c4] at H
    have c4b0 := decide_eq_true c4
    clear c4
    have H' := ax H
    clear H
    go_wp2
    go_loopg [7] k1 (fun kq v7 w' => ∃ (x0_2 : List Int) (x7_2 : Int), v7 = .int .i64 x7_2 ∧ Aside0 (slices_insertionSortOrdered_int.l1 kq x0_2 a1 a2 x6_1 x7_2 = some r) ∧ Aside0 (kq ≤ k1) ∧ Aside0 (Kd.R (Kd.int .i64) 3 w' w0.heap.size (fun k_ => (P0_ k_ ∨ w.heap.size ≤ k_)) u9000_ x0_2) ∧ Aside0 (Kept w w' (fun k_ => P0_ k_)) ∧ Aside0 (Below w0.heap.size w0 w'))
    case atStart => exact ⟨(x0_1), (x6_1), xr, H', ⟨Nat.le_refl _⟩, ⟨xR HO_0.out⟩, ⟨by repeat (first | (with_reducible first | exact HK.out | apply Kept.alloc | apply Kept.drewN | apply Kept.drew) | exact HK.out)⟩, ⟨xb HB.out⟩⟩
    case round =>
     clear H'
     (try clear c4); (try clear c4b0)
     obtain ⟨x0_2, x7_2, rfl, HA, HK2, HO_0, HK, HB⟩ := hrel
     cases gk with
     | zero => exact absurd HA.out (by simp [slices_insertionSortOrdered_int.l1])
     | succ k2 =>
      have H := HA.out
      clear HA
      simp only [slices_insertionSortOrdered_int.l1] at H
      by_cases c5 : x7_2 > a1
      ·rw [if_pos c5] at H
       have c5b0 : decide (a1 < x7_2) = true := decide_eq_true c5
       clear c5
       obtain ⟨c6b0, H⟩ := xq H
       obtain ⟨c7b0, H⟩ := xq H
       obtain ⟨ji8, hji8⟩ : ∃ j_ : Int, (wrap64 (x7_2 - 1)) = j_ := ⟨_, rfl⟩
       replace H : (if 0 ≤ (ji8) then (if (ji8) < (x0_2.length : Int) then ((cmp_Less_int.f (rd x0_2 x7_2) (rd x0_2 (ji8))).bind fun t291 => (if t291 = true then (slices_insertionSortOrdered_int.l1 k2 ((x0_2.set (x7_2 : Int).toNat (rd x0_2 (ji8))).set ((ji8) : Int).toNat (rd x0_2 x7_2)) a1 a2 x6_1 ji8) else (slices_insertionSortOrdered_int.l0 k2 x0_2 a1 a2 (wrap64 (x6_1 + 1))))) else (none)) else (none)) = some r := by first | (rw [hji8] at H; exact H) | (simp only [hji8] at H ⊢; exact H)
       have hji8w : (IntKind.i64.wrap (x7_2 - 1)) = ji8 := (i64_w _).trans hji8
       obtain ⟨c9b0, H⟩ := xq H
       obtain ⟨c10b0, H⟩ := xq H
       obtain ⟨t291, A11, H⟩ := xI H
       by_cases c12 : t291 = true
       ·subst c12
        rw [if_pos rfl] at H
        obtain ⟨y294, hy294⟩ : ∃ y_ : List Int, y_ = (x0_2.set (x7_2 : Int).toNat (rd x0_2 (ji8))) := ⟨_, rfl⟩
        replace H : (slices_insertionSortOrdered_int.l1 k2 (y294.set ((ji8) : Int).toNat (rd x0_2 x7_2)) a1 a2 x6_1 ji8) = some r := xv hy294 H
        have Ny294 := ax hy294
        clear hy294
        obtain ⟨y295, hy295⟩ : ∃ y_ : List Int, y_ = (y294.set ((ji8) : Int).toNat (rd x0_2 x7_2)) := ⟨_, rfl⟩
        replace H : (slices_insertionSortOrdered_int.l1 k2 y295 a1 a2 x6_1 ji8) = some r := xv hy295 H
        have Ny295 := ax hy295
        clear hy295
        have H' := ax H
        clear H
        try go_wp2
        replace HO_0 := ax (Kd.R_drew HO_0.out); replace HK := ax (Kept.drew HK.out); replace HB := ax (below_drew1 HB.out)
        obtain ⟨Ao16, co16, eo16⟩ := Kd.R_slice HO_0.out
        (first | subst eo16 | (injection eo16 with f1_ f2_ f3_; have f4_ := f1_.symm; have f5_ := f3_.symm; clear f1_ f2_ f3_; subst f4_; subst f5_))
        have p289 : 0 ≤ (x7_2 : Int) := xd
        have q289 : x7_2 < (x0_2.length : Int) := xd
        obtain ⟨ad289, e289, hx289_0⟩ := Kd.at_int (Kd.R_reads' HO_0.out).2.2 x7_2 p289 q289
        cases e289
        replace p289 := eq_true p289
        replace q289 := eq_true q289
        have p290 : 0 ≤ ((ji8) : Int) := xd
        have q290 : (ji8) < (x0_2.length : Int) := xd
        obtain ⟨ad290, e290, hx290_0⟩ := Kd.at_int (Kd.R_reads' HO_0.out).2.2 (ji8) p290 q290
        obtain rfl : ad289 = ad290 := (by injection e290)
        replace p290 := eq_true p290
        replace q290 := eq_true q290
        refine start_ (n := 15) (S := fun w' => w'.cell? (ad289.add (x7_2).toNat) = some (.int .i64 (rd x0_2 x7_2)) ∧ w'.cell? (ad289.add ((ji8)).toNat) = some (.int .i64 (rd x0_2 (ji8)))) (ds := []) (xB 15 0) (by kernel_rfl) rfl (by kernel_rfl) ⟨hx289_0, hx290_0⟩ (fun hHeld => ?_); refine with_tabW slices_insertionSortOrdered_int.tab4 slices_insertionSortOrdered_int.bits4 (fun HT_ HW_ => ?_)
        generalize wr.drew = w15 at HO_0 HK HB hx289_0 hx290_0 hHeld ⊢
        refine pu (i := 0) (N := some 16) (xB 15 1) HT_.out ?_
        refine pu (i := 1) (N := some 17) (xB 15 3) HT_.out ?_
        refine pu (i := 2) (N := some 18) (xB 15 7) HT_.out ?_
        refine pu (i := 3) (N := some 19) (xB 15 15) HT_.out ?_
        refine pu (i := 4) (N := some 20) (xB 15 31) HT_.out ?_
        refine pu (i := 5) (N := some 21) (xB 15 63) HT_.out ?_
        refine pu (i := 6) (N := some 22) (xB 15 127) HT_.out ?_
        refine pu (i := 8) (N := some 24) (xB 15 383) HT_.out ?_
        refine pu (i := 9) (N := some 25) (xB 15 895) HT_.out ?_
        refine pu (i := 10) (N := some 26) (xB 15 1919) HT_.out ?_
        refine pu (i := 11) (N := some 27) (xB 15 3967) HT_.out ?_
        refine tk (i := 7) (N := some 23) (xB 15 4095) HT_.out HW_.out hHeld ?_
        refine tk (i := 12) (N := some 28) (xB 15 8191) HT_.out HW_.out hHeld ?_
        refine one_ (i := 13) (N := some 29) (xB 15 16383) rfl rfl (one_of HT_.out (by kernel_rfl)) (by decide) (fun K hK => ?_)
        refine goes_ Tryz.func76 (by kernel_rfl) rfl #[.int .i64 (rd x0_2 x7_2), .int .i64 (rd x0_2 (ji8))] (by rfl) rfl rfl (by (try simp only [List.map_toArray, List.map_cons, List.map_nil]); first | done | (simp only [hji8]; rfl) | rfl | (simp only [List.length_drop, List.length_take]; rfl)) ?_
        with_reducible refine (cmp_Less_int.calls (rd x0_2 x7_2) (rd x0_2 (ji8)) true _ A11.out).mono ?_
        rintro e w' ⟨rfl, ⟨nd, rfl⟩⟩
        refine ⟨_, rfl, ?_⟩
        refine hK.out _ _ ⟨hHeld.1, hHeld.2⟩ (fun hHeld => ?_)
        clear hK K
        refine nm ?_
        refine pu (i := 14) (N := some 30) (xB 15 32767) HT_.out ?_
        refine done_ (done_of HT_.out (by kernel_rfl)) ?_
        try go_wp2
        (try (rw [drewN_self w15]; generalize hq_ : World.drewN w15 _ = w15; have n0_ : Aside0 (Kd.R (Kd.int .i64) 3 w15 w0.heap.size (fun k_ => (P0_ k_ ∨ w.heap.size ≤ k_)) (.slice (some ad289) x0_2.length co16) x0_2) := ⟨by rw [← hq_]; exact (xR HO_0.out)⟩; have n1_ : Aside0 (Kept w w15 (fun k_ => P0_ k_)) := ⟨by rw [← hq_]; exact (by repeat (first | (with_reducible first | exact HK.out | apply Kept.alloc | apply Kept.drewN | apply Kept.drew) | exact HK.out))⟩; have n2_ : Aside0 (Below w0.heap.size w0 w15) := ⟨by rw [← hq_]; exact (xb HB.out)⟩; clear HO_0 HK HB hq_; have HO_0 := n0_; have HK := n1_; have HB := n2_; clear n0_ n1_ n2_))
        replace HO_0 := ax (Kd.R_drew HO_0.out); replace HK := ax (Kept.drew HK.out); replace HB := ax (below_drew1 HB.out)
        have p292 : 0 ≤ ((ji8) : Int) := xd
        have q292 : (ji8) < (x0_2.length : Int) := xd
        obtain ⟨ad292, e292, hx292_0⟩ := Kd.at_int (Kd.R_reads' HO_0.out).2.2 (ji8) p292 q292
        obtain rfl : ad289 = ad292 := (by injection e292)
        replace p292 := eq_true p292
        replace q292 := eq_true q292
        have p293 : 0 ≤ (x7_2 : Int) := xd
        have q293 : x7_2 < (x0_2.length : Int) := xd
        obtain ⟨ad293, e293, hx293_0⟩ := Kd.at_int (Kd.R_reads' HO_0.out).2.2 x7_2 p293 q293
        obtain rfl : ad289 = ad293 := (by injection e293)
        replace p293 := eq_true p293
        replace q293 := eq_true q293
        have p13 : 0 ≤ (x7_2 : Int) := xd
        have q13 : (x7_2 : Int) < ((x0_2.length : Int) : Int) := xd
        obtain ⟨go13, co13, eo13, gb13, gl13, cl13, HG13⟩ := Kd.R_form HO_0.out (by omega)
        (first | cases eo13 | (injection eo13 with ea_ en_ ec_; (first | subst ea_ | (injection ea_ with ea_; subst ea_)); subst ec_; clear en_))
        have GB13 := ax gb13
        have GG13 := ax HG13
        clear gb13 gl13 HG13
        have HMgo13 := ax (show (P0_ go13 ∨ w.heap.size ≤ go13) from (HO_0.out.1 _ rfl))
        (first | simp only [add_plain] at hx289_0 | skip)
        (first | simp only [add_plain] at hx290_0 | skip)
        (first | simp only [add_plain] at hx292_0 | skip)
        (first | simp only [add_plain] at hx293_0 | skip)
        obtain ⟨hx13_0, hf13_0⟩ := Kd.R_celln 0 HO_0.out (x7_2 : Int) p13 q13
        replace p13 := eq_true p13
        replace q13 := eq_true q13
        have HP18 := Kd.R_putn HO_0.out (x7_2 : Int) (rd x0_2 (ji8))
        rw [← Ny294.out] at HP18
        have HQ18 := ax HP18
        clear HP18
        have p14 : 0 ≤ ((ji8) : Int) := xd
        have q14 : ((ji8) : Int) < ((x0_2.length : Int) : Int) := xd
        obtain ⟨hx14_0, hf14_0⟩ := Kd.R_celln 0 HQ18.out ((ji8) : Int) p14 q14
        replace p14 := eq_true p14
        replace q14 := eq_true q14
        have HP19 := Kd.R_putn HQ18.out ((ji8) : Int) (rd x0_2 x7_2)
        rw [← Ny295.out] at HP19
        have HQ19 := ax HP19
        clear HP19
        refine start_ (n := 18) (S := fun w' => w'.cell? ⟨go13, ((ji8)).toNat, none⟩ = some (.int .i64 (rd x0_2 (ji8))) ∧ w'.cell? ⟨go13, (x7_2).toNat, none⟩ = some (.int .i64 (rd x0_2 x7_2))) (ds := [15, 17]) (xB 18 0) (by kernel_rfl) rfl (by kernel_rfl) ⟨hx292_0, hx293_0⟩ (fun hHeld => ?_); refine with_tabW slices_insertionSortOrdered_int.tab6 slices_insertionSortOrdered_int.bits6 (fun HT_ HW_ => ?_)
        generalize w15.drew = w17 at HO_0 HK HB GG13 HQ18 HQ19 hf13_0 hf14_0 hx13_0 hx14_0 hx289_0 hx290_0 hx292_0 hx293_0 hHeld ⊢
        refine pu (i := 0) (N := some 33) (xB 18 1) HT_.out ?_
        refine pu (i := 1) (N := some 34) (xB 18 3) HT_.out ?_
        refine pu (i := 2) (N := some 35) (xB 18 7) HT_.out ?_
        refine pu (i := 3) (N := some 36) (xB 18 15) HT_.out ?_
        refine pu (i := 4) (N := some 37) (xB 18 31) HT_.out ?_
        refine pu (i := 5) (N := some 38) (xB 18 63) HT_.out ?_
        refine pu (i := 6) (N := some 39) (xB 18 127) HT_.out ?_
        refine pu (i := 7) (N := some 40) (xB 18 255) HT_.out ?_
        refine pu (i := 8) (N := some 41) (xB 18 511) HT_.out ?_
        refine pu (i := 10) (N := some 43) (xB 18 1535) HT_.out ?_
        refine pu (i := 11) (N := some 44) (xB 18 3583) HT_.out ?_
        refine pu (i := 12) (N := some 45) (xB 18 7679) HT_.out ?_
        refine tk (i := 9) (N := some 42) (xB 18 8191) HT_.out HW_.out hHeld ?_
        refine tk (i := 13) (N := some 46) (xB 18 16383) HT_.out HW_.out hHeld ?_
        refine pu (i := 14) (N := some 47) (xB 18 32767) HT_.out ?_
        refine last_ (i := 15) (N := none) (xB 18 65535) rfl rfl (one_of HT_.out (by kernel_rfl)) (by decide) (fun K hK => ?_)
        refine skip_ (w1 := ?_) (by rfl) rfl ?_ ?_
        rotate_left
        ·go_simp
         rfl
        refine hK.out _ _ ?_
        clear hK K
        refine pu (i := 16) (N := some 48) (xB 18 131071) HT_.out ?_
        refine last_ (i := 17) (N := none) (xB 18 262143) rfl rfl (one_of HT_.out (by kernel_rfl)) (by decide) (fun K hK => ?_)
        refine skip_ (w1 := ?_) (by rfl) rfl ?_ ?_
        rotate_left
        ·go_simp
         rfl
        refine hK.out _ _ ?_
        clear hK K
        refine done_ (done_of HT_.out (by kernel_rfl)) ?_
        try go_wp2
        go_roundg k2
        case measure => have := HK1.out; have := HK2.out; omega
        case rel => exact ⟨(y295), (ji8), (by first | rfl | (simp; done) | (simp only [← hji8] <;> (first | rfl | simp)) | (simp [*]; done)), H', ⟨by have := HK1.out; have := HK2.out; omega⟩, ⟨by (with_reducible repeat (first | apply Kd.R_alloc | apply Kd.R_drewN | apply Kd.R_drew)); exact HQ19.out⟩, ⟨by repeat (first | (with_reducible first | exact HK.out | apply Kept.alloc | apply Kept.drewN | apply Kept.drew | refine Kept.setCell ?_ HMgo13.out _ | refine Kept.setCell ?_ HMgo13.out _) | exact HK.out)⟩, ⟨by repeat (first | (with_reducible first | exact HB.out | apply below_alloc | apply pw_below_drewN | apply below_drew1 | refine below_set ?_ GB13.out | refine below_set ?_ GB13.out) | exact HB.out)⟩⟩
       ·replace c12 := Bool.eq_false_iff.mpr c12
        subst c12
        rw [if_neg (show ¬ (false = true) by decide)] at H
        have H' := ax H
        clear H
        try go_wp2
        replace HO_0 := ax (Kd.R_drew HO_0.out); replace HK := ax (Kept.drew HK.out); replace HB := ax (below_drew1 HB.out)
        obtain ⟨Ao21, co21, eo21⟩ := Kd.R_slice HO_0.out
        (first | subst eo21 | (injection eo21 with f1_ f2_ f3_; have f4_ := f1_.symm; have f5_ := f3_.symm; clear f1_ f2_ f3_; subst f4_; subst f5_))
        have p289 : 0 ≤ (x7_2 : Int) := xd
        have q289 : x7_2 < (x0_2.length : Int) := xd
        obtain ⟨ad289, e289, hx289_0⟩ := Kd.at_int (Kd.R_reads' HO_0.out).2.2 x7_2 p289 q289
        cases e289
        replace p289 := eq_true p289
        replace q289 := eq_true q289
        have p290 : 0 ≤ ((ji8) : Int) := xd
        have q290 : (ji8) < (x0_2.length : Int) := xd
        obtain ⟨ad290, e290, hx290_0⟩ := Kd.at_int (Kd.R_reads' HO_0.out).2.2 (ji8) p290 q290
        obtain rfl : ad289 = ad290 := (by injection e290)
        replace p290 := eq_true p290
        replace q290 := eq_true q290
        refine start_ (n := 15) (S := fun w' => w'.cell? (ad289.add (x7_2).toNat) = some (.int .i64 (rd x0_2 x7_2)) ∧ w'.cell? (ad289.add ((ji8)).toNat) = some (.int .i64 (rd x0_2 (ji8)))) (ds := []) (xB 15 0) (by kernel_rfl) rfl (by kernel_rfl) ⟨hx289_0, hx290_0⟩ (fun hHeld => ?_); refine with_tabW slices_insertionSortOrdered_int.tab4 slices_insertionSortOrdered_int.bits4 (fun HT_ HW_ => ?_)
        generalize wr.drew = w20 at HO_0 HK HB hx289_0 hx290_0 hHeld ⊢
        refine pu (i := 0) (N := some 16) (xB 15 1) HT_.out ?_
        refine pu (i := 1) (N := some 17) (xB 15 3) HT_.out ?_
        refine pu (i := 2) (N := some 18) (xB 15 7) HT_.out ?_
        refine pu (i := 3) (N := some 19) (xB 15 15) HT_.out ?_
        refine pu (i := 4) (N := some 20) (xB 15 31) HT_.out ?_
        refine pu (i := 5) (N := some 21) (xB 15 63) HT_.out ?_
        refine pu (i := 6) (N := some 22) (xB 15 127) HT_.out ?_
        refine pu (i := 8) (N := some 24) (xB 15 383) HT_.out ?_
        refine pu (i := 9) (N := some 25) (xB 15 895) HT_.out ?_
        refine pu (i := 10) (N := some 26) (xB 15 1919) HT_.out ?_
        refine pu (i := 11) (N := some 27) (xB 15 3967) HT_.out ?_
        refine tk (i := 7) (N := some 23) (xB 15 4095) HT_.out HW_.out hHeld ?_
        refine tk (i := 12) (N := some 28) (xB 15 8191) HT_.out HW_.out hHeld ?_
        refine one_ (i := 13) (N := some 29) (xB 15 16383) rfl rfl (one_of HT_.out (by kernel_rfl)) (by decide) (fun K hK => ?_)
        refine goes_ Tryz.func76 (by kernel_rfl) rfl #[.int .i64 (rd x0_2 x7_2), .int .i64 (rd x0_2 (ji8))] (by rfl) rfl rfl (by (try simp only [List.map_toArray, List.map_cons, List.map_nil]); first | done | (simp only [hji8]; rfl) | rfl | (simp only [List.length_drop, List.length_take]; rfl)) ?_
        with_reducible refine (cmp_Less_int.calls (rd x0_2 x7_2) (rd x0_2 (ji8)) false _ A11.out).mono ?_
        rintro e w' ⟨rfl, ⟨nd, rfl⟩⟩
        refine ⟨_, rfl, ?_⟩
        refine hK.out _ _ ⟨hHeld.1, hHeld.2⟩ (fun hHeld => ?_)
        clear hK K
        refine nm ?_
        refine pu (i := 14) (N := some 30) (xB 15 32767) HT_.out ?_
        refine done_ (done_of HT_.out (by kernel_rfl)) ?_
        try go_wp2
        go_roundg k2
        case measure => have := HK1.out; have := HK2.out; omega
        case rel => exact ⟨(x0_2), (wrap64 (x6_1 + 1)), xr, H', ⟨by have := HK1.out; have := HK2.out; omega⟩, ⟨xR HO_0.out⟩, ⟨by repeat (first | (with_reducible first | exact HK.out | apply Kept.alloc | apply Kept.drewN | apply Kept.drew) | exact HK.out)⟩, ⟨xb HB.out⟩⟩
      ·rw [if_neg c5] at H
       have c5b0 : decide (a1 < x7_2) = false := decide_eq_false c5
       clear c5
       have H' := ax H
       clear H
       try go_wp2
       replace HO_0 := ax (Kd.R_drew HO_0.out); replace HK := ax (Kept.drew HK.out); replace HB := ax (below_drew1 HB.out)
       refine start_ (n := 15) (S := fun w' => True) (ds := []) (xB 15 0) (by kernel_rfl) rfl (by kernel_rfl) trivial (fun hHeld => ?_); refine with_tabW slices_insertionSortOrdered_int.tab4 slices_insertionSortOrdered_int.bits4 (fun HT_ HW_ => ?_)
       generalize wr.drew = w22 at HO_0 HK HB hHeld ⊢
       refine pu (i := 0) (N := some 16) (xB 15 1) HT_.out ?_
       refine pu (i := 1) (N := some 17) (xB 15 3) HT_.out ?_
       refine pu (i := 2) (N := some 18) (xB 15 7) HT_.out ?_
       refine pu (i := 3) (N := some 19) (xB 15 15) HT_.out ?_
       refine pn (i := 4) (N := some 20) (xB 15 31) HT_.out ?_
       refine pn (i := 5) (N := some 21) (xB 15 63) HT_.out ?_
       refine pn (i := 6) (N := some 22) (xB 15 127) HT_.out ?_
       refine pn (i := 7) (N := some 23) (xB 15 255) HT_.out ?_
       refine pn (i := 8) (N := some 24) (xB 15 511) HT_.out ?_
       refine pn (i := 9) (N := some 25) (xB 15 1023) HT_.out ?_
       refine pn (i := 10) (N := some 26) (xB 15 2047) HT_.out ?_
       refine pn (i := 11) (N := some 27) (xB 15 4095) HT_.out ?_
       refine pn (i := 12) (N := some 28) (xB 15 8191) HT_.out ?_
       refine pn (i := 13) (N := some 29) (xB 15 16383) HT_.out ?_
       refine pu (i := 14) (N := some 30) (xB 15 32767) HT_.out ?_
       refine done_ (done_of HT_.out (by kernel_rfl)) ?_
       try go_wp2
       go_roundg k2
       case measure => have := HK1.out; have := HK2.out; omega
       case rel => exact ⟨(x0_2), (wrap64 (x6_1 + 1)), xr, H', ⟨by have := HK1.out; have := HK2.out; omega⟩, ⟨xR HO_0.out⟩, ⟨by repeat (first | (with_reducible first | exact HK.out | apply Kept.alloc | apply Kept.drewN | apply Kept.drew) | exact HK.out)⟩, ⟨xb HB.out⟩⟩
   ·rw [if_neg c4] at H
    have c4b0 := decide_eq_false c4
    clear c4
    obtain rfl := Option.some.inj H
    go_wp2
    first | go_end0 | ((try simp only [Exit.inBlock, Exit.then]); refine bodyPost_ret (results_none rfl _ _ _) rfl ?_)
    exact ⟨xe, xR HO_0.out, xb HB.out, by repeat (first | (with_reducible first | exact HK.out | apply Kept.alloc | apply Kept.drewN | apply Kept.drew) | exact HK.out)⟩

end Go.Proofs.YtopmggldaicpaacGreat.PFnKronecker
