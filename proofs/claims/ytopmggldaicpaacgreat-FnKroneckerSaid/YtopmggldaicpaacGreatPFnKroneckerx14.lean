import Derived.Test.YtopmggldaicpaacGreatPFnKroneckerx13
namespace Go.Proofs.YtopmggldaicpaacGreat.PFnKronecker
open Go.RowKit Go.Proofs.YtopmggldaicpaacGreatW.PrintWords Go.Proofs.YtopmggldaicpaacGreatW.PrintLast Go.Proofs.YtopmggldaicpaacGreatW.PrintMore
set_option linter.unusedVariables false
set_option linter.unusedSimpArgs false
set_option maxHeartbeats 8000000
set_option maxRecDepth 100000
/-! ### impl_CycleType: function 7 -/
mutual
def impl_CycleType.l0 : Nat → List Int → List Int → List Bool → Int → Int → Option (List Int)
 | 0, _, _, _, _, _ => none
 | k + 1, x0, x5, x6, x22, x23 => if x23 < x22 then (impl_CycleType.l1 k x0 x5 x6 0 x23 x22 x23) else ((slices_Sort_int_int.f k x5).bind fun t424 => ((slices_Reverse_int_int.f k t424).bind fun t425 => (some t425)))
def impl_CycleType.l1 : Nat → List Int → List Int → List Bool → Int → Int → Int → Int → Option (List Int)
 | 0, _, _, _, _, _, _, _ => none
 | k + 1, x0, x5, x6, x8, x9, x22, x23 => if 0 ≤ x9 then (if x9 < (x6.length : Int) then (if rdOf false x6 x9 = true then (if x8 > 0 then (if x5.length < 17592186044416 then (impl_CycleType.l0 k x0 (x5 ++ [x8]) x6 x22 (wrap64 (x23 + 1))) else (none)) else (impl_CycleType.l0 k x0 x5 x6 x22 (wrap64 (x23 + 1)))) else (if x9 < (x0.length : Int) then (impl_CycleType.l1 k x0 x5 (x6.set (x9 : Int).toNat true) (wrap64 (x8 + 1)) (wrap64 ((rd x0 x9) - 1)) x22 x23) else (none))) else (none)) else (none)
end
def impl_CycleType.f (k : Nat) (l0 : List Int) : Option (List Int) := (impl_InverseOf.f k l0).bind fun bt414 => (if bt414.2 = true then (if 0 ≤ (l0.length : Int) then (if ((l0.length : Int) : Int).toNat ≤ 281474976710656 then (impl_CycleType.l0 k l0 (([] : List Int)) (List.replicate ((l0.length : Int) : Int).toNat false) (l0.length : Int) 0) else (none)) else (none)) else (some ([] : List Int)))
theorem impl_CycleType.mono_l : ∀ k, (∀ y0 y1 y2 y3 y4, LeO (impl_CycleType.l0 k y0 y1 y2 y3 y4) (impl_CycleType.l0 (k + 1) y0 y1 y2 y3 y4)) ∧ (∀ y0 y1 y2 y3 y4 y5 y6, LeO (impl_CycleType.l1 k y0 y1 y2 y3 y4 y5 y6) (impl_CycleType.l1 (k + 1) y0 y1 y2 y3 y4 y5 y6))
 | 0 => ⟨fun _ _ _ _ _ r h => by simp [impl_CycleType.l0] at h, fun _ _ _ _ _ _ _ r h => by simp [impl_CycleType.l1] at h⟩
 | k + 1 => by
  obtain ⟨ih0, ih1⟩ := impl_CycleType.mono_l k
  refine ⟨?_, ?_⟩
  ·intro y0 y1 y2 y3 y4
   unfold impl_CycleType.l0
   repeat' with_reducible first | exact ih0 _ _ _ _ _ | exact ih1 _ _ _ _ _ _ _ | exact impl_InverseOf.mono _ _ | exact slices_Reverse_int_int.mono _ _ | exact slices_Sort_int_int.mono _ _ | exact xl | refine LeO.ite ?_ ?_ | refine LeO.bind ?_ fun _ => ?_
  ·intro y0 y1 y2 y3 y4 y5 y6
   unfold impl_CycleType.l1
   repeat' with_reducible first | exact ih0 _ _ _ _ _ | exact ih1 _ _ _ _ _ _ _ | exact impl_InverseOf.mono _ _ | exact slices_Reverse_int_int.mono _ _ | exact slices_Sort_int_int.mono _ _ | exact xl | refine LeO.ite ?_ ?_ | refine LeO.bind ?_ fun _ => ?_
theorem impl_CycleType.mono : ∀ a0 k, LeO (impl_CycleType.f k a0) (impl_CycleType.f (k + 1) a0) := by
 intro a0 k
 obtain ⟨ih0, ih1⟩ := impl_CycleType.mono_l k
 unfold impl_CycleType.f
 repeat' with_reducible first | exact ih0 _ _ _ _ _ | exact ih1 _ _ _ _ _ _ _ | exact impl_InverseOf.mono _ _ | exact slices_Reverse_int_int.mono _ _ | exact slices_Sort_int_int.mono _ _ | exact xl | refine LeO.ite ?_ ?_ | refine LeO.bind ?_ fun _ => ?_
theorem impl_CycleType.calls (k : Nat) (A0 : Option Addr) (c0 : Nat) (l0 : List Int) (r : List Int) (w : World) (hr0 : Kd.C (Kd.int .i64) w A0 l0.length l0) (hc0 : l0.length ≤ c0) (h : impl_CycleType.f k l0 = some r) :
  Calls Tryz.prog 7 #[.slice A0 l0.length c0] w fun e w' => ∃ v0_ : Value, e = .returned (v0_) ∧ Kd.R (Kd.int .i64) 3 w' w.heap.size (fun _ => True) v0_ r ∧ Below w.heap.size w w' := by
 have HR0 := ax hr0
 have HC0 := ax hc0
 clear hr0 hc0
 have HB := ax (Below.refl w.heap.size w)
 have H : ((impl_InverseOf.f k l0).bind fun bt414 => (if bt414.2 = true then (if 0 ≤ (l0.length : Int) then (if ((l0.length : Int) : Int).toNat ≤ 281474976710656 then (impl_CycleType.l0 k l0 (([] : List Int)) (List.replicate ((l0.length : Int) : Int).toNat false) (l0.length : Int) 0) else (none)) else (none)) else (some ([] : List Int)))) = some r := h
 clear h
 obtain ⟨⟨t414, t415⟩, A2, H⟩ := xI H
 dsimp only at H
 by_cases c3 : t415 = true
 ·subst c3
  rw [if_pos rfl] at H
  obtain ⟨y418, hy418⟩ : ∃ y_ : List Int, y_ = (([] : List Int)) := ⟨_, rfl⟩
  replace H : (if 0 ≤ (l0.length : Int) then (if ((l0.length : Int) : Int).toNat ≤ 281474976710656 then (impl_CycleType.l0 k l0 y418 (List.replicate ((l0.length : Int) : Int).toNat false) (l0.length : Int) 0) else (none)) else (none)) = some r := xv hy418 H
  have Ny418 := ax hy418
  clear hy418
  obtain ⟨c4, H⟩ := xp H
  have c4b0 := eq_true c4
  have c4b1 := decide_eq_true c4
  clear c4
  obtain ⟨c5, H⟩ := xp H
  have c5b0 := eq_true c5
  have c5b1 := decide_eq_true c5
  clear c5
  obtain ⟨y421, hy421⟩ : ∃ y_ : List Bool, y_ = (List.replicate ((l0.length : Int) : Int).toNat false) := ⟨_, rfl⟩
  replace H : (impl_CycleType.l0 k l0 y418 y421 (l0.length : Int) 0) = some r := xv hy421 H
  have Ny421 := ax hy421
  clear hy421
  have H' := ax H
  clear H
  go_enter Tryz.func7, Tryz.ntmps7
  try go_wp2_with (first | ((with_reducible refine gate_callee (f := 27) rfl ?_); refine goesL_ (some 12) rfl rfl Tryz.func27 (by kernel_rfl) rfl #[.slice A0 l0.length c0] rfl xm ?_; (with_reducible refine (impl_InverseOf.calls k _ _ l0 t414 true _ ?side1 ?side2 A2.out).mono ?_); (case side1 => exact xc HR0.out); (case side2 => exact HC0.out); rintro e w6 ⟨v416, rfl, ho0, hb⟩; refine ⟨_, rfl, ?_⟩; have HO417 := ax (Kd.R_lower ho0 (below_size (xb HB.out))); replace HB := yB HB hb; (try clear hb); (try clear ho0)))
  replace HO417 := ax (Kd.R_drew HO417.out); replace HB := ax (below_drew1 HB.out)
  refine start_ (n := 6) (S := fun w' => True) (ds := []) (xB 6 0) (by kernel_rfl) rfl (by kernel_rfl) trivial (fun hHeld => ?_)
  generalize w6.drew = w7 at HO417 HB hHeld ⊢
  refine pure_ (i := 1) (N := some 18) (v := ?_) (a' := ?_) (xB 6 2) rfl rfl (by kernel_rfl) (fun _ _ _ h => h) (Or.inl ⟨by rfl, ?_⟩) ?_ ?_
  rotate_left
  ·intro w'
   go_simp
   with_reducible rfl
  rotate_left
  ·simp only [Act.put, List.setIfInBounds_toArray, List.set_cons_zero, List.set_cons_succ, i64_w, i32_w]
   rfl
  refine pure_ (i := 2) (N := some 19) (v := ?_) (a' := ?_) (xB 6 6) rfl rfl (by kernel_rfl) (fun _ _ _ h => h) (Or.inl ⟨by rfl, ?_⟩) ?_ ?_
  rotate_left
  ·intro w'
   go_simp
   with_reducible rfl
  rotate_left
  ·simp only [Act.put, List.setIfInBounds_toArray, List.set_cons_zero, List.set_cons_succ, i64_w, i32_w]
   rfl
  refine join_ (σ := Value × Value) 1 (xB 6 31) (fun s_ => [(17, s_.1), (20, s_.2), (5, s_.1)]) (fun s_ w' => (Kd.R (Kd.int .i64) 3 w' w.heap.size (fun k_ => some k_ ≠ (s_.1 : Value).ownBlock) v416 t414) ∧ (Kd.R (Kd.int .i64) 3 w' w.heap.size (fun k_ => some k_ ≠ (v416 : Value).ownBlock) s_.1 y418) ∧ (Kd.R Kd.bool 4 w' w.heap.size (fun _ => True) s_.2 y421) ∧ (Below w.heap.size w w')) ?_ ?_
  rotate_left
  ·intro hCont
   refine two_ (i := 0) (j := 3) (Ni := some 17) (Nj := some 20) (xB 6 7) (xB 6 14) rfl rfl rfl rfl (by kernel_rfl) (by decide) (by decide) (fun K hK => ?_) (fun K hK => ?_)
   ·skip
    refine Kd.R_lit_step (Kd.int .i64) _ 3 ?hg (N := 17) ?hd (xs := ([] : List Int)) (inner := []) (ok := fun _ => True) (okp := fun _ => True) ?hr ?hp (fun _ hk => hk) trivial (Below.refl _ _) (Nat.le_refl _) (by simp) ?_; (case hd => rfl); (case hg => rfl); (case hr => first | (go_simp; done) | (go_simp; rfl)); (case hp => exact (Reps.none _ _))
    intro v419 w8 ho9 hb hg_ hnew_
    clear hg_ hnew_
    (first | rw [← Ny418.out] at ho9 | (simp only [Int.reduceToNat] at ho9; rw [← Ny418.out] at ho9))
    have HO420 := ax (Kd.R_lower (Kd.R_new' ho9 (Kd.R_lt (xR HO417.out))) (below_size (xb HB.out))); replace HO417 := ax (Kd.R_elder' (xR HO417.out) (Kd.R_base ho9) hb); replace HB := yB HB hb; clear hb ho9
    refine hK.out _ _ trivial (fun hHeld => ?_)
    clear hK K
    refine nm ?_
    refine pure_ (i := 4) (N := some 5) (v := ?_) (a' := ?_) (xB 6 23) rfl rfl (by kernel_rfl) (fun _ _ _ h => h) (Or.inl ⟨by rfl, ?_⟩) ?_ ?_
    rotate_left
    ·intro w'
     go_simp
     with_reducible rfl
    rotate_left
    ·simp only [Act.put, List.setIfInBounds_toArray, List.set_cons_zero, List.set_cons_succ, i64_w, i32_w]
     rfl
    refine one_ (i := 3) (N := some 20) (xB 6 31) rfl rfl (by kernel_rfl) (by decide) (fun K hK => ?_)
    refine Kd.R_make_step Kd.bool _ 4 (by rfl) (N := 20) rfl 44 _ _ rfl (l0.length : Int) rfl rfl Tryz.underlying44 (.bool false) 1 info4 rfl (by decide) (by omega) false (ok := fun _ => True) (okp := fun _ => True) rfl (fun _ hk => hk) trivial (xd) (Nat.le_trans (Nat.mul_le_mul_right _ (xd : (l0.length : Int).toNat ≤ 281474976710656)) (by omega)) (Below.refl _ _) (Nat.le_refl _) ?_
    intro v422 w10 ho11 hb hg_ hnew_
    clear hg_ hnew_
    (first | rw [← Ny421.out] at ho11 | (simp only [Int.reduceToNat] at ho11; rw [← Ny421.out] at ho11))
    replace HO417 := yR HO417 hb; replace HO420 := yR HO420 hb; have HO423 := ax (Kd.R_lower ho11 (below_size (xb HB.out))); replace HB := yB HB hb; clear hb ho11
    refine hK.out _ _ trivial (fun hHeld => ?_)
    clear hK K
    refine nm ?_
    exact norm_ (by simp only [putAll, Act.put, List.setIfInBounds_toArray, List.set_cons_zero, List.set_cons_succ]) (hCont (v419, v422) _ ⟨(by (with_reducible repeat (first | apply Kd.R_alloc | apply Kd.R_drewN | apply Kd.R_drew)); exact Kd.R_mono HO417.out (fun _ hk => hk.2)), (by (with_reducible repeat (first | apply Kd.R_alloc | apply Kd.R_drewN | apply Kd.R_drew)); exact Kd.R_mono HO420.out (fun _ hk => hk.2)), (xR HO423.out), (xb HB.out)⟩)
   ·skip
    refine Kd.R_make_step Kd.bool _ 4 (by rfl) (N := 20) rfl 44 _ _ rfl (l0.length : Int) rfl rfl Tryz.underlying44 (.bool false) 1 info4 rfl (by decide) (by omega) false (ok := fun _ => True) (okp := fun _ => True) rfl (fun _ hk => hk) trivial (xd) (Nat.le_trans (Nat.mul_le_mul_right _ (xd : (l0.length : Int).toNat ≤ 281474976710656)) (by omega)) (Below.refl _ _) (Nat.le_refl _) ?_
    intro v422 w8 ho9 hb hg_ hnew_
    clear hg_ hnew_
    (first | rw [← Ny421.out] at ho9 | (simp only [Int.reduceToNat] at ho9; rw [← Ny421.out] at ho9))
    replace HO417 := yR HO417 hb; have HO423 := ax (Kd.R_lower ho9 (below_size (xb HB.out))); replace HB := yB HB hb; clear hb ho9
    refine hK.out _ _ trivial (fun hHeld => ?_)
    clear hK K
    refine nm ?_
    refine one_ (i := 0) (N := some 17) (xB 6 15) rfl rfl (by kernel_rfl) (by decide) (fun K hK => ?_)
    refine Kd.R_lit_step (Kd.int .i64) _ 3 ?hg (N := 17) ?hd (xs := ([] : List Int)) (inner := []) (ok := fun _ => True) (okp := fun _ => True) ?hr ?hp (fun _ hk => hk) trivial (Below.refl _ _) (Nat.le_refl _) (by simp) ?_; (case hd => rfl); (case hg => rfl); (case hr => first | (go_simp; done) | (go_simp; rfl)); (case hp => exact (Reps.none _ _))
    intro v419 w10 ho11 hb hg_ hnew_
    clear hg_ hnew_
    (first | rw [← Ny418.out] at ho11 | (simp only [Int.reduceToNat] at ho11; rw [← Ny418.out] at ho11))
    replace HO423 := yR HO423 hb; have HO420 := ax (Kd.R_lower (Kd.R_new' ho11 (Kd.R_lt (xR HO417.out))) (below_size (xb HB.out))); replace HO417 := ax (Kd.R_elder' (xR HO417.out) (Kd.R_base ho11) hb); replace HB := yB HB hb; clear hb ho11
    refine hK.out _ _ trivial (fun hHeld => ?_)
    clear hK K
    refine nm ?_
    refine pure_ (i := 4) (N := some 5) (v := ?_) (a' := ?_) (xB 6 31) rfl rfl (by kernel_rfl) (fun _ _ _ h => h) (Or.inl ⟨by rfl, ?_⟩) ?_ ?_
    rotate_left
    ·intro w'
     go_simp
     with_reducible rfl
    rotate_left
    ·simp only [Act.put, List.setIfInBounds_toArray, List.set_cons_zero, List.set_cons_succ, i64_w, i32_w]
     rfl
    exact norm_ (by simp only [putAll, Act.put, List.setIfInBounds_toArray, List.set_cons_zero, List.set_cons_succ]) (hCont (v419, v422) _ ⟨(by (with_reducible repeat (first | apply Kd.R_alloc | apply Kd.R_drewN | apply Kd.R_drew)); exact Kd.R_mono HO417.out (fun _ hk => hk.2)), (by (with_reducible repeat (first | apply Kd.R_alloc | apply Kd.R_drewN | apply Kd.R_drew)); exact Kd.R_mono HO420.out (fun _ hk => hk.2)), (xR HO423.out), (xb HB.out)⟩)
  rintro ⟨v419, v422⟩ w12 ⟨h0_, h1_, h2_, h3_⟩
  have n0_ : Aside0 (Kd.R (Kd.int .i64) 3 w12 w.heap.size (fun k_ => some k_ ≠ (v419 : Value).ownBlock) v416 t414) := ⟨h0_⟩
  have n1_ : Aside0 (Kd.R (Kd.int .i64) 3 w12 w.heap.size (fun k_ => some k_ ≠ (v416 : Value).ownBlock) v419 y418) := ⟨h1_⟩
  have n2_ : Aside0 (Kd.R Kd.bool 4 w12 w.heap.size (fun _ => True) v422 y421) := ⟨h2_⟩
  have n3_ : Aside0 (Below w.heap.size w w12) := ⟨h3_⟩
  clear HO417 HB h0_ h1_ h2_ h3_
  have HO417 := n0_
  have HO420 := n1_
  have HO423 := n2_
  have HB := n3_
  clear n0_ n1_ n2_ n3_
  have hHeld := trivial
  refine norm_ (a' := ?_) ?_ ?_
  rotate_left
  ·simp only [putAll, Act.put, List.setIfInBounds_toArray, List.set_cons_zero, List.set_cons_succ]
   rfl
  refine pure_ (i := 5) (N := some 6) (v := ?_) (a' := ?_) (xB 6 63) rfl rfl (by kernel_rfl) (fun _ _ _ h => h) (Or.inl ⟨by rfl, ?_⟩) ?_ ?_
  rotate_left
  ·intro w'
   go_simp
   with_reducible rfl
  rotate_left
  ·simp only [Act.put, List.setIfInBounds_toArray, List.set_cons_zero, List.set_cons_succ, i64_w, i32_w]
   rfl
  refine done_ (by kernel_rfl) ?_
  try go_wp2
  go_loopg [5, 23] k (fun kq v5 v23 w' => ∃ (x5_1 : List Int) (x6_1 : List Bool) (x23_1 : Int), v23 = .int .i64 x23_1 ∧ Aside0 (impl_CycleType.l0 kq l0 x5_1 x6_1 (l0.length : Int) x23_1 = some r) ∧ Aside0 (kq ≤ k) ∧ Aside0 (Kd.R (Kd.int .i64) 3 w' w.heap.size (fun _ => True) v5 x5_1) ∧ Aside0 (Kd.R Kd.bool 4 w' w.heap.size (fun _ => True) v422 x6_1) ∧ Aside0 (Below w.heap.size w w'))
  case atStart => exact ⟨(y418), (y421), (0), xr, H', ⟨Nat.le_refl _⟩, ⟨by (with_reducible repeat (first | apply Kd.R_alloc | apply Kd.R_drewN | apply Kd.R_drew)); exact Kd.R_mono HO420.out (fun _ hk => trivial)⟩, ⟨xR HO423.out⟩, ⟨xb HB.out⟩⟩
  case round =>
   clear H'
   (try clear c3); (try clear c4); (try clear c4b0); (try clear c4b1); (try clear c5); (try clear c5b0); (try clear c5b1)
   obtain ⟨x5_1, x6_1, x23_1, rfl, HA, HK1, HO_5, HO_6, HB⟩ := hrel
   cases gk with
   | zero => exact absurd HA.out (by simp [impl_CycleType.l0])
   | succ k1 =>
    have H := HA.out
    clear HA
    simp only [impl_CycleType.l0] at H
    by_cases c13 : x23_1 < (l0.length : Int)
    ·rw [if_pos c13] at H
     have c13b0 := decide_eq_true c13
     clear c13
     have H' := ax H
     clear H
     go_wp2
     go_loopg [8, 9] k1 (fun kq v8 v9 w' => ∃ (x6_2 : List Bool) (x8_2 : Int) (x9_2 : Int), v8 = .int .i64 x8_2 ∧ v9 = .int .i64 x9_2 ∧ Aside0 (impl_CycleType.l1 kq l0 x5_1 x6_2 x8_2 x9_2 (l0.length : Int) x23_1 = some r) ∧ Aside0 (kq ≤ k1) ∧ Aside0 (Kd.R (Kd.int .i64) 3 w' w.heap.size (fun _ => True) u5 x5_1) ∧ Aside0 (Kd.R Kd.bool 4 w' w.heap.size (fun _ => True) v422 x6_2) ∧ Aside0 (Below w.heap.size w w'))
     case atStart => exact ⟨(x6_1), (0), (x23_1), xr, xr, H', ⟨Nat.le_refl _⟩, ⟨xR HO_5.out⟩, ⟨xR HO_6.out⟩, ⟨xb HB.out⟩⟩
     case round =>
      clear H'
      (try clear c3); (try clear c4); (try clear c4b0); (try clear c4b1); (try clear c5); (try clear c5b0); (try clear c5b1); (try clear c13); (try clear c13b0)
      obtain ⟨x6_2, x8_2, x9_2, rfl, rfl, HA, HK2, HO_5, HO_6, HB⟩ := hrel
      cases gk with
      | zero => exact absurd HA.out (by simp [impl_CycleType.l1])
      | succ k2 =>
       have H := HA.out
       clear HA
       simp only [impl_CycleType.l1] at H
       obtain ⟨c14b0, H⟩ := xq H
       obtain ⟨c15b0, H⟩ := xq H
       obtain ⟨bq16, hbq16⟩ : ∃ b_ : Bool, b_ = (rdOf false x6_2 x9_2) := ⟨_, rfl⟩
       replace H : (if bq16 = true then (if x8_2 > 0 then (if x5_1.length < 17592186044416 then (impl_CycleType.l0 k2 l0 (x5_1 ++ [x8_2]) x6_2 (l0.length : Int) (wrap64 (x23_1 + 1))) else (none)) else (impl_CycleType.l0 k2 l0 x5_1 x6_2 (l0.length : Int) (wrap64 (x23_1 + 1)))) else (if x9_2 < (l0.length : Int) then (impl_CycleType.l1 k2 l0 x5_1 (x6_2.set (x9_2 : Int).toNat true) (wrap64 (x8_2 + 1)) (wrap64 ((rd l0 x9_2) - 1)) (l0.length : Int) x23_1) else (none))) = some r := by rw [← hbq16] at H; exact H
       have Nbq16 := ax hbq16
       clear hbq16
       by_cases c17 : bq16 = true
       ·subst c17
        rw [if_pos rfl] at H
        by_cases c18 : x8_2 > 0
        ·rw [if_pos c18] at H
         have c18b0 : decide (0 < x8_2) = true := decide_eq_true c18
         clear c18
         obtain ⟨c19, H⟩ := xp H
         have LMc19 := ax c19
         clear c19
         obtain ⟨y427, hy427⟩ : ∃ y_ : List Int, y_ = (x5_1 ++ [x8_2]) := ⟨_, rfl⟩
         replace H : (impl_CycleType.l0 k2 l0 y427 x6_2 (l0.length : Int) (wrap64 (x23_1 + 1))) = some r := xv hy427 H
         have Ny427 := ax hy427
         clear hy427
         have H' := ax H
         clear H
         obtain ⟨Ao20, co20, eo20⟩ := Kd.R_slice HO_6.out
         subst eo20
         have p426 : 0 ≤ (x9_2 : Int) := xd
         have q426 : x9_2 < (x6_2.length : Int) := xd
         obtain ⟨ad426, e426, hx426_0⟩ := Kd.at_bool (Kd.R_reads' HO_6.out).2.2 x9_2 p426 q426
         (try rw [← Nbq16.out] at hx426_0)
         cases e426
         replace p426 := eq_true p426
         replace q426 := eq_true q426
         go_wp2_with (first | ((with_reducible refine gate_builtin (b := .append) (xs := #[.tmp 44, .tmp 46]) rfl ?_); at_builtin; refine Kd.R_append (Kd.int .i64) (w0 := w) w.heap.size rfl (.tmp 44) (.tmp 46) 24 3 (.int .i64 0) 8 rfl Tryz.underlying24 info3 rfl (by decide) (by omega) u5 x5_1 x8_2 [.int .i64 x8_2] (fun _ => True) (fun _ => False) rfl rfl ?aP (fun _ hk => hk.elim) ?aF ?aO ?aB ?aS ?aL ?_; (case aP => exact rfl); (case aB => exact (xb HB.out)); (case aF => exact (fun _ _ => trivial)); (case aO => exact (xR HO_5.out)); (case aS => exact (below_size (xb HB.out))); (case aL => have := LMc19.out; omega); intro v428 w21 ho hb hg hat; rw [← Ny427.out] at ho; have n0_ := ax (Kd.R_over' (xR HO_6.out) (Kd.R_typed (xR HO_5.out)) (by decide) hg); have n1_ := ax (hb); have n2_ := ax (ho); clear HO_6; clear HB; clear HO_5; have HO_6 := n0_; have HB := n1_; have HO429 := n2_; clear n0_ n1_ n2_; clear ho hb hg hat))
         go_roundg k2
         case measure => have := HK1.out; have := HK2.out; omega
         case rel => exact ⟨(y427), (x6_2), (wrap64 (x23_1 + 1)), xr, H', ⟨by have := HK1.out; have := HK2.out; omega⟩, ⟨xR HO429.out⟩, ⟨xR HO_6.out⟩, ⟨xb HB.out⟩⟩
        ·rw [if_neg c18] at H
         have c18b0 : decide (0 < x8_2) = false := decide_eq_false c18
         clear c18
         have H' := ax H
         clear H
         obtain ⟨Ao22, co22, eo22⟩ := Kd.R_slice HO_6.out
         subst eo22
         have p426 : 0 ≤ (x9_2 : Int) := xd
         have q426 : x9_2 < (x6_2.length : Int) := xd
         obtain ⟨ad426, e426, hx426_0⟩ := Kd.at_bool (Kd.R_reads' HO_6.out).2.2 x9_2 p426 q426
         (try rw [← Nbq16.out] at hx426_0)
         cases e426
         replace p426 := eq_true p426
         replace q426 := eq_true q426
         go_wp2
         go_roundg k2
         case measure => have := HK1.out; have := HK2.out; omega
         case rel => exact ⟨(x5_1), (x6_2), (wrap64 (x23_1 + 1)), xr, H', ⟨by have := HK1.out; have := HK2.out; omega⟩, ⟨xR HO_5.out⟩, ⟨xR HO_6.out⟩, ⟨xb HB.out⟩⟩
       ·replace c17 := Bool.eq_false_iff.mpr c17
        subst c17
        rw [if_neg (show ¬ (false = true) by decide)] at H
        obtain ⟨y430, hy430⟩ : ∃ y_ : List Bool, y_ = (x6_2.set (x9_2 : Int).toNat true) := ⟨_, rfl⟩
        replace H : (if x9_2 < (l0.length : Int) then (impl_CycleType.l1 k2 l0 x5_1 y430 (wrap64 (x8_2 + 1)) (wrap64 ((rd l0 x9_2) - 1)) (l0.length : Int) x23_1) else (none)) = some r := xv hy430 H
        have Ny430 := ax hy430
        clear hy430
        obtain ⟨c24b0, H⟩ := xq H
        have H' := ax H
        clear H
        obtain ⟨Ao25, co25, eo25⟩ := Kd.R_slice HO_6.out
        subst eo25
        have p426 : 0 ≤ (x9_2 : Int) := xd
        have q426 : x9_2 < (x6_2.length : Int) := xd
        obtain ⟨ad426, e426, hx426_0⟩ := Kd.at_bool (Kd.R_reads' HO_6.out).2.2 x9_2 p426 q426
        (try rw [← Nbq16.out] at hx426_0)
        cases e426
        replace p426 := eq_true p426
        replace q426 := eq_true q426
        have p23 : 0 ≤ (x9_2 : Int) := xd
        have q23 : (x9_2 : Int) < ((x6_2.length : Int) : Int) := xd
        obtain ⟨go23, co23, eo23, gb23, gl23, cl23, HG23⟩ := Kd.R_form HO_6.out (by omega)
        (first | cases eo23 | (injection eo23 with ea_ en_ ec_; (first | subst ea_ | (injection ea_ with ea_; subst ea_)); subst ec_; clear en_))
        have GB23 := ax gb23
        have GG23 := ax HG23
        clear gb23 gl23 HG23
        (first | simp only [add_plain] at hx426_0 | skip)
        obtain ⟨hx23_0, hf23_0⟩ := Kd.R_celln false HO_6.out (x9_2 : Int) p23 q23
        replace p23 := eq_true p23
        replace q23 := eq_true q23
        have HP26 := Kd.R_putg HO_6.out (x9_2 : Int) true
        go_wp2_with (first | ((with_reducible refine gate_store (t := 4) (p := 39) rfl ?_); refine store_event (t := 4) (p := 39) (v := ?vo_w27) (w1 := (wr.setCell ⟨go23, (x9_2 : Int).toNat, none⟩ (.bool true))) ?hg ?ho ?hn ?hr ?_; (case ho => rfl); (case hg => rfl); (case hn => rfl); (case hr => first | (go_simp; done) | (go_simp; rfl)); intro w27 hw; have hg : wr.grownBy w27 (some go23) := (by rw [hw]; exact HP26.2); have hp_ : Kd.R Kd.bool 4 w27 w.heap.size (fun _ => True) (.slice (some ⟨go23, 0, none⟩) x6_2.length co25) y430 := (by rw [hw, Ny430.out]; exact HP26.1); clear HP26; replace HO_5 := ax (Kd.R_over' (v := (.slice (some ⟨go23, 0, none⟩) x6_2.length co25)) (xR HO_5.out) (Kd.R_typed HO_6.out) (by decide) hg); replace HO_6 := ax (hp_); replace HB := ax ((by rw [hw]; exact below_set (HB.out) GB23.out : Below w.heap.size w w27)); clear hg hw hp_; have p431 : 0 ≤ (x9_2 : Int) := xd; have q431 : x9_2 < (l0.length : Int) := xd; obtain ⟨ad431, e431, hx431_0⟩ := Kd.at_int HR0.out x9_2 p431 q431; cases e431; replace hx431_0 := (HB.out.cell (World.block_lt_of_cell? w _ hx431_0)).trans hx431_0; replace p431 := eq_true p431; replace q431 := eq_true q431))
        go_roundg k2
        case measure => have := HK1.out; have := HK2.out; omega
        case rel => exact ⟨(y430), (wrap64 (x8_2 + 1)), (wrap64 ((rd l0 x9_2) - 1)), xr, xr, H', ⟨by have := HK1.out; have := HK2.out; omega⟩, ⟨xR HO_5.out⟩, ⟨xR HO_6.out⟩, ⟨xb HB.out⟩⟩
    ·rw [if_neg c13] at H
     have c13b0 := decide_eq_false c13
     clear c13
     obtain ⟨t424, A28, H⟩ := xI H
     obtain ⟨t425, A29, H⟩ := xI H
     obtain rfl := Option.some.inj H
     obtain ⟨Ao30, co30, eo30⟩ := Kd.R_slice HO_5.out
     subst eo30
     go_wp2_with (first | ((with_reducible refine gate_callee (f := 28) rfl ?_); refine goesL_ (some 50) rfl rfl Tryz.func28 (by kernel_rfl) rfl #[.slice Ao30 x5_1.length co30] rfl xm ?_; (with_reducible refine (slices_Sort_int_int.calls k1 (fun k_ => some k_ = (.slice Ao30 x5_1.length co30 : Value).ownBlock) (.slice Ao30 x5_1.length co30) x5_1 t424 w _ ?side1 ?side2 A28.out).mono ?_); (case side1 => exact xb HB.out); (case side2 => exact Kd.R_tight rfl HO_5.out); rintro e w31 ⟨rfl, hy0, hb, hkp⟩; refine ⟨_, rfl, ?_⟩; replace HO_6 := ax (Kd.R_mono (ok' := fun k_ => True) (Kd.R_keptB ((Kd.R_apart' HO_6.out (Kd.R_typed HO_5.out) (by decide))) hkp (fun k_ hk_ hs_ => (hk_.2) hs_)) (fun k_ hk_ => trivial)); replace HO_5 := ax (Kd.R_reok rfl hy0 (fun k_ e_ => HO_5.out.1 k_ e_)); replace HB := ax (hb); (try clear hb); (try clear hkp); (try clear hy0)) | ((with_reducible refine gate_callee (f := 29) rfl ?_); refine goesL_ (some 52) rfl rfl Tryz.func29 (by kernel_rfl) rfl #[.slice Ao30 x5_1.length co30] rfl xm ?_; (with_reducible refine (slices_Reverse_int_int.calls k1 (fun k_ => some k_ = (.slice Ao30 x5_1.length co30 : Value).ownBlock) (.slice Ao30 x5_1.length co30) t424 t425 w _ ?side1 ?side2 A29.out).mono ?_); (case side1 => exact xb HB.out); (case side2 => exact Kd.R_tight rfl HO_5.out); rintro e w32 ⟨rfl, hy0, hb, hkp⟩; refine ⟨_, rfl, ?_⟩; replace HO_6 := ax (Kd.R_mono (ok' := fun k_ => True) (Kd.R_keptB ((Kd.R_apart' HO_6.out (Kd.R_typed HO_5.out) (by decide))) hkp (fun k_ hk_ hs_ => (hk_.2) hs_)) (fun k_ hk_ => trivial)); replace HO_5 := ax (Kd.R_reok rfl hy0 (fun k_ e_ => HO_5.out.1 k_ e_)); replace HB := ax (hb); (try clear hb); (try clear hkp); (try clear hy0)))
     go_ret
     exact ⟨_, xe, xR HO_5.out, xb HB.out⟩
 ·replace c3 := Bool.eq_false_iff.mpr c3
  subst c3
  rw [if_neg (show ¬ (false = true) by decide)] at H
  obtain rfl := Option.some.inj H
  go_enter Tryz.func7, Tryz.ntmps7
  go_wp2_with (first | ((with_reducible refine gate_callee (f := 27) rfl ?_); refine goesL_ (some 12) rfl rfl Tryz.func27 (by kernel_rfl) rfl #[.slice A0 l0.length c0] rfl xm ?_; (with_reducible refine (impl_InverseOf.calls k _ _ l0 t414 false _ ?side1 ?side2 A2.out).mono ?_); (case side1 => exact xc HR0.out); (case side2 => exact HC0.out); rintro e w33 ⟨v416, rfl, ho0, hb⟩; refine ⟨_, rfl, ?_⟩; have HO417 := ax (Kd.R_lower ho0 (below_size (xb HB.out))); replace HB := yB HB hb; (try clear hb); (try clear ho0)))
  go_ret
  exact ⟨_, xe, by first | exact Kd.R_nil _ _ _ _ _ | exact Kd.N_nil _ _ _ _ _ | exact Kd.V_nil _ _ _ _ _ | exact Kd.Q_nil _ _ _ _ _ | exact Kd.S_nil _ _ _ _ _, xb HB.out⟩

/-! ### spec_PartitionsOf: function 21 -/
def spec_PartitionsOf.f (k : Nat) (a0 : Int) : Option ((List (List Int))) := (spec_l1In.f a0 0 9).bind fun t432 => (if t432 = true then ((spec_l2All.f k a0 a0).bind fun t433 => (some t433)) else (some (([] : List (List Int)))))
theorem spec_PartitionsOf.mono : ∀ a0 k, LeO (spec_PartitionsOf.f k a0) (spec_PartitionsOf.f (k + 1) a0) := by
 intro a0 k
 unfold spec_PartitionsOf.f
 repeat' with_reducible first | exact spec_l2All.mono _ _ _ | exact xl | refine LeO.ite ?_ ?_ | refine LeO.bind ?_ fun _ => ?_
theorem spec_PartitionsOf.calls (k : Nat) (a0 : Int) (r : List (List Int)) (w : World) (h : spec_PartitionsOf.f k a0 = some r) :
  Calls Tryz.prog 21 #[.int .i64 a0] w fun e w' => ∃ v0_ : Value, e = .returned (v0_) ∧ Kd.S (Kd.slice 3 (Kd.int .i64)) 24 w' w.heap.size (fun _ => True) v0_ r ∧ Below w.heap.size w w' := by
 have HB := ax (Below.refl w.heap.size w)
 have H : ((spec_l1In.f a0 0 9).bind fun t432 => (if t432 = true then ((spec_l2All.f k a0 a0).bind fun t433 => (some t433)) else (some (([] : List (List Int)))))) = some r := h
 clear h
 obtain ⟨t432, A2, H⟩ := xI H
 by_cases c3 : t432 = true
 ·subst c3
  rw [if_pos rfl] at H
  obtain ⟨t433, A4, H⟩ := xI H
  obtain rfl := Option.some.inj H
  go_enter Tryz.func21, Tryz.ntmps21
  go_wp2_with (first | ((with_reducible refine gate_callee (f := 42) rfl ?_); refine goesL_ (some 4) rfl rfl Tryz.func42 (by kernel_rfl) rfl #[.int .i64 a0, .int .i64 0, .int .i64 9] rfl xm ?_; (with_reducible refine (spec_l1In.calls a0 0 9 true _ A2.out).mono ?_); rintro e w' ⟨rfl, ⟨nd, rfl⟩⟩; refine ⟨_, rfl, ?_⟩) | ((with_reducible refine gate_callee (f := 43) rfl ?_); refine goesL_ (some 9) rfl rfl Tryz.func43 (by kernel_rfl) rfl #[.int .i64 a0, .int .i64 a0] rfl xm ?_; (with_reducible refine (spec_l2All.calls k a0 a0 t433 _ A4.out).mono ?_); rintro e w5 ⟨v434, rfl, ho0, hb⟩; refine ⟨_, rfl, ?_⟩; have HO435 := ax (Kd.S_lower ho0 (below_size (xb HB.out))); replace HB := yB HB hb; (try clear hb); (try clear ho0)))
  go_ret
  exact ⟨_, xe, xS HO435.out, xb HB.out⟩
 ·replace c3 := Bool.eq_false_iff.mpr c3
  subst c3
  rw [if_neg (show ¬ (false = true) by decide)] at H
  obtain ⟨y436, hy436⟩ : ∃ y_ : List (List Int), y_ = (([] : List (List Int))) := ⟨_, rfl⟩
  replace H : (some y436) = some r := xv hy436 H
  have Ny436 := ax hy436
  clear hy436
  obtain rfl := Option.some.inj H
  go_enter Tryz.func21, Tryz.ntmps21
  go_wp2_with (first | ((with_reducible refine gate_callee (f := 42) rfl ?_); refine goesL_ (some 4) rfl rfl Tryz.func42 (by kernel_rfl) rfl #[.int .i64 a0, .int .i64 0, .int .i64 9] rfl xm ?_; (with_reducible refine (spec_l1In.calls a0 0 9 false _ A2.out).mono ?_); rintro e w' ⟨rfl, ⟨nd, rfl⟩⟩; refine ⟨_, rfl, ?_⟩) | ((with_reducible refine gate_dst (N := 6) rfl ?_); refine Kd.S_lit (Kd.slice 3 (Kd.int .i64)) _ 24 ?hg (N := 6) ?hd (xs := ([] : List (List Int))) (inner := []) (ok := fun _ => True) (okp := fun _ => True) ?hr ?hp (fun _ hk => hk) trivial (Below.refl _ _) (Nat.le_refl _) (by simp) ?_; (case hd => rfl); (case hg => rfl); (case hr => first | (go_simp; done) | (go_simp; rfl)); (case hp => exact (Reps.none _ _)); intro v437 w6 ho7 hb hg_ hnew_; clear hg_ hnew_; (first | rw [← Ny436.out] at ho7 | (simp only [Int.reduceToNat] at ho7; rw [← Ny436.out] at ho7)); have HO438 := ax (Kd.S_lower ho7 (below_size (xb HB.out))); replace HB := yB HB hb; clear hb ho7))
  go_ret
  exact ⟨_, xe, xS HO438.out, xb HB.out⟩

/-! ### spec_l23Three: function 30 -/
def spec_l23Three.f (k : Nat) (l0 : List Int) : Option (List Int × List Int × List Int) := (spec_l1New.f k l0).bind fun bt439 => ((spec_l1Below.f bt439.1 bt439.2.1 bt439.2.2 6).bind fun bt443 => ((spec_PartitionsOf.f k bt443.1).bind fun t446 => ((spec_l1Below.f bt439.1 bt443.2.1 bt443.2.2 (t446.length : Int)).bind fun bt449 => (if 0 ≤ bt449.1 then (if bt449.1 < (t446.length : Int) then ((spec_l1Below.f bt439.1 bt449.2.1 bt449.2.2 (t446.length : Int)).bind fun bt453 => (if 0 ≤ bt453.1 then (if bt453.1 < (t446.length : Int) then ((spec_l1Once.f bt439.1 bt453.2.1 bt453.2.2 10).bind fun bt457 => (if bt457.1 = true then ((spec_l2Bent.f k bt439.1 bt457.2.1 bt457.2.2 7).bind fun bt460 => (some (rd_L2 t446 bt449.1, rd_L2 t446 bt453.1, bt460.1))) else ((spec_l1Below.f bt439.1 bt457.2.1 bt457.2.2 (t446.length : Int)).bind fun bt465 => (if 0 ≤ bt465.1 then (if bt465.1 < (t446.length : Int) then (some (rd_L2 t446 bt449.1, rd_L2 t446 bt453.1, rd_L2 t446 bt465.1)) else (none)) else (none))))) else (none)) else (none))) else (none)) else (none)))))
theorem spec_l23Three.mono : ∀ a0 k, LeO (spec_l23Three.f k a0) (spec_l23Three.f (k + 1) a0) := by
 intro a0 k
 unfold spec_l23Three.f
 repeat' with_reducible first | exact spec_PartitionsOf.mono _ _ | exact spec_l1New.mono _ _ | exact spec_l2Bent.mono _ _ _ _ _ | exact xl | refine LeO.ite ?_ ?_ | refine LeO.bind ?_ fun _ => ?_
def spec_l23Three.T7 : Bool × List (List Nat × List Nat) := (true, [([], []), ([], []), ([], []), ([], []), ([], []), ([4], [4]), ([3, 5], [3, 5]), ([2, 6], [2, 6]), ([7], [7]), ([0, 6, 0], [0]), ([1, 9, 0, 1, 9], [1]), ([8, 10, 0, 1, 2, 3, 4, 5, 6, 7, 8, 9, 10], [8])])
def spec_l23Three.B7 : List Nat := [0, 0, 0, 0, 0, 16, 56, 124, 252, 121, 635, 2047]
theorem spec_l23Three.tab7 : rtab .any (opsOf Tryz.f30 7) = spec_l23Three.T7 := by kernel_rfl
theorem spec_l23Three.bits7 : waitsOk spec_l23Three.T7.2 spec_l23Three.B7 = true := by kernel_rfl
theorem spec_l23Three.calls (k : Nat) (A0 : Option Addr) (c0 : Nat) (l0 : List Int) (r1 : List Int) (r2 : List Int) (r3 : List Int) (w : World) (hr0 : Kd.C (Kd.int .u8) w A0 l0.length l0) (hc0 : l0.length ≤ c0) (h : spec_l23Three.f k l0 = some (r1, r2, r3)) :
  Calls Tryz.prog 30 #[.slice A0 l0.length c0] w fun e w' => ∃ v0_ v1_ v2_ : Value, e = .returned (.tuple #[v0_, v1_, v2_]) ∧ Kd.V (Kd.int .i64) 3 w' w.heap.size (fun k_ => (w.heap.size ≤ k_)) v0_ r1 ∧ Kd.V (Kd.int .i64) 3 w' w.heap.size (fun k_ => (w.heap.size ≤ k_)) v1_ r2 ∧ Kd.V (Kd.int .i64) 3 w' w.heap.size (fun k_ => (w.heap.size ≤ k_)) v2_ r3 ∧ Below w.heap.size w w' := by
 have HR0 := ax hr0
 have HC0 := ax hc0
 clear hr0 hc0
 have HB := ax (Below.refl w.heap.size w)
 have H : ((spec_l1New.f k l0).bind fun bt439 => ((spec_l1Below.f bt439.1 bt439.2.1 bt439.2.2 6).bind fun bt443 => ((spec_PartitionsOf.f k bt443.1).bind fun t446 => ((spec_l1Below.f bt439.1 bt443.2.1 bt443.2.2 (t446.length : Int)).bind fun bt449 => (if 0 ≤ bt449.1 then (if bt449.1 < (t446.length : Int) then ((spec_l1Below.f bt439.1 bt449.2.1 bt449.2.2 (t446.length : Int)).bind fun bt453 => (if 0 ≤ bt453.1 then (if bt453.1 < (t446.length : Int) then ((spec_l1Once.f bt439.1 bt453.2.1 bt453.2.2 10).bind fun bt457 => (if bt457.1 = true then ((spec_l2Bent.f k bt439.1 bt457.2.1 bt457.2.2 7).bind fun bt460 => (some (rd_L2 t446 bt449.1, rd_L2 t446 bt453.1, bt460.1))) else ((spec_l1Below.f bt439.1 bt457.2.1 bt457.2.2 (t446.length : Int)).bind fun bt465 => (if 0 ≤ bt465.1 then (if bt465.1 < (t446.length : Int) then (some (rd_L2 t446 bt449.1, rd_L2 t446 bt453.1, rd_L2 t446 bt465.1)) else (none)) else (none))))) else (none)) else (none))) else (none)) else (none)))))) = some (r1, r2, r3) := h
 clear h
 obtain ⟨⟨t439, t440, t441⟩, A2, H⟩ := xI H
 dsimp only at H
 obtain ⟨⟨t443, t444, t445⟩, A3, H⟩ := xI H
 dsimp only at H
 obtain ⟨t446, A4, H⟩ := xI H
 obtain ⟨⟨t449, t450, t451⟩, A5, H⟩ := xI H
 dsimp only at H
 obtain ⟨c6b0, H⟩ := xq H
 obtain ⟨c7b0, H⟩ := xq H
 obtain ⟨⟨t453, t454, t455⟩, A8, H⟩ := xI H
 dsimp only at H
 obtain ⟨c9b0, H⟩ := xq H
 obtain ⟨c10b0, H⟩ := xq H
 obtain ⟨⟨t457, t458, t459⟩, A11, H⟩ := xI H
 dsimp only at H
 by_cases c12 : t457 = true
 ·subst c12
  rw [if_pos rfl] at H
  obtain ⟨⟨t460, t463, t464⟩, A13, H⟩ := xI H
  dsimp only at H
  simp only [Option.some.injEq, Prod.mk.injEq] at H
  obtain ⟨rfl, rfl, rfl⟩ := H
  go_enter Tryz.func30, Tryz.ntmps30
  go_wp2_with (first | ((with_reducible refine gate_callee (f := 25) rfl ?_); refine goesL_ (some 10) rfl rfl Tryz.func25 (by kernel_rfl) rfl #[.slice A0 l0.length c0] rfl xm ?_; (with_reducible refine (spec_l1New.calls k _ _ l0 t439 t440 t441 w _ ?side1 ?side2 ?side3 A2.out).mono ?_); (case side1 => exact xb HB.out); (case side2 => exact HR0.out); (case side3 => exact HC0.out); rintro e w14 ⟨g442, rfl, hi, hb, hb2⟩; refine ⟨_, rfl, ?_⟩; replace HB := ax (hb); have HI442 := ax (hi); (try clear hb); (try clear hb2); (try clear hi)) | ((with_reducible refine gate_callee (f := 45) rfl ?_); refine goesL_ (some 12) rfl rfl Tryz.func45 (by kernel_rfl) rfl #[.pointer (some ⟨g442, 0, none⟩), .int .i64 6] rfl xm ?_; (with_reducible refine (spec_l1Below.calls g442 t439 t440 t441 6 t443 t444 t445 w _ ?side1 ?side2 A3.out).mono ?_); (case side1 => exact xt52 HI442.out); (case side2 => exact xs HB.out (IsS52.ge HI442.out)); rintro e w15 ⟨rfl, hi, hb, hk⟩; refine ⟨_, rfl, ?_⟩; replace HB := ax (hb); replace HI442 := ax (hi); (try clear hb); (try clear hk); (try clear hi)) | ((with_reducible refine gate_callee (f := 21) rfl ?_); refine goesL_ (some 13) rfl rfl Tryz.func21 (by kernel_rfl) rfl #[.int .i64 t443] rfl xm ?_; (with_reducible refine (spec_PartitionsOf.calls k t443 t446 _ A4.out).mono ?_); rintro e w16 ⟨v447, rfl, ho0, hb⟩; refine ⟨_, rfl, ?_⟩; have HO448 := ax (Kd.S_lower (Kd.S_newM (M := fun k_ => (w.heap.size ≤ k_)) ho0 (below_size (xs HB.out (IsS52.ge HI442.out))) (fun k_ h_ => h_)) (below_size (xs HB.out (IsS52.ge HI442.out)))); replace HB := ax (below_step (xs HB.out (IsS52.ge HI442.out)) hb); replace HI442 := ax (IsS52.below (xt52 HI442.out) hb); (try clear hb); (try clear ho0); obtain ⟨Ao17, co17, eo17⟩ := Kd.S_slice HO448.out; subst eo17) | ((with_reducible refine gate_callee (f := 45) rfl ?_); refine goesL_ (some 18) rfl rfl Tryz.func45 (by kernel_rfl) rfl #[.pointer (some ⟨g442, 0, none⟩), .int .i64 (t446.length : Int)] rfl xm ?_; (with_reducible refine (spec_l1Below.calls g442 t439 t444 t445 (t446.length : Int) t449 t450 t451 w _ ?side1 ?side2 A5.out).mono ?_); (case side1 => exact xt52 HI442.out); (case side2 => exact xs HB.out (IsS52.ge HI442.out)); rintro e w18 ⟨rfl, hi, hb, hk⟩; refine ⟨_, rfl, ?_⟩; replace HO448 := ax (Kd.S_mono (Kd.S_keep (IsS52.apartS (show IsS52 w _ g442 t439 t444 t445 from xt52 HI442.out) (xS HO448.out) (by decide)) hk (fun _ h => h.2)) (fun _ h => h.1)); replace HB := ax (hb); replace HI442 := ax (hi); (try clear hb); (try clear hk); (try clear hi); have p452 : 0 ≤ (t449 : Int) := xd; have q452 : t449 < (t446.length : Int) := xd; obtain ⟨ad452, A452_0, c452_0, e452, hx452_0, hl452_0, hi452_0⟩ := at_L2 (Kd.S_reads' HO448.out).2.2 t449 p452 q452; cases e452; obtain ⟨ce452, hce452, hMe452, hcc452⟩ := Kd.S_get HO448.out [] t449 p452 (by first | exact q452 | exact xd | (have e_ := (Kd.S_reads' HO448.out).1; omega)); obtain ⟨ve452_0, rfl, ge452_0⟩ := hMe452; have hv452_0 := hcc452 0 _ rfl; rw [Nat.add_zero, show ((Kd.slice 3 (Kd.int .i64))).sz = 1 from rfl, Nat.mul_one] at hv452_0; replace hv452_0 := Option.some.inj (hv452_0.symm.trans hx452_0); rw [hv452_0] at ge452_0; have HL452_0 := ax (show Kd.R (Kd.int .i64) 3 _ _ _ _ (rd_L2 t446 t449) from ge452_0); clear hv452_0 ge452_0; clear hcc452 hce452; have HR452_0 := ax hi452_0; have HC452_0 := ax hl452_0; clear hi452_0 hl452_0; replace p452 := eq_true p452; replace q452 := eq_true q452) | ((with_reducible refine gate_callee (f := 45) rfl ?_); refine goesL_ (some 25) rfl rfl Tryz.func45 (by kernel_rfl) rfl #[.pointer (some ⟨g442, 0, none⟩), .int .i64 (t446.length : Int)] rfl xm ?_; (with_reducible refine (spec_l1Below.calls g442 t439 t450 t451 (t446.length : Int) t453 t454 t455 w _ ?side1 ?side2 A8.out).mono ?_); (case side1 => exact xt52 HI442.out); (case side2 => exact xs HB.out (IsS52.ge HI442.out)); rintro e w19 ⟨rfl, hi, hb, hk⟩; refine ⟨_, rfl, ?_⟩; replace HO448 := ax (Kd.S_mono (Kd.S_keep (IsS52.apartS (show IsS52 w _ g442 t439 t450 t451 from xt52 HI442.out) (xS HO448.out) (by decide)) hk (fun _ h => h.2)) (fun _ h => h.1)); replace HL452_0 := ax (Kd.R_mono (Kd.R_keep (IsS52.apart (show IsS52 w _ g442 t439 t450 t451 from xt52 HI442.out) (xR HL452_0.out) (by decide)) hk (fun _ h => h.2)) (fun _ h => h.1)); replace HB := ax (hb); replace HI442 := ax (hi); (try clear hb); (try clear hk); (try clear hi); have p456 : 0 ≤ (t453 : Int) := xd; have q456 : t453 < (t446.length : Int) := xd; obtain ⟨ad456, A456_0, c456_0, e456, hx456_0, hl456_0, hi456_0⟩ := at_L2 (Kd.S_reads' HO448.out).2.2 t453 p456 q456; obtain rfl : ad452 = ad456 := (by injection e456); obtain ⟨ce456, hce456, hMe456, hcc456⟩ := Kd.S_get HO448.out [] t453 p456 (by first | exact q456 | exact xd | (have e_ := (Kd.S_reads' HO448.out).1; omega)); obtain ⟨ve456_0, rfl, ge456_0⟩ := hMe456; have hv456_0 := hcc456 0 _ rfl; rw [Nat.add_zero, show ((Kd.slice 3 (Kd.int .i64))).sz = 1 from rfl, Nat.mul_one] at hv456_0; replace hv456_0 := Option.some.inj (hv456_0.symm.trans hx456_0); rw [hv456_0] at ge456_0; have HL456_0 := ax (show Kd.R (Kd.int .i64) 3 _ _ _ _ (rd_L2 t446 t453) from ge456_0); clear hv456_0 ge456_0; clear hcc456 hce456; have HR456_0 := ax hi456_0; have HC456_0 := ax hl456_0; clear hi456_0 hl456_0; replace p456 := eq_true p456; replace q456 := eq_true q456) | ((with_reducible refine gate_callee (f := 48) rfl ?_); refine goesL_ (some 29) rfl rfl Tryz.func48 (by kernel_rfl) rfl #[.pointer (some ⟨g442, 0, none⟩), .int .i64 10] rfl xm ?_; (with_reducible refine (spec_l1Once.calls g442 t439 t454 t455 10 true t458 t459 w _ ?side1 ?side2 A11.out).mono ?_); (case side1 => exact xt52 HI442.out); (case side2 => exact xs HB.out (IsS52.ge HI442.out)); rintro e w20 ⟨rfl, hi, hb, hk⟩; refine ⟨_, rfl, ?_⟩; replace HO448 := ax (Kd.S_mono (Kd.S_keep (IsS52.apartS (show IsS52 w _ g442 t439 t454 t455 from xt52 HI442.out) (xS HO448.out) (by decide)) hk (fun _ h => h.2)) (fun _ h => h.1)); replace HL452_0 := ax (Kd.R_mono (Kd.R_keep (IsS52.apart (show IsS52 w _ g442 t439 t454 t455 from xt52 HI442.out) (xR HL452_0.out) (by decide)) hk (fun _ h => h.2)) (fun _ h => h.1)); replace HL456_0 := ax (Kd.R_mono (Kd.R_keep (IsS52.apart (show IsS52 w _ g442 t439 t454 t455 from xt52 HI442.out) (xR HL456_0.out) (by decide)) hk (fun _ h => h.2)) (fun _ h => h.1)); replace HB := ax (hb); replace HI442 := ax (hi); (try clear hb); (try clear hk); (try clear hi)) | ((with_reducible refine gate_callee (f := 24) rfl ?_); refine goesL_ (some 33) rfl rfl Tryz.func24 (by kernel_rfl) rfl #[.pointer (some ⟨g442, 0, none⟩), .int .i64 7] rfl xm ?_; (with_reducible refine (spec_l2Bent.calls k g442 t439 t458 t459 7 t460 t463 t464 w _ ?side1 ?side2 A13.out).mono ?_); (case side1 => exact xt52 HI442.out); (case side2 => exact xs HB.out (IsS52.ge HI442.out)); rintro e w21 ⟨v461, rfl, ho0, hi, hb, hk⟩; refine ⟨_, rfl, ?_⟩; replace HO448 := ax (Kd.S_mono (Kd.S_told (Kd.S_oldK (IsS52.apartS (show IsS52 w _ g442 t439 t458 t459 from xt52 HI442.out) (xS HO448.out) (by decide)) hk) (Kd.R_base ho0)) (fun _ h_ => h_.1)); have HO462 := ax (Kd.R_lower (Kd.R_new' (Kd.R_new' (Kd.R_newM (M := fun k_ => (w.heap.size ≤ k_)) ho0 (below_size (xs HB.out (IsS52.ge HI442.out))) (fun k_ h_ => h_)) (Kd.R_lt (xR HL452_0.out))) (Kd.R_lt (xR HL456_0.out))) (below_size (xs HB.out (IsS52.ge HI442.out)))); replace HL452_0 := ax (Kd.R_mono (Kd.R_told (Kd.R_oldK (IsS52.apart (show IsS52 w _ g442 t439 t458 t459 from xt52 HI442.out) (xR HL452_0.out) (by decide)) hk) (Kd.R_base ho0)) (fun _ h_ => h_.1)); replace HL456_0 := ax (Kd.R_mono (Kd.R_told (Kd.R_oldK (IsS52.apart (show IsS52 w _ g442 t439 t458 t459 from xt52 HI442.out) (xR HL456_0.out) (by decide)) hk) (Kd.R_base ho0)) (fun _ h_ => h_.1)); replace HB := ax (hb); replace HI442 := ax (hi); (try clear hb); (try clear hk); (try clear hi); (try clear ho0)))
  go_ret3
  exact ⟨_, _, _, xe, Kd.R_V (by (with_reducible repeat (first | apply Kd.R_alloc | apply Kd.R_drewN | apply Kd.R_drew)); exact Kd.R_mono HL452_0.out (fun _ hk => hk.1.1.1)), Kd.R_V (by (with_reducible repeat (first | apply Kd.R_alloc | apply Kd.R_drewN | apply Kd.R_drew)); exact Kd.R_mono HL456_0.out (fun _ hk => hk.1.1.1)), Kd.R_V (by (with_reducible repeat (first | apply Kd.R_alloc | apply Kd.R_drewN | apply Kd.R_drew)); exact Kd.R_mono HO462.out (fun _ hk => hk.1.1.1)), xs HB.out (IsS52.ge HI442.out)⟩
 ·replace c12 := Bool.eq_false_iff.mpr c12
  subst c12
  rw [if_neg (show ¬ (false = true) by decide)] at H
  obtain ⟨⟨t465, t466, t467⟩, A22, H⟩ := xI H
  dsimp only at H
  obtain ⟨c23b0, H⟩ := xq H
  obtain ⟨c24b0, H⟩ := xq H
  simp only [Option.some.injEq, Prod.mk.injEq] at H
  obtain ⟨rfl, rfl, rfl⟩ := H
  go_enter Tryz.func30, Tryz.ntmps30
  try go_wp2_with (first | ((with_reducible refine gate_callee (f := 25) rfl ?_); refine goesL_ (some 10) rfl rfl Tryz.func25 (by kernel_rfl) rfl #[.slice A0 l0.length c0] rfl xm ?_; (with_reducible refine (spec_l1New.calls k _ _ l0 t439 t440 t441 w _ ?side1 ?side2 ?side3 A2.out).mono ?_); (case side1 => exact xb HB.out); (case side2 => exact HR0.out); (case side3 => exact HC0.out); rintro e w25 ⟨g442, rfl, hi, hb, hb2⟩; refine ⟨_, rfl, ?_⟩; replace HB := ax (hb); have HI442 := ax (hi); (try clear hb); (try clear hb2); (try clear hi)) | ((with_reducible refine gate_callee (f := 45) rfl ?_); refine goesL_ (some 12) rfl rfl Tryz.func45 (by kernel_rfl) rfl #[.pointer (some ⟨g442, 0, none⟩), .int .i64 6] rfl xm ?_; (with_reducible refine (spec_l1Below.calls g442 t439 t440 t441 6 t443 t444 t445 w _ ?side1 ?side2 A3.out).mono ?_); (case side1 => exact xt52 HI442.out); (case side2 => exact xs HB.out (IsS52.ge HI442.out)); rintro e w26 ⟨rfl, hi, hb, hk⟩; refine ⟨_, rfl, ?_⟩; replace HB := ax (hb); replace HI442 := ax (hi); (try clear hb); (try clear hk); (try clear hi)) | ((with_reducible refine gate_callee (f := 21) rfl ?_); refine goesL_ (some 13) rfl rfl Tryz.func21 (by kernel_rfl) rfl #[.int .i64 t443] rfl xm ?_; (with_reducible refine (spec_PartitionsOf.calls k t443 t446 _ A4.out).mono ?_); rintro e w27 ⟨v447, rfl, ho0, hb⟩; refine ⟨_, rfl, ?_⟩; have HO448 := ax (Kd.S_lower (Kd.S_newM (M := fun k_ => (w.heap.size ≤ k_)) ho0 (below_size (xs HB.out (IsS52.ge HI442.out))) (fun k_ h_ => h_)) (below_size (xs HB.out (IsS52.ge HI442.out)))); replace HB := ax (below_step (xs HB.out (IsS52.ge HI442.out)) hb); replace HI442 := ax (IsS52.below (xt52 HI442.out) hb); (try clear hb); (try clear ho0); obtain ⟨Ao28, co28, eo28⟩ := Kd.S_slice HO448.out; subst eo28) | ((with_reducible refine gate_callee (f := 45) rfl ?_); refine goesL_ (some 18) rfl rfl Tryz.func45 (by kernel_rfl) rfl #[.pointer (some ⟨g442, 0, none⟩), .int .i64 (t446.length : Int)] rfl xm ?_; (with_reducible refine (spec_l1Below.calls g442 t439 t444 t445 (t446.length : Int) t449 t450 t451 w _ ?side1 ?side2 A5.out).mono ?_); (case side1 => exact xt52 HI442.out); (case side2 => exact xs HB.out (IsS52.ge HI442.out)); rintro e w29 ⟨rfl, hi, hb, hk⟩; refine ⟨_, rfl, ?_⟩; replace HO448 := ax (Kd.S_mono (Kd.S_keep (IsS52.apartS (show IsS52 w _ g442 t439 t444 t445 from xt52 HI442.out) (xS HO448.out) (by decide)) hk (fun _ h => h.2)) (fun _ h => h.1)); replace HB := ax (hb); replace HI442 := ax (hi); (try clear hb); (try clear hk); (try clear hi); have p452 : 0 ≤ (t449 : Int) := xd; have q452 : t449 < (t446.length : Int) := xd; obtain ⟨ad452, A452_0, c452_0, e452, hx452_0, hl452_0, hi452_0⟩ := at_L2 (Kd.S_reads' HO448.out).2.2 t449 p452 q452; cases e452; obtain ⟨ce452, hce452, hMe452, hcc452⟩ := Kd.S_get HO448.out [] t449 p452 (by first | exact q452 | exact xd | (have e_ := (Kd.S_reads' HO448.out).1; omega)); obtain ⟨ve452_0, rfl, ge452_0⟩ := hMe452; have hv452_0 := hcc452 0 _ rfl; rw [Nat.add_zero, show ((Kd.slice 3 (Kd.int .i64))).sz = 1 from rfl, Nat.mul_one] at hv452_0; replace hv452_0 := Option.some.inj (hv452_0.symm.trans hx452_0); rw [hv452_0] at ge452_0; have HL452_0 := ax (show Kd.R (Kd.int .i64) 3 _ _ _ _ (rd_L2 t446 t449) from ge452_0); clear hv452_0 ge452_0; clear hcc452 hce452; have HR452_0 := ax hi452_0; have HC452_0 := ax hl452_0; clear hi452_0 hl452_0; replace p452 := eq_true p452; replace q452 := eq_true q452) | ((with_reducible refine gate_callee (f := 45) rfl ?_); refine goesL_ (some 25) rfl rfl Tryz.func45 (by kernel_rfl) rfl #[.pointer (some ⟨g442, 0, none⟩), .int .i64 (t446.length : Int)] rfl xm ?_; (with_reducible refine (spec_l1Below.calls g442 t439 t450 t451 (t446.length : Int) t453 t454 t455 w _ ?side1 ?side2 A8.out).mono ?_); (case side1 => exact xt52 HI442.out); (case side2 => exact xs HB.out (IsS52.ge HI442.out)); rintro e w30 ⟨rfl, hi, hb, hk⟩; refine ⟨_, rfl, ?_⟩; replace HO448 := ax (Kd.S_mono (Kd.S_keep (IsS52.apartS (show IsS52 w _ g442 t439 t450 t451 from xt52 HI442.out) (xS HO448.out) (by decide)) hk (fun _ h => h.2)) (fun _ h => h.1)); replace HL452_0 := ax (Kd.R_mono (Kd.R_keep (IsS52.apart (show IsS52 w _ g442 t439 t450 t451 from xt52 HI442.out) (xR HL452_0.out) (by decide)) hk (fun _ h => h.2)) (fun _ h => h.1)); replace HB := ax (hb); replace HI442 := ax (hi); (try clear hb); (try clear hk); (try clear hi); have p456 : 0 ≤ (t453 : Int) := xd; have q456 : t453 < (t446.length : Int) := xd; obtain ⟨ad456, A456_0, c456_0, e456, hx456_0, hl456_0, hi456_0⟩ := at_L2 (Kd.S_reads' HO448.out).2.2 t453 p456 q456; obtain rfl : ad452 = ad456 := (by injection e456); obtain ⟨ce456, hce456, hMe456, hcc456⟩ := Kd.S_get HO448.out [] t453 p456 (by first | exact q456 | exact xd | (have e_ := (Kd.S_reads' HO448.out).1; omega)); obtain ⟨ve456_0, rfl, ge456_0⟩ := hMe456; have hv456_0 := hcc456 0 _ rfl; rw [Nat.add_zero, show ((Kd.slice 3 (Kd.int .i64))).sz = 1 from rfl, Nat.mul_one] at hv456_0; replace hv456_0 := Option.some.inj (hv456_0.symm.trans hx456_0); rw [hv456_0] at ge456_0; have HL456_0 := ax (show Kd.R (Kd.int .i64) 3 _ _ _ _ (rd_L2 t446 t453) from ge456_0); clear hv456_0 ge456_0; clear hcc456 hce456; have HR456_0 := ax hi456_0; have HC456_0 := ax hl456_0; clear hi456_0 hl456_0; replace p456 := eq_true p456; replace q456 := eq_true q456) | ((with_reducible refine gate_callee (f := 48) rfl ?_); refine goesL_ (some 29) rfl rfl Tryz.func48 (by kernel_rfl) rfl #[.pointer (some ⟨g442, 0, none⟩), .int .i64 10] rfl xm ?_; (with_reducible refine (spec_l1Once.calls g442 t439 t454 t455 10 false t458 t459 w _ ?side1 ?side2 A11.out).mono ?_); (case side1 => exact xt52 HI442.out); (case side2 => exact xs HB.out (IsS52.ge HI442.out)); rintro e w31 ⟨rfl, hi, hb, hk⟩; refine ⟨_, rfl, ?_⟩; replace HO448 := ax (Kd.S_mono (Kd.S_keep (IsS52.apartS (show IsS52 w _ g442 t439 t454 t455 from xt52 HI442.out) (xS HO448.out) (by decide)) hk (fun _ h => h.2)) (fun _ h => h.1)); replace HL452_0 := ax (Kd.R_mono (Kd.R_keep (IsS52.apart (show IsS52 w _ g442 t439 t454 t455 from xt52 HI442.out) (xR HL452_0.out) (by decide)) hk (fun _ h => h.2)) (fun _ h => h.1)); replace HL456_0 := ax (Kd.R_mono (Kd.R_keep (IsS52.apart (show IsS52 w _ g442 t439 t454 t455 from xt52 HI442.out) (xR HL456_0.out) (by decide)) hk (fun _ h => h.2)) (fun _ h => h.1)); replace HB := ax (hb); replace HI442 := ax (hi); (try clear hb); (try clear hk); (try clear hi)))
  replace HO448 := ax (Kd.S_drew HO448.out); replace HL452_0 := ax (Kd.R_drew HL452_0.out); replace HL456_0 := ax (Kd.R_drew HL456_0.out); replace HI442 := ax (IsS52.drew HI442.out); replace HB := ax (below_drew1 HB.out)
  have p468 : 0 ≤ (t465 : Int) := xd
  have q468 : t465 < (t446.length : Int) := xd
  obtain ⟨ad468, A468_0, c468_0, e468, hx468_0, hl468_0, hi468_0⟩ := at_L2 (Kd.S_reads' HO448.out).2.2 t465 p468 q468
  obtain rfl : ad452 = ad468 := (by injection e468)
  obtain ⟨ce468, hce468, hMe468, hcc468⟩ := Kd.S_get HO448.out [] t465 p468 (by first | exact q468 | exact xd | (have e_ := (Kd.S_reads' HO448.out).1; omega))
  obtain ⟨ve468_0, rfl, ge468_0⟩ := hMe468
  have hv468_0 := hcc468 0 _ rfl
  rw [Nat.add_zero, show ((Kd.slice 3 (Kd.int .i64))).sz = 1 from rfl, Nat.mul_one] at hv468_0
  replace hv468_0 := Option.some.inj (hv468_0.symm.trans hx468_0)
  rw [hv468_0] at ge468_0
  have HL468_0 := ax (show Kd.R (Kd.int .i64) 3 _ _ _ _ (rd_L2 t446 t465) from ge468_0)
  clear hv468_0 ge468_0 hcc468 hce468
  have HR468_0 := ax hi468_0
  have HC468_0 := ax hl468_0
  clear hi468_0 hl468_0
  replace p468 := eq_true p468
  replace q468 := eq_true q468
  refine start_ (n := 12) (S := fun w' => w'.cell? (ad452.add (t465).toNat) = some (.slice A468_0 (rd_L2 t446 t465).length c468_0)) (ds := []) (xB 12 0) (by kernel_rfl) rfl (by kernel_rfl) (hx468_0) (fun hHeld => ?_); refine with_tabW spec_l23Three.tab7 spec_l23Three.bits7 (fun HT_ HW_ => ?_)
  generalize w31.drew = w32 at HO448 HL452_0 HL456_0 HI442 HB HL468_0 HR468_0 hx468_0 hHeld ⊢
  refine pu (i := 0) (N := some 34) (xB 12 1) HT_.out ?_
  refine pu (i := 1) (N := some 35) (xB 12 3) HT_.out ?_
  refine pu (i := 2) (N := some 36) (xB 12 7) HT_.out ?_
  refine pu (i := 3) (N := some 37) (xB 12 15) HT_.out ?_
  refine pu (i := 4) (N := some 38) (xB 12 31) HT_.out ?_
  refine pu (i := 5) (N := some 39) (xB 12 63) HT_.out ?_
  refine one_ (i := 6) (N := some 40) (xB 12 127) rfl rfl (one_of HT_.out (by kernel_rfl)) (by decide) (fun K hK => ?_)
  refine goes_ Tryz.func45 (by kernel_rfl) rfl #[.pointer (some ⟨g442, 0, none⟩), .int .i64 (t446.length : Int)] (by rfl) rfl rfl xm ?_
  with_reducible refine (spec_l1Below.calls g442 t439 t458 t459 (t446.length : Int) t465 t466 t467 w _ ?side1 ?side2 A22.out).mono ?_
  (case side1 => exact xt52 HI442.out)
  (case side2 => exact xs HB.out (IsS52.ge HI442.out))
  rintro e w33 ⟨rfl, hi, hb, hk⟩
  have HS0_ := keep_cell hk (hHeld) (by first | (rw [add_block]; exact Kd.own_blk (IsS52.own_neS HI442.out HO448.out (by decide))) | (show (Addr.add _ _).block ≠ _; rw [add_block]; exact Kd.own_blk (IsS52.own_neS HI442.out HO448.out (by decide))) | exact Kd.own_blk (IsS52.own_neS HI442.out HO448.out (by decide)))
  refine ⟨_, rfl, ?_⟩
  replace HO448 := ax (Kd.S_mono (Kd.S_keep (IsS52.apartS (show IsS52 w _ g442 t439 t458 t459 from xt52 HI442.out) (xS HO448.out) (by decide)) hk (fun _ h => h.2)) (fun _ h => h.1)); replace HL452_0 := ax (Kd.R_mono (Kd.R_keep (IsS52.apart (show IsS52 w _ g442 t439 t458 t459 from xt52 HI442.out) (xR HL452_0.out) (by decide)) hk (fun _ h => h.2)) (fun _ h => h.1)); replace HL456_0 := ax (Kd.R_mono (Kd.R_keep (IsS52.apart (show IsS52 w _ g442 t439 t458 t459 from xt52 HI442.out) (xR HL456_0.out) (by decide)) hk (fun _ h => h.2)) (fun _ h => h.1)); replace HB := ax (hb); replace HL468_0 := ax (Kd.R_mono (Kd.R_keep (IsS52.apart (show IsS52 w _ g442 t439 t458 t459 from xt52 HI442.out) HL468_0.out (by decide)) hk (fun _ h => h.2)) (fun _ h => h.1)); replace HI442 := ax (hi)
  (try clear hb)
  (try clear hb2)
  (try clear hk)
  (try clear hi)
  refine hK.out _ _ (HS0_) (fun hHeld => ?_)
  clear hK K
  refine nm ?_
  refine pu (i := 7) (N := some 41) (xB 12 255) HT_.out ?_
  refine pu (i := 9) (N := some 2) (xB 12 767) HT_.out ?_
  refine pu (i := 10) (N := some 3) (xB 12 1791) HT_.out ?_
  refine tk (i := 8) (N := some 42) (xB 12 2047) HT_.out HW_.out hHeld ?_
  refine pu (i := 11) (N := some 4) (xB 12 4095) HT_.out ?_
  refine done_ (done_of HT_.out (by kernel_rfl)) ?_
  try go_wp2
  go_ret3
  exact ⟨_, _, _, xe, Kd.R_V (by (with_reducible repeat (first | apply Kd.R_alloc | apply Kd.R_drewN | apply Kd.R_drew)); exact Kd.R_mono HL452_0.out (fun _ hk => hk.1.1)), Kd.R_V (by (with_reducible repeat (first | apply Kd.R_alloc | apply Kd.R_drewN | apply Kd.R_drew)); exact Kd.R_mono HL456_0.out (fun _ hk => hk.1.1)), Kd.R_V (by (with_reducible repeat (first | apply Kd.R_alloc | apply Kd.R_drewN | apply Kd.R_drew)); exact Kd.R_mono HL468_0.out (fun _ hk => hk.1.1)), xs HB.out (IsS52.ge HI442.out)⟩

/-! ### spec_DrawKroneckerOf: function 8 -/
def spec_DrawKroneckerOf.f (k : Nat) (l0 : List Int) : Option (List Int × List Int × List Int) := (spec_l23Three.f k l0).bind fun bt469 => (some (bt469.1, bt469.2.1, bt469.2.2))
theorem spec_DrawKroneckerOf.mono : ∀ a0 k, LeO (spec_DrawKroneckerOf.f k a0) (spec_DrawKroneckerOf.f (k + 1) a0) := by
 intro a0 k
 unfold spec_DrawKroneckerOf.f
 repeat' with_reducible first | exact spec_l23Three.mono _ _ | exact xl | refine LeO.ite ?_ ?_ | refine LeO.bind ?_ fun _ => ?_
theorem spec_DrawKroneckerOf.calls (k : Nat) (A0 : Option Addr) (c0 : Nat) (l0 : List Int) (r1 : List Int) (r2 : List Int) (r3 : List Int) (w : World) (hr0 : Kd.C (Kd.int .u8) w A0 l0.length l0) (hc0 : l0.length ≤ c0) (h : spec_DrawKroneckerOf.f k l0 = some (r1, r2, r3)) :
  Calls Tryz.prog 8 #[.slice A0 l0.length c0] w fun e w' => ∃ v0_ v1_ v2_ : Value, e = .returned (.tuple #[v0_, v1_, v2_]) ∧ Kd.V (Kd.int .i64) 3 w' w.heap.size (fun k_ => (w.heap.size ≤ k_)) v0_ r1 ∧ Kd.V (Kd.int .i64) 3 w' w.heap.size (fun k_ => (w.heap.size ≤ k_)) v1_ r2 ∧ Kd.V (Kd.int .i64) 3 w' w.heap.size (fun k_ => (w.heap.size ≤ k_)) v2_ r3 ∧ Below w.heap.size w w' := by
 have HR0 := ax hr0
 have HC0 := ax hc0
 clear hr0 hc0
 have HB := ax (Below.refl w.heap.size w)
 have H : ((spec_l23Three.f k l0).bind fun bt469 => (some (bt469.1, bt469.2.1, bt469.2.2))) = some (r1, r2, r3) := h
 clear h
 obtain ⟨⟨t469, t472, t475⟩, A2, H⟩ := xI H
 dsimp only at H
 simp only [Option.some.injEq, Prod.mk.injEq] at H
 obtain ⟨rfl, rfl, rfl⟩ := H
 go_enter Tryz.func8, Tryz.ntmps8
 go_wp2_with (first | ((with_reducible refine gate_callee (f := 30) rfl ?_); refine goesL_ (some 10) rfl rfl Tryz.func30 (by kernel_rfl) rfl #[.slice A0 l0.length c0] rfl xm ?_; (with_reducible refine (spec_l23Three.calls k _ _ l0 t469 t472 t475 _ ?side1 ?side2 A2.out).mono ?_); (case side1 => exact xc HR0.out); (case side2 => exact HC0.out); rintro e w3 ⟨v470, v473, v476, rfl, ho0, ho1, ho2, hb⟩; refine ⟨_, rfl, ?_⟩; have HO471 := ax (Kd.V_lower (Kd.V_mono (ok' := fun k_ => (w.heap.size ≤ k_)) ho0 (fun k_ hk_ => (Nat.le_trans (below_size (xb HB.out)) hk_))) (below_size (xb HB.out))); have HO474 := ax (Kd.V_lower (Kd.V_mono (ok' := fun k_ => (w.heap.size ≤ k_)) ho1 (fun k_ hk_ => (Nat.le_trans (below_size (xb HB.out)) hk_))) (below_size (xb HB.out))); have HO477 := ax (Kd.V_lower (Kd.V_mono (ok' := fun k_ => (w.heap.size ≤ k_)) ho2 (fun k_ hk_ => (Nat.le_trans (below_size (xb HB.out)) hk_))) (below_size (xb HB.out))); replace HB := yB HB hb; (try clear hb); (try clear ho0); (try clear ho1); (try clear ho2)))
 go_ret3
 exact ⟨_, _, _, xe, xV HO471.out, xV HO474.out, xV HO477.out, xb HB.out⟩

end Go.Proofs.YtopmggldaicpaacGreat.PFnKronecker
