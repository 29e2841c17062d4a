import Derived.Test.YtopmggldaicpaacGreatPFnKroneckerx15
namespace Go.Proofs.YtopmggldaicpaacGreat.PFnKronecker
open Go.RowKit Go.Proofs.YtopmggldaicpaacGreatW.PrintWords Go.Proofs.YtopmggldaicpaacGreatW.PrintLast Go.Proofs.YtopmggldaicpaacGreatW.PrintMore
attribute [local go_sem] max2_int min2_int max_two min_two max_three min_three max_four min_four
set_option linter.unusedVariables false
set_option linter.unusedSimpArgs false
set_option maxHeartbeats 8000000
set_option maxRecDepth 100000
/-! ### impl_ClassSize: function 11 -/
def impl_ClassSize.f (k : Nat) (l0 : List Int) : Option (Int) := (impl_IsPartition.f k l0).bind fun t497 => (if t497 = true then ((impl_sum.f k l0).bind fun t498 => ((impl_factorial.f k t498).bind fun t499 => ((impl_CentralizerSize.f k l0).bind fun t500 => (if t500 = 0 then (none) else (some (wrap64 (Int.tdiv t499 t500))))))) else (some 0))
theorem impl_ClassSize.mono : ∀ a0 k, LeO (impl_ClassSize.f k a0) (impl_ClassSize.f (k + 1) a0) := by
 intro a0 k
 unfold impl_ClassSize.f
 repeat' with_reducible first | exact impl_CentralizerSize.mono _ _ | exact impl_IsPartition.mono _ _ | exact impl_factorial.mono _ _ | exact impl_sum.mono _ _ | exact xl | refine LeO.ite ?_ ?_ | refine LeO.bind ?_ fun _ => ?_
theorem impl_ClassSize.calls (k : Nat) (A0 : Option Addr) (c0 : Nat) (l0 : List Int) (r : Int) (w : World) (hr0 : Kd.C (Kd.int .i64) w A0 l0.length l0) (hc0 : l0.length ≤ c0) (h : impl_ClassSize.f k l0 = some r) :
  Calls Tryz.prog 11 #[.slice A0 l0.length c0] w fun e w' => e = .returned (.int .i64 r) ∧ Below w.heap.size w w' := by
 have HR0 := ax hr0
 have HC0 := ax hc0
 clear hr0 hc0
 have HB := ax (Below.refl w.heap.size w)
 have H : ((impl_IsPartition.f k l0).bind fun t497 => (if t497 = true then ((impl_sum.f k l0).bind fun t498 => ((impl_factorial.f k t498).bind fun t499 => ((impl_CentralizerSize.f k l0).bind fun t500 => (if t500 = 0 then (none) else (some (wrap64 (Int.tdiv t499 t500))))))) else (some 0))) = some r := h
 clear h
 obtain ⟨t497, A2, H⟩ := xI H
 by_cases c3 : t497 = true
 ·subst c3
  rw [if_pos rfl] at H
  obtain ⟨t498, A4, H⟩ := xI H
  obtain ⟨t499, A5, H⟩ := xI H
  obtain ⟨t500, A6, H⟩ := xI H
  by_cases c7 : t500 = 0
  ·rw [if_pos c7] at H
   exact absurd H (by simp)
  ·rw [if_neg c7] at H
   have c7b0 : (t500 == 0) = false := beq_eq_false_iff_ne.mpr c7
   have c7b1 : (t500 != 0) = true := bne_iff_ne.mpr c7
   obtain rfl := Option.some.inj H
   go_enter Tryz.func11, Tryz.ntmps11
   go_wp2_with (first | ((with_reducible refine gate_callee (f := 32) rfl ?_); refine goesL_ (some 4) rfl rfl Tryz.func32 (by kernel_rfl) rfl #[.slice A0 l0.length c0] rfl xm ?_; (with_reducible refine (impl_IsPartition.calls k _ _ l0 true _ ?side1 ?side2 A2.out).mono ?_); (case side1 => exact xc HR0.out); (case side2 => exact HC0.out); rintro e w' ⟨rfl, ⟨nd, rfl⟩⟩; refine ⟨_, rfl, ?_⟩) | ((with_reducible refine gate_callee (f := 34) rfl ?_); refine goesL_ (some 7) rfl rfl Tryz.func34 (by kernel_rfl) rfl #[.slice A0 l0.length c0] rfl xm ?_; (with_reducible refine (impl_sum.calls k _ _ l0 t498 _ ?side1 ?side2 A4.out).mono ?_); (case side1 => exact xc HR0.out); (case side2 => exact HC0.out); rintro e w' ⟨rfl, ⟨nd, rfl⟩⟩; refine ⟨_, rfl, ?_⟩) | ((with_reducible refine gate_callee (f := 33) rfl ?_); refine goesL_ (some 8) rfl rfl Tryz.func33 (by kernel_rfl) rfl #[.int .i64 t498] rfl xm ?_; (with_reducible refine (impl_factorial.calls k t498 t499 _ A5.out).mono ?_); rintro e w' ⟨rfl, ⟨nd, rfl⟩⟩; refine ⟨_, rfl, ?_⟩) | ((with_reducible refine gate_callee (f := 13) rfl ?_); refine goesL_ (some 10) rfl rfl Tryz.func13 (by kernel_rfl) rfl #[.slice A0 l0.length c0] rfl xm ?_; (with_reducible refine (impl_CentralizerSize.calls k _ _ l0 t500 _ ?side1 ?side2 A6.out).mono ?_); (case side1 => exact xc HR0.out); (case side2 => exact HC0.out); rintro e w8 ⟨rfl, hb⟩; refine ⟨_, rfl, ?_⟩; replace HB := yB HB hb; (try clear hb)))
   go_ret
   exact ⟨xe, xb HB.out⟩
 ·replace c3 := Bool.eq_false_iff.mpr c3
  subst c3
  rw [if_neg (show ¬ (false = true) by decide)] at H
  obtain rfl := Option.some.inj H
  go_enter Tryz.func11, Tryz.ntmps11
  go_wp2_with (first | ((with_reducible refine gate_callee (f := 32) rfl ?_); refine goesL_ (some 4) rfl rfl Tryz.func32 (by kernel_rfl) rfl #[.slice A0 l0.length c0] rfl xm ?_; (with_reducible refine (impl_IsPartition.calls k _ _ l0 false _ ?side1 ?side2 A2.out).mono ?_); (case side1 => exact xc HR0.out); (case side2 => exact HC0.out); rintro e w' ⟨rfl, ⟨nd, rfl⟩⟩; refine ⟨_, rfl, ?_⟩))
  go_ret
  exact ⟨xe, xb HB.out⟩

/-! ### impl_SizeOf: function 54 -/
def impl_SizeOf.f (k : Nat) (l0 : List Int) : Option (Int) := (impl_IsPartition.f k l0).bind fun t501 => (if t501 = true then ((impl_sum.f k l0).bind fun t502 => (some t502)) else (some (-1)))
theorem impl_SizeOf.mono : ∀ a0 k, LeO (impl_SizeOf.f k a0) (impl_SizeOf.f (k + 1) a0) := by
 intro a0 k
 unfold impl_SizeOf.f
 repeat' with_reducible first | exact impl_IsPartition.mono _ _ | exact impl_sum.mono _ _ | exact xl | refine LeO.ite ?_ ?_ | refine LeO.bind ?_ fun _ => ?_
theorem impl_SizeOf.calls (k : Nat) (A0 : Option Addr) (c0 : Nat) (l0 : List Int) (r : Int) (w : World) (hr0 : Kd.C (Kd.int .i64) w A0 l0.length l0) (hc0 : l0.length ≤ c0) (h : impl_SizeOf.f k l0 = some r) :
  Calls Tryz.prog 54 #[.slice A0 l0.length c0] w fun e w' => e = .returned (.int .i64 r) ∧ Drawn0 w w' := by
 have HR0 := ax hr0
 have HC0 := ax hc0
 clear hr0 hc0
 have H : ((impl_IsPartition.f k l0).bind fun t501 => (if t501 = true then ((impl_sum.f k l0).bind fun t502 => (some t502)) else (some (-1)))) = some r := h
 clear h
 obtain ⟨t501, A2, H⟩ := xI H
 by_cases c3 : t501 = true
 ·subst c3
  rw [if_pos rfl] at H
  obtain ⟨t502, A4, H⟩ := xI H
  obtain rfl := Option.some.inj H
  go_enter Tryz.func54, Tryz.ntmps54
  go_wp2_with (first | ((with_reducible refine gate_callee (f := 32) rfl ?_); refine goesL_ (some 4) rfl rfl Tryz.func32 (by kernel_rfl) rfl #[.slice A0 l0.length c0] rfl xm ?_; (with_reducible refine (impl_IsPartition.calls k _ _ l0 true _ ?side1 ?side2 A2.out).mono ?_); (case side1 => exact xc HR0.out); (case side2 => exact HC0.out); rintro e w' ⟨rfl, ⟨nd, rfl⟩⟩; refine ⟨_, rfl, ?_⟩) | ((with_reducible refine gate_callee (f := 34) rfl ?_); refine goesL_ (some 7) rfl rfl Tryz.func34 (by kernel_rfl) rfl #[.slice A0 l0.length c0] rfl xm ?_; (with_reducible refine (impl_sum.calls k _ _ l0 t502 _ ?side1 ?side2 A4.out).mono ?_); (case side1 => exact xc HR0.out); (case side2 => exact HC0.out); rintro e w' ⟨rfl, ⟨nd, rfl⟩⟩; refine ⟨_, rfl, ?_⟩))
  go_ret
  exact ⟨by first | rfl | (simp; done) | (simp [*]; done), by repeat (first | exact Drawn0.refl _ | apply Drawn0.step)⟩
 ·replace c3 := Bool.eq_false_iff.mpr c3
  subst c3
  rw [if_neg (show ¬ (false = true) by decide)] at H
  obtain rfl := Option.some.inj H
  go_enter Tryz.func54, Tryz.ntmps54
  go_wp2_with (first | ((with_reducible refine gate_callee (f := 32) rfl ?_); refine goesL_ (some 4) rfl rfl Tryz.func32 (by kernel_rfl) rfl #[.slice A0 l0.length c0] rfl xm ?_; (with_reducible refine (impl_IsPartition.calls k _ _ l0 false _ ?side1 ?side2 A2.out).mono ?_); (case side1 => exact xc HR0.out); (case side2 => exact HC0.out); rintro e w' ⟨rfl, ⟨nd, rfl⟩⟩; refine ⟨_, rfl, ?_⟩))
  go_ret
  exact ⟨by first | rfl | (simp; done) | (simp [*]; done), by repeat (first | exact Drawn0.refl _ | apply Drawn0.step)⟩

/-! ### impl_partitions: function 81 -/
mutual
def impl_partitions.l0 : Nat → Int → List (List Int) → Int → Option ((List (List Int)))
 | 0, _, _, _ => none
 | k + 1, x0, x5, x6 => if x6 > 0 then ((impl_partitions.f k (wrap64 (x0 - x6)) x6).bind fun t512 => (impl_partitions.l1 k x0 x5 x6 t512 (t512.length : Int) 0)) else (some x5)
def impl_partitions.l1 : Nat → Int → List (List Int) → Int → List (List Int) → Int → Int → Option ((List (List Int)))
 | 0, _, _, _, _, _, _ => none
 | k + 1, x0, x5, x6, x25, x26, x27 => if x27 < x26 then (if 0 ≤ x27 then (if x27 < (x25.length : Int) then ((some (([x6] : List Int) : List Int)).bind fun y516 => (if y516.length + (rd_L2 x25 x27).length < 17592186044416 then (if x5.length < 5864062014805 then (impl_partitions.l1 k x0 (x5 ++ [(y516 ++ (rd_L2 x25 x27))]) x6 x25 x26 (wrap64 (x27 + 1))) else (none)) else (none))) else (none)) else (none)) else (impl_partitions.l0 k x0 x5 (wrap64 (x6 - 1)))
def impl_partitions.f : Nat → Int → Int → Option ((List (List Int)))
 | 0, _, _ => none
 | k + 1, a0, a1 => if a0 = 0 then (some (([(([] : List Int))] : List (List Int)))) else (impl_partitions.l0 k a0 (([] : List (List Int))) (mn a0 a1))
end
theorem impl_partitions.mono_l : ∀ k, (∀ y0 y1, LeO (impl_partitions.f k y0 y1) (impl_partitions.f (k + 1) y0 y1)) ∧ (∀ y0 y1 y2, LeO (impl_partitions.l0 k y0 y1 y2) (impl_partitions.l0 (k + 1) y0 y1 y2)) ∧ (∀ y0 y1 y2 y3 y4 y5, LeO (impl_partitions.l1 k y0 y1 y2 y3 y4 y5) (impl_partitions.l1 (k + 1) y0 y1 y2 y3 y4 y5))
 | 0 => ⟨fun _ _ r h => by simp [impl_partitions.f] at h, fun _ _ _ r h => by simp [impl_partitions.l0] at h, fun _ _ _ _ _ _ r h => by simp [impl_partitions.l1] at h⟩
 | k + 1 => by
  obtain ⟨ih0, ih1, ih2⟩ := impl_partitions.mono_l k
  refine ⟨?_, ?_, ?_⟩
  ·intro y0 y1
   unfold impl_partitions.f
   repeat' with_reducible first | exact ih0 _ _ | exact ih1 _ _ _ | exact ih2 _ _ _ _ _ _ | exact xl | refine LeO.ite ?_ ?_ | refine LeO.bind ?_ fun _ => ?_
  ·intro y0 y1 y2
   unfold impl_partitions.l0
   repeat' with_reducible first | exact ih0 _ _ | exact ih1 _ _ _ | exact ih2 _ _ _ _ _ _ | exact xl | refine LeO.ite ?_ ?_ | refine LeO.bind ?_ fun _ => ?_
  ·intro y0 y1 y2 y3 y4 y5
   unfold impl_partitions.l1
   repeat' with_reducible first | exact ih0 _ _ | exact ih1 _ _ _ | exact ih2 _ _ _ _ _ _ | exact xl | refine LeO.ite ?_ ?_ | refine LeO.bind ?_ fun _ => ?_
theorem impl_partitions.mono : ∀ a0 a1 k, LeO (impl_partitions.f k a0 a1) (impl_partitions.f (k + 1) a0 a1) := by
 intro a0 a1 k
 obtain ⟨ih0, ih1, ih2⟩ := impl_partitions.mono_l k
 exact ih0 a0 a1
theorem impl_partitions.calls (k : Nat) : ∀ (a0 : Int) (a1 : Int) (r : List (List Int)) (w : World) (h : impl_partitions.f k a0 a1 = some r),
  Calls Tryz.prog 81 #[.int .i64 a0, .int .i64 a1] w fun e w' => ∃ v0_ : Value, e = .returned (v0_) ∧ Kd.N (Kd.slice 3 (Kd.int .i64)) 24 w' w.heap.size (fun k_ => (w.heap.size ≤ k_)) v0_ r ∧ Below w.heap.size w w' := by
 induction k using Nat.strongRecOn with
 | _ k ih =>
 intro a0 a1 r w h
 cases k with
 | zero => exact absurd h (by simp [impl_partitions.f])
 | succ k =>
 simp only [impl_partitions.f] at h
 have HB := ax (Below.refl w.heap.size w)
 have H : (if a0 = 0 then (some (([(([] : List Int))] : List (List Int)))) else (impl_partitions.l0 k a0 (([] : List (List Int))) (mn a0 a1))) = some r := h
 clear h
 by_cases c3 : a0 = 0
 ·rw [if_pos c3] at H
  have c3b0 : (a0 == 0) = true := beq_iff_eq.mpr c3
  have c3b1 : (a0 != 0) = false := bne_eq_false_iff_eq.mpr c3
  clear c3
  obtain ⟨y503, hy503⟩ : ∃ y_ : List Int, y_ = (([] : List Int)) := ⟨_, rfl⟩
  replace H : (some (([y503] : List (List Int)))) = some r := xv hy503 H
  have Ny503 := ax hy503
  clear hy503
  obtain ⟨y506, hy506⟩ : ∃ y_ : List (List Int), y_ = (([y503] : List (List Int))) := ⟨_, rfl⟩
  replace H : (some y506) = some r := xv hy506 H
  have Ny506 := ax hy506
  clear hy506
  obtain rfl := Option.some.inj H
  go_enter Tryz.func81, Tryz.ntmps81
  go_wp2_with (first | ((with_reducible refine gate_dst (N := 11) rfl ?_); refine Kd.R_lit (Kd.int .i64) _ 3 ?hg (N := 11) ?hd (xs := ([] : List Int)) (inner := []) (ok := fun _ => True) (okp := fun _ => True) ?hr ?hp (fun _ hk => hk) trivial (Below.refl _ _) (Nat.le_refl _) (by simp) ?_; (case hd => rfl); (case hg => rfl); (case hr => first | (go_simp; done) | (go_simp; rfl)); (case hp => exact (Reps.none _ _)); intro v504 w4 ho5 hb hg_ hnew_; clear hg_ hnew_; (first | rw [← Ny503.out] at ho5 | (simp only [Int.reduceToNat] at ho5; rw [← Ny503.out] at ho5)); have HO505 := ax (Kd.R_lower (Kd.R_newM (M := fun k_ => (w.heap.size ≤ k_)) ho5 (below_size (xb HB.out)) (fun k_ h_ => h_)) (below_size (xb HB.out))); replace HB := yB HB hb; clear hb ho5; obtain ⟨Ao6, co6, eo6⟩ := Kd.R_slice HO505.out; subst eo6) | ((with_reducible refine gate_dst (N := 12) rfl ?_); refine Kd.N_lit (Kd.slice 3 (Kd.int .i64)) _ 24 ?hg (N' := 12) ?hd (xs := ([y503] : List (List Int))) (inner := [.slice Ao6 y503.length co6]) (ok := (fun k_ => (w.heap.size ≤ k_))) (okp := (fun k_ => (w.heap.size ≤ k_))) ?hr ?hp (fun _ hk => hk) ((show ∀ k_, w4.heap.size ≤ k_ → (fun k_ => (w.heap.size ≤ k_)) k_ from fun k_ hk => (Nat.le_trans (below_size (xb HB.out)) hk)) _ (Nat.le_refl _)) (Below.refl _ _) (Nat.le_refl _) (by simp) ?_; (case hd => rfl); (case hg => rfl); (case hr => first | (go_simp; done) | (go_simp; rfl)); (case hp => exact (Reps.one (show Kd.FK (Kd.slice 3 (Kd.int .i64)) _ _ y503 [.slice Ao6 y503.length co6] from (Kd.FK_slice_mk (Kd.R_reads' (Kd.R_mono (ok' := (fun k_ => (w.heap.size ≤ k_))) (HO505.out) (fun k_ hk => hk.1))).2.1 (Kd.R_F (Kd.R_mono (ok' := (fun k_ => (w.heap.size ≤ k_))) (HO505.out) (fun k_ hk => hk.1))))) (Reps.none _ _))); intro v507 w7 ho8 hb hg_ hnew_; clear hg_ hnew_; (first | rw [← Ny506.out] at ho8 | (simp only [Int.reduceToNat] at ho8; rw [← Ny506.out] at ho8)); have n0_ := ax (Kd.N_lower ho8 (below_size (xb HB.out))); have n1_ := ax (below_step (xb HB.out) hb); clear HB; clear HO505; have HO508 := n0_; have HB := n1_; clear n0_ n1_; clear hb ho8))
  go_ret
  exact ⟨_, xe, xN HO508.out, xb HB.out⟩
 ·rw [if_neg c3] at H
  have c3b0 : (a0 == 0) = false := beq_eq_false_iff_ne.mpr c3
  have c3b1 : (a0 != 0) = true := bne_iff_ne.mpr c3
  obtain ⟨y509, hy509⟩ : ∃ y_ : List (List Int), y_ = (([] : List (List Int))) := ⟨_, rfl⟩
  replace H : (impl_partitions.l0 k a0 y509 (mn a0 a1)) = some r := xv hy509 H
  have Ny509 := ax hy509
  clear hy509
  obtain ⟨ji9, hji9⟩ : ∃ j_ : Int, (mn a0 a1) = j_ := ⟨_, rfl⟩
  replace H : (impl_partitions.l0 k a0 y509 ji9) = some r := by first | (rw [hji9] at H; exact H) | (simp only [hji9] at H ⊢; exact H)
  have hji9_ : (if a1 < a0 then a1 else a0) = ji9 := hji9
  have H' := ax H
  clear H
  go_enter Tryz.func81, Tryz.ntmps81
  go_wp2_with (first | ((with_reducible refine gate_dst (N := 13) rfl ?_); refine Kd.N_lit (Kd.slice 3 (Kd.int .i64)) _ 24 ?hg (N' := 13) ?hd (xs := ([] : List (List Int))) (inner := []) (ok := (fun k_ => (w.heap.size ≤ k_))) (okp := (fun k_ => (w.heap.size ≤ k_))) ?hr ?hp (fun _ hk => hk) ((show ∀ k_, w.heap.size ≤ k_ → (fun k_ => (w.heap.size ≤ k_)) k_ from fun k_ hk => (Nat.le_trans (below_size (xb HB.out)) hk)) _ (Nat.le_refl _)) (Below.refl _ _) (Nat.le_refl _) (by simp) ?_; (case hd => rfl); (case hg => rfl); (case hr => first | (go_simp; done) | (go_simp; rfl)); (case hp => exact (Reps.none _ _)); intro v510 w10 ho11 hb hg_ hnew_; clear hg_ hnew_; (first | rw [← Ny509.out] at ho11 | (simp only [Int.reduceToNat] at ho11; rw [← Ny509.out] at ho11)); have HO511 := ax (Kd.N_lower ho11 (below_size (xb HB.out))); replace HB := yB HB hb; clear hb ho11))
  go_loopg [5, 6] k (fun kq v5 v6 w' => ∃ (x5_1 : List (List Int)) (x6_1 : Int), v6 = .int .i64 x6_1 ∧ Aside0 (impl_partitions.l0 kq a0 x5_1 x6_1 = some r) ∧ Aside0 (kq ≤ k) ∧ Aside0 (Kd.N (Kd.slice 3 (Kd.int .i64)) 24 w' w.heap.size (fun k_ => (w.heap.size ≤ k_)) v5 x5_1) ∧ Aside0 (Below w.heap.size w w'))
  case atStart => exact ⟨(y509), (ji9), (by first | rfl | (simp; done) | (simp only [← hji9] <;> (first | rfl | simp)) | (simp [*]; done)), H', ⟨Nat.le_refl _⟩, ⟨xN HO511.out⟩, ⟨xb HB.out⟩⟩
  case round =>
   clear H'
   (try clear c3); (try clear c3b0); (try clear c3b1)
   obtain ⟨x5_1, x6_1, rfl, HA, HK1, HO_5, HB⟩ := hrel
   cases gk with
   | zero => exact absurd HA.out (by simp [impl_partitions.l0])
   | succ k1 =>
    have H := HA.out
    clear HA
    simp only [impl_partitions.l0] at H
    by_cases c12 : x6_1 > 0
    ·rw [if_pos c12] at H
     have c12b0 : decide (0 < x6_1) = true := decide_eq_true c12
     clear c12
     obtain ⟨t512, A13, H⟩ := xI H
     have H' := ax H
     clear H
     go_wp2_with (first | ((with_reducible refine gate_callee (f := 81) rfl ?_); refine goesL_ (some 25) rfl rfl Tryz.func81 (by kernel_rfl) rfl #[.int .i64 (wrap64 (a0 - x6_1)), .int .i64 x6_1] rfl xm ?_; (with_reducible refine (ih k1 (by have := HK1.out; omega) (wrap64 (a0 - x6_1)) x6_1 t512 _ A13.out).mono ?_); rintro e w14 ⟨v513, rfl, ho0, hb⟩; refine ⟨_, rfl, ?_⟩; have HO514 := ax (Kd.N_lower (Kd.N_mono (ok' := fun k_ => (w.heap.size ≤ k_) ∧ some k_ ≠ (u5 : Value).ownBlock) ho0 (fun k_ hk_ => ⟨(Nat.le_trans (below_size (xb HB.out)) hk_), (Kd.fresh' (Kd.N_lt (xN HO_5.out)) k_ hk_)⟩)) (below_size (xb HB.out))); replace HO_5 := ax (Kd.N_elder' (xN HO_5.out) (by first | exact Kd.N_base ho0 | exact Kd.S_base ho0 | exact Kd.R_base ho0) hb); replace HB := yB HB hb; (try clear hb); (try clear ho0); obtain ⟨Ao15, co15, eo15⟩ := Kd.N_slice HO514.out; subst eo15))
     go_loopg [5, 27] k1 (fun kq v5 v27 w' => ∃ (x5_2 : List (List Int)) (x27_2 : Int), v27 = .int .i64 x27_2 ∧ Aside0 (impl_partitions.l1 kq a0 x5_2 x6_1 t512 (t512.length : Int) x27_2 = some r) ∧ Aside0 (kq ≤ k1) ∧ Aside0 (Kd.N (Kd.slice 3 (Kd.int .i64)) 24 w' w.heap.size (fun k_ => (w.heap.size ≤ k_) ∧ some k_ ≠ ((.slice Ao15 t512.length co15) : Value).ownBlock) v5 x5_2) ∧ Aside0 (Kd.N (Kd.slice 3 (Kd.int .i64)) 24 w' w.heap.size (fun k_ => (w.heap.size ≤ k_) ∧ some k_ ≠ (v5 : Value).ownBlock) (.slice Ao15 t512.length co15) t512) ∧ Aside0 (Below w.heap.size w w'))
     case atStart => exact ⟨(x5_1), (0), xr, H', ⟨Nat.le_refl _⟩, ⟨xN HO_5.out⟩, ⟨xN HO514.out⟩, ⟨xb HB.out⟩⟩
     case round =>
      clear H'
      (try clear c3); (try clear c3b0); (try clear c3b1); (try clear c12); (try clear c12b0)
      obtain ⟨x5_2, x27_2, rfl, HA, HK2, HO_5, HO_25, HB⟩ := hrel
      cases gk with
      | zero => exact absurd HA.out (by simp [impl_partitions.l1])
      | succ k2 =>
       have H := HA.out
       clear HA
       simp only [impl_partitions.l1] at H
       by_cases c16 : x27_2 < (t512.length : Int)
       ·rw [if_pos c16] at H
        have c16b0 := decide_eq_true c16
        clear c16
        obtain ⟨c17b0, H⟩ := xq H
        obtain ⟨c18b0, H⟩ := xq H
        obtain ⟨y516, Ny516, H⟩ := xg H
        obtain ⟨c19, H⟩ := xp H
        have LMc19 := ax c19
        clear c19
        obtain ⟨y519, hy519⟩ : ∃ y_ : List Int, y_ = (y516 ++ (rd_L2 t512 x27_2)) := ⟨_, rfl⟩
        replace H : (if x5_2.length < 5864062014805 then (impl_partitions.l1 k2 a0 (x5_2 ++ [y519]) x6_1 t512 (t512.length : Int) (wrap64 (x27_2 + 1))) else (none)) = some r := xv hy519 H
        have Ny519 := ax hy519
        clear hy519
        obtain ⟨c20, H⟩ := xp H
        have LMc20 := ax c20
        clear c20
        obtain ⟨y522, hy522⟩ : ∃ y_ : List (List Int), y_ = (x5_2 ++ [y519]) := ⟨_, rfl⟩
        replace H : (impl_partitions.l1 k2 a0 y522 x6_1 t512 (t512.length : Int) (wrap64 (x27_2 + 1))) = some r := xv hy522 H
        have Ny522 := ax hy522
        clear hy522
        have H' := ax H
        clear H
        have p515 : 0 ≤ (x27_2 : Int) := xd
        have q515 : x27_2 < (t512.length : Int) := xd
        obtain ⟨ad515, A515_0, c515_0, e515, hx515_0, hl515_0, hi515_0⟩ := at_L2 (Kd.N_reads' HO_25.out).2.2 x27_2 p515 q515
        cases e515
        obtain ⟨ce515, hce515, hMe515, hcc515⟩ := Kd.N_get HO_25.out [] x27_2 p515 (by first | exact q515 | exact xd | (have e_ := (Kd.N_reads' HO_25.out).1; omega))
        obtain ⟨ua515_0, uc515_0, rfl, ul515_0, ge515_0⟩ := Kd.FK_slice_open hMe515
        have hv515_0 := hcc515 0 _ rfl
        rw [Nat.add_zero, show ((Kd.slice 3 (Kd.int .i64))).sz = 1 from rfl, Nat.mul_one] at hv515_0
        replace hv515_0 := Option.some.inj (hv515_0.symm.trans hx515_0)
        injection hv515_0 with hva_ hvn_ hvc_
        rw [hva_] at ge515_0
        rw [hvc_] at ul515_0
        have HL515_0 := ax (show Kd.V (Kd.int .i64) 3 _ w.heap.size _ _ (rd_L2 t512 x27_2) from Kd.V_mk ul515_0 ge515_0)
        clear hva_ hvn_ hvc_ ge515_0 ul515_0 hcc515 hce515
        have HR515_0 := ax hi515_0
        have HC515_0 := ax hl515_0
        clear hi515_0 hl515_0
        replace p515 := eq_true p515
        replace q515 := eq_true q515
        go_wp2_with (first | ((with_reducible refine gate_dst (N := 33) rfl ?_); refine Kd.R_lit (Kd.int .i64) _ 3 ?hg (N := 33) ?hd (xs := ([x6_1] : List Int)) (inner := [.int .i64 x6_1]) (ok := fun _ => True) (okp := fun _ => True) ?hr ?hp (fun _ hk => hk) trivial (Below.refl _ _) (Nat.le_refl _) (by simp) ?_; (case hd => rfl); (case hg => rfl); (case hr => first | (go_simp; done) | (go_simp; rfl)); (case hp => exact (Reps.one (show Kd.M (Kd.int .i64) _ _ _ x6_1 [.int .i64 x6_1] from rfl) (Reps.none _ _))); intro v517 w21 ho22 hb hg_ hnew_; clear hg_ hnew_; (first | rw [← Ny516.out] at ho22 | (simp only [Int.reduceToNat] at ho22; rw [← Ny516.out] at ho22)); replace HO_5 := ax (Kd.N_elder' (xN HO_5.out) (Kd.R_base ho22) hb); replace HO_25 := ax (Kd.N_elder' (xN HO_25.out) (Kd.R_base ho22) hb); replace HL515_0 := ax (Kd.V_elder' (xV HL515_0.out) (Kd.R_base ho22) hb); have HO518 := ax (Kd.R_lower (Kd.R_newM (M := fun k_ => (w.heap.size ≤ k_)) ho22 (below_size (xb HB.out)) (fun k_ h_ => h_)) (below_size (xb HB.out))); replace HR515_0 := ax (Kd.C_below (xw HR515_0.out) hb); replace HB := yB HB hb; clear hb ho22) | ((with_reducible refine gate_builtin (b := .append) (xs := #[.tmp 33, .tmp 34]) rfl ?_); at_builtin; refine Kd.R_append_rows (Kd.int .i64) (w0 := w) w.heap.size rfl (.tmp 33) (.tmp 34) 24 3 (.int .i64 0) 8 rfl Tryz.underlying24 info3 rfl (by decide) (by omega) v517 y516 (rd_L2 t512 x27_2) _ _ _ (fun k_ => (w.heap.size ≤ k_)) (fun _ => False) rfl rfl ?aO ?aR (fun _ _ h => h) (fun _ h => h.elim) ?aF ?aB ?aS ?aL ?_; (case aR => exact xw HR515_0.out); (case aB => exact (xb HB.out)); (case aF => exact (fun k_ hk => (Nat.le_trans (below_size (xb HB.out)) hk))); (case aO => exact (by (with_reducible repeat (first | apply Kd.R_alloc | apply Kd.R_drewN | apply Kd.R_drew)); exact Kd.R_mono HO518.out (fun _ hk => hk.1))); (case aS => exact (below_size (xb HB.out))); (case aL => have := LMc19.out; omega); intro v520 w23 ho hb hg hat; rw [← Ny519.out] at ho; have n0_ := ax (Kd.N_afterv (ok := (fun k_ => (w.heap.size ≤ k_) ∧ some k_ ≠ (.slice (some ad515) t512.length co15 : Value).ownBlock)) (xN HO_5.out) hg hat); have n1_ := ax (Kd.N_afterv (ok := (fun k_ => (w.heap.size ≤ k_) ∧ some k_ ≠ (u5 : Value).ownBlock)) (xN HO_25.out) hg hat); have n2_ := ax (Kd.V_afterv (ok := (fun k_ => (w.heap.size ≤ k_) ∧ some k_ ≠ (u5 : Value).ownBlock ∧ some k_ ≠ (.slice (some ad515) t512.length co15 : Value).ownBlock)) (by (with_reducible repeat (first | apply Kd.V_alloc | apply Kd.V_drewN | apply Kd.V_drew)); exact Kd.V_mono HL515_0.out (fun _ hk => ⟨⟨hk.1.1.1, ⟨hk.1.1.2, hk.1.2⟩⟩, hk.2⟩)) hg hat); have n3_ := ax (hb); have n4_ := ax (ho); clear HO_5; clear HO_25; clear HL515_0; clear HB; clear HO518; have HO_5 := n0_; have HO_25 := n1_; have HL515_0 := n2_; have HB := n3_; have HO521 := n4_; clear n0_ n1_ n2_ n3_ n4_; clear ho hb hg hat; obtain ⟨Ao25, co25, eo25⟩ := Kd.R_slice HO521.out; subst eo25) | ((with_reducible refine gate_builtin (b := .append) (xs := #[.tmp 31, .tmp 36]) rfl ?_); at_builtin; refine Kd.N_append (Kd.slice 3 (Kd.int .i64)) (w0 := w) w.heap.size rfl (.tmp 31) (.tmp 36) 36 24 (.slice none 0 0) 24 rfl Tryz.underlying36 info24 rfl (by decide) (by omega) u5 x5_2 y519 [.slice Ao25 y519.length co25] (fun k_ => (w.heap.size ≤ k_) ∧ some k_ ≠ (.slice (some ad515) t512.length co15 : Value).ownBlock) (fun k_ => ((fun k_ => (w.heap.size ≤ k_) ∧ some k_ ≠ (.slice (some ad515) t512.length co15 : Value).ownBlock)) k_ ∧ some k_ ≠ (u5 : Value).ownBlock) rfl rfl ?aP (fun _ hk => hk) ?aF ?aO ?aB ?aS ?aL ?_; (case aP => exact (Kd.FK_slice_mk (Kd.R_reads' (Kd.R_mono (ok' := (fun k_ => ((fun k_ => (w.heap.size ≤ k_) ∧ some k_ ≠ (.slice (some ad515) t512.length co15 : Value).ownBlock)) k_ ∧ some k_ ≠ (u5 : Value).ownBlock)) (Kd.R_apart' (Kd.R_apart' (HO521.out) (Kd.N_typed HO_25.out) (by decide)) (Kd.N_typed HO_5.out) (by decide)) (fun k_ hk => ⟨⟨hk.1.1, hk.1.2⟩, hk.2⟩))).2.1 (Kd.R_F (Kd.R_mono (ok' := (fun k_ => ((fun k_ => (w.heap.size ≤ k_) ∧ some k_ ≠ (.slice (some ad515) t512.length co15 : Value).ownBlock)) k_ ∧ some k_ ≠ (u5 : Value).ownBlock)) (Kd.R_apart' (Kd.R_apart' (HO521.out) (Kd.N_typed HO_25.out) (by decide)) (Kd.N_typed HO_5.out) (by decide)) (fun k_ hk => ⟨⟨hk.1.1, hk.1.2⟩, hk.2⟩))))); (case aB => exact (xb HB.out)); (case aF => exact (fun k_ hk => ⟨(Nat.le_trans (below_size (xb HB.out)) hk), Kd.fresh' (Kd.N_lt (xN HO_25.out)) k_ hk⟩)); (case aO => exact (by (with_reducible repeat (first | apply Kd.N_alloc | apply Kd.N_drewN | apply Kd.N_drew)); exact Kd.N_mono HO_5.out (fun _ hk => ⟨hk.1.1, hk.1.2⟩))); (case aS => exact (below_size (xb HB.out))); (case aL => have := LMc20.out; omega); intro v523 w24 ho hb hg hat; rw [← Ny522.out] at ho; have n0_ := ax (Kd.N_afterv (ok := (fun k_ => (w.heap.size ≤ k_) ∧ some k_ ≠ (.slice Ao25 y519.length co25 : Value).ownBlock)) (by (with_reducible repeat (first | apply Kd.N_alloc | apply Kd.N_drewN | apply Kd.N_drew)); exact Kd.N_mono HO_25.out (fun _ hk => ⟨⟨hk.1.1, hk.2⟩, hk.1.2⟩)) hg hat); have n1_ := ax (Kd.V_afterv (ok := (fun k_ => (w.heap.size ≤ k_) ∧ some k_ ≠ (.slice (some ad515) t512.length co15 : Value).ownBlock ∧ some k_ ≠ (.slice Ao25 y519.length co25 : Value).ownBlock)) (by (with_reducible repeat (first | apply Kd.V_alloc | apply Kd.V_drewN | apply Kd.V_drew)); exact Kd.V_mono HL515_0.out (fun _ hk => ⟨⟨hk.1.1, ⟨hk.1.2.2, hk.2⟩⟩, hk.1.2.1⟩)) hg hat); have n2_ := ax (hb); have n3_ := ax (ho); clear HO_25; clear HL515_0; clear HB; clear HO_5; clear HO521; have HO_25 := n0_; have HL515_0 := n1_; have HB := n2_; have HO524 := n3_; clear n0_ n1_ n2_ n3_; clear ho hb hg hat))
        go_roundg k2
        case measure => have := HK1.out; have := HK2.out; omega
        case rel => exact ⟨(y522), (wrap64 (x27_2 + 1)), xr, H', ⟨by have := HK1.out; have := HK2.out; omega⟩, ⟨xN HO524.out⟩, ⟨by (with_reducible repeat (first | apply Kd.N_alloc | apply Kd.N_drewN | apply Kd.N_drew)); exact Kd.N_mono HO_25.out (fun _ hk => ⟨hk.1.1, hk.2⟩)⟩, ⟨xb HB.out⟩⟩
       ·rw [if_neg c16] at H
        have c16b0 := decide_eq_false c16
        clear c16
        have H' := ax H
        clear H
        go_wp2
        go_roundg k2
        case measure => have := HK1.out; have := HK2.out; omega
        case rel => exact ⟨(x5_2), (wrap64 (x6_1 - 1)), xr, H', ⟨by have := HK1.out; have := HK2.out; omega⟩, ⟨by (with_reducible repeat (first | apply Kd.N_alloc | apply Kd.N_drewN | apply Kd.N_drew)); exact Kd.N_mono HO_5.out (fun _ hk => hk.1)⟩, ⟨xb HB.out⟩⟩
    ·rw [if_neg c12] at H
     have c12b0 : decide (0 < x6_1) = false := decide_eq_false c12
     clear c12
     obtain rfl := Option.some.inj H
     go_wp2
     go_ret
     exact ⟨_, by first | rfl | (simp [errW_none, errW_some] <;> rfl) | (simp only [← hji9]; first | rfl | (simp [errW_none, errW_some] <;> rfl)) | (simp [*, errW_none, errW_some] <;> rfl), xN HO_5.out, xb HB.out⟩

/-! ### impl_PartitionsOf: function 56 -/
def impl_PartitionsOf.f (k : Nat) (a0 : Int) : Option ((List (List Int))) := (impl_within.f a0 0 9).bind fun t525 => (if t525 = true then ((impl_partitions.f k a0 a0).bind fun t526 => (some t526)) else (some ([] : List (List Int))))
theorem impl_PartitionsOf.mono : ∀ a0 k, LeO (impl_PartitionsOf.f k a0) (impl_PartitionsOf.f (k + 1) a0) := by
 intro a0 k
 unfold impl_PartitionsOf.f
 repeat' with_reducible first | exact impl_partitions.mono _ _ _ | exact xl | refine LeO.ite ?_ ?_ | refine LeO.bind ?_ fun _ => ?_
theorem impl_PartitionsOf.calls (k : Nat) (a0 : Int) (r : List (List Int)) (w : World) (h : impl_PartitionsOf.f k a0 = some r) :
  Calls Tryz.prog 56 #[.int .i64 a0] w fun e w' => ∃ v0_ : Value, e = .returned (v0_) ∧ Kd.N (Kd.slice 3 (Kd.int .i64)) 24 w' w.heap.size (fun k_ => (w.heap.size ≤ k_)) v0_ r ∧ Below w.heap.size w w' := by
 have HB := ax (Below.refl w.heap.size w)
 have H : ((impl_within.f a0 0 9).bind fun t525 => (if t525 = true then ((impl_partitions.f k a0 a0).bind fun t526 => (some t526)) else (some ([] : List (List Int))))) = some r := h
 clear h
 obtain ⟨t525, A2, H⟩ := xI H
 by_cases c3 : t525 = true
 ·subst c3
  rw [if_pos rfl] at H
  obtain ⟨t526, A4, H⟩ := xI H
  obtain rfl := Option.some.inj H
  go_enter Tryz.func56, Tryz.ntmps56
  go_wp2_with (first | ((with_reducible refine gate_callee (f := 55) rfl ?_); refine goesL_ (some 4) rfl rfl Tryz.func55 (by kernel_rfl) rfl #[.int .i64 a0, .int .i64 0, .int .i64 9] rfl xm ?_; (with_reducible refine (impl_within.calls a0 0 9 true _ A2.out).mono ?_); rintro e w' ⟨rfl, ⟨nd, rfl⟩⟩; refine ⟨_, rfl, ?_⟩) | ((with_reducible refine gate_callee (f := 81) rfl ?_); refine goesL_ (some 8) rfl rfl Tryz.func81 (by kernel_rfl) rfl #[.int .i64 a0, .int .i64 a0] rfl xm ?_; (with_reducible refine (impl_partitions.calls k a0 a0 t526 _ A4.out).mono ?_); rintro e w5 ⟨v527, rfl, ho0, hb⟩; refine ⟨_, rfl, ?_⟩; have HO528 := ax (Kd.N_lower (Kd.N_mono (ok' := fun k_ => (w.heap.size ≤ k_)) ho0 (fun k_ hk_ => (Nat.le_trans (below_size (xb HB.out)) hk_))) (below_size (xb HB.out))); replace HB := yB HB hb; (try clear hb); (try clear ho0)))
  go_ret
  exact ⟨_, xe, xN HO528.out, xb HB.out⟩
 ·replace c3 := Bool.eq_false_iff.mpr c3
  subst c3
  rw [if_neg (show ¬ (false = true) by decide)] at H
  obtain rfl := Option.some.inj H
  go_enter Tryz.func56, Tryz.ntmps56
  go_wp2_with (first | ((with_reducible refine gate_callee (f := 55) rfl ?_); refine goesL_ (some 4) rfl rfl Tryz.func55 (by kernel_rfl) rfl #[.int .i64 a0, .int .i64 0, .int .i64 9] rfl xm ?_; (with_reducible refine (impl_within.calls a0 0 9 false _ A2.out).mono ?_); rintro e w' ⟨rfl, ⟨nd, rfl⟩⟩; refine ⟨_, rfl, ?_⟩))
  go_ret
  exact ⟨_, xe, by first | exact Kd.S_nil _ _ _ _ _ | exact Kd.N_nil _ _ _ _ _ | exact Kd.V_nil _ _ _ _ _ | exact Kd.Q_nil _ _ _ _ _ | exact Kd.R_nil _ _ _ _ _, xb HB.out⟩

-- NOT PRINTED: function 104 (impl_chosen)

-- NOT PRINTED: function 105 (impl_removed_1)

-- NOT PRINTED: function 96 (impl_removed)

/-! ### impl_at: function 107 -/
def impl_at.f (l0 : List Int) (a1 : Int) : Option (Int) := (impl_within.f a1 0 (wrap64 ((l0.length : Int) - 1))).bind fun t529 => (if t529 = true then (if 0 ≤ a1 then (if a1 < (l0.length : Int) then (some (rd l0 a1)) else (none)) else (none)) else (some 0))
theorem impl_at.calls (A0 : Option Addr) (c0 : Nat) (l0 : List Int) (a1 : Int) (r : Int) (w : World) (hr0 : Kd.C (Kd.int .i64) w A0 l0.length l0) (hc0 : l0.length ≤ c0) (h : impl_at.f l0 a1 = some r) :
  Calls Tryz.prog 107 #[.slice A0 l0.length c0, .int .i64 a1] w fun e w' => e = .returned (.int .i64 r) ∧ Drawn0 w w' := by
 have HR0 := ax hr0
 have HC0 := ax hc0
 clear hr0 hc0
 have H : ((impl_within.f a1 0 (wrap64 ((l0.length : Int) - 1))).bind fun t529 => (if t529 = true then (if 0 ≤ a1 then (if a1 < (l0.length : Int) then (some (rd l0 a1)) else (none)) else (none)) else (some 0))) = some r := h
 clear h
 obtain ⟨t529, A3, H⟩ := xI H
 by_cases c4 : t529 = true
 ·subst c4
  rw [if_pos rfl] at H
  obtain ⟨c5b0, H⟩ := xq H
  obtain ⟨c6b0, H⟩ := xq H
  obtain rfl := Option.some.inj H
  go_enter Tryz.func107, Tryz.ntmps107
  go_wp2_with (first | ((with_reducible refine gate_callee (f := 55) rfl ?_); refine goesL_ (some 9) rfl rfl Tryz.func55 (by kernel_rfl) rfl #[.int .i64 a1, .int .i64 0, .int .i64 (wrap64 ((l0.length : Int) - 1))] rfl xm ?_; (with_reducible refine (impl_within.calls a1 0 (wrap64 ((l0.length : Int) - 1)) true _ A3.out).mono ?_); rintro e w' ⟨rfl, ⟨nd, rfl⟩⟩; refine ⟨_, rfl, ?_⟩; have p530 : 0 ≤ (a1 : Int) := xd; have q530 : a1 < (l0.length : Int) := xd; obtain ⟨ad530, e530, hx530_0⟩ := Kd.at_int HR0.out a1 p530 q530; cases e530; replace p530 := eq_true p530; replace q530 := eq_true q530))
  go_ret
  exact ⟨by first | rfl | (simp; done) | (simp [*]; done), by repeat (first | exact Drawn0.refl _ | apply Drawn0.step)⟩
 ·replace c4 := Bool.eq_false_iff.mpr c4
  subst c4
  rw [if_neg (show ¬ (false = true) by decide)] at H
  obtain rfl := Option.some.inj H
  go_enter Tryz.func107, Tryz.ntmps107
  go_wp2_with (first | ((with_reducible refine gate_callee (f := 55) rfl ?_); refine goesL_ (some 9) rfl rfl Tryz.func55 (by kernel_rfl) rfl #[.int .i64 a1, .int .i64 0, .int .i64 (wrap64 ((l0.length : Int) - 1))] rfl xm ?_; (with_reducible refine (impl_within.calls a1 0 (wrap64 ((l0.length : Int) - 1)) false _ A3.out).mono ?_); rintro e w' ⟨rfl, ⟨nd, rfl⟩⟩; refine ⟨_, rfl, ?_⟩))
  go_ret
  exact ⟨by first | rfl | (simp; done) | (simp [*]; done), by repeat (first | exact Drawn0.refl _ | apply Drawn0.step)⟩

/-! ### impl_filledRows: function 98 -/
def impl_filledRows.l0 : Nat → List Int → List Int → Int → Int → List Int → List Int → Option (List Int)
 | 0, _, _, _, _, _, _ => none
 | k + 1, x3, x8, x9, x10, x532000, x532001 => if x10 < x9 then (if 0 ≤ x10 then (if x10 < (x8.length : Int) then ((impl_at.f x532001 x10).bind fun t536 => (if (rd x8 x10) > t536 then (if x3.length < 17592186044416 then (impl_filledRows.l0 k (x3 ++ [x10]) x8 x9 (wrap64 (x10 + 1)) x532000 x532001) else (none)) else (impl_filledRows.l0 k x3 x8 x9 (wrap64 (x10 + 1)) x532000 x532001))) else (none)) else (none)) else (some x3)
def impl_filledRows.f (k : Nat) (l0_0 : List Int) (l0_1 : List Int) : Option (List Int) := impl_filledRows.l0 k (([] : List Int)) l0_0 (l0_0.length : Int) 0 l0_0 l0_1
theorem impl_filledRows.mono_l : ∀ k, (∀ y0 y1 y2 y3 y4 y5, LeO (impl_filledRows.l0 k y0 y1 y2 y3 y4 y5) (impl_filledRows.l0 (k + 1) y0 y1 y2 y3 y4 y5))
 | 0 => fun _ _ _ _ _ _ r h => by simp [impl_filledRows.l0] at h
 | k + 1 => by
  have ih0 := impl_filledRows.mono_l k
  ·intro y0 y1 y2 y3 y4 y5
   unfold impl_filledRows.l0
   repeat' with_reducible first | exact ih0 _ _ _ _ _ _ | exact xl | refine LeO.ite ?_ ?_ | refine LeO.bind ?_ fun _ => ?_
theorem impl_filledRows.mono : ∀ a0 a1 k, LeO (impl_filledRows.f k a0 a1) (impl_filledRows.f (k + 1) a0 a1) := by
 intro a0 a1 k
 have ih0 := impl_filledRows.mono_l k
 unfold impl_filledRows.f
 repeat' with_reducible first | exact ih0 _ _ _ _ _ _ | exact xl | refine LeO.ite ?_ ?_ | refine LeO.bind ?_ fun _ => ?_
theorem impl_filledRows.calls (k : Nat) (A0_0 : Option Addr) (c0_0 : Nat) (l0_0 : List Int) (A0_1 : Option Addr) (c0_1 : Nat) (l0_1 : List Int) (r : List Int) (w : World) (hr0_0 : Kd.C (Kd.int .i64) w A0_0 l0_0.length l0_0) (hc0_0 : l0_0.length ≤ c0_0) (hr0_1 : Kd.C (Kd.int .i64) w A0_1 l0_1.length l0_1) (hc0_1 : l0_1.length ≤ c0_1) (h : impl_filledRows.f k l0_0 l0_1 = some r) :
  Calls Tryz.prog 98 #[.agg #[.slice A0_0 l0_0.length c0_0, .slice A0_1 l0_1.length c0_1]] w fun e w' => ∃ v0_ : Value, e = .returned (v0_) ∧ Kd.R (Kd.int .i64) 3 w' w.heap.size (fun _ => True) v0_ r ∧ Below w.heap.size w w' := by
 have hu61 := Tryz.underlying61
 have HR0_0 := ax hr0_0
 have HC0_0 := ax hc0_0
 clear hr0_0 hc0_0
 have HR0_1 := ax hr0_1
 have HC0_1 := ax hc0_1
 clear hr0_1 hc0_1
 have HB := ax (Below.refl w.heap.size w)
 have H : (impl_filledRows.l0 k (([] : List Int)) l0_0 (l0_0.length : Int) 0 l0_0 l0_1) = some r := h
 clear h
 obtain ⟨y532, hy532⟩ : ∃ y_ : List Int, y_ = (([] : List Int)) := ⟨_, rfl⟩
 replace H : (impl_filledRows.l0 k y532 l0_0 (l0_0.length : Int) 0 l0_0 l0_1) = some r := xv hy532 H
 have Ny532 := ax hy532
 clear hy532
 have H' := ax H
 clear H
 go_enter Tryz.func98, Tryz.ntmps98
 go_wp2_with (first | ((with_reducible refine gate_dst (N := 1) rfl ?_); refine box_event ?hg (N := 1) ?hd (cs := #[.slice A0_0 l0_0.length c0_0, .slice A0_1 l0_1.length c0_1]) (t := 61) ?hr ?_; (case hd => rfl); (case hg => rfl); (case hr => first | (go_simp; done) | (go_simp; rfl)); intro gb531 hg w2 hbox hb; have BK531 := ax (hbox); have GW531 := ax ((by rw [hg]; exact (below_size (xb HB.out)) : w.heap.size ≤ gb531)); have GE531 := ax ((by rw [hg]; exact (below_size (xb HB.out)) : w.heap.size ≤ gb531)); replace HB := yB HB hb; clear hb hbox hg) | ((with_reducible refine gate_dst (N := 6) rfl ?_); refine Kd.R_lit (Kd.int .i64) _ 3 ?hg (N := 6) ?hd (xs := ([] : List Int)) (inner := []) (ok := fun _ => True) (okp := fun _ => True) ?hr ?hp (fun _ hk => hk) trivial (Below.refl _ _) (Nat.le_refl _) (by simp) ?_; (case hd => rfl); (case hg => rfl); (case hr => first | (go_simp; done) | (go_simp; rfl)); (case hp => exact (Reps.none _ _)); intro v533 w3 ho4 hb hg_ hnew_; clear hg_ hnew_; (first | rw [← Ny532.out] at ho4 | (simp only [Int.reduceToNat] at ho4; rw [← Ny532.out] at ho4)); have HO534 := ax (Kd.R_lower ho4 (below_size (xs HB.out GE531.out))); replace BK531 := ax (blk_below (g := gb531) (o := .cells #[.slice A0_0 l0_0.length c0_0, .slice A0_1 l0_1.length c0_1] 61 (0, 0)) (xk BK531.out) hb); replace HB := ax (below_step (xs HB.out GE531.out) hb); clear hb ho4; have hcz5_0 : w3.cell? ⟨gb531, 0, none⟩ = some (.slice A0_0 l0_0.length c0_0) := (blk_cell BK531.out 0).trans rfl; have hcz5_1 : w3.cell? ⟨gb531, 1, none⟩ = some (.slice A0_1 l0_1.length c0_1) := (blk_cell BK531.out 1).trans rfl; have hfz5_0 := blk_frozen BK531.out 0; have hfz5_1 := blk_frozen BK531.out 1))
 go_loopg [3, 10] k (fun kq v3 v10 w' => ∃ (x3_1 : List Int) (x10_1 : Int), v10 = .int .i64 x10_1 ∧ Aside0 (impl_filledRows.l0 kq x3_1 l0_0 (l0_0.length : Int) x10_1 l0_0 l0_1 = some r) ∧ Aside0 (kq ≤ k) ∧ Aside0 (Kd.R (Kd.int .i64) 3 w' w.heap.size (fun _ => True) v3 x3_1) ∧ Aside0 (w'.heap[gb531]? = some (.cells #[(.slice A0_0 l0_0.length c0_0), (.slice A0_1 l0_1.length c0_1)] 61 (0, 0))) ∧ Aside0 (Below w.heap.size w w'))
 case atStart => exact ⟨(y532), (0), xr, H', ⟨Nat.le_refl _⟩, ⟨xR HO534.out⟩, ⟨xk BK531.out⟩, ⟨xs HB.out GE531.out⟩⟩
 case round =>
  clear H'
  (try clear hcz5_0); (try clear hcz5_1); (try clear hfz5_0); (try clear hfz5_1)
  obtain ⟨x3_1, x10_1, rfl, HA, HK1, HO_3, BK531, HB⟩ := hrel
  cases gk with
  | zero => exact absurd HA.out (by simp [impl_filledRows.l0])
  | succ k1 =>
   have H := HA.out
   clear HA
   simp only [impl_filledRows.l0] at H
   by_cases c6 : x10_1 < (l0_0.length : Int)
   ·rw [if_pos c6] at H
    have c6b0 := decide_eq_true c6
    clear c6
    obtain ⟨c7b0, H⟩ := xq H
    obtain ⟨c8b0, H⟩ := xq H
    obtain ⟨t536, A9, H⟩ := xI H
    by_cases c10 : (rd l0_0 x10_1) > t536
    ·rw [if_pos c10] at H
     have c10b0 : decide (t536 < (rd l0_0 x10_1)) = true := decide_eq_true c10
     clear c10
     obtain ⟨c11, H⟩ := xp H
     have LMc11 := ax c11
     clear c11
     obtain ⟨y537, hy537⟩ : ∃ y_ : List Int, y_ = (x3_1 ++ [x10_1]) := ⟨_, rfl⟩
     replace H : (impl_filledRows.l0 k1 y537 l0_0 (l0_0.length : Int) (wrap64 (x10_1 + 1)) l0_0 l0_1) = some r := xv hy537 H
     have Ny537 := ax hy537
     clear hy537
     have H' := ax H
     clear H
     have p535 : 0 ≤ (x10_1 : Int) := xd
     have q535 : x10_1 < (l0_0.length : Int) := xd
     obtain ⟨ad535, e535, hx535_0⟩ := Kd.at_int HR0_0.out x10_1 p535 q535
     cases e535
     (try replace hx535_0 := (HB.out.cell (World.block_lt_of_cell? w _ hx535_0)).trans hx535_0)
     replace p535 := eq_true p535
     replace q535 := eq_true q535
     have hcz12_0 : wr.cell? ⟨gb531, 0, none⟩ = some (.slice (some ad535) l0_0.length c0_0) := (blk_cell BK531.out 0).trans rfl
     have hcz12_1 : wr.cell? ⟨gb531, 1, none⟩ = some (.slice A0_1 l0_1.length c0_1) := (blk_cell BK531.out 1).trans rfl
     have hfz12_0 := blk_frozen BK531.out 0
     have hfz12_1 := blk_frozen BK531.out 1
     go_wp2_with (first | ((with_reducible refine gate_callee (f := 107) rfl ?_); refine goesL_ (some 19) rfl rfl Tryz.func107 (by kernel_rfl) rfl #[.slice A0_1 l0_1.length c0_1, .int .i64 x10_1] rfl xm ?_; (with_reducible refine (impl_at.calls _ _ l0_1 x10_1 t536 _ ?side1 ?side2 A9.out).mono ?_); (case side1 => exact xz HR0_1.out HB.out); (case side2 => exact HC0_1.out); rintro e w' ⟨rfl, ⟨nd, rfl⟩⟩; refine ⟨_, rfl, ?_⟩) | ((with_reducible refine gate_builtin (b := .append) (xs := #[.tmp 21, .tmp 23]) rfl ?_); at_builtin; refine Kd.R_append (Kd.int .i64) (w0 := w) w.heap.size rfl (.tmp 21) (.tmp 23) 24 3 (.int .i64 0) 8 rfl Tryz.underlying24 info3 rfl (by decide) (by omega) u3 x3_1 x10_1 [.int .i64 x10_1] (fun _ => True) (fun _ => False) rfl rfl ?aP (fun _ hk => hk.elim) ?aF ?aO ?aB ?aS ?aL ?_; (case aP => exact rfl); (case aB => exact (xs HB.out GE531.out)); (case aF => exact (fun _ _ => trivial)); (case aO => exact (xR HO_3.out)); (case aS => exact (below_size (xs HB.out GE531.out))); (case aL => have := LMc11.out; omega); intro v538 w13 ho hb hg hat; rw [← Ny537.out] at ho; have n0_ := ax (blk_grown (g := gb531) (o := .cells #[.slice (some ad535) l0_0.length c0_0, .slice A0_1 l0_1.length c0_1] 61 (0, 0)) (xk BK531.out) hg (Kd.R_ne HO_3.out BK531.out (by decide))); have n1_ := ax (hb); have n2_ := ax (ho); clear BK531; clear HB; clear HO_3; have BK531 := n0_; have HB := n1_; have HO539 := n2_; clear n0_ n1_ n2_; clear ho hb hg hat))
     go_roundg k1
     case measure => have := HK1.out; omega
     case rel => exact ⟨(y537), (wrap64 (x10_1 + 1)), xr, H', ⟨by have := HK1.out; omega⟩, ⟨xR HO539.out⟩, ⟨xk BK531.out⟩, ⟨xs HB.out GE531.out⟩⟩
    ·rw [if_neg c10] at H
     have c10b0 : decide (t536 < (rd l0_0 x10_1)) = false := decide_eq_false c10
     clear c10
     have H' := ax H
     clear H
     have p535 : 0 ≤ (x10_1 : Int) := xd
     have q535 : x10_1 < (l0_0.length : Int) := xd
     obtain ⟨ad535, e535, hx535_0⟩ := Kd.at_int HR0_0.out x10_1 p535 q535
     cases e535
     (try replace hx535_0 := (HB.out.cell (World.block_lt_of_cell? w _ hx535_0)).trans hx535_0)
     replace p535 := eq_true p535
     replace q535 := eq_true q535
     have hcz14_0 : wr.cell? ⟨gb531, 0, none⟩ = some (.slice (some ad535) l0_0.length c0_0) := (blk_cell BK531.out 0).trans rfl
     have hcz14_1 : wr.cell? ⟨gb531, 1, none⟩ = some (.slice A0_1 l0_1.length c0_1) := (blk_cell BK531.out 1).trans rfl
     have hfz14_0 := blk_frozen BK531.out 0
     have hfz14_1 := blk_frozen BK531.out 1
     go_wp2_with (first | ((with_reducible refine gate_callee (f := 107) rfl ?_); refine goesL_ (some 19) rfl rfl Tryz.func107 (by kernel_rfl) rfl #[.slice A0_1 l0_1.length c0_1, .int .i64 x10_1] rfl xm ?_; (with_reducible refine (impl_at.calls _ _ l0_1 x10_1 t536 _ ?side1 ?side2 A9.out).mono ?_); (case side1 => exact xz HR0_1.out HB.out); (case side2 => exact HC0_1.out); rintro e w' ⟨rfl, ⟨nd, rfl⟩⟩; refine ⟨_, rfl, ?_⟩))
     go_roundg k1
     case measure => have := HK1.out; omega
     case rel => exact ⟨(x3_1), (wrap64 (x10_1 + 1)), xr, H', ⟨by have := HK1.out; omega⟩, ⟨xR HO_3.out⟩, ⟨xk BK531.out⟩, ⟨xs HB.out GE531.out⟩⟩
   ·rw [if_neg c6] at H
    have c6b0 := decide_eq_false c6
    clear c6
    obtain rfl := Option.some.inj H
    go_wp2
    go_ret
    exact ⟨_, xe, xR HO_3.out, xs HB.out GE531.out⟩

/-! ### impl_IsInside: function 110 -/
mutual
def impl_IsInside.j0 : Nat → List Int → List Int → Bool → Option (Bool)
 | 0, _, _, _ => none
 | k + 1, x0, x1, x14 => if x14 = true then (some false) else (impl_IsInside.l0 k x1 x0 (x0.length : Int) 0)
def impl_IsInside.l0 : Nat → List Int → List Int → Int → Int → Option (Bool)
 | 0, _, _, _, _ => none
 | k + 1, x1, x15, x16, x17 => if x17 < x16 then (if 0 ≤ x17 then (if x17 < (x15.length : Int) then ((impl_at.f x1 x17).bind fun t543 => (if (rd x15 x17) > t543 then (some false) else (impl_IsInside.l0 k x1 x15 x16 (wrap64 (x17 + 1))))) else (none)) else (none)) else (some true)
end
def impl_IsInside.f (k : Nat) (l0 : List Int) (l1 : List Int) : Option (Bool) := (impl_IsPartition.f k l0).bind fun t540 => (if t540 = true then ((impl_IsPartition.f k l1).bind fun t541 => (impl_IsInside.j0 k l0 l1 (!t541))) else (impl_IsInside.j0 k l0 l1 true))
theorem impl_IsInside.mono_l : ∀ k, (∀ y0 y1 y2, LeO (impl_IsInside.j0 k y0 y1 y2) (impl_IsInside.j0 (k + 1) y0 y1 y2)) ∧ (∀ y0 y1 y2 y3, LeO (impl_IsInside.l0 k y0 y1 y2 y3) (impl_IsInside.l0 (k + 1) y0 y1 y2 y3))
 | 0 => ⟨fun _ _ _ r h => by simp [impl_IsInside.j0] at h, fun _ _ _ _ r h => by simp [impl_IsInside.l0] at h⟩
 | k + 1 => by
  obtain ⟨ih0, ih1⟩ := impl_IsInside.mono_l k
  refine ⟨?_, ?_⟩
  ·intro y0 y1 y2
   unfold impl_IsInside.j0
   repeat' with_reducible first | exact ih0 _ _ _ | exact ih1 _ _ _ _ | exact impl_IsPartition.mono _ _ | exact xl | refine LeO.ite ?_ ?_ | refine LeO.bind ?_ fun _ => ?_
  ·intro y0 y1 y2 y3
   unfold impl_IsInside.l0
   repeat' with_reducible first | exact ih0 _ _ _ | exact ih1 _ _ _ _ | exact impl_IsPartition.mono _ _ | exact xl | refine LeO.ite ?_ ?_ | refine LeO.bind ?_ fun _ => ?_
theorem impl_IsInside.mono : ∀ a0 a1 k, LeO (impl_IsInside.f k a0 a1) (impl_IsInside.f (k + 1) a0 a1) := by
 intro a0 a1 k
 obtain ⟨ih0, ih1⟩ := impl_IsInside.mono_l k
 unfold impl_IsInside.f
 repeat' with_reducible first | exact ih0 _ _ _ | exact ih1 _ _ _ _ | exact impl_IsPartition.mono _ _ | exact xl | refine LeO.ite ?_ ?_ | refine LeO.bind ?_ fun _ => ?_
theorem impl_IsInside.calls (k : Nat) (A0 : Option Addr) (c0 : Nat) (l0 : List Int) (A1 : Option Addr) (c1 : Nat) (l1 : List Int) (r : Bool) (w : World) (hr0 : Kd.C (Kd.int .i64) w A0 l0.length l0) (hc0 : l0.length ≤ c0) (hr1 : Kd.C (Kd.int .i64) w A1 l1.length l1) (hc1 : l1.length ≤ c1) (h : impl_IsInside.f k l0 l1 = some r) :
  Calls Tryz.prog 110 #[.slice A0 l0.length c0, .slice A1 l1.length c1] w fun e w' => e = .returned (.bool r) ∧ Drawn0 w w' := by
 have HR0 := ax hr0
 have HC0 := ax hc0
 clear hr0 hc0
 have HR1 := ax hr1
 have HC1 := ax hc1
 clear hr1 hc1
 have H : ((impl_IsPartition.f k l0).bind fun t540 => (if t540 = true then ((impl_IsPartition.f k l1).bind fun t541 => (impl_IsInside.j0 k l0 l1 (!t541))) else (impl_IsInside.j0 k l0 l1 true))) = some r := h
 clear h
 have HC3 := ax H
 clear H
 go_enter Tryz.func110, Tryz.ntmps110
 go_upto_region 1 with (fail)
 go_cut [14] (fun v14 wc => ∃ (kq : Nat) (x14_2 : Bool), v14 = .bool x14_2 ∧ Aside0 (impl_IsInside.j0 kq l0 l1 x14_2 = some r) ∧ Aside0 (kq ≤ k) ∧ Drawn0 w wc)
 case first =>
  have H := HC3.out
  clear HC3
  obtain ⟨t540, A4, H⟩ := xI H
  by_cases c5 : t540 = true
  ·subst c5
   rw [if_pos rfl] at H
   obtain ⟨t541, A6, H⟩ := xI H
   have H' := ax H
   clear H
   go_wp2_with (first | ((with_reducible refine gate_callee (f := 32) rfl ?_); refine goesL_ (some 8) rfl rfl Tryz.func32 (by kernel_rfl) rfl #[.slice A0 l0.length c0] rfl xm ?_; (with_reducible refine (impl_IsPartition.calls k _ _ l0 true _ ?side1 ?side2 A4.out).mono ?_); (case side1 => exact xc HR0.out); (case side2 => exact HC0.out); rintro e w' ⟨rfl, ⟨nd, rfl⟩⟩; refine ⟨_, rfl, ?_⟩) | (go_at_call 32; (with_reducible refine (impl_IsPartition.calls k _ _ l1 t541 _ ?side1 ?side2 A6.out).mono ?_); (case side1 => exact xc HR1.out); (case side2 => exact HC1.out); rintro e w' ⟨rfl, ⟨nd, rfl⟩⟩))
   go_meet
   case rel => exact ⟨_, (!t541), xr, H', ⟨by first | omega | exact Nat.le_refl _⟩, by repeat (first | exact Drawn0.refl _ | apply Drawn0.step)⟩
  ·replace c5 := Bool.eq_false_iff.mpr c5
   subst c5
   rw [if_neg (show ¬ (false = true) by decide)] at H
   have H' := ax H
   clear H
   go_wp2_with (first | ((with_reducible refine gate_callee (f := 32) rfl ?_); refine goesL_ (some 8) rfl rfl Tryz.func32 (by kernel_rfl) rfl #[.slice A0 l0.length c0] rfl xm ?_; (with_reducible refine (impl_IsPartition.calls k _ _ l0 false _ ?side1 ?side2 A4.out).mono ?_); (case side1 => exact xc HR0.out); (case side2 => exact HC0.out); rintro e w' ⟨rfl, ⟨nd, rfl⟩⟩; refine ⟨_, rfl, ?_⟩))
   go_meet
   case rel => exact ⟨_, (true), xr, H', ⟨by first | omega | exact Nat.le_refl _⟩, by repeat (first | exact Drawn0.refl _ | apply Drawn0.step)⟩
 case rest =>
  clear HC3
  (try clear c1); (try clear c5)
  obtain ⟨kq, x14_2, rfl, HA, HJ2, ⟨mc2, rfl⟩⟩ := hcut
  cases kq with
  | zero => exact absurd HA.out (by simp [impl_IsInside.j0])
  | succ kj2 =>
   have H := HA.out
   clear HA
   simp only [impl_IsInside.j0] at H
   by_cases c7 : x14_2 = true
   ·subst c7
    rw [if_pos rfl] at H
    obtain rfl := Option.some.inj H
    go_wp2
    go_ret
    exact ⟨by first | rfl | (simp; done) | (simp [*]; done), by repeat (first | exact Drawn0.refl _ | apply Drawn0.step)⟩
   ·replace c7 := Bool.eq_false_iff.mpr c7
    subst c7
    rw [if_neg (show ¬ (false = true) by decide)] at H
    have H' := ax H
    clear H
    go_wp2
    go_loopg [17] kj2 (fun kq v17 w' => ∃ (x17_2 : Int), v17 = .int .i64 x17_2 ∧ Aside0 (impl_IsInside.l0 kq l1 l0 (l0.length : Int) x17_2 = some r) ∧ Aside0 (kq ≤ kj2) ∧ Drawn0 w w')
    case atStart => exact ⟨(0), xr, H', ⟨Nat.le_refl _⟩, by repeat (first | exact Drawn0.refl _ | apply Drawn0.step)⟩
    case round =>
     clear H'
     (try clear c1); (try clear c5); (try clear c7)
     obtain ⟨x17_2, rfl, HA, HK2, ⟨m2, rfl⟩⟩ := hrel
     cases gk with
     | zero => exact absurd HA.out (by simp [impl_IsInside.l0])
     | succ k2 =>
      have H := HA.out
      clear HA
      simp only [impl_IsInside.l0] at H
      by_cases c8 : x17_2 < (l0.length : Int)
      ·rw [if_pos c8] at H
       have c8b0 := decide_eq_true c8
       clear c8
       obtain ⟨c9b0, H⟩ := xq H
       obtain ⟨c10b0, H⟩ := xq H
       obtain ⟨t543, A11, H⟩ := xI H
       by_cases c12 : (rd l0 x17_2) > t543
       ·rw [if_pos c12] at H
        have c12b0 : decide (t543 < (rd l0 x17_2)) = true := decide_eq_true c12
        clear c12
        obtain rfl := Option.some.inj H
        have p542 : 0 ≤ (x17_2 : Int) := xd
        have q542 : x17_2 < (l0.length : Int) := xd
        obtain ⟨ad542, e542, hx542_0⟩ := Kd.at_int HR0.out x17_2 p542 q542
        cases e542
        replace p542 := eq_true p542
        replace q542 := eq_true q542
        go_wp2_with (first | ((with_reducible refine gate_callee (f := 107) rfl ?_); refine goesL_ (some 25) rfl rfl Tryz.func107 (by kernel_rfl) rfl #[.slice A1 l1.length c1, .int .i64 x17_2] rfl xm ?_; (with_reducible refine (impl_at.calls _ _ l1 x17_2 t543 _ ?side1 ?side2 A11.out).mono ?_); (case side1 => exact xc HR1.out); (case side2 => exact HC1.out); rintro e w' ⟨rfl, ⟨nd, rfl⟩⟩; refine ⟨_, rfl, ?_⟩))
        go_ret
        exact ⟨by first | rfl | (simp; done) | (simp [*]; done), by repeat (first | exact Drawn0.refl _ | apply Drawn0.step)⟩
       ·rw [if_neg c12] at H
        have c12b0 : decide (t543 < (rd l0 x17_2)) = false := decide_eq_false c12
        clear c12
        have H' := ax H
        clear H
        have p542 : 0 ≤ (x17_2 : Int) := xd
        have q542 : x17_2 < (l0.length : Int) := xd
        obtain ⟨ad542, e542, hx542_0⟩ := Kd.at_int HR0.out x17_2 p542 q542
        cases e542
        replace p542 := eq_true p542
        replace q542 := eq_true q542
        go_wp2_with (first | ((with_reducible refine gate_callee (f := 107) rfl ?_); refine goesL_ (some 25) rfl rfl Tryz.func107 (by kernel_rfl) rfl #[.slice A1 l1.length c1, .int .i64 x17_2] rfl xm ?_; (with_reducible refine (impl_at.calls _ _ l1 x17_2 t543 _ ?side1 ?side2 A11.out).mono ?_); (case side1 => exact xc HR1.out); (case side2 => exact HC1.out); rintro e w' ⟨rfl, ⟨nd, rfl⟩⟩; refine ⟨_, rfl, ?_⟩))
        go_roundg k2
        case measure => have := HJ2.out; have := HK2.out; omega
        case rel => exact ⟨(wrap64 (x17_2 + 1)), xr, H', ⟨by have := HJ2.out; have := HK2.out; omega⟩, by repeat (first | exact Drawn0.refl _ | apply Drawn0.step)⟩
      ·rw [if_neg c8] at H
       have c8b0 := decide_eq_false c8
       clear c8
       obtain rfl := Option.some.inj H
       go_wp2
       go_ret
       exact ⟨by first | rfl | (simp; done) | (simp [*]; done), by repeat (first | exact Drawn0.refl _ | apply Drawn0.step)⟩

end Go.Proofs.YtopmggldaicpaacGreat.PFnKronecker
