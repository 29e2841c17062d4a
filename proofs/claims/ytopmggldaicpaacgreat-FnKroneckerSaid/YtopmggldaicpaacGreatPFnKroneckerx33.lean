import Derived.Test.YtopmggldaicpaacGreatPFnKroneckerx20
import Derived.Test.YtopmggldaicpaacGreatPFnKroneckerx31
namespace Go.Proofs.YtopmggldaicpaacGreat.PFnKronecker
open Go.RowKit Go.Proofs.YtopmggldaicpaacGreatW.PrintWords Go.Proofs.YtopmggldaicpaacGreatW.PrintLast Go.Proofs.YtopmggldaicpaacGreatW.PrintMore
set_option linter.unusedVariables false
set_option linter.unusedSimpArgs false
set_option maxHeartbeats 8000000
set_option maxRecDepth 100000
/-! ### impl_PairingOf: function 18 -/
def impl_PairingOf.f (k : Nat) (l0 : List Int) (l1 : List Int) : Option (Int) := (impl_classSum.f k (([l0, l1] : List (List Int)))).bind fun t867 => (some t867)
theorem impl_PairingOf.mono : ∀ a0 a1 k, LeO (impl_PairingOf.f k a0 a1) (impl_PairingOf.f (k + 1) a0 a1) := by
 intro a0 a1 k
 unfold impl_PairingOf.f
 repeat' with_reducible first | exact impl_classSum.mono _ _ | exact xl | refine LeO.ite ?_ ?_ | refine LeO.bind ?_ fun _ => ?_
theorem impl_PairingOf.calls (k : Nat) (P0_ : Nat → Prop) (A0 : Option Addr) (c0 : Nat) (l0 : List Int) (P1_ : Nat → Prop) (A1 : Option Addr) (c1 : Nat) (l1 : List Int) (r : Int) (w : World) (hs0 : Kd.V (Kd.int .i64) 3 w w.heap.size (fun k_ => P0_ k_) (.slice A0 l0.length c0) l0) (hs1 : Kd.V (Kd.int .i64) 3 w w.heap.size (fun k_ => P1_ k_) (.slice A1 l1.length c1) l1) (h : impl_PairingOf.f k l0 l1 = some r) :
  Calls Tryz.prog 18 #[.slice A0 l0.length c0, .slice A1 l1.length c1] w fun e w' => e = .returned (.int .i64 r) ∧ Below w.heap.size w w' := by
 have HO0 := ax (show Kd.V (Kd.int .i64) 3 w w.heap.size (fun k_ => ((P0_ k_ ∨ P1_ k_) ∨ w.heap.size ≤ k_)) (.slice A0 l0.length c0) l0 from Kd.V_mono hs0 (fun k_ hk => .inl (.inl hk)))
 have HO1 := ax (show Kd.V (Kd.int .i64) 3 w w.heap.size (fun k_ => ((P0_ k_ ∨ P1_ k_) ∨ w.heap.size ≤ k_)) (.slice A1 l1.length c1) l1 from Kd.V_mono hs1 (fun k_ hk => .inl (.inr hk)))
 have HB := ax (Below.refl w.heap.size w)
 have H : ((impl_classSum.f k (([l0, l1] : List (List Int)))).bind fun t867 => (some t867)) = some r := h
 clear h
 obtain ⟨y864, hy864⟩ : ∃ y_ : List (List Int), y_ = (([l0, l1] : List (List Int))) := ⟨_, rfl⟩
 replace H : ((impl_classSum.f k y864).bind fun t867 => (some t867)) = some r := xv hy864 H
 have Ny864 := ax hy864
 clear hy864
 obtain ⟨t867, A3, H⟩ := xI H
 obtain rfl := Option.some.inj H
 go_enter Tryz.func18, Tryz.ntmps18
 go_wp2_with (first | ((with_reducible refine gate_dst (N := 7) rfl ?_); refine Kd.N_lit (Kd.slice 3 (Kd.int .i64)) _ 24 ?hg (N' := 7) ?hd (xs := ([l0, l1] : List (List Int))) (inner := [.slice A0 l0.length c0, .slice A1 l1.length c1]) (ok := (fun k_ => ((P0_ k_ ∨ P1_ k_) ∨ w.heap.size ≤ k_))) (okp := (fun k_ => ((P0_ k_ ∨ P1_ k_) ∨ w.heap.size ≤ k_))) ?hr ?hp (fun _ hk => hk) ((show ∀ k_, w.heap.size ≤ k_ → (fun k_ => ((P0_ k_ ∨ P1_ k_) ∨ w.heap.size ≤ k_)) k_ from fun k_ hk => (.inr (Nat.le_trans (below_size (xb HB.out)) hk))) _ (Nat.le_refl _)) (Below.refl _ _) (Nat.le_refl _) (by simp) ?_; (case hd => rfl); (case hg => rfl); (case hr => first | (go_simp; done) | (go_simp; rfl)); (case hp => exact (Reps.one (show Kd.FK (Kd.slice 3 (Kd.int .i64)) _ _ l0 [.slice A0 l0.length c0] from (Kd.FK_slice_mk (Kd.V_reads' (Kd.V_mono (ok' := (fun k_ => ((P0_ k_ ∨ P1_ k_) ∨ w.heap.size ≤ k_))) (HO0.out) (fun k_ hk => hk))).2.1 (Kd.V_F (Kd.V_mono (ok' := (fun k_ => ((P0_ k_ ∨ P1_ k_) ∨ w.heap.size ≤ k_))) (HO0.out) (fun k_ hk => hk))))) (Reps.one (show Kd.FK (Kd.slice 3 (Kd.int .i64)) _ _ l1 [.slice A1 l1.length c1] from (Kd.FK_slice_mk (Kd.V_reads' (Kd.V_mono (ok' := (fun k_ => ((P0_ k_ ∨ P1_ k_) ∨ w.heap.size ≤ k_))) (HO1.out) (fun k_ hk => hk))).2.1 (Kd.V_F (Kd.V_mono (ok' := (fun k_ => ((P0_ k_ ∨ P1_ k_) ∨ w.heap.size ≤ k_))) (HO1.out) (fun k_ hk => hk))))) (Reps.none _ _)))); intro v865 w4 ho5 hb hg_ hnew_; clear hg_ hnew_; (first | rw [← Ny864.out] at ho5 | (simp only [Int.reduceToNat] at ho5; rw [← Ny864.out] at ho5)); replace HO0 := ax (Kd.V_elder' (xV HO0.out) (by first | exact Kd.N_base ho5 | exact Kd.S_base ho5 | exact Kd.R_base ho5) hb); replace HO1 := ax (Kd.V_elder' (xV HO1.out) (by first | exact Kd.N_base ho5 | exact Kd.S_base ho5 | exact Kd.R_base ho5) hb); have HO866 := ax (Kd.N_lower ho5 (below_size (xb HB.out))); replace HB := yB HB hb; clear hb ho5; obtain ⟨Ao6, co6, eo6⟩ := Kd.N_slice HO866.out; subst eo6) | ((with_reducible refine gate_callee (f := 31) rfl ?_); refine goesL_ (some 8) rfl rfl Tryz.func31 (by kernel_rfl) rfl #[.slice Ao6 y864.length co6] rfl xm ?_; (with_reducible refine (impl_classSum.calls k _ _ y864 t867 _ ?side1 ?side2 A3.out).mono ?_); (case side1 => exact xc (Kd.N_reads' HO866.out).2.2); (case side2 => exact (Kd.N_reads' HO866.out).2.1); rintro e w7 ⟨rfl, hb⟩; refine ⟨_, rfl, ?_⟩; replace HO0 := yV HO0 hb; replace HO1 := yV HO1 hb; replace HO866 := ax (Kd.N_below (xN HO866.out) hb); replace HB := yB HB hb; (try clear hb)))
 go_ret
 exact ⟨xe, xb HB.out⟩

/-! ### spec_PairingOf: function 19 -/
mutual
def spec_PairingOf.j0 : Nat → List Int → List Int → Bool → Option (Int)
 | 0, _, _, _ => none
 | k + 1, x0, x1, x22 => if x22 = true then (some 0) else ((spec_l2Size.f k x0).bind fun t872 => ((spec_PartitionsOf.f k t872).bind fun t873 => (spec_PairingOf.l0 k x0 x1 0 t873 0)))
def spec_PairingOf.l0 : Nat → List Int → List Int → Int → List (List Int) → Int → Option (Int)
 | 0, _, _, _, _, _ => none
 | k + 1, x0, x1, x5, x6, x7 => if x7 < (x6.length : Int) then (if 0 ≤ x7 then ((spec_ClassSize.f k (rd_L2 x6 x7)).bind fun t877 => ((spec_l22Character.f k x0 (rd_L2 x6 x7)).bind fun t879 => ((spec_l22Character.f k x1 (rd_L2 x6 x7)).bind fun t881 => (spec_PairingOf.l0 k x0 x1 (wrap64 (x5 + (wrap64 ((wrap64 (t877 * t879)) * t881)))) x6 (wrap64 (x7 + 1)))))) else (none)) else ((spec_l2Size.f k x0).bind fun t882 => ((spec_l3Factorial.f k t882).bind fun t883 => (if t883 = 0 then (none) else (some (wrap64 (Int.tdiv x5 t883))))))
end
def spec_PairingOf.f (k : Nat) (l0 : List Int) (l1 : List Int) : Option (Int) := (spec_l21Fine.f k l0).bind fun t868 => (if t868 = true then ((spec_l21Fine.f k l1).bind fun t869 => (if t869 = true then ((spec_l2Size.f k l0).bind fun t870 => ((spec_l2Size.f k l1).bind fun t871 => (spec_PairingOf.j0 k l0 l1 (t870 != t871)))) else (spec_PairingOf.j0 k l0 l1 true))) else (spec_PairingOf.j0 k l0 l1 true))
theorem spec_PairingOf.mono_l : ∀ k, (∀ y0 y1 y2, LeO (spec_PairingOf.j0 k y0 y1 y2) (spec_PairingOf.j0 (k + 1) y0 y1 y2)) ∧ (∀ y0 y1 y2 y3 y4, LeO (spec_PairingOf.l0 k y0 y1 y2 y3 y4) (spec_PairingOf.l0 (k + 1) y0 y1 y2 y3 y4))
 | 0 => ⟨fun _ _ _ r h => by simp [spec_PairingOf.j0] at h, fun _ _ _ _ _ r h => by simp [spec_PairingOf.l0] at h⟩
 | k + 1 => by
  obtain ⟨ih0, ih1⟩ := spec_PairingOf.mono_l k
  refine ⟨?_, ?_⟩
  ·intro y0 y1 y2
   unfold spec_PairingOf.j0
   repeat' with_reducible first | exact ih0 _ _ _ | exact ih1 _ _ _ _ _ | exact spec_ClassSize.mono _ _ | exact spec_PartitionsOf.mono _ _ | exact spec_l21Fine.mono _ _ | exact spec_l22Character.mono _ _ _ | exact spec_l2Size.mono _ _ | exact spec_l3Factorial.mono _ _ | exact xl | refine LeO.ite ?_ ?_ | refine LeO.bind ?_ fun _ => ?_
  ·intro y0 y1 y2 y3 y4
   unfold spec_PairingOf.l0
   repeat' with_reducible first | exact ih0 _ _ _ | exact ih1 _ _ _ _ _ | exact spec_ClassSize.mono _ _ | exact spec_PartitionsOf.mono _ _ | exact spec_l21Fine.mono _ _ | exact spec_l22Character.mono _ _ _ | exact spec_l2Size.mono _ _ | exact spec_l3Factorial.mono _ _ | exact xl | refine LeO.ite ?_ ?_ | refine LeO.bind ?_ fun _ => ?_
theorem spec_PairingOf.mono : ∀ a0 a1 k, LeO (spec_PairingOf.f k a0 a1) (spec_PairingOf.f (k + 1) a0 a1) := by
 intro a0 a1 k
 obtain ⟨ih0, ih1⟩ := spec_PairingOf.mono_l k
 unfold spec_PairingOf.f
 repeat' with_reducible first | exact ih0 _ _ _ | exact ih1 _ _ _ _ _ | exact spec_ClassSize.mono _ _ | exact spec_PartitionsOf.mono _ _ | exact spec_l21Fine.mono _ _ | exact spec_l22Character.mono _ _ _ | exact spec_l2Size.mono _ _ | exact spec_l3Factorial.mono _ _ | exact xl | refine LeO.ite ?_ ?_ | refine LeO.bind ?_ fun _ => ?_
def spec_PairingOf.T8 : Bool × List (List Nat × List Nat) := (true, [([], []), ([], []), ([], []), ([1, 2], [1, 2]), ([3], [3]), ([4], [4]), ([], []), ([], []), ([], []), ([7, 8], [7, 8]), ([9], [9]), ([6, 10, 5], [6, 10]), ([5, 11], [5, 11]), ([], []), ([], []), ([], []), ([14, 15], [14, 15]), ([16], [16]), ([13, 17, 11], [13, 17]), ([12, 18], [12, 18]), ([0, 19], [0, 19]), ([20, 18, 0, 1, 2, 3, 4, 5, 6, 7, 8, 9, 10, 11, 12, 13, 14, 15, 16, 17, 18, 19, 20], [0, 20])])
def spec_PairingOf.B8 : List Nat := [0, 0, 0, 6, 14, 30, 0, 0, 0, 384, 896, 2046, 4094, 0, 0, 0, 49152, 114688, 258046, 524286, 1048575, 2097151]
theorem spec_PairingOf.tab8 : rtab .any (opsOf Tryz.f19 8) = spec_PairingOf.T8 := by kernel_rfl
theorem spec_PairingOf.bits8 : waitsOk spec_PairingOf.T8.2 spec_PairingOf.B8 = true := by kernel_rfl
theorem spec_PairingOf.calls (k : Nat) (A0 : Option Addr) (c0 : Nat) (l0 : List Int) (A1 : Option Addr) (c1 : Nat) (l1 : List Int) (r : Int) (w : World) (hr0 : Kd.C (Kd.int .i64) w A0 l0.length l0) (hc0 : l0.length ≤ c0) (hr1 : Kd.C (Kd.int .i64) w A1 l1.length l1) (hc1 : l1.length ≤ c1) (h : spec_PairingOf.f k l0 l1 = some r) :
  Calls Tryz.prog 19 #[.slice A0 l0.length c0, .slice A1 l1.length c1] w fun e w' => e = .returned (.int .i64 r) ∧ Below w.heap.size w w' := by
 have HR0 := ax hr0
 have HC0 := ax hc0
 clear hr0 hc0
 have HR1 := ax hr1
 have HC1 := ax hc1
 clear hr1 hc1
 have HB := ax (Below.refl w.heap.size w)
 have H : ((spec_l21Fine.f k l0).bind fun t868 => (if t868 = true then ((spec_l21Fine.f k l1).bind fun t869 => (if t869 = true then ((spec_l2Size.f k l0).bind fun t870 => ((spec_l2Size.f k l1).bind fun t871 => (spec_PairingOf.j0 k l0 l1 (t870 != t871)))) else (spec_PairingOf.j0 k l0 l1 true))) else (spec_PairingOf.j0 k l0 l1 true))) = some r := h
 clear h
 have HC3 := ax H
 clear H
 go_enter Tryz.func19, Tryz.ntmps19
 go_upto_region 1 with (fail)
 go_cut [22] (fun v22 wc => ∃ (kq : Nat) (x22_2 : Bool), v22 = .bool x22_2 ∧ Aside0 (spec_PairingOf.j0 kq l0 l1 x22_2 = some r) ∧ Aside0 (kq ≤ k) ∧ Aside0 (Below w.heap.size w wc))
 case first =>
  have H := HC3.out
  clear HC3
  obtain ⟨t868, A4, H⟩ := xI H
  by_cases c5 : t868 = true
  ·subst c5
   rw [if_pos rfl] at H
   obtain ⟨t869, A6, H⟩ := xI H
   by_cases c7 : t869 = true
   ·subst c7
    rw [if_pos rfl] at H
    obtain ⟨t870, A8, H⟩ := xI H
    obtain ⟨t871, A9, H⟩ := xI H
    have H' := ax H
    clear H
    go_wp2_with (first | ((with_reducible refine gate_callee (f := 40) rfl ?_); refine goesL_ (some 9) rfl rfl Tryz.func40 (by kernel_rfl) rfl #[.slice A0 l0.length c0] rfl xm ?_; (with_reducible refine (spec_l21Fine.calls k _ _ l0 true _ ?side1 ?side2 A4.out).mono ?_); (case side1 => exact xz HR0.out HB.out); (case side2 => exact HC0.out); rintro e w10 ⟨rfl, hb⟩; refine ⟨_, rfl, ?_⟩; replace HB := yB HB hb; (try clear hb)) | (go_at_call 40; (with_reducible refine (spec_l21Fine.calls k _ _ l1 true _ ?side1 ?side2 A6.out).mono ?_); (case side1 => exact xz HR1.out HB.out); (case side2 => exact HC1.out); rintro e w11 ⟨rfl, hb⟩; replace HB := yB HB hb; (try clear hb)) | (go_at_call 36; (with_reducible refine (spec_l2Size.calls k _ _ l0 t870 _ ?side1 ?side2 A8.out).mono ?_); (case side1 => exact xz HR0.out HB.out); (case side2 => exact HC0.out); rintro e w' ⟨rfl, ⟨nd, rfl⟩⟩) | (go_at_call 36; (with_reducible refine (spec_l2Size.calls k _ _ l1 t871 _ ?side1 ?side2 A9.out).mono ?_); (case side1 => exact xc (Kd.C_below HR1.out (xb HB.out))); (case side2 => exact HC1.out); rintro e w' ⟨rfl, ⟨nd, rfl⟩⟩))
    go_meet
    case rel => exact ⟨_, ((t870 != t871)), xr, H', ⟨by first | omega | exact Nat.le_refl _⟩, ⟨xb HB.out⟩⟩
   ·replace c7 := Bool.eq_false_iff.mpr c7
    subst c7
    rw [if_neg (show ¬ (false = true) by decide)] at H
    have H' := ax H
    clear H
    go_wp2_with (first | ((with_reducible refine gate_callee (f := 40) rfl ?_); refine goesL_ (some 9) rfl rfl Tryz.func40 (by kernel_rfl) rfl #[.slice A0 l0.length c0] rfl xm ?_; (with_reducible refine (spec_l21Fine.calls k _ _ l0 true _ ?side1 ?side2 A4.out).mono ?_); (case side1 => exact xz HR0.out HB.out); (case side2 => exact HC0.out); rintro e w12 ⟨rfl, hb⟩; refine ⟨_, rfl, ?_⟩; replace HB := yB HB hb; (try clear hb)) | (go_at_call 40; (with_reducible refine (spec_l21Fine.calls k _ _ l1 false _ ?side1 ?side2 A6.out).mono ?_); (case side1 => exact xz HR1.out HB.out); (case side2 => exact HC1.out); rintro e w13 ⟨rfl, hb⟩; replace HB := yB HB hb; (try clear hb)))
    go_meet
    case rel => exact ⟨_, (true), xr, H', ⟨by first | omega | exact Nat.le_refl _⟩, ⟨xb HB.out⟩⟩
  ·replace c5 := Bool.eq_false_iff.mpr c5
   subst c5
   rw [if_neg (show ¬ (false = true) by decide)] at H
   have H' := ax H
   clear H
   go_wp2_with (first | ((with_reducible refine gate_callee (f := 40) rfl ?_); refine goesL_ (some 9) rfl rfl Tryz.func40 (by kernel_rfl) rfl #[.slice A0 l0.length c0] rfl xm ?_; (with_reducible refine (spec_l21Fine.calls k _ _ l0 false _ ?side1 ?side2 A4.out).mono ?_); (case side1 => exact xz HR0.out HB.out); (case side2 => exact HC0.out); rintro e w14 ⟨rfl, hb⟩; refine ⟨_, rfl, ?_⟩; replace HB := yB HB hb; (try clear hb)))
   go_meet
   case rel => exact ⟨_, (true), xr, H', ⟨by first | omega | exact Nat.le_refl _⟩, ⟨xb HB.out⟩⟩
 case rest =>
  clear HC3
  (try clear c1); (try clear c5); (try clear c7)
  obtain ⟨kq, x22_2, rfl, HA, HJ2, HB⟩ := hcut
  cases kq with
  | zero => exact absurd HA.out (by simp [spec_PairingOf.j0])
  | succ kj2 =>
   have H := HA.out
   clear HA
   simp only [spec_PairingOf.j0] at H
   by_cases c15 : x22_2 = true
   ·subst c15
    rw [if_pos rfl] at H
    obtain rfl := Option.some.inj H
    go_wp2
    go_ret
    exact ⟨xe, xb HB.out⟩
   ·replace c15 := Bool.eq_false_iff.mpr c15
    subst c15
    rw [if_neg (show ¬ (false = true) by decide)] at H
    obtain ⟨t872, A16, H⟩ := xI H
    obtain ⟨t873, A17, H⟩ := xI H
    have H' := ax H
    clear H
    go_wp2_with (first | ((with_reducible refine gate_callee (f := 36) rfl ?_); refine goesL_ (some 24) rfl rfl Tryz.func36 (by kernel_rfl) rfl #[.slice A0 l0.length c0] rfl xm ?_; (with_reducible refine (spec_l2Size.calls kj2 _ _ l0 t872 _ ?side1 ?side2 A16.out).mono ?_); (case side1 => exact xz HR0.out HB.out); (case side2 => exact HC0.out); rintro e w' ⟨rfl, ⟨nd, rfl⟩⟩; refine ⟨_, rfl, ?_⟩) | ((with_reducible refine gate_callee (f := 21) rfl ?_); refine goesL_ (some 25) rfl rfl Tryz.func21 (by kernel_rfl) rfl #[.int .i64 t872] rfl xm ?_; (with_reducible refine (spec_PartitionsOf.calls kj2 t872 t873 _ A17.out).mono ?_); rintro e w18 ⟨v874, rfl, ho0, hb⟩; refine ⟨_, rfl, ?_⟩; have HO875 := ax (Kd.S_lower ho0 (below_size (xb HB.out))); replace HB := yB HB hb; (try clear hb); (try clear ho0)))
    go_loopg [5, 7] kj2 (fun kq v5 v7 w' => ∃ (x5_2 : Int) (x7_2 : Int), v5 = .int .i64 x5_2 ∧ v7 = .int .i64 x7_2 ∧ Aside0 (spec_PairingOf.l0 kq l0 l1 x5_2 t873 x7_2 = some r) ∧ Aside0 (kq ≤ kj2) ∧ Aside0 (Kd.S (Kd.slice 3 (Kd.int .i64)) 24 w' w.heap.size (fun _ => True) v874 t873) ∧ Aside0 (Below w.heap.size w w'))
    case atStart => exact ⟨(0), (0), xr, xr, H', ⟨Nat.le_refl _⟩, ⟨xS HO875.out⟩, ⟨xb HB.out⟩⟩
    case round =>
     clear H'
     (try clear c1); (try clear c5); (try clear c7); (try clear c15)
     obtain ⟨x5_2, x7_2, rfl, rfl, HA, HK2, HO_6, HB⟩ := hrel
     cases gk with
     | zero => exact absurd HA.out (by simp [spec_PairingOf.l0])
     | succ k2 =>
      have H := HA.out
      clear HA
      simp only [spec_PairingOf.l0] at H
      by_cases c19 : x7_2 < (t873.length : Int)
      ·rw [if_pos c19] at H
       have c19b0 := decide_eq_true c19
       clear c19
       obtain ⟨c20b0, H⟩ := xq H
       obtain ⟨t877, A21, H⟩ := xI H
       obtain ⟨t879, A22, H⟩ := xI H
       obtain ⟨t881, A23, H⟩ := xI H
       have H' := ax H
       clear H
       obtain ⟨Ao24, co24, eo24⟩ := Kd.S_slice HO_6.out
       subst eo24
       try go_wp2
       replace HO_6 := ax (Kd.S_drew HO_6.out); replace HB := ax (below_drew1 HB.out)
       have p876 : 0 ≤ (x7_2 : Int) := xd
       have q876 : x7_2 < (t873.length : Int) := xd
       obtain ⟨ad876, A876_0, c876_0, e876, hx876_0, hl876_0, hi876_0⟩ := at_L2 (Kd.S_reads' HO_6.out).2.2 x7_2 p876 q876
       cases e876
       obtain ⟨ce876, hce876, hMe876, hcc876⟩ := Kd.S_get HO_6.out [] x7_2 p876 (by first | exact q876 | exact xd | (have e_ := (Kd.S_reads' HO_6.out).1; omega))
       obtain ⟨ve876_0, rfl, ge876_0⟩ := hMe876
       have hv876_0 := hcc876 0 _ rfl
       rw [Nat.add_zero, show ((Kd.slice 3 (Kd.int .i64))).sz = 1 from rfl, Nat.mul_one] at hv876_0
       replace hv876_0 := Option.some.inj (hv876_0.symm.trans hx876_0)
       rw [hv876_0] at ge876_0
       have HL876_0 := ax (show Kd.R (Kd.int .i64) 3 _ _ _ _ (rd_L2 t873 x7_2) from ge876_0)
       clear hv876_0 ge876_0 hcc876 hce876
       have HR876_0 := ax hi876_0
       have HC876_0 := ax hl876_0
       clear hi876_0 hl876_0
       replace p876 := eq_true p876
       replace q876 := eq_true q876
       have p878 : 0 ≤ (x7_2 : Int) := xd
       have q878 : x7_2 < (t873.length : Int) := xd
       obtain ⟨ad878, A878_0, c878_0, e878, hx878_0, hl878_0, hi878_0⟩ := at_L2 (Kd.S_reads' HO_6.out).2.2 x7_2 p878 q878
       obtain rfl : ad876 = ad878 := (by injection e878)
       obtain ⟨ce878, hce878, hMe878, hcc878⟩ := Kd.S_get HO_6.out [] x7_2 p878 (by first | exact q878 | exact xd | (have e_ := (Kd.S_reads' HO_6.out).1; omega))
       obtain ⟨ve878_0, rfl, ge878_0⟩ := hMe878
       have hv878_0 := hcc878 0 _ rfl
       rw [Nat.add_zero, show ((Kd.slice 3 (Kd.int .i64))).sz = 1 from rfl, Nat.mul_one] at hv878_0
       replace hv878_0 := Option.some.inj (hv878_0.symm.trans hx878_0)
       rw [hv878_0] at ge878_0
       have HL878_0 := ax (show Kd.R (Kd.int .i64) 3 _ _ _ _ (rd_L2 t873 x7_2) from ge878_0)
       clear hv878_0 ge878_0 hcc878 hce878
       have HR878_0 := ax hi878_0
       have HC878_0 := ax hl878_0
       clear hi878_0 hl878_0
       replace p878 := eq_true p878
       replace q878 := eq_true q878
       have ea_ := Option.some.inj (hx876_0.symm.trans hx878_0)
       injection ea_ with ea_ en_ ec_
       subst ea_
       subst ec_
       clear en_
       have p880 : 0 ≤ (x7_2 : Int) := xd
       have q880 : x7_2 < (t873.length : Int) := xd
       obtain ⟨ad880, A880_0, c880_0, e880, hx880_0, hl880_0, hi880_0⟩ := at_L2 (Kd.S_reads' HO_6.out).2.2 x7_2 p880 q880
       obtain rfl : ad876 = ad880 := (by injection e880)
       obtain ⟨ce880, hce880, hMe880, hcc880⟩ := Kd.S_get HO_6.out [] x7_2 p880 (by first | exact q880 | exact xd | (have e_ := (Kd.S_reads' HO_6.out).1; omega))
       obtain ⟨ve880_0, rfl, ge880_0⟩ := hMe880
       have hv880_0 := hcc880 0 _ rfl
       rw [Nat.add_zero, show ((Kd.slice 3 (Kd.int .i64))).sz = 1 from rfl, Nat.mul_one] at hv880_0
       replace hv880_0 := Option.some.inj (hv880_0.symm.trans hx880_0)
       rw [hv880_0] at ge880_0
       have HL880_0 := ax (show Kd.R (Kd.int .i64) 3 _ _ _ _ (rd_L2 t873 x7_2) from ge880_0)
       clear hv880_0 ge880_0 hcc880 hce880
       have HR880_0 := ax hi880_0
       have HC880_0 := ax hl880_0
       clear hi880_0 hl880_0
       replace p880 := eq_true p880
       replace q880 := eq_true q880
       have ea_ := Option.some.inj (hx876_0.symm.trans hx880_0)
       injection ea_ with ea_ en_ ec_
       subst ea_
       subst ec_
       clear en_
       refine start_ (n := 22) (S := fun w' => w'.cell? (ad876.add (x7_2).toNat) = some (.slice A876_0 (rd_L2 t873 x7_2).length c876_0) ∧ w'.cell? (ad876.add (x7_2).toNat) = some (.slice A876_0 (rd_L2 t873 x7_2).length c876_0) ∧ w'.cell? (ad876.add (x7_2).toNat) = some (.slice A876_0 (rd_L2 t873 x7_2).length c876_0)) (ds := []) (xB 22 0) (by kernel_rfl) rfl (by kernel_rfl) ⟨hx876_0, hx878_0, hx880_0⟩ (fun hHeld => ?_); refine with_tabW spec_PairingOf.tab8 spec_PairingOf.bits8 (fun HT_ HW_ => ?_)
       generalize wr.drew = w25 at HO_6 HB HL876_0 HL878_0 HL880_0 HR876_0 HR878_0 HR880_0 hx876_0 hx878_0 hx880_0 hHeld ⊢
       refine pu (i := 0) (N := some 32) (xB 22 1) HT_.out ?_
       refine pu (i := 1) (N := some 33) (xB 22 3) HT_.out ?_
       refine pu (i := 2) (N := some 34) (xB 22 7) HT_.out ?_
       refine pu (i := 3) (N := some 35) (xB 22 15) HT_.out ?_
       refine pu (i := 6) (N := some 38) (xB 22 79) HT_.out ?_
       refine pu (i := 7) (N := some 39) (xB 22 207) HT_.out ?_
       refine pu (i := 8) (N := some 40) (xB 22 463) HT_.out ?_
       refine pu (i := 9) (N := some 41) (xB 22 975) HT_.out ?_
       refine pu (i := 13) (N := some 45) (xB 22 9167) HT_.out ?_
       refine pu (i := 14) (N := some 46) (xB 22 25551) HT_.out ?_
       refine pu (i := 15) (N := some 47) (xB 22 58319) HT_.out ?_
       refine pu (i := 16) (N := some 48) (xB 22 123855) HT_.out ?_
       refine tk (i := 4) (N := some 36) (xB 22 123871) HT_.out HW_.out hHeld ?_
       refine tk (i := 10) (N := some 42) (xB 22 124895) HT_.out HW_.out hHeld ?_
       refine tk (i := 17) (N := some 49) (xB 22 255967) HT_.out HW_.out hHeld ?_
       refine one_ (i := 5) (N := some 37) (xB 22 255999) rfl rfl (one_of HT_.out (by kernel_rfl)) (by decide) (fun K hK => ?_)
       refine goes_ Tryz.func12 (by kernel_rfl) rfl #[.slice A876_0 (rd_L2 t873 x7_2).length c876_0] (by rfl) rfl rfl xm ?_
       with_reducible refine (spec_ClassSize.calls k2 _ _ (rd_L2 t873 x7_2) t877 _ ?side1 ?side2 A21.out).mono ?_
       (case side1 => exact xw HR876_0.out)
       (case side2 => exact HC876_0.out)
       rintro e w26 ⟨rfl, hb⟩
       have HS0_ := (hb.cell (World.block_lt_of_cell? _ _ (hHeld.1))).trans (hHeld.1)
       have HS1_ := (hb.cell (World.block_lt_of_cell? _ _ (hHeld.2.1))).trans (hHeld.2.1)
       have HS2_ := (hb.cell (World.block_lt_of_cell? _ _ (hHeld.2.2))).trans (hHeld.2.2)
       refine ⟨_, rfl, ?_⟩
       replace HO_6 := ax (Kd.S_below (xS HO_6.out) hb); replace HL876_0 := yR HL876_0 hb; replace HL878_0 := yR HL878_0 hb; replace HL880_0 := yR HL880_0 hb; replace HR876_0 := ax (Kd.C_below (xw HR876_0.out) hb); replace HR878_0 := ax (Kd.C_below (xw HR878_0.out) hb); replace HR880_0 := ax (Kd.C_below (xw HR880_0.out) hb); replace HB := yB HB hb
       (try clear hb)
       refine hK.out _ _ ⟨HS0_, HS1_, HS2_⟩ (fun hHeld => ?_)
       clear hK K
       refine nm ?_
       refine one_ (i := 11) (N := some 43) (xB 22 258047) rfl rfl (one_of HT_.out (by kernel_rfl)) (by decide) (fun K hK => ?_)
       refine goes_ Tryz.func41 (by kernel_rfl) rfl #[.slice A0 l0.length c0, .slice A876_0 (rd_L2 t873 x7_2).length c876_0] (by rfl) rfl rfl xm ?_
       with_reducible refine (spec_l22Character.calls k2 _ _ l0 _ _ (rd_L2 t873 x7_2) t879 _ ?side1 ?side2 ?side3 ?side4 A22.out).mono ?_
       (case side1 => exact xz HR0.out HB.out)
       (case side2 => exact HC0.out)
       (case side3 => exact xw HR878_0.out)
       (case side4 => exact HC878_0.out)
       rintro e w27 ⟨rfl, hb⟩
       have HS0_ := (hb.cell (World.block_lt_of_cell? _ _ (hHeld.1))).trans (hHeld.1)
       have HS1_ := (hb.cell (World.block_lt_of_cell? _ _ (hHeld.2.1))).trans (hHeld.2.1)
       have HS2_ := (hb.cell (World.block_lt_of_cell? _ _ (hHeld.2.2))).trans (hHeld.2.2)
       refine ⟨_, rfl, ?_⟩
       replace HO_6 := ax (Kd.S_below (xS HO_6.out) hb); replace HL876_0 := yR HL876_0 hb; replace HL878_0 := yR HL878_0 hb; replace HL880_0 := yR HL880_0 hb; replace HR876_0 := ax (Kd.C_below (xw HR876_0.out) hb); replace HR878_0 := ax (Kd.C_below (xw HR878_0.out) hb); replace HR880_0 := ax (Kd.C_below (xw HR880_0.out) hb); replace HB := yB HB hb
       (try clear hb)
       refine hK.out _ _ ⟨HS0_, HS1_, HS2_⟩ (fun hHeld => ?_)
       clear hK K
       refine nm ?_
       refine pu (i := 12) (N := some 44) (xB 22 262143) HT_.out ?_
       refine one_ (i := 18) (N := some 50) (xB 22 524287) rfl rfl (one_of HT_.out (by kernel_rfl)) (by decide) (fun K hK => ?_)
       refine goes_ Tryz.func41 (by kernel_rfl) rfl #[.slice A1 l1.length c1, .slice A876_0 (rd_L2 t873 x7_2).length c876_0] (by rfl) rfl rfl xm ?_
       with_reducible refine (spec_l22Character.calls k2 _ _ l1 _ _ (rd_L2 t873 x7_2) t881 _ ?side1 ?side2 ?side3 ?side4 A23.out).mono ?_
       (case side1 => exact xz HR1.out HB.out)
       (case side2 => exact HC1.out)
       (case side3 => exact xw HR880_0.out)
       (case side4 => exact HC880_0.out)
       rintro e w28 ⟨rfl, hb⟩
       have HS0_ := (hb.cell (World.block_lt_of_cell? _ _ (hHeld.1))).trans (hHeld.1)
       have HS1_ := (hb.cell (World.block_lt_of_cell? _ _ (hHeld.2.1))).trans (hHeld.2.1)
       have HS2_ := (hb.cell (World.block_lt_of_cell? _ _ (hHeld.2.2))).trans (hHeld.2.2)
       refine ⟨_, rfl, ?_⟩
       replace HO_6 := ax (Kd.S_below (xS HO_6.out) hb); replace HL876_0 := yR HL876_0 hb; replace HL878_0 := yR HL878_0 hb; replace HL880_0 := yR HL880_0 hb; replace HR876_0 := ax (Kd.C_below (xw HR876_0.out) hb); replace HR878_0 := ax (Kd.C_below (xw HR878_0.out) hb); replace HR880_0 := ax (Kd.C_below (xw HR880_0.out) hb); replace HB := yB HB hb
       (try clear hb)
       refine hK.out _ _ ⟨HS0_, HS1_, HS2_⟩ (fun hHeld => ?_)
       clear hK K
       refine nm ?_
       refine pu (i := 19) (N := some 51) (xB 22 1048575) HT_.out ?_
       refine pu (i := 20) (N := some 52) (xB 22 2097151) HT_.out ?_
       refine pu (i := 21) (N := some 5) (xB 22 4194303) HT_.out ?_
       refine done_ (done_of HT_.out (by kernel_rfl)) ?_
       try go_wp2
       go_roundg k2
       case measure => have := HJ2.out; have := HK2.out; omega
       case rel => exact ⟨(wrap64 (x5_2 + (wrap64 ((wrap64 (t877 * t879)) * t881)))), (wrap64 (x7_2 + 1)), xr, xr, H', ⟨by have := HJ2.out; have := HK2.out; omega⟩, ⟨xS HO_6.out⟩, ⟨xb HB.out⟩⟩
      ·rw [if_neg c19] at H
       have c19b0 := decide_eq_false c19
       clear c19
       obtain ⟨t882, A29, H⟩ := xI H
       obtain ⟨t883, A30, H⟩ := xI H
       by_cases c31 : t883 = 0
       ·rw [if_pos c31] at H
        exact absurd H (by simp)
       ·rw [if_neg c31] at H
        have c31b0 : (t883 == 0) = false := beq_eq_false_iff_ne.mpr c31
        have c31b1 : (t883 != 0) = true := bne_iff_ne.mpr c31
        obtain rfl := Option.some.inj H
        obtain ⟨Ao32, co32, eo32⟩ := Kd.S_slice HO_6.out
        subst eo32
        go_wp2_with (first | ((with_reducible refine gate_callee (f := 36) rfl ?_); refine goesL_ (some 55) rfl rfl Tryz.func36 (by kernel_rfl) rfl #[.slice A0 l0.length c0] rfl xm ?_; (with_reducible refine (spec_l2Size.calls k2 _ _ l0 t882 _ ?side1 ?side2 A29.out).mono ?_); (case side1 => exact xz HR0.out HB.out); (case side2 => exact HC0.out); rintro e w' ⟨rfl, ⟨nd, rfl⟩⟩; refine ⟨_, rfl, ?_⟩) | ((with_reducible refine gate_callee (f := 35) rfl ?_); refine goesL_ (some 56) rfl rfl Tryz.func35 (by kernel_rfl) rfl #[.int .i64 t882] rfl xm ?_; (with_reducible refine (spec_l3Factorial.calls k2 t882 t883 _ A30.out).mono ?_); rintro e w' ⟨rfl, ⟨nd, rfl⟩⟩; refine ⟨_, rfl, ?_⟩))
        go_ret
        exact ⟨xe, xb HB.out⟩

/-! ### spec_SizeOf: function 22 -/
def spec_SizeOf.f (k : Nat) (l0 : List Int) : Option (Int) := (spec_IsPartition.f k l0).bind fun t884 => (if t884 = true then ((spec_l2Size.f k l0).bind fun t885 => (some t885)) else (some (-1)))
theorem spec_SizeOf.mono : ∀ a0 k, LeO (spec_SizeOf.f k a0) (spec_SizeOf.f (k + 1) a0) := by
 intro a0 k
 unfold spec_SizeOf.f
 repeat' with_reducible first | exact spec_IsPartition.mono _ _ | exact spec_l2Size.mono _ _ | exact xl | refine LeO.ite ?_ ?_ | refine LeO.bind ?_ fun _ => ?_
theorem spec_SizeOf.calls (k : Nat) (A0 : Option Addr) (c0 : Nat) (l0 : List Int) (r : Int) (w : World) (hr0 : Kd.C (Kd.int .i64) w A0 l0.length l0) (hc0 : l0.length ≤ c0) (h : spec_SizeOf.f k l0 = some r) :
  Calls Tryz.prog 22 #[.slice A0 l0.length c0] w fun e w' => e = .returned (.int .i64 r) ∧ Below w.heap.size w w' := by
 have HR0 := ax hr0
 have HC0 := ax hc0
 clear hr0 hc0
 have HB := ax (Below.refl w.heap.size w)
 have H : ((spec_IsPartition.f k l0).bind fun t884 => (if t884 = true then ((spec_l2Size.f k l0).bind fun t885 => (some t885)) else (some (-1)))) = some r := h
 clear h
 obtain ⟨t884, A2, H⟩ := xI H
 by_cases c3 : t884 = true
 ·subst c3
  rw [if_pos rfl] at H
  obtain ⟨t885, A4, H⟩ := xI H
  obtain rfl := Option.some.inj H
  go_enter Tryz.func22, Tryz.ntmps22
  go_wp2_with (first | ((with_reducible refine gate_callee (f := 20) rfl ?_); refine goesL_ (some 4) rfl rfl Tryz.func20 (by kernel_rfl) rfl #[.slice A0 l0.length c0] rfl xm ?_; (with_reducible refine (spec_IsPartition.calls k _ _ l0 true _ ?side1 ?side2 A2.out).mono ?_); (case side1 => exact xc HR0.out); (case side2 => exact HC0.out); rintro e w5 ⟨rfl, hb⟩; refine ⟨_, rfl, ?_⟩; replace HB := yB HB hb; (try clear hb)) | ((with_reducible refine gate_callee (f := 36) rfl ?_); refine goesL_ (some 7) rfl rfl Tryz.func36 (by kernel_rfl) rfl #[.slice A0 l0.length c0] rfl xm ?_; (with_reducible refine (spec_l2Size.calls k _ _ l0 t885 _ ?side1 ?side2 A4.out).mono ?_); (case side1 => exact xz HR0.out HB.out); (case side2 => exact HC0.out); rintro e w' ⟨rfl, ⟨nd, rfl⟩⟩; refine ⟨_, rfl, ?_⟩))
  go_ret
  exact ⟨xe, xb HB.out⟩
 ·replace c3 := Bool.eq_false_iff.mpr c3
  subst c3
  rw [if_neg (show ¬ (false = true) by decide)] at H
  obtain rfl := Option.some.inj H
  go_enter Tryz.func22, Tryz.ntmps22
  go_wp2_with (first | ((with_reducible refine gate_callee (f := 20) rfl ?_); refine goesL_ (some 4) rfl rfl Tryz.func20 (by kernel_rfl) rfl #[.slice A0 l0.length c0] rfl xm ?_; (with_reducible refine (spec_IsPartition.calls k _ _ l0 false _ ?side1 ?side2 A2.out).mono ?_); (case side1 => exact xc HR0.out); (case side2 => exact HC0.out); rintro e w6 ⟨rfl, hb⟩; refine ⟨_, rfl, ?_⟩; replace HB := yB HB hb; (try clear hb)))
  go_ret
  exact ⟨xe, xb HB.out⟩

/-! ### laws_factorial: function 23 -/
def laws_factorial.l0 : Nat → Int → Int → Int → Option (Int)
 | 0, _, _, _ => none
 | k + 1, x0, x3, x4 => if x4 ≤ x0 then (if x4 ≤ 12 then (laws_factorial.l0 k x0 (wrap64 (x3 * x4)) (wrap64 (x4 + 1))) else (some x3)) else (some x3)
def laws_factorial.f (k : Nat) (a0 : Int) : Option (Int) := laws_factorial.l0 k a0 1 2
theorem laws_factorial.mono_l : ∀ k, (∀ y0 y1 y2, LeO (laws_factorial.l0 k y0 y1 y2) (laws_factorial.l0 (k + 1) y0 y1 y2))
 | 0 => fun _ _ _ r h => by simp [laws_factorial.l0] at h
 | k + 1 => by
  have ih0 := laws_factorial.mono_l k
  ·intro y0 y1 y2
   unfold laws_factorial.l0
   repeat' with_reducible first | exact ih0 _ _ _ | exact xl | refine LeO.ite ?_ ?_ | refine LeO.bind ?_ fun _ => ?_
theorem laws_factorial.mono : ∀ a0 k, LeO (laws_factorial.f k a0) (laws_factorial.f (k + 1) a0) := by
 intro a0 k
 have ih0 := laws_factorial.mono_l k
 unfold laws_factorial.f
 repeat' with_reducible first | exact ih0 _ _ _ | exact xl | refine LeO.ite ?_ ?_ | refine LeO.bind ?_ fun _ => ?_
theorem laws_factorial.calls (k : Nat) (a0 : Int) (r : Int) (w : World) (h : laws_factorial.f k a0 = some r) :
  Calls Tryz.prog 23 #[.int .i64 a0] w fun e w' => e = .returned (.int .i64 r) ∧ Drawn0 w w' := by
 have H : (laws_factorial.l0 k a0 1 2) = some r := h
 clear h
 have H' := ax H
 clear H
 go_enter Tryz.func23, Tryz.ntmps23
 go_wp2
 go_loopg [3, 4] k (fun kq v3 v4 w' => ∃ (x3_1 : Int) (x4_1 : Int), v3 = .int .i64 x3_1 ∧ v4 = .int .i64 x4_1 ∧ Aside0 (laws_factorial.l0 kq a0 x3_1 x4_1 = some r) ∧ Aside0 (kq ≤ k) ∧ Drawn0 w w')
 case atStart => exact ⟨(1), (2), xr, xr, H', ⟨Nat.le_refl _⟩, by repeat (first | exact Drawn0.refl _ | apply Drawn0.step)⟩
 case round =>
  clear H'
  obtain ⟨x3_1, x4_1, rfl, rfl, HA, HK1, ⟨m1, rfl⟩⟩ := hrel
  cases gk with
  | zero => exact absurd HA.out (by simp [laws_factorial.l0])
  | succ k1 =>
   have H := HA.out
   clear HA
   simp only [laws_factorial.l0] at H
   by_cases c2 : x4_1 ≤ a0
   ·rw [if_pos c2] at H
    have c2b0 := decide_eq_true c2
    clear c2
    by_cases c3 : x4_1 ≤ 12
    ·rw [if_pos c3] at H
     have c3b0 := decide_eq_true c3
     clear c3
     have H' := ax H
     clear H
     go_wp2
     go_roundg k1
     case measure => have := HK1.out; omega
     case rel => exact ⟨(wrap64 (x3_1 * x4_1)), (wrap64 (x4_1 + 1)), xr, xr, H', ⟨by have := HK1.out; omega⟩, by repeat (first | exact Drawn0.refl _ | apply Drawn0.step)⟩
    ·rw [if_neg c3] at H
     have c3b0 := decide_eq_false c3
     clear c3
     obtain rfl := Option.some.inj H
     go_wp2
     go_ret
     exact ⟨by first | rfl | (simp; done) | (simp [*]; done), by repeat (first | exact Drawn0.refl _ | apply Drawn0.step)⟩
   ·rw [if_neg c2] at H
    have c2b0 := decide_eq_false c2
    clear c2
    obtain rfl := Option.some.inj H
    go_wp2
    go_ret
    exact ⟨by first | rfl | (simp; done) | (simp [*]; done), by repeat (first | exact Drawn0.refl _ | apply Drawn0.step)⟩

end Go.Proofs.YtopmggldaicpaacGreat.PFnKronecker
