import Derived.Test.YtnfcdaojglicfabPFnFillingsx1
import Derived.Test.YtnfcdaojglicfabPFnFillingsx10
namespace Go.Proofs.Ytnfcdaojglicfab.PFnFillings
open Go.RowKit Go.Proofs.YtnfcdaojglicfabW.PrintWords Go.Proofs.YtnfcdaojglicfabW.PrintLast Go.Proofs.YtnfcdaojglicfabW.PrintMore
set_option linter.unusedVariables false
set_option linter.unusedSimpArgs false
set_option maxHeartbeats 8000000
set_option maxRecDepth 100000
/-! ### spec_HooksOfReverse: function 7 -/
mutual
def spec_HooksOfReverse.j0 : Nat → List Int → List (List Int) → Bool → Option ((List (List Int)) × Bool)
 | 0, _, _, _ => none
 | k + 1, x0, x1, x20 => if x20 = true then (some ((([] : List (List Int))), false)) else ((spec_l27Copy.f k x1).bind fun t385 => ((spec_l27Zeros.f k x0).bind fun t388 => (spec_HooksOfReverse.l0 k x0 t385 t388)))
def spec_HooksOfReverse.l0 : Nat → List Int → List (List Int) → List (List Int) → Option ((List (List Int)) × Bool)
 | 0, _, _, _ => none
 | k + 1, x0, x6, x7 => (spec_l27Total.f k x6).bind fun t391 => (if t391 > 0 then ((spec_l27First.f k x0 x6).bind fun t392 => (spec_HooksOfReverse.l1 k x0 x6 x7 t392 t392 0)) else (some (x7, true)))
def spec_HooksOfReverse.j3 : Nat → List Int → List (List Int) → List (List Int) → Int → Int → Int → Option ((List (List Int)) × Bool)
 | 0, _, _, _, _, _, _ => none
 | k + 1, x0, x6, x7, x8, x9, x10 => spec_HooksOfReverse.l2 k x0 x6 x7 x8 x9 x10
def spec_HooksOfReverse.l2 : Nat → List Int → List (List Int) → List (List Int) → Int → Int → Int → Option ((List (List Int)) × Bool)
 | 0, _, _, _, _, _, _ => none
 | k + 1, x0, x6, x7, x8, x9, x10 => if 0 ≤ x10 then (if x10 < (x6.length : Int) then (if 0 ≤ x9 then (if x9 < ((rd_L2 x6 x10).length : Int) then ((some (x6.set (x10 : Int).toNat ((rd_L2 x6 x10).set (x9 : Int).toNat (wrap64 ((rd (rd_L2 x6 x10) x9) - 1))) : List (List Int))).bind fun y399 => (if x10 > 0 then (if 0 ≤ (wrap64 (x10 - 1)) then (if (wrap64 (x10 - 1)) < (x6.length : Int) then (if x9 < ((rd_L2 y399 (wrap64 (x10 - 1))).length : Int) then (spec_HooksOfReverse.j5 k x0 y399 x7 x8 x9 x10 ((rd (rd_L2 y399 (wrap64 (x10 - 1))) x9) == (rd (rd_L2 x6 x10) x9))) else (none)) else (none)) else (none)) else (spec_HooksOfReverse.j5 k x0 y399 x7 x8 x9 x10 false))) else (none)) else (none)) else (none)) else (none)
def spec_HooksOfReverse.j5 : Nat → List Int → List (List Int) → List (List Int) → Int → Int → Int → Bool → Option ((List (List Int)) × Bool)
 | 0, _, _, _, _, _, _, _ => none
 | k + 1, x0, x6, x7, x8, x9, x10, x77 => if x77 = true then (spec_HooksOfReverse.l2 k x0 x6 x7 x8 x9 (wrap64 (x10 - 1))) else (if 0 ≤ x10 then (if x10 < (x0.length : Int) then (if (wrap64 (x9 + 1)) ≥ (rd x0 x10) then (if x10 < (x7.length : Int) then (if 0 ≤ x8 then (if x8 < ((rd_L2 x7 x10).length : Int) then (spec_HooksOfReverse.l0 k x0 x6 (x7.set (x10 : Int).toNat ((rd_L2 x7 x10).set (x8 : Int).toNat (wrap64 ((rd (rd_L2 x7 x10) x8) + 1))))) else (none)) else (none)) else (none)) else (spec_HooksOfReverse.l2 k x0 x6 x7 x8 (wrap64 (x9 + 1)) x10)) else (none)) else (none))
def spec_HooksOfReverse.l1 : Nat → List Int → List (List Int) → List (List Int) → Int → Int → Int → Option ((List (List Int)) × Bool)
 | 0, _, _, _, _, _, _ => none
 | k + 1, x0, x6, x7, x8, x9, x10 => if (wrap64 (x10 + 1)) < (x0.length : Int) then (if 0 ≤ (wrap64 (x10 + 1)) then (if (rd x0 (wrap64 (x10 + 1))) > x9 then (spec_HooksOfReverse.l1 k x0 x6 x7 x8 x9 (wrap64 (x10 + 1))) else (spec_HooksOfReverse.j3 k x0 x6 x7 x8 x9 x10)) else (none)) else (spec_HooksOfReverse.j3 k x0 x6 x7 x8 x9 x10)
end
def spec_HooksOfReverse.f (k : Nat) (l0 : List Int) (l1 : List (List Int)) : Option ((List (List Int)) × Bool) := (spec_IsReverse.f k l0 l1).bind fun t380 => (if t380 = true then ((spec_l27Total.f k l1).bind fun t381 => (spec_HooksOfReverse.j0 k l0 l1 (decide (t381 > 20)))) else (spec_HooksOfReverse.j0 k l0 l1 true))
theorem spec_HooksOfReverse.mono_l : ∀ k, (∀ y0 y1 y2, LeO (spec_HooksOfReverse.j0 k y0 y1 y2) (spec_HooksOfReverse.j0 (k + 1) y0 y1 y2)) ∧ (∀ y0 y1 y2, LeO (spec_HooksOfReverse.l0 k y0 y1 y2) (spec_HooksOfReverse.l0 (k + 1) y0 y1 y2)) ∧ (∀ y0 y1 y2 y3 y4 y5, LeO (spec_HooksOfReverse.j3 k y0 y1 y2 y3 y4 y5) (spec_HooksOfReverse.j3 (k + 1) y0 y1 y2 y3 y4 y5)) ∧ (∀ y0 y1 y2 y3 y4 y5, LeO (spec_HooksOfReverse.l2 k y0 y1 y2 y3 y4 y5) (spec_HooksOfReverse.l2 (k + 1) y0 y1 y2 y3 y4 y5)) ∧ (∀ y0 y1 y2 y3 y4 y5 y6, LeO (spec_HooksOfReverse.j5 k y0 y1 y2 y3 y4 y5 y6) (spec_HooksOfReverse.j5 (k + 1) y0 y1 y2 y3 y4 y5 y6)) ∧ (∀ y0 y1 y2 y3 y4 y5, LeO (spec_HooksOfReverse.l1 k y0 y1 y2 y3 y4 y5) (spec_HooksOfReverse.l1 (k + 1) y0 y1 y2 y3 y4 y5))
 | 0 => ⟨fun _ _ _ r h => by simp [spec_HooksOfReverse.j0] at h, fun _ _ _ r h => by simp [spec_HooksOfReverse.l0] at h, fun _ _ _ _ _ _ r h => by simp [spec_HooksOfReverse.j3] at h, fun _ _ _ _ _ _ r h => by simp [spec_HooksOfReverse.l2] at h, fun _ _ _ _ _ _ _ r h => by simp [spec_HooksOfReverse.j5] at h, fun _ _ _ _ _ _ r h => by simp [spec_HooksOfReverse.l1] at h⟩
 | k + 1 => by
  obtain ⟨ih0, ih1, ih2, ih3, ih4, ih5⟩ := spec_HooksOfReverse.mono_l k
  refine ⟨?_, ?_, ?_, ?_, ?_, ?_⟩
  ·intro y0 y1 y2
   unfold spec_HooksOfReverse.j0
   repeat' with_reducible first | exact ih0 _ _ _ | exact ih1 _ _ _ | exact ih2 _ _ _ _ _ _ | exact ih3 _ _ _ _ _ _ | exact ih4 _ _ _ _ _ _ _ | exact ih5 _ _ _ _ _ _ | exact spec_IsReverse.mono _ _ _ | exact spec_l27Copy.mono _ _ | exact spec_l27First.mono _ _ _ | exact spec_l27Total.mono _ _ | exact spec_l27Zeros.mono _ _ | exact xl | refine LeO.ite ?_ ?_ | refine LeO.bind ?_ fun _ => ?_
  ·intro y0 y1 y2
   unfold spec_HooksOfReverse.l0
   repeat' with_reducible first | exact ih0 _ _ _ | exact ih1 _ _ _ | exact ih2 _ _ _ _ _ _ | exact ih3 _ _ _ _ _ _ | exact ih4 _ _ _ _ _ _ _ | exact ih5 _ _ _ _ _ _ | exact spec_IsReverse.mono _ _ _ | exact spec_l27Copy.mono _ _ | exact spec_l27First.mono _ _ _ | exact spec_l27Total.mono _ _ | exact spec_l27Zeros.mono _ _ | exact xl | refine LeO.ite ?_ ?_ | refine LeO.bind ?_ fun _ => ?_
  ·intro y0 y1 y2 y3 y4 y5
   unfold spec_HooksOfReverse.j3
   repeat' with_reducible first | exact ih0 _ _ _ | exact ih1 _ _ _ | exact ih2 _ _ _ _ _ _ | exact ih3 _ _ _ _ _ _ | exact ih4 _ _ _ _ _ _ _ | exact ih5 _ _ _ _ _ _ | exact spec_IsReverse.mono _ _ _ | exact spec_l27Copy.mono _ _ | exact spec_l27First.mono _ _ _ | exact spec_l27Total.mono _ _ | exact spec_l27Zeros.mono _ _ | exact xl | refine LeO.ite ?_ ?_ | refine LeO.bind ?_ fun _ => ?_
  ·intro y0 y1 y2 y3 y4 y5
   unfold spec_HooksOfReverse.l2
   repeat' with_reducible first | exact ih0 _ _ _ | exact ih1 _ _ _ | exact ih2 _ _ _ _ _ _ | exact ih3 _ _ _ _ _ _ | exact ih4 _ _ _ _ _ _ _ | exact ih5 _ _ _ _ _ _ | exact spec_IsReverse.mono _ _ _ | exact spec_l27Copy.mono _ _ | exact spec_l27First.mono _ _ _ | exact spec_l27Total.mono _ _ | exact spec_l27Zeros.mono _ _ | exact xl | refine LeO.ite ?_ ?_ | refine LeO.bind ?_ fun _ => ?_
  ·intro y0 y1 y2 y3 y4 y5 y6
   unfold spec_HooksOfReverse.j5
   repeat' with_reducible first | exact ih0 _ _ _ | exact ih1 _ _ _ | exact ih2 _ _ _ _ _ _ | exact ih3 _ _ _ _ _ _ | exact ih4 _ _ _ _ _ _ _ | exact ih5 _ _ _ _ _ _ | exact spec_IsReverse.mono _ _ _ | exact spec_l27Copy.mono _ _ | exact spec_l27First.mono _ _ _ | exact spec_l27Total.mono _ _ | exact spec_l27Zeros.mono _ _ | exact xl | refine LeO.ite ?_ ?_ | refine LeO.bind ?_ fun _ => ?_
  ·intro y0 y1 y2 y3 y4 y5
   unfold spec_HooksOfReverse.l1
   repeat' with_reducible first | exact ih0 _ _ _ | exact ih1 _ _ _ | exact ih2 _ _ _ _ _ _ | exact ih3 _ _ _ _ _ _ | exact ih4 _ _ _ _ _ _ _ | exact ih5 _ _ _ _ _ _ | exact spec_IsReverse.mono _ _ _ | exact spec_l27Copy.mono _ _ | exact spec_l27First.mono _ _ _ | exact spec_l27Total.mono _ _ | exact spec_l27Zeros.mono _ _ | exact xl | refine LeO.ite ?_ ?_ | refine LeO.bind ?_ fun _ => ?_
theorem spec_HooksOfReverse.mono : ∀ a0 a1 k, LeO (spec_HooksOfReverse.f k a0 a1) (spec_HooksOfReverse.f (k + 1) a0 a1) := by
 intro a0 a1 k
 obtain ⟨ih0, ih1, ih2, ih3, ih4, ih5⟩ := spec_HooksOfReverse.mono_l k
 unfold spec_HooksOfReverse.f
 repeat' with_reducible first | exact ih0 _ _ _ | exact ih1 _ _ _ | exact ih2 _ _ _ _ _ _ | exact ih3 _ _ _ _ _ _ | exact ih4 _ _ _ _ _ _ _ | exact ih5 _ _ _ _ _ _ | exact spec_IsReverse.mono _ _ _ | exact spec_l27Copy.mono _ _ | exact spec_l27First.mono _ _ _ | exact spec_l27Total.mono _ _ | exact spec_l27Zeros.mono _ _ | exact xl | refine LeO.ite ?_ ?_ | refine LeO.bind ?_ fun _ => ?_
def spec_HooksOfReverse.T17 : Bool × List (List Nat × List Nat) := (true, [([], []), ([], []), ([0, 1], [0, 1]), ([2], [2]), ([], []), ([], []), ([], []), ([5, 6], [5, 6]), ([7], [7]), ([], []), ([8, 9], [8, 9]), ([10], [10]), ([11], [11]), ([3, 4, 0, 1, 2, 3, 4, 5, 6, 7, 8, 9, 10, 11, 12], [3, 4]), ([13, 12, 0, 1, 2, 3, 4, 5, 6, 7, 8, 9, 10, 11, 12], [12, 13])])
def spec_HooksOfReverse.B17 : List Nat := [0, 0, 3, 7, 0, 0, 0, 96, 224, 0, 992, 2016, 4064, 8191, 16383]
theorem spec_HooksOfReverse.tab17 : rtab .any (opsOf Try.f7 17) = spec_HooksOfReverse.T17 := by kernel_rfl
theorem spec_HooksOfReverse.bits17 : waitsOk spec_HooksOfReverse.T17.2 spec_HooksOfReverse.B17 = true := by kernel_rfl
theorem spec_HooksOfReverse.calls (k : Nat) (A0 : Option Addr) (c0 : Nat) (l0 : List Int) (A1 : Option Addr) (c1 : Nat) (l1 : List (List Int)) (r1 : List (List Int)) (r2 : Bool) (w : World) (hr0 : Kd.C (Kd.int .i64) w A0 l0.length l0) (hc0 : l0.length ≤ c0) (hr1 : Kd.C (Kd.slice 3 (Kd.int .i64)) w A1 l1.length l1) (hc1 : l1.length ≤ c1) (h : spec_HooksOfReverse.f k l0 l1 = some (r1, r2)) :
  Calls Try.prog 7 #[.slice A0 l0.length c0, .slice A1 l1.length c1] w fun e w' => ∃ v0_ : Value, e = .returned (.tuple #[v0_, .bool r2]) ∧ Kd.S (Kd.slice 3 (Kd.int .i64)) 24 w' w.heap.size (fun _ => True) v0_ r1 ∧ Below w.heap.size w w' := by
 have HR0 := ax hr0
 have HC0 := ax hc0
 clear hr0 hc0
 have HR1 := ax hr1
 have HC1 := ax hc1
 clear hr1 hc1
 have HB := ax (Below.refl w.heap.size w)
 have H : ((spec_IsReverse.f k l0 l1).bind fun t380 => (if t380 = true then ((spec_l27Total.f k l1).bind fun t381 => (spec_HooksOfReverse.j0 k l0 l1 (decide (t381 > 20)))) else (spec_HooksOfReverse.j0 k l0 l1 true))) = some (r1, r2) := h
 clear h
 have HC3 := ax H
 clear H
 go_enter Try.func7, Try.ntmps7
 go_upto_region 1 with (fail)
 go_cut [20] (fun v20 wc => ∃ (kq : Nat) (x20_2 : Bool), v20 = .bool x20_2 ∧ Aside0 (spec_HooksOfReverse.j0 kq l0 l1 x20_2 = some (r1, r2)) ∧ Aside0 (kq ≤ k) ∧ Aside0 (Below w.heap.size w wc))
 case first =>
  have H := HC3.out
  clear HC3
  obtain ⟨t380, A4, H⟩ := xI H
  by_cases c5 : t380 = true
  ·subst c5
   rw [if_pos rfl] at H
   obtain ⟨t381, A6, H⟩ := xI H
   have H' := ax H
   clear H
   go_wp2_with (first | ((with_reducible refine gate_callee (f := 15) rfl ?_); refine goesL_ (some 14) rfl rfl Try.func15 (by kernel_rfl) rfl #[.slice A0 l0.length c0, .slice A1 l1.length c1] rfl xm ?_; (with_reducible refine (spec_IsReverse.calls k _ _ l0 _ _ l1 true _ ?side1 ?side2 ?side3 ?side4 A4.out).mono ?_); (case side1 => exact xz HR0.out HB.out); (case side2 => exact HC0.out); (case side3 => exact xz HR1.out HB.out); (case side4 => exact HC1.out); rintro e w7 ⟨rfl, hb⟩; refine ⟨_, rfl, ?_⟩; replace HB := yB HB hb; (try clear hb)) | (go_at_call 27; (with_reducible refine (spec_l27Total.calls k _ _ l1 t381 _ ?side1 ?side2 A6.out).mono ?_); (case side1 => exact xz HR1.out HB.out); (case side2 => exact HC1.out); rintro e w' ⟨rfl, ⟨nd, rfl⟩⟩))
   go_meet
   case rel => exact ⟨_, (decide (t381 > 20)), xr, H', ⟨by first | omega | exact Nat.le_refl _⟩, ⟨xb HB.out⟩⟩
  ·replace c5 := Bool.eq_false_iff.mpr c5
   subst c5
   rw [if_neg (show ¬ (false = true) by decide)] at H
   have H' := ax H
   clear H
   go_wp2_with (first | ((with_reducible refine gate_callee (f := 15) rfl ?_); refine goesL_ (some 14) rfl rfl Try.func15 (by kernel_rfl) rfl #[.slice A0 l0.length c0, .slice A1 l1.length c1] rfl xm ?_; (with_reducible refine (spec_IsReverse.calls k _ _ l0 _ _ l1 false _ ?side1 ?side2 ?side3 ?side4 A4.out).mono ?_); (case side1 => exact xz HR0.out HB.out); (case side2 => exact HC0.out); (case side3 => exact xz HR1.out HB.out); (case side4 => exact HC1.out); rintro e w8 ⟨rfl, hb⟩; refine ⟨_, rfl, ?_⟩; replace HB := yB HB hb; (try clear hb)))
   go_meet
   case rel => exact ⟨_, (true), xr, H', ⟨by first | omega | exact Nat.le_refl _⟩, ⟨xb HB.out⟩⟩
 case rest =>
  clear HC3
  (try clear c1); (try clear c5)
  obtain ⟨kq, x20_2, rfl, HA, HJ2, HB⟩ := hcut
  cases kq with
  | zero => exact absurd HA.out (by simp [spec_HooksOfReverse.j0])
  | succ kj2 =>
   have H := HA.out
   clear HA
   simp only [spec_HooksOfReverse.j0] at H
   by_cases c9 : x20_2 = true
   ·subst c9
    rw [if_pos rfl] at H
    obtain ⟨y382, hy382⟩ : ∃ y_ : List (List Int), y_ = (([] : List (List Int))) := ⟨_, rfl⟩
    replace H : (some (y382, false)) = some (r1, r2) := xv hy382 H
    have Ny382 := ax hy382
    clear hy382
    simp only [Option.some.injEq, Prod.mk.injEq] at H
    obtain ⟨rfl, rfl⟩ := H
    go_wp2_with (first | ((with_reducible refine gate_dst (N := 21) rfl ?_); refine Kd.S_lit (Kd.slice 3 (Kd.int .i64)) _ 24 ?hg (N := 21) ?hd (xs := ([] : List (List Int))) (inner := []) (ok := fun _ => True) (okp := fun _ => True) ?hr ?hp (fun _ hk => hk) trivial (Below.refl _ _) (Nat.le_refl _) (by simp) ?_; (case hd => rfl); (case hg => rfl); (case hr => first | (go_simp; done) | (go_simp; rfl)); (case hp => exact (Reps.none _ _)); intro v383 w10 ho11 hb hg_ hnew_; clear hg_ hnew_; (first | rw [← Ny382.out] at ho11 | (simp only [Int.reduceToNat] at ho11; rw [← Ny382.out] at ho11)); have HO384 := ax (Kd.S_lower ho11 (below_size (xb HB.out))); replace HB := yB HB hb; clear hb ho11))
    go_ret2
    exact ⟨_, xe, xS HO384.out, xb HB.out⟩
   ·replace c9 := Bool.eq_false_iff.mpr c9
    subst c9
    rw [if_neg (show ¬ (false = true) by decide)] at H
    obtain ⟨t385, A12, H⟩ := xI H
    obtain ⟨t388, A13, H⟩ := xI H
    have H' := ax H
    clear H
    go_wp2_with (first | ((with_reducible refine gate_callee (f := 28) rfl ?_); refine goesL_ (some 23) rfl rfl Try.func28 (by kernel_rfl) rfl #[.slice A1 l1.length c1] rfl xm ?_; (with_reducible refine (spec_l27Copy.calls kj2 _ _ l1 t385 _ ?side1 ?side2 A12.out).mono ?_); (case side1 => exact xz HR1.out HB.out); (case side2 => exact HC1.out); rintro e w14 ⟨v386, rfl, ho0, hb⟩; refine ⟨_, rfl, ?_⟩; have HO387 := ax (Kd.S_lower ho0 (below_size (xb HB.out))); replace HB := yB HB hb; (try clear hb); (try clear ho0)) | ((with_reducible refine gate_callee (f := 29) rfl ?_); refine goesL_ (some 25) rfl rfl Try.func29 (by kernel_rfl) rfl #[.slice A0 l0.length c0] rfl xm ?_; (with_reducible refine (spec_l27Zeros.calls kj2 _ _ l0 t388 _ ?side1 ?side2 A13.out).mono ?_); (case side1 => exact xz HR0.out HB.out); (case side2 => exact HC0.out); rintro e w15 ⟨v389, rfl, ho0, hb⟩; refine ⟨_, rfl, ?_⟩; replace ho0 := Kd.deep0 ho0; obtain ⟨N409_, ho0, hN409_⟩ := ho0; have HO390 := ax (Kd.S_lower (Kd.S_new' ho0 (Kd.S_lt (xS HO387.out))) (below_size (xb HB.out))); replace HO387 := ax (Kd.S_elderD (xS HO387.out) hN409_ (Kd.S_base ho0) hb); replace HB := yB HB hb; (try clear hb); (try clear ho0); (try clear hN409_)))
    go_loopg [] kj2 (fun kq w' => ∃ (x6_2 : List (List Int)) (x7_2 : List (List Int)), Aside0 (spec_HooksOfReverse.l0 kq l0 x6_2 x7_2 = some (r1, r2)) ∧ Aside0 (kq ≤ kj2) ∧ Aside0 (Kd.S (Kd.slice 3 (Kd.int .i64)) 24 w' w.heap.size (fun k_ => some k_ ≠ (v389 : Value).ownBlock ∧ k_ ≠ dmO N409_ k_) v386 x6_2) ∧ Aside0 (Kd.S (Kd.slice 3 (Kd.int .i64)) 24 w' w.heap.size (fun k_ => some k_ ≠ (v386 : Value).ownBlock ∧ k_ ≠ dmI N409_ k_) v389 x7_2) ∧ Aside0 (Below w.heap.size w w'))
    case atStart => exact ⟨(t385), (t388), H', ⟨Nat.le_refl _⟩, ⟨by (with_reducible repeat (first | apply Kd.S_alloc | apply Kd.S_drewN | apply Kd.S_drew)); exact Kd.S_mono HO387.out (fun _ hk => ⟨hk.1.2, hk.2⟩)⟩, ⟨by (with_reducible repeat (first | apply Kd.S_alloc | apply Kd.S_drewN | apply Kd.S_drew)); exact Kd.S_mono HO390.out (fun _ hk => ⟨hk.2, hk.1⟩)⟩, ⟨xb HB.out⟩⟩
    case round =>
     clear H'
     (try clear c1); (try clear c5); (try clear c9)
     obtain ⟨x6_2, x7_2, HA, HK2, HO_6, HO_7, HB⟩ := hrel
     cases gk with
     | zero => exact absurd HA.out (by simp [spec_HooksOfReverse.l0])
     | succ k2 =>
      have H := HA.out
      clear HA
      simp only [spec_HooksOfReverse.l0] at H
      obtain ⟨t391, A16, H⟩ := xI H
      by_cases c17 : t391 > 0
      ·rw [if_pos c17] at H
       have c17b0 : decide (0 < t391) = true := decide_eq_true c17
       clear c17
       obtain ⟨t392, A18, H⟩ := xI H
       have HC19 := ax H
       clear H
       obtain ⟨Ao20, co20, eo20⟩ := Kd.S_slice HO_6.out
       subst eo20
       go_upto_block 2 with (first | ((with_reducible refine gate_callee (f := 27) rfl ?_); refine goesL_ (some 27) rfl rfl Try.func27 (by kernel_rfl) rfl #[.slice Ao20 x6_2.length co20] rfl xm ?_; (with_reducible refine (spec_l27Total.calls k2 _ _ x6_2 t391 _ ?side1 ?side2 A16.out).mono ?_); (case side1 => exact xc (Kd.S_reads' HO_6.out).2.2); (case side2 => exact (Kd.S_reads' HO_6.out).2.1); rintro e w' ⟨rfl, ⟨nd, rfl⟩⟩; refine ⟨_, rfl, ?_⟩) | ((with_reducible refine gate_callee (f := 30) rfl ?_); refine goesL_ (some 31) rfl rfl Try.func30 (by kernel_rfl) rfl #[.slice A0 l0.length c0, .slice Ao20 x6_2.length co20] rfl xm ?_; (with_reducible refine (spec_l27First.calls k2 _ _ l0 _ _ x6_2 t392 _ ?side1 ?side2 ?side3 ?side4 A18.out).mono ?_); (case side1 => exact xc (Kd.C_below HR0.out (xb HB.out))); (case side2 => exact HC0.out); (case side3 => exact xc (Kd.S_reads' HO_6.out).2.2); (case side4 => exact (Kd.S_reads' HO_6.out).2.1); rintro e w' ⟨rfl, ⟨nd, rfl⟩⟩; refine ⟨_, rfl, ?_⟩))
       (try simp only [Act.put, List.setIfInBounds_toArray, List.set_cons_zero, List.set_cons_succ])
       go_cut [10] (fun v10 wc => ∃ (kq : Nat) (x10_18 : Int), v10 = .int .i64 x10_18 ∧ Aside0 (spec_HooksOfReverse.j3 kq l0 x6_2 x7_2 t392 t392 x10_18 = some (r1, r2)) ∧ Aside0 (kq ≤ k2) ∧ Aside0 (Kd.S (Kd.slice 3 (Kd.int .i64)) 24 wc w.heap.size (fun k_ => some k_ ≠ (v389 : Value).ownBlock ∧ k_ ≠ dmO N409_ k_) (.slice Ao20 x6_2.length co20) x6_2) ∧ Aside0 (Kd.S (Kd.slice 3 (Kd.int .i64)) 24 wc w.heap.size (fun k_ => some k_ ≠ ((.slice Ao20 x6_2.length co20) : Value).ownBlock ∧ k_ ≠ dmI N409_ k_) v389 x7_2) ∧ Aside0 (Below w.heap.size w wc))
       case first =>
        have H := HC19.out
        clear HC19
        have H' := ax H
        clear H
        go_wp2
        go_loopg [10] k2 (fun kq v10 w' => ∃ (x10_3 : Int), v10 = .int .i64 x10_3 ∧ Aside0 (spec_HooksOfReverse.l1 kq l0 x6_2 x7_2 t392 t392 x10_3 = some (r1, r2)) ∧ Aside0 (kq ≤ k2) ∧ Aside0 (Kd.S (Kd.slice 3 (Kd.int .i64)) 24 w' w.heap.size (fun k_ => some k_ ≠ (v389 : Value).ownBlock ∧ k_ ≠ dmO N409_ k_) (.slice Ao20 x6_2.length co20) x6_2) ∧ Aside0 (Kd.S (Kd.slice 3 (Kd.int .i64)) 24 w' w.heap.size (fun k_ => some k_ ≠ ((.slice Ao20 x6_2.length co20) : Value).ownBlock ∧ k_ ≠ dmI N409_ k_) v389 x7_2) ∧ Aside0 (Below w.heap.size w w'))
        case atStart => exact ⟨(0), xr, H', ⟨Nat.le_refl _⟩, ⟨xS HO_6.out⟩, ⟨xS HO_7.out⟩, ⟨xb HB.out⟩⟩
        case round =>
         clear H'
         (try clear c1); (try clear c5); (try clear c9); (try clear c17); (try clear c17b0)
         obtain ⟨x10_3, rfl, HA, HK3, HO_6, HO_7, HB⟩ := hrel
         cases gk with
         | zero => exact absurd HA.out (by simp [spec_HooksOfReverse.l1])
         | succ k3 =>
          have H := HA.out
          clear HA
          simp only [spec_HooksOfReverse.l1] at H
          by_cases c21 : (wrap64 (x10_3 + 1)) < (l0.length : Int)
          ·rw [if_pos c21] at H
           have c21b0 := decide_eq_true c21
           clear c21
           (first | rw [c21b0] | (simp only [i64_w, i32_w]; rw [c21b0]) | skip)
           obtain ⟨ji22, hji22⟩ : ∃ j_ : Int, (wrap64 (x10_3 + 1)) = j_ := ⟨_, rfl⟩
           replace H : (if 0 ≤ (ji22) then (if (rd l0 (ji22)) > t392 then (spec_HooksOfReverse.l1 k3 l0 x6_2 x7_2 t392 t392 ji22) else (spec_HooksOfReverse.j3 k3 l0 x6_2 x7_2 t392 t392 x10_3)) else (none)) = some (r1, r2) := by first | (rw [hji22] at H; exact H) | (simp only [hji22] at H ⊢; exact H)
           (try rw [hji22] at c21b0)
           have hji22w : (IntKind.i64.wrap (x10_3 + 1)) = ji22 := (i64_w _).trans hji22
           obtain ⟨c23b0, H⟩ := xq H
           by_cases c24 : (rd l0 (ji22)) > t392
           ·rw [if_pos c24] at H
            have c24b0 : decide (t392 < (rd l0 (ji22))) = true := decide_eq_true c24
            clear c24
            have H' := ax H
            clear H
            have p393 : 0 ≤ ((ji22) : Int) := xd
            have q393 : (ji22) < (l0.length : Int) := xd
            obtain ⟨ad393, e393, hx393_0⟩ := Kd.at_int HR0.out (ji22) p393 q393
            cases e393
            (try replace hx393_0 := (HB.out.cell (World.block_lt_of_cell? w _ hx393_0)).trans hx393_0)
            replace p393 := eq_true p393
            replace q393 := eq_true q393
            go_wp2
            go_roundg k3
            case measure => have := HJ2.out; have := HK2.out; have := HK3.out; omega
            case rel => exact ⟨(ji22), (by first | rfl | (simp; done) | (simp only [← hji22] <;> (first | rfl | simp)) | (simp [*]; done)), H', ⟨by have := HJ2.out; have := HK2.out; have := HK3.out; omega⟩, ⟨xS HO_6.out⟩, ⟨xS HO_7.out⟩, ⟨xb HB.out⟩⟩
           ·rw [if_neg c24] at H
            have c24b0 : decide (t392 < (rd l0 (ji22))) = false := decide_eq_false c24
            clear c24
            have H' := ax H
            clear H
            have p393 : 0 ≤ ((ji22) : Int) := xd
            have q393 : (ji22) < (l0.length : Int) := xd
            obtain ⟨ad393, e393, hx393_0⟩ := Kd.at_int HR0.out (ji22) p393 q393
            cases e393
            (try replace hx393_0 := (HB.out.cell (World.block_lt_of_cell? w _ hx393_0)).trans hx393_0)
            replace p393 := eq_true p393
            replace q393 := eq_true q393
            go_wp2
            go_meet
            case rel => exact ⟨_, (x10_3), xr, H', ⟨by have := HJ2.out; have := HK2.out; have := HK3.out; first | omega | exact Nat.le_refl _⟩, ⟨xS HO_6.out⟩, ⟨xS HO_7.out⟩, ⟨xb HB.out⟩⟩
          ·rw [if_neg c21] at H
           have c21b0 := decide_eq_false c21
           clear c21
           (first | rw [c21b0] | (simp only [i64_w, i32_w]; rw [c21b0]) | skip)
           have H' := ax H
           clear H
           go_wp2
           go_meet
           case rel => exact ⟨_, (x10_3), xr, H', ⟨by have := HJ2.out; have := HK2.out; have := HK3.out; first | omega | exact Nat.le_refl _⟩, ⟨xS HO_6.out⟩, ⟨xS HO_7.out⟩, ⟨xb HB.out⟩⟩
       case rest =>
        clear HC19
        (try clear c1); (try clear c5); (try clear c9); (try clear c17); (try clear c17b0); (try clear c21); (try clear c21b0); (try clear c23); (try clear c23b0); (try clear c24); (try clear c24b0); (try clear hx393_0); (try clear p393); (try clear q393)
        obtain ⟨kq, x10_18, rfl, HA, HJ18, HO_6, HO_7, HB⟩ := hcut
        cases kq with
        | zero => exact absurd HA.out (by simp [spec_HooksOfReverse.j3])
        | succ kj18 =>
         have H := HA.out
         clear HA
         simp only [spec_HooksOfReverse.j3] at H
         have H' := ax H
         clear H
         go_wp2
         go_loopg [9, 10] kj18 (fun kq v9 v10 w' => ∃ (x6_4 : List (List Int)) (x9_4 : Int) (x10_4 : Int), v9 = .int .i64 x9_4 ∧ v10 = .int .i64 x10_4 ∧ Aside0 (spec_HooksOfReverse.l2 kq l0 x6_4 x7_2 t392 x9_4 x10_4 = some (r1, r2)) ∧ Aside0 (kq ≤ kj18) ∧ Aside0 (Kd.S (Kd.slice 3 (Kd.int .i64)) 24 w' w.heap.size (fun k_ => some k_ ≠ (v389 : Value).ownBlock ∧ k_ ≠ dmO N409_ k_) (.slice Ao20 x6_2.length co20) x6_4) ∧ Aside0 (Kd.S (Kd.slice 3 (Kd.int .i64)) 24 w' w.heap.size (fun k_ => some k_ ≠ ((.slice Ao20 x6_2.length co20) : Value).ownBlock ∧ k_ ≠ dmI N409_ k_) v389 x7_2) ∧ Aside0 (Below w.heap.size w w'))
         case atStart => exact ⟨(x6_2), (t392), (x10_18), xr, xr, H', ⟨Nat.le_refl _⟩, ⟨xS HO_6.out⟩, ⟨xS HO_7.out⟩, ⟨xb HB.out⟩⟩
         case round =>
          clear H'
          (try clear c1); (try clear c5); (try clear c9); (try clear c17); (try clear c17b0); (try clear c21); (try clear c21b0); (try clear c23); (try clear c23b0); (try clear c24); (try clear c24b0); (try clear hx393_0); (try clear p393); (try clear q393)
          obtain ⟨x6_4, x9_4, x10_4, rfl, rfl, HA, HK4, HO_6, HO_7, HB⟩ := hrel
          have hl6_4 := (Kd.S_reads' HO_6.out).1
          rw [hl6_4] at HO_6
          (try simp only [hl6_4])
          (try simp only [hl6_4] at HO_7)
          cases gk with
          | zero => exact absurd HA.out (by simp [spec_HooksOfReverse.l2])
          | succ k4 =>
           have H := HA.out
           clear HA
           simp only [spec_HooksOfReverse.l2] at H
           obtain ⟨c25b0, H⟩ := xq H
           obtain ⟨c26, H⟩ := xp H
           have c26b0 := decide_eq_true c26
           have c26b0x := c26b0
           (try simp only [hl6_4] at c26b0x)
           clear c26
           obtain ⟨c27b0, H⟩ := xq H
           obtain ⟨c28, H⟩ := xp H
           have c28b0 := decide_eq_true c28
           have c28b0x := c28b0
           (try simp only [hl6_4] at c28b0x)
           clear c28
           obtain ⟨y397, hy397⟩ : ∃ y_ : List Int, y_ = ((rd_L2 x6_4 x10_4).set (x9_4 : Int).toNat (wrap64 ((rd (rd_L2 x6_4 x10_4) x9_4) - 1))) := ⟨_, rfl⟩
           replace H : ((some (x6_4.set (x10_4 : Int).toNat y397 : List (List Int))).bind fun y399 => (if x10_4 > 0 then (if 0 ≤ (wrap64 (x10_4 - 1)) then (if (wrap64 (x10_4 - 1)) < (x6_4.length : Int) then (if x9_4 < ((rd_L2 y399 (wrap64 (x10_4 - 1))).length : Int) then (spec_HooksOfReverse.j5 k4 l0 y399 x7_2 t392 x9_4 x10_4 ((rd (rd_L2 y399 (wrap64 (x10_4 - 1))) x9_4) == (rd (rd_L2 x6_4 x10_4) x9_4))) else (none)) else (none)) else (none)) else (spec_HooksOfReverse.j5 k4 l0 y399 x7_2 t392 x9_4 x10_4 false))) = some (r1, r2) := xv hy397 H
           have Ny397 := ax hy397
           clear hy397
           obtain ⟨y399, Ny399, H⟩ := xg H
           have HC30 := ax H
           clear H
           have p394 : 0 ≤ (x10_4 : Int) := xd
           have q394 : x10_4 < (x6_4.length : Int) := xd
           obtain ⟨ad394, A394_0, c394_0, e394, hx394_0, hl394_0, hi394_0⟩ := at_L2 (Kd.S_reads' HO_6.out).2.2 x10_4 p394 q394
           cases e394
           obtain ⟨ce394, hce394, hMe394, hcc394⟩ := Kd.S_get HO_6.out [] x10_4 p394 (by first | exact q394 | exact xd | (have e_ := (Kd.S_reads' HO_6.out).1; omega))
           obtain ⟨ve394_0, rfl, ge394_0⟩ := hMe394
           have hv394_0 := hcc394 0 _ rfl
           rw [Nat.add_zero, show ((Kd.slice 3 (Kd.int .i64))).sz = 1 from rfl, Nat.mul_one] at hv394_0
           replace hv394_0 := Option.some.inj (hv394_0.symm.trans hx394_0)
           rw [hv394_0] at ge394_0
           have HL394_0 := ax (show Kd.R (Kd.int .i64) 3 _ _ _ _ (rd_L2 x6_4 x10_4) from ge394_0)
           clear hv394_0 ge394_0
           have HX394_0 := ax hx394_0
           clear hcc394 hce394
           have HR394_0 := ax hi394_0
           have HC394_0 := ax hl394_0
           clear hi394_0 hl394_0
           replace p394 := eq_true p394
           replace q394 := eq_true q394
           have p395 : 0 ≤ (x9_4 : Int) := xd
           have q395 : x9_4 < ((rd_L2 x6_4 x10_4).length : Int) := xd
           obtain ⟨ad395, e395, hx395_0⟩ := Kd.at_int (xw HR394_0.out) x9_4 p395 q395
           cases e395
           replace p395 := eq_true p395
           replace q395 := eq_true q395
           have p396 : 0 ≤ (x10_4 : Int) := xd
           have q396 : x10_4 < (x6_4.length : Int) := xd
           obtain ⟨ad396, A396_0, c396_0, e396, hx396_0, hl396_0, hi396_0⟩ := at_L2 (Kd.S_reads' HO_6.out).2.2 x10_4 p396 q396
           obtain rfl : ad394 = ad396 := (by injection e396)
           obtain ⟨ce396, hce396, hMe396, hcc396⟩ := Kd.S_get HO_6.out [] x10_4 p396 (by first | exact q396 | exact xd | (have e_ := (Kd.S_reads' HO_6.out).1; omega))
           obtain ⟨ve396_0, rfl, ge396_0⟩ := hMe396
           have hv396_0 := hcc396 0 _ rfl
           rw [Nat.add_zero, show ((Kd.slice 3 (Kd.int .i64))).sz = 1 from rfl, Nat.mul_one] at hv396_0
           replace hv396_0 := Option.some.inj (hv396_0.symm.trans hx396_0)
           rw [hv396_0] at ge396_0
           have HL396_0 := ax (show Kd.R (Kd.int .i64) 3 _ _ _ _ (rd_L2 x6_4 x10_4) from ge396_0)
           clear hv396_0 ge396_0
           have HX396_0 := ax hx396_0
           clear hcc396 hce396
           have HR396_0 := ax hi396_0
           have HC396_0 := ax hl396_0
           clear hi396_0 hl396_0
           replace p396 := eq_true p396
           replace q396 := eq_true q396
           have ea_ := Option.some.inj (hx394_0.symm.trans hx396_0)
           injection ea_ with ea_ en_ ec_
           subst ea_
           subst ec_
           clear en_
           have p29 : 0 ≤ (x9_4 : Int) := xd
           have q29 : (x9_4 : Int) < (((rd_L2 x6_4 x10_4).length : Int) : Int) := xd
           obtain ⟨go29, co29, eo29, gb29, gl29, cl29, HG29⟩ := Kd.R_form HL396_0.out (by omega)
           (first | cases eo29 | (injection eo29 with ea_ en_ ec_; (first | subst ea_ | (injection ea_ with ea_; subst ea_)); subst ec_; clear en_))
           have GB29 := ax gb29
           have GG29 := ax HG29
           clear gb29 gl29 HG29
           (first | simp only [add_plain] at hx395_0 | skip)
           obtain ⟨hx29_0, hf29_0⟩ := Kd.R_celln 0 HL396_0.out (x9_4 : Int) p29 q29
           replace p29 := eq_true p29
           replace q29 := eq_true q29
           have hq31 : (x10_4 : Int) < (x6_4.length : Int) := (by have h_ : (x10_4 : Int) < ((x6_4.length : Int) : Int) := xd; first | exact h_ | (have e_ := (Kd.S_reads' HO_6.out).1; omega) | simpa only [List.length_set, List.length_set] using h_)
           obtain ⟨oki31, ce31, hcl31, hM31, hcc31, hok31, hbk31⟩ := Kd.S_borrow HO_6.out [] (x10_4 : Int) (xd) hq31
           obtain ⟨ve31_0, rfl, ge31_0⟩ := hM31
           have hv31 := hcc31 0 _ rfl
           rw [Nat.add_zero, show ((Kd.slice 3 (Kd.int .i64))).sz = 1 from rfl, Nat.mul_one] at hv31
           replace hv31 := Option.some.inj (hv31.symm.trans HX396_0.out)
           subst hv31
           clear hcc31 hcl31
           replace ge31_0 := (show Kd.R (Kd.int .i64) 3 _ _ _ _ (rd_L2 x6_4 x10_4) from ge31_0)
           have HP31 := Kd.R_putg ge31_0 (x9_4 : Int) (wrap64 ((rd (rd_L2 x6_4 x10_4) x9_4) - 1))
           go_upto_region 13 with (first | ((with_reducible refine gate_store (t := 3) (p := 63) rfl ?_); refine store_event (t := 3) (p := 63) (v := ?vo_w32) (w1 := (wr.setCell ⟨go29, (x9_4 : Int).toNat, none⟩ (.int .i64 (wrap64 ((rd (rd_L2 x6_4 x10_4) x9_4) - 1))))) ?hg ?ho ?hn ?hr ?_; (case ho => rfl); (case hg => rfl); (case hn => rfl); (case hr => first | (go_simp; done) | (go_simp; rfl)); intro w32 hw; have hg : wr.grownBy w32 (some go29) := (by rw [hw]; exact HP31.2); have hz_ : Kd.R (Kd.int .i64) 3 w32 w.heap.size oki31 (.slice (some ⟨go29, 0, none⟩) (rd_L2 x6_4 x10_4).length c394_0) y397 := (by rw [hw, Ny397.out]; exact HP31.1); have hp_ : Kd.S (Kd.slice 3 (Kd.int .i64)) 24 w32 w.heap.size (fun k_ => some k_ ≠ (v389 : Value).ownBlock ∧ k_ ≠ dmO N409_ k_) (.slice (some ad394) x6_4.length co20) y399 := (by rw [Ny399.out]; exact hbk31 hg (fun k_ e_ => by injection e_ with e_; subst e_; exact ge31_0.1 _ rfl) (Kd.M_row hz_)); have hm_ := Kd.R_mono hz_ hok31; clear HP31 hbk31; have n0_ := ax (hp_); have n1_ := ax (Kd.S_grown (xS HO_7.out) hg (fun k_ hk_ e_ => (by have q_ := Option.some.inj e_; subst q_; exact dmNo hk_.2 ((HL396_0.out.1 _ rfl).1.2)))); have n2_ := ax ((by rw [hw]; exact below_set (HB.out) GB29.out : Below w.heap.size w w32)); have n3_ := ax (hm_); have n4_ := ax ((Kd.R_reads' hm_).2.1); clear HO_6; clear HO_7; clear HB; clear HL394_0; clear HL396_0; have HO_6 := n0_; have HO_7 := n1_; have HB := n2_; have HL411 := n3_; have HC398 := n4_; clear n0_ n1_ n2_ n3_ n4_; clear hg hw hp_ hz_ hm_ hok31))
           (try simp only [Act.put, List.setIfInBounds_toArray, List.set_cons_zero, List.set_cons_succ])
           go_cut [77] (fun v77 wc => ∃ (kq : Nat) (x77_29 : Bool), v77 = .bool x77_29 ∧ Aside0 (spec_HooksOfReverse.j5 kq l0 y399 x7_2 t392 x9_4 x10_4 x77_29 = some (r1, r2)) ∧ Aside0 (kq ≤ k4) ∧ Aside0 (Kd.S (Kd.slice 3 (Kd.int .i64)) 24 wc w.heap.size (fun k_ => some k_ ≠ (v389 : Value).ownBlock ∧ k_ ≠ dmO N409_ k_) (.slice (some ad394) x6_4.length co20) y399) ∧ Aside0 (Kd.S (Kd.slice 3 (Kd.int .i64)) 24 wc w.heap.size (fun k_ => some k_ ≠ ((.slice (some ad394) x6_4.length co20) : Value).ownBlock ∧ k_ ≠ dmI N409_ k_) v389 x7_2) ∧ Aside0 (Below w.heap.size w wc))
           case first =>
            have H := HC30.out
            clear HC30
            by_cases c33 : x10_4 > 0
            ·rw [if_pos c33] at H
             have c33b0 : decide (0 < x10_4) = true := decide_eq_true c33
             clear c33
             (first | rw [c33b0] | (simp only [i64_w, i32_w]; rw [c33b0]) | skip)
             obtain ⟨ji34, hji34⟩ : ∃ j_ : Int, (wrap64 (x10_4 - 1)) = j_ := ⟨_, rfl⟩
             replace H : (if 0 ≤ (ji34) then (if (ji34) < (x6_4.length : Int) then (if x9_4 < ((rd_L2 y399 (ji34)).length : Int) then (spec_HooksOfReverse.j5 k4 l0 y399 x7_2 t392 x9_4 x10_4 ((rd (rd_L2 y399 (ji34)) x9_4) == (rd (rd_L2 x6_4 x10_4) x9_4))) else (none)) else (none)) else (none)) = some (r1, r2) := by first | (rw [hji34] at H; exact H) | (simp only [hji34] at H ⊢; exact H)
             have hji34w : (IntKind.i64.wrap (x10_4 - 1)) = ji34 := (i64_w _).trans hji34
             obtain ⟨c35b0, H⟩ := xq H
             obtain ⟨c36, H⟩ := xp H
             have c36b0 := decide_eq_true c36
             have c36b0x := c36b0
             (try simp only [hl6_4] at c36b0x)
             clear c36
             obtain ⟨c37, H⟩ := xp H
             have c37b0 := decide_eq_true c37
             have c37b0x := c37b0
             (try simp only [hl6_4] at c37b0x)
             clear c37
             have H' := ax H
             clear H
             have p400 : 0 ≤ ((ji34) : Int) := xd
             have q400 : (ji34) < (y399.length : Int) := (by have h_ : ((ji34) : Int) < ((x6_4.length : Int) : Int) := xd; first | (have e_ := (Kd.S_reads' HO_6.out).1; omega) | simpa only [Ny399.out, List.length_set] using h_)
             have ql400 : (((ji34) : Int) < ((x6_4.length : Int) : Int)) = True := eq_true (xd)
             obtain ⟨ad400, A400_0, c400_0, e400, hx400_0, hl400_0, hi400_0⟩ := at_L2 (Kd.S_reads' HO_6.out).2.2 (ji34) p400 q400
             obtain rfl : ad394 = ad400 := (by injection e400)
             obtain ⟨ce400, hce400, hMe400, hcc400⟩ := Kd.S_get HO_6.out [] (ji34) p400 (by first | exact q400 | exact xd | (have e_ := (Kd.S_reads' HO_6.out).1; omega))
             obtain ⟨ve400_0, rfl, ge400_0⟩ := hMe400
             have hv400_0 := hcc400 0 _ rfl
             rw [Nat.add_zero, show ((Kd.slice 3 (Kd.int .i64))).sz = 1 from rfl, Nat.mul_one] at hv400_0
             replace hv400_0 := Option.some.inj (hv400_0.symm.trans hx400_0)
             rw [hv400_0] at ge400_0
             have HL400_0 := ax (show Kd.R (Kd.int .i64) 3 _ _ _ _ (rd_L2 y399 (ji34)) from ge400_0)
             clear hv400_0 ge400_0
             have HX400_0 := ax hx400_0
             clear hcc400 hce400
             have HR400_0 := ax hi400_0
             have HC400_0 := ax hl400_0
             clear hi400_0 hl400_0
             replace p400 := eq_true p400
             replace q400 := eq_true q400
             have p401 : 0 ≤ (x9_4 : Int) := xd
             have q401 : x9_4 < ((rd_L2 y399 (ji34)).length : Int) := xd
             obtain ⟨ad401, e401, hx401_0⟩ := Kd.at_int (xw HR400_0.out) x9_4 p401 q401
             cases e401
             replace p401 := eq_true p401
             replace q401 := eq_true q401
             go_wp2
             go_meet
             case rel => exact ⟨_, (((rd (rd_L2 y399 (ji34)) x9_4) == (rd (rd_L2 x6_4 x10_4) x9_4))), (by first | rfl | (simp; done) | (simp only [← hji34] <;> (first | rfl | simp)) | (simp [*]; done)), H', ⟨by have := HJ2.out; have := HK2.out; have := HJ18.out; have := HK4.out; first | omega | exact Nat.le_refl _⟩, ⟨by (try simp only [hl6_4]); (with_reducible repeat (first | apply Kd.S_alloc | apply Kd.S_drewN | apply Kd.S_drew)); first | exact HO_6.out | exact Kd.S_mono HO_6.out xi⟩, ⟨by (try simp only [hl6_4]); (with_reducible repeat (first | apply Kd.S_alloc | apply Kd.S_drewN | apply Kd.S_drew)); first | exact HO_7.out | exact Kd.S_mono HO_7.out xi⟩, ⟨xb HB.out⟩⟩
            ·rw [if_neg c33] at H
             have c33b0 : decide (0 < x10_4) = false := decide_eq_false c33
             clear c33
             (first | rw [c33b0] | (simp only [i64_w, i32_w]; rw [c33b0]) | skip)
             have H' := ax H
             clear H
             go_wp2
             go_meet
             case rel => exact ⟨_, (false), xr, H', ⟨by have := HJ2.out; have := HK2.out; have := HJ18.out; have := HK4.out; first | omega | exact Nat.le_refl _⟩, ⟨by (try simp only [hl6_4]); (with_reducible repeat (first | apply Kd.S_alloc | apply Kd.S_drewN | apply Kd.S_drew)); first | exact HO_6.out | exact Kd.S_mono HO_6.out xi⟩, ⟨by (try simp only [hl6_4]); (with_reducible repeat (first | apply Kd.S_alloc | apply Kd.S_drewN | apply Kd.S_drew)); first | exact HO_7.out | exact Kd.S_mono HO_7.out xi⟩, ⟨xb HB.out⟩⟩
           case rest =>
            clear HC30
            (try clear c1); (try clear c5); (try clear c9); (try clear c17); (try clear c17b0); (try clear c21); (try clear c21b0); (try clear c23); (try clear c23b0); (try clear c24); (try clear c24b0); (try clear c25); (try clear c25b0); (try clear c26); (try clear c26b0); (try clear c27); (try clear c27b0); (try clear c28); (try clear c28b0); (try clear p29); (try clear q29); (try clear c33); (try clear c33b0); (try clear c35); (try clear c35b0); (try clear c36); (try clear c36b0); (try clear c37); (try clear c37b0); (try clear hx29_0); (try clear hx393_0); (try clear hx394_0); (try clear hx395_0); (try clear hx396_0); (try clear hx400_0); (try clear hx401_0); (try clear p29); (try clear p393); (try clear p394); (try clear p395); (try clear p396); (try clear p400); (try clear p401); (try clear q29); (try clear q393); (try clear q394); (try clear q395); (try clear q396); (try clear q400); (try clear q401)
            obtain ⟨kq, x77_29, rfl, HA, HJ29, HO_6, HO_7, HB⟩ := hcut
            have hl6_29 := (Kd.S_reads' HO_6.out).1
            rw [hl6_29] at HO_6
            (try simp only [hl6_29])
            (try simp only [hl6_29] at HO_7)
            cases kq with
            | zero => exact absurd HA.out (by simp [spec_HooksOfReverse.j5])
            | succ kj29 =>
             have H := HA.out
             clear HA
             simp only [spec_HooksOfReverse.j5] at H
             by_cases c38 : x77_29 = true
             ·subst c38
              rw [if_pos rfl] at H
              have H' := ax H
              clear H
              go_wp2
              (try simp only [← hl6_4, ← hl6_29])
              go_roundg kj29
              case measure => have := HJ2.out; have := HK2.out; have := HJ18.out; have := HK4.out; have := HJ29.out; omega
              case rel => exact ⟨(y399), (x9_4), (wrap64 (x10_4 - 1)), xr, xr, H', ⟨by have := HJ2.out; have := HK2.out; have := HJ18.out; have := HK4.out; have := HJ29.out; omega⟩, ⟨by (try simp only [hl6_4]); (try simp only [hl6_29]); (with_reducible repeat (first | apply Kd.S_alloc | apply Kd.S_drewN | apply Kd.S_drew)); first | exact HO_6.out | exact Kd.S_mono HO_6.out xi⟩, ⟨by (try simp only [hl6_4]); (try simp only [hl6_29]); (with_reducible repeat (first | apply Kd.S_alloc | apply Kd.S_drewN | apply Kd.S_drew)); first | exact HO_7.out | exact Kd.S_mono HO_7.out xi⟩, ⟨xb HB.out⟩⟩
             ·replace c38 := Bool.eq_false_iff.mpr c38
              subst c38
              rw [if_neg (show ¬ (false = true) by decide)] at H
              obtain ⟨c39b0, H⟩ := xq H
              obtain ⟨c40, H⟩ := xp H
              have c40b0 := decide_eq_true c40
              have c40b0x := c40b0
              (try simp only [hl6_4, hl6_29] at c40b0x)
              clear c40
              by_cases c41 : (wrap64 (x9_4 + 1)) ≥ (rd l0 x10_4)
              ·rw [if_pos c41] at H
               have c41b0 : decide ((rd l0 x10_4) ≤ (wrap64 (x9_4 + 1))) = true := decide_eq_true c41
               clear c41
               obtain ⟨c42, H⟩ := xp H
               have c42b0 := decide_eq_true c42
               have c42b0x := c42b0
               (try simp only [hl6_4, hl6_29] at c42b0x)
               clear c42
               obtain ⟨c43b0, H⟩ := xq H
               obtain ⟨c44, H⟩ := xp H
               have c44b0 := decide_eq_true c44
               have c44b0x := c44b0
               (try simp only [hl6_4, hl6_29] at c44b0x)
               clear c44
               obtain ⟨y406, hy406⟩ : ∃ y_ : List Int, y_ = ((rd_L2 x7_2 x10_4).set (t392 : Int).toNat (wrap64 ((rd (rd_L2 x7_2 x10_4) t392) + 1))) := ⟨_, rfl⟩
               replace H : (spec_HooksOfReverse.l0 kj29 l0 y399 (x7_2.set (x10_4 : Int).toNat y406)) = some (r1, r2) := xv hy406 H
               have Ny406 := ax hy406
               clear hy406
               obtain ⟨y408, hy408⟩ : ∃ y_ : List (List Int), y_ = (x7_2.set (x10_4 : Int).toNat y406) := ⟨_, rfl⟩
               replace H : (spec_HooksOfReverse.l0 kj29 l0 y399 y408) = some (r1, r2) := xv hy408 H
               have Ny408 := ax hy408
               clear hy408
               have H' := ax H
               clear H
               have p402 : 0 ≤ (x10_4 : Int) := xd
               have q402 : x10_4 < (l0.length : Int) := xd
               obtain ⟨ad402, e402, hx402_0⟩ := Kd.at_int HR0.out x10_4 p402 q402
               cases e402
               (try replace hx402_0 := (HB.out.cell (World.block_lt_of_cell? w _ hx402_0)).trans hx402_0)
               replace p402 := eq_true p402
               replace q402 := eq_true q402
               try go_wp2
               replace HO_6 := ax (Kd.S_drew HO_6.out); replace HO_7 := ax (Kd.S_drew HO_7.out); replace HB := ax (below_drew1 HB.out)
               obtain ⟨Ao47, co47, eo47⟩ := Kd.S_slice HO_7.out
               (first | subst eo47 | (injection eo47 with f1_ f2_ f3_; have f4_ := f1_.symm; have f5_ := f3_.symm; clear f1_ f2_ f3_; subst f4_; subst f5_))
               have p403 : 0 ≤ (x10_4 : Int) := xd
               have q403 : x10_4 < (x7_2.length : Int) := xd
               obtain ⟨ad403, A403_0, c403_0, e403, hx403_0, hl403_0, hi403_0⟩ := at_L2 (Kd.S_reads' HO_7.out).2.2 x10_4 p403 q403
               cases e403
               obtain ⟨ce403, hce403, hMe403, hcc403⟩ := Kd.S_get HO_7.out [] x10_4 p403 (by first | exact q403 | exact xd | (have e_ := (Kd.S_reads' HO_7.out).1; omega))
               obtain ⟨ve403_0, rfl, ge403_0⟩ := hMe403
               have hv403_0 := hcc403 0 _ rfl
               rw [Nat.add_zero, show ((Kd.slice 3 (Kd.int .i64))).sz = 1 from rfl, Nat.mul_one] at hv403_0
               replace hv403_0 := Option.some.inj (hv403_0.symm.trans hx403_0)
               rw [hv403_0] at ge403_0
               have HL403_0 := ax (show Kd.R (Kd.int .i64) 3 _ _ _ _ (rd_L2 x7_2 x10_4) from ge403_0)
               clear hv403_0 ge403_0
               have HX403_0 := ax hx403_0
               clear hcc403 hce403
               have HR403_0 := ax hi403_0
               have HC403_0 := ax hl403_0
               clear hi403_0 hl403_0
               replace p403 := eq_true p403
               replace q403 := eq_true q403
               have p404 : 0 ≤ (x10_4 : Int) := xd
               have q404 : x10_4 < (x7_2.length : Int) := xd
               obtain ⟨ad404, A404_0, c404_0, e404, hx404_0, hl404_0, hi404_0⟩ := at_L2 (Kd.S_reads' HO_7.out).2.2 x10_4 p404 q404
               obtain rfl : ad403 = ad404 := (by injection e404)
               obtain ⟨ce404, hce404, hMe404, hcc404⟩ := Kd.S_get HO_7.out [] x10_4 p404 (by first | exact q404 | exact xd | (have e_ := (Kd.S_reads' HO_7.out).1; omega))
               obtain ⟨ve404_0, rfl, ge404_0⟩ := hMe404
               have hv404_0 := hcc404 0 _ rfl
               rw [Nat.add_zero, show ((Kd.slice 3 (Kd.int .i64))).sz = 1 from rfl, Nat.mul_one] at hv404_0
               replace hv404_0 := Option.some.inj (hv404_0.symm.trans hx404_0)
               rw [hv404_0] at ge404_0
               have HL404_0 := ax (show Kd.R (Kd.int .i64) 3 _ _ _ _ (rd_L2 x7_2 x10_4) from ge404_0)
               clear hv404_0 ge404_0
               have HX404_0 := ax hx404_0
               clear hcc404 hce404
               have HR404_0 := ax hi404_0
               have HC404_0 := ax hl404_0
               clear hi404_0 hl404_0
               replace p404 := eq_true p404
               replace q404 := eq_true q404
               have ea_ := Option.some.inj (hx403_0.symm.trans hx404_0)
               injection ea_ with ea_ en_ ec_
               subst ea_
               subst ec_
               clear en_
               have p405 : 0 ≤ (t392 : Int) := xd
               have q405 : t392 < ((rd_L2 x7_2 x10_4).length : Int) := xd
               obtain ⟨ad405, e405, hx405_0⟩ := Kd.at_int (xw HR404_0.out) t392 p405 q405
               cases e405
               replace p405 := eq_true p405
               replace q405 := eq_true q405
               have p45 : 0 ≤ (t392 : Int) := xd
               have q45 : (t392 : Int) < (((rd_L2 x7_2 x10_4).length : Int) : Int) := xd
               obtain ⟨go45, co45, eo45, gb45, gl45, cl45, HG45⟩ := Kd.R_form HL403_0.out (by omega)
               (first | cases eo45 | (injection eo45 with ea_ en_ ec_; (first | subst ea_ | (injection ea_ with ea_; subst ea_)); subst ec_; clear en_))
               have GB45 := ax gb45
               have GG45 := ax HG45
               clear gb45 gl45 HG45
               (first | simp only [add_plain] at hx405_0 | skip)
               obtain ⟨hx45_0, hf45_0⟩ := Kd.R_celln 0 HL403_0.out (t392 : Int) p45 q45
               replace p45 := eq_true p45
               replace q45 := eq_true q45
               have hq48 : (x10_4 : Int) < (x7_2.length : Int) := (by have h_ : (x10_4 : Int) < ((x7_2.length : Int) : Int) := xd; first | exact h_ | (have e_ := (Kd.S_reads' HO_7.out).1; omega) | simpa only [List.length_set, List.length_set] using h_)
               obtain ⟨oki48, ce48, hcl48, hM48, hcc48, hok48, hbk48⟩ := Kd.S_borrow HO_7.out [] (x10_4 : Int) (xd) hq48
               obtain ⟨ve48_0, rfl, ge48_0⟩ := hM48
               have hv48 := hcc48 0 _ rfl
               rw [Nat.add_zero, show ((Kd.slice 3 (Kd.int .i64))).sz = 1 from rfl, Nat.mul_one] at hv48
               replace hv48 := Option.some.inj (hv48.symm.trans HX403_0.out)
               subst hv48
               clear hcc48 hcl48
               replace ge48_0 := (show Kd.R (Kd.int .i64) 3 _ _ _ _ (rd_L2 x7_2 x10_4) from ge48_0)
               have HP48 := Kd.R_putg ge48_0 (t392 : Int) (wrap64 ((rd (rd_L2 x7_2 x10_4) t392) + 1))
               rw [← Ny406.out] at HP48
               have HS48 := hbk48 HP48.2 (fun k_ e_ => by injection e_ with e_; subst e_; exact ge48_0.1 _ rfl) (x' := y406) (Kd.M_row HP48.1)
               rw [← Ny408.out] at HS48
               have HQ48 := ax HS48
               clear HP48 HS48 hbk48 hok48
               refine start_ (n := 15) (S := fun w' => w'.cell? (ad403.add (x10_4).toNat) = some (.slice (some ⟨go45, 0, none⟩) (rd_L2 x7_2 x10_4).length c403_0) ∧ w'.cell? (ad403.add (x10_4).toNat) = some (.slice (some ⟨go45, 0, none⟩) (rd_L2 x7_2 x10_4).length c403_0) ∧ w'.cell? ⟨go45, (t392).toNat, none⟩ = some (.int .i64 (rd (rd_L2 x7_2 x10_4) t392))) (ds := [14]) (xB 15 0) (by kernel_rfl) rfl (by kernel_rfl) ⟨hx403_0, hx404_0, hx405_0⟩ (fun hHeld => ?_); refine with_tabW spec_HooksOfReverse.tab17 spec_HooksOfReverse.bits17 (fun HT_ HW_ => ?_)
               generalize wc.drew = w46 at HO_6 HO_7 HB GG45 HL403_0 HL404_0 HQ48 HR403_0 HR404_0 HX403_0 HX404_0 hf45_0 hx403_0 hx404_0 hx405_0 hx45_0 hHeld ⊢
               refine pu (i := 0) (N := some 89) (xB 15 1) HT_.out ?_
               refine pu (i := 1) (N := some 90) (xB 15 3) HT_.out ?_
               refine pu (i := 2) (N := some 91) (xB 15 7) HT_.out ?_
               refine pu (i := 4) (N := some 93) (xB 15 23) HT_.out ?_
               refine pu (i := 5) (N := some 94) (xB 15 55) HT_.out ?_
               refine pu (i := 6) (N := some 95) (xB 15 119) HT_.out ?_
               refine pu (i := 7) (N := some 96) (xB 15 247) HT_.out ?_
               refine pu (i := 9) (N := some 98) (xB 15 759) HT_.out ?_
               refine tk (i := 3) (N := some 92) (xB 15 767) HT_.out HW_.out hHeld ?_
               refine tk (i := 8) (N := some 97) (xB 15 1023) HT_.out HW_.out hHeld ?_
               refine pu (i := 10) (N := some 99) (xB 15 2047) HT_.out ?_
               refine tk (i := 11) (N := some 100) (xB 15 4095) HT_.out HW_.out hHeld ?_
               refine pu (i := 12) (N := some 101) (xB 15 8191) HT_.out ?_
               refine pu (i := 13) (N := some 102) (xB 15 16383) HT_.out ?_
               refine last_ (i := 14) (N := none) (xB 15 32767) rfl rfl (one_of HT_.out (by kernel_rfl)) (by decide) (fun K hK => ?_)
               refine skip_ (w1 := ?_) (by rfl) rfl ?_ ?_
               rotate_left
               ·go_simp
                rfl
               refine hK.out _ _ ?_
               clear hK K
               refine done_ (done_of HT_.out (by kernel_rfl)) ?_
               try go_wp2
               (try simp only [← hl6_4, ← hl6_29])
               go_roundg kj29
               case measure => have := HJ2.out; have := HK2.out; have := HJ18.out; have := HK4.out; have := HJ29.out; omega
               case rel => exact ⟨(y399), (y408), H', ⟨by have := HJ2.out; have := HK2.out; have := HJ18.out; have := HK4.out; have := HJ29.out; omega⟩, ⟨by (try simp only [hl6_4]); (try simp only [hl6_29]); (with_reducible repeat (first | apply Kd.S_alloc | apply Kd.S_drewN | apply Kd.S_drew)); exact Kd.S_mono (Kd.S_far (p := ⟨go45, (t392 : Int).toNat, none⟩) (Kd.S_mono HO_6.out (fun k_ hk => (⟨hk, fun e_ => (by subst e_; exact dmNo ((HL403_0.out.1 _ rfl).1.2) hk.2)⟩ : _ ∧ k_ ≠ go45))) (fun _ hk => hk.2) (.int .i64 (wrap64 ((rd (rd_L2 x7_2 x10_4) t392) + 1)))) (fun _ hk => ⟨hk.1.1, hk.1.2⟩)⟩, ⟨by (try simp only [hl6_4]); (try simp only [hl6_29]); (with_reducible repeat (first | apply Kd.S_alloc | apply Kd.S_drewN | apply Kd.S_drew)); exact HQ48.out⟩, ⟨xs HB.out GB45.out⟩⟩
              ·rw [if_neg c41] at H
               have c41b0 : decide ((rd l0 x10_4) ≤ (wrap64 (x9_4 + 1))) = false := decide_eq_false c41
               clear c41
               have H' := ax H
               clear H
               have p402 : 0 ≤ (x10_4 : Int) := xd
               have q402 : x10_4 < (l0.length : Int) := xd
               obtain ⟨ad402, e402, hx402_0⟩ := Kd.at_int HR0.out x10_4 p402 q402
               cases e402
               (try replace hx402_0 := (HB.out.cell (World.block_lt_of_cell? w _ hx402_0)).trans hx402_0)
               replace p402 := eq_true p402
               replace q402 := eq_true q402
               go_wp2
               (try simp only [← hl6_4, ← hl6_29])
               go_roundg kj29
               case measure => have := HJ2.out; have := HK2.out; have := HJ18.out; have := HK4.out; have := HJ29.out; omega
               case rel => exact ⟨(y399), (wrap64 (x9_4 + 1)), (x10_4), xr, xr, H', ⟨by have := HJ2.out; have := HK2.out; have := HJ18.out; have := HK4.out; have := HJ29.out; omega⟩, ⟨by (try simp only [hl6_4]); (try simp only [hl6_29]); (with_reducible repeat (first | apply Kd.S_alloc | apply Kd.S_drewN | apply Kd.S_drew)); first | exact HO_6.out | exact Kd.S_mono HO_6.out xi⟩, ⟨by (try simp only [hl6_4]); (try simp only [hl6_29]); (with_reducible repeat (first | apply Kd.S_alloc | apply Kd.S_drewN | apply Kd.S_drew)); first | exact HO_7.out | exact Kd.S_mono HO_7.out xi⟩, ⟨xb HB.out⟩⟩
      ·rw [if_neg c17] at H
       have c17b0 : decide (0 < t391) = false := decide_eq_false c17
       clear c17
       simp only [Option.some.injEq, Prod.mk.injEq] at H
       obtain ⟨rfl, rfl⟩ := H
       obtain ⟨Ao50, co50, eo50⟩ := Kd.S_slice HO_6.out
       subst eo50
       go_wp2_with (first | ((with_reducible refine gate_callee (f := 27) rfl ?_); refine goesL_ (some 27) rfl rfl Try.func27 (by kernel_rfl) rfl #[.slice Ao50 x6_2.length co50] rfl xm ?_; (with_reducible refine (spec_l27Total.calls k2 _ _ x6_2 t391 _ ?side1 ?side2 A16.out).mono ?_); (case side1 => exact xc (Kd.S_reads' HO_6.out).2.2); (case side2 => exact (Kd.S_reads' HO_6.out).2.1); rintro e w' ⟨rfl, ⟨nd, rfl⟩⟩; refine ⟨_, rfl, ?_⟩))
       go_ret2
       exact ⟨_, xe, by (with_reducible repeat (first | apply Kd.S_alloc | apply Kd.S_drewN | apply Kd.S_drew)); exact Kd.S_mono HO_7.out (fun _ hk => trivial), xb HB.out⟩

end Go.Proofs.Ytnfcdaojglicfab.PFnFillings
