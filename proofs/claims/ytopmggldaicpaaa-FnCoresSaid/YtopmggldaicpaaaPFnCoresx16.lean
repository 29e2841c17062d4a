import Derived.Test.YtopmggldaicpaaaPFnCoresx5
import Derived.Test.YtopmggldaicpaaaPFnCoresx9
import Derived.Test.YtopmggldaicpaaaPFnCoresx15
namespace Go.Proofs.Ytopmggldaicpaaa.PFnCores
open Go.RowKit Go.Proofs.YtopmggldaicpaaaW.PrintWords Go.Proofs.YtopmggldaicpaaaW.PrintLast Go.Proofs.YtopmggldaicpaaaW.PrintMore
set_option linter.unusedVariables false
set_option linter.unusedSimpArgs false
set_option maxHeartbeats 8000000
set_option maxRecDepth 100000
/-! ### spec_QuotientOf: function 18 -/
mutual
def spec_QuotientOf.l0 : Nat → List Int → Int → List (List Int) → Int → Option ((List (List Int)))
 | 0, _, _, _, _ => none
 | k + 1, x0, x1, x5, x6 => if x6 < (x0.length : Int) then (spec_QuotientOf.l0 k x0 x1 x5 (wrap64 (x6 + x1))) else ((spec_BetaNumbers.f k x0 x6).bind fun t591 => (spec_QuotientOf.l1 k x1 x5 t591 0))
def spec_QuotientOf.l1 : Nat → Int → List (List Int) → List Int → Int → Option ((List (List Int)))
 | 0, _, _, _, _ => none
 | k + 1, x1, x5, x7, x8 => if x8 < x1 then (spec_QuotientOf.l2 k x1 x5 x7 x8 (([] : List Int)) 0) else (some x5)
def spec_QuotientOf.l2 : Nat → Int → List (List Int) → List Int → Int → List Int → Int → Option ((List (List Int)))
 | 0, _, _, _, _, _, _ => none
 | k + 1, x1, x5, x7, x8, x9, x10 => if x10 < (x7.length : Int) then (if 0 ≤ x10 then (if x1 = 0 then (none) else (if (Int.tmod (rd x7 x10) x1) = x8 then (if x9.length < 17592186044416 then (spec_QuotientOf.l2 k x1 x5 x7 x8 (x9 ++ [wrap64 (Int.tdiv (rd x7 x10) x1)]) (wrap64 (x10 + 1))) else (none)) else (spec_QuotientOf.l2 k x1 x5 x7 x8 x9 (wrap64 (x10 + 1))))) else (none)) else ((spec_FromBeta.f k x9).bind fun bt602 => (if x5.length < 5864062014805 then (spec_QuotientOf.l1 k x1 (x5 ++ [bt602.1]) x7 (wrap64 (x8 + 1))) else (none)))
end
def spec_QuotientOf.f (k : Nat) (l0 : List Int) (a1 : Int) : Option ((List (List Int))) := (some (([] : List (List Int)) : List (List Int))).bind fun y587 => ((spec_l24Fine.f k l0 a1).bind fun t590 => (if t590 = true then (spec_QuotientOf.l0 k l0 a1 y587 0) else (some y587)))
theorem spec_QuotientOf.mono_l : ∀ k, (∀ y0 y1 y2 y3, LeO (spec_QuotientOf.l0 k y0 y1 y2 y3) (spec_QuotientOf.l0 (k + 1) y0 y1 y2 y3)) ∧ (∀ y0 y1 y2 y3, LeO (spec_QuotientOf.l1 k y0 y1 y2 y3) (spec_QuotientOf.l1 (k + 1) y0 y1 y2 y3)) ∧ (∀ y0 y1 y2 y3 y4 y5, LeO (spec_QuotientOf.l2 k y0 y1 y2 y3 y4 y5) (spec_QuotientOf.l2 (k + 1) y0 y1 y2 y3 y4 y5))
 | 0 => ⟨fun _ _ _ _ r h => by simp [spec_QuotientOf.l0] at h, fun _ _ _ _ r h => by simp [spec_QuotientOf.l1] at h, fun _ _ _ _ _ _ r h => by simp [spec_QuotientOf.l2] at h⟩
 | k + 1 => by
  obtain ⟨ih0, ih1, ih2⟩ := spec_QuotientOf.mono_l k
  refine ⟨?_, ?_, ?_⟩
  ·intro y0 y1 y2 y3
   unfold spec_QuotientOf.l0
   repeat' with_reducible first | exact ih0 _ _ _ _ | exact ih1 _ _ _ _ | exact ih2 _ _ _ _ _ _ | exact spec_BetaNumbers.mono _ _ _ | exact spec_FromBeta.mono _ _ | exact spec_l24Fine.mono _ _ _ | exact xl | refine LeO.ite ?_ ?_ | refine LeO.bind ?_ fun _ => ?_
  ·intro y0 y1 y2 y3
   unfold spec_QuotientOf.l1
   repeat' with_reducible first | exact ih0 _ _ _ _ | exact ih1 _ _ _ _ | exact ih2 _ _ _ _ _ _ | exact spec_BetaNumbers.mono _ _ _ | exact spec_FromBeta.mono _ _ | exact spec_l24Fine.mono _ _ _ | exact xl | refine LeO.ite ?_ ?_ | refine LeO.bind ?_ fun _ => ?_
  ·intro y0 y1 y2 y3 y4 y5
   unfold spec_QuotientOf.l2
   repeat' with_reducible first | exact ih0 _ _ _ _ | exact ih1 _ _ _ _ | exact ih2 _ _ _ _ _ _ | exact spec_BetaNumbers.mono _ _ _ | exact spec_FromBeta.mono _ _ | exact spec_l24Fine.mono _ _ _ | exact xl | refine LeO.ite ?_ ?_ | refine LeO.bind ?_ fun _ => ?_
theorem spec_QuotientOf.mono : ∀ a0 a1 k, LeO (spec_QuotientOf.f k a0 a1) (spec_QuotientOf.f (k + 1) a0 a1) := by
 intro a0 a1 k
 obtain ⟨ih0, ih1, ih2⟩ := spec_QuotientOf.mono_l k
 unfold spec_QuotientOf.f
 repeat' with_reducible first | exact ih0 _ _ _ _ | exact ih1 _ _ _ _ | exact ih2 _ _ _ _ _ _ | exact spec_BetaNumbers.mono _ _ _ | exact spec_FromBeta.mono _ _ | exact spec_l24Fine.mono _ _ _ | exact xl | refine LeO.ite ?_ ?_ | refine LeO.bind ?_ fun _ => ?_
theorem spec_QuotientOf.calls (k : Nat) (A0 : Option Addr) (c0 : Nat) (l0 : List Int) (a1 : Int) (r : List (List Int)) (w : World) (hr0 : Kd.C (Kd.int .i64) w A0 l0.length l0) (hc0 : l0.length ≤ c0) (h : spec_QuotientOf.f k l0 a1 = some r) :
  Calls Try.prog 18 #[.slice A0 l0.length c0, .int .i64 a1] w fun e w' => ∃ v0_ : Value, e = .returned (v0_) ∧ Kd.S (Kd.qslice 3 (Kd.int .i64)) 24 w' w.heap.size (fun _ => True) v0_ r ∧ Below w.heap.size w w' := by
 have HR0 := ax hr0
 have HC0 := ax hc0
 clear hr0 hc0
 have HB := ax (Below.refl w.heap.size w)
 have H : ((some (([] : List (List Int)) : List (List Int))).bind fun y587 => ((spec_l24Fine.f k l0 a1).bind fun t590 => (if t590 = true then (spec_QuotientOf.l0 k l0 a1 y587 0) else (some y587)))) = some r := h
 clear h
 obtain ⟨y587, Ny587, H⟩ := xg H
 obtain ⟨t590, A3, H⟩ := xI H
 by_cases c4 : t590 = true
 ·subst c4
  rw [if_pos rfl] at H
  have H' := ax H
  clear H
  go_enter Try.func18, Try.ntmps18
  go_wp2_with (first | ((with_reducible refine gate_dst (N := 13) rfl ?_); refine Kd.S_lit (Kd.qslice 3 (Kd.int .i64)) _ 24 ?hg (N := 13) ?hd (xs := ([] : List (List Int))) (inner := []) (ok := fun _ => True) (okp := fun _ => True) ?hr ?hp (fun _ hk => hk) trivial (Below.refl _ _) (Nat.le_refl _) (by simp) ?_; (case hd => rfl); (case hg => rfl); (case hr => first | (go_simp; done) | (go_simp; rfl)); (case hp => exact (Reps.none _ _)); intro v588 w5 ho6 hb hg_ hnew_; clear hg_ hnew_; (first | rw [← Ny587.out] at ho6 | (simp only [Int.reduceToNat] at ho6; rw [← Ny587.out] at ho6)); have HO589 := ax (Kd.S_lower ho6 (below_size (xb HB.out))); replace HB := yB HB hb; clear hb ho6) | ((with_reducible refine gate_callee (f := 39) rfl ?_); refine goesL_ (some 16) rfl rfl Try.func39 (by kernel_rfl) rfl #[.slice A0 l0.length c0, .int .i64 a1] rfl xm ?_; (with_reducible refine (spec_l24Fine.calls k _ _ l0 a1 true _ ?side1 ?side2 A3.out).mono ?_); (case side1 => exact xz HR0.out HB.out); (case side2 => exact HC0.out); rintro e w7 ⟨rfl, hb⟩; refine ⟨_, rfl, ?_⟩; replace HO589 := ax (Kd.S_below (xS HO589.out) hb); replace HB := yB HB hb; (try clear hb)))
  go_loopg [6] k (fun kq v6 w' => ∃ (x6_1 : Int), v6 = .int .i64 x6_1 ∧ Aside0 (spec_QuotientOf.l0 kq l0 a1 y587 x6_1 = some r) ∧ Aside0 (kq ≤ k) ∧ Aside0 (Kd.S (Kd.qslice 3 (Kd.int .i64)) 24 w' w.heap.size (fun _ => True) v588 y587) ∧ Aside0 (Below w.heap.size w w'))
  case atStart => exact ⟨(0), xr, H', ⟨Nat.le_refl _⟩, ⟨xS HO589.out⟩, ⟨xb HB.out⟩⟩
  case round =>
   clear H'
   (try clear c4)
   obtain ⟨x6_1, rfl, HA, HK1, HO_5, HB⟩ := hrel
   cases gk with
   | zero => exact absurd HA.out (by simp [spec_QuotientOf.l0])
   | succ k1 =>
    have H := HA.out
    clear HA
    simp only [spec_QuotientOf.l0] at H
    by_cases c8 : x6_1 < (l0.length : Int)
    ·rw [if_pos c8] at H
     have c8b0 := decide_eq_true c8
     clear c8
     have H' := ax H
     clear H
     go_wp2
     go_roundg k1
     case measure => have := HK1.out; omega
     case rel => exact ⟨(wrap64 (x6_1 + a1)), xr, H', ⟨by have := HK1.out; omega⟩, ⟨xS HO_5.out⟩, ⟨xb HB.out⟩⟩
    ·rw [if_neg c8] at H
     have c8b0 := decide_eq_false c8
     clear c8
     obtain ⟨t591, A9, H⟩ := xI H
     have H' := ax H
     clear H
     go_wp2_with (first | ((with_reducible refine gate_callee (f := 19) rfl ?_); refine goesL_ (some 28) rfl rfl Try.func19 (by kernel_rfl) rfl #[.slice A0 l0.length c0, .int .i64 x6_1] rfl xm ?_; (with_reducible refine (spec_BetaNumbers.calls k1 _ _ l0 x6_1 t591 _ ?side1 ?side2 A9.out).mono ?_); (case side1 => exact xz HR0.out HB.out); (case side2 => exact HC0.out); rintro e w10 ⟨v592, rfl, ho0, hb⟩; refine ⟨_, rfl, ?_⟩; replace HO_5 := ax (Kd.S_elder' (xS HO_5.out) (Kd.R_base ho0) hb); have HO593 := ax (Kd.R_lower ho0 (below_size (xb HB.out))); replace HB := yB HB hb; (try clear hb); (try clear ho0)))
     go_loopg [5, 8] k1 (fun kq v5 v8 w' => ∃ (x5_2 : List (List Int)) (x8_2 : Int), v8 = .int .i64 x8_2 ∧ Aside0 (spec_QuotientOf.l1 kq a1 x5_2 t591 x8_2 = some r) ∧ Aside0 (kq ≤ k1) ∧ Aside0 (Kd.S (Kd.qslice 3 (Kd.int .i64)) 24 w' w.heap.size (fun k_ => some k_ ≠ (v592 : Value).ownBlock) v5 x5_2) ∧ Aside0 (Kd.R (Kd.int .i64) 3 w' w.heap.size (fun _ => True) v592 t591) ∧ Aside0 (Below w.heap.size w w'))
     case atStart => exact ⟨(y587), (0), xr, H', ⟨Nat.le_refl _⟩, ⟨by (with_reducible repeat (first | apply Kd.S_alloc | apply Kd.S_drewN | apply Kd.S_drew)); exact Kd.S_mono HO_5.out (fun _ hk => hk.2)⟩, ⟨xR HO593.out⟩, ⟨xb HB.out⟩⟩
     case round =>
      clear H'
      (try clear c4); (try clear c8); (try clear c8b0)
      obtain ⟨x5_2, x8_2, rfl, HA, HK2, HO_5, HO_7, HB⟩ := hrel
      cases gk with
      | zero => exact absurd HA.out (by simp [spec_QuotientOf.l1])
      | succ k2 =>
       have H := HA.out
       clear HA
       simp only [spec_QuotientOf.l1] at H
       by_cases c11 : x8_2 < a1
       ·rw [if_pos c11] at H
        have c11b0 := decide_eq_true c11
        clear c11
        obtain ⟨y594, hy594⟩ : ∃ y_ : List Int, y_ = (([] : List Int)) := ⟨_, rfl⟩
        replace H : (spec_QuotientOf.l2 k2 a1 x5_2 t591 x8_2 y594 0) = some r := xv hy594 H
        have Ny594 := ax hy594
        clear hy594
        have H' := ax H
        clear H
        go_wp2_with (first | ((with_reducible refine gate_dst (N := 34) rfl ?_); refine Kd.R_lit (Kd.int .i64) _ 3 ?hg (N := 34) ?hd (xs := ([] : List Int)) (inner := []) (ok := fun _ => True) (okp := fun _ => True) ?hr ?hp (fun _ hk => hk) trivial (Below.refl _ _) (Nat.le_refl _) (by simp) ?_; (case hd => rfl); (case hg => rfl); (case hr => first | (go_simp; done) | (go_simp; rfl)); (case hp => exact (Reps.none _ _)); intro v595 w12 ho13 hb hg_ hnew_; clear hg_ hnew_; (first | rw [← Ny594.out] at ho13 | (simp only [Int.reduceToNat] at ho13; rw [← Ny594.out] at ho13)); replace HO_5 := ax (Kd.S_elder' (xS HO_5.out) (Kd.R_base ho13) hb); have HO596 := ax (Kd.R_lower (Kd.R_new' ho13 (Kd.R_lt (xR HO_7.out))) (below_size (xb HB.out))); replace HO_7 := ax (Kd.R_elder' (xR HO_7.out) (Kd.R_base ho13) hb); replace HB := yB HB hb; clear hb ho13))
        go_loopg [9, 10] k2 (fun kq v9 v10 w' => ∃ (x9_3 : List Int) (x10_3 : Int), v10 = .int .i64 x10_3 ∧ Aside0 (spec_QuotientOf.l2 kq a1 x5_2 t591 x8_2 x9_3 x10_3 = some r) ∧ Aside0 (kq ≤ k2) ∧ Aside0 (Kd.S (Kd.qslice 3 (Kd.int .i64)) 24 w' w.heap.size (fun k_ => some k_ ≠ (v592 : Value).ownBlock ∧ some k_ ≠ (v9 : Value).ownBlock) u5 x5_2) ∧ Aside0 (Kd.R (Kd.int .i64) 3 w' w.heap.size (fun k_ => some k_ ≠ (v9 : Value).ownBlock) v592 t591) ∧ Aside0 (Kd.R (Kd.int .i64) 3 w' w.heap.size (fun k_ => some k_ ≠ (v592 : Value).ownBlock) v9 x9_3) ∧ Aside0 (Below w.heap.size w w'))
        case atStart => exact ⟨(y594), (0), xr, H', ⟨Nat.le_refl _⟩, ⟨xS HO_5.out⟩, ⟨by (with_reducible repeat (first | apply Kd.R_alloc | apply Kd.R_drewN | apply Kd.R_drew)); exact Kd.R_mono HO_7.out (fun _ hk => hk.2)⟩, ⟨by (with_reducible repeat (first | apply Kd.R_alloc | apply Kd.R_drewN | apply Kd.R_drew)); exact Kd.R_mono HO596.out (fun _ hk => hk.2)⟩, ⟨xb HB.out⟩⟩
        case round =>
         clear H'
         (try clear c4); (try clear c8); (try clear c8b0); (try clear c11); (try clear c11b0)
         obtain ⟨x9_3, x10_3, rfl, HA, HK3, HO_5, HO_7, HO_9, HB⟩ := hrel
         cases gk with
         | zero => exact absurd HA.out (by simp [spec_QuotientOf.l2])
         | succ k3 =>
          have H := HA.out
          clear HA
          simp only [spec_QuotientOf.l2] at H
          by_cases c14 : x10_3 < (t591.length : Int)
          ·rw [if_pos c14] at H
           have c14b0 := decide_eq_true c14
           clear c14
           obtain ⟨c15b0, H⟩ := xq H
           by_cases c16 : a1 = 0
           ·rw [if_pos c16] at H
            exact absurd H (by simp)
           ·rw [if_neg c16] at H
            have c16b0 : (a1 == 0) = false := beq_eq_false_iff_ne.mpr c16
            have c16b1 : (a1 != 0) = true := bne_iff_ne.mpr c16
            by_cases c17 : (Int.tmod (rd t591 x10_3) a1) = x8_2
            ·rw [if_pos c17] at H
             have c17b0 : ((Int.tmod (rd t591 x10_3) a1) == x8_2) = true := beq_iff_eq.mpr c17
             have c17b1 : ((Int.tmod (rd t591 x10_3) a1) != x8_2) = false := bne_eq_false_iff_eq.mpr c17
             clear c17
             obtain ⟨c18, H⟩ := xp H
             have LMc18 := ax c18
             clear c18
             obtain ⟨y599, hy599⟩ : ∃ y_ : List Int, y_ = (x9_3 ++ [wrap64 (Int.tdiv (rd t591 x10_3) a1)]) := ⟨_, rfl⟩
             replace H : (spec_QuotientOf.l2 k3 a1 x5_2 t591 x8_2 y599 (wrap64 (x10_3 + 1))) = some r := xv hy599 H
             have Ny599 := ax hy599
             clear hy599
             have H' := ax H
             clear H
             obtain ⟨Ao19, co19, eo19⟩ := Kd.R_slice HO_7.out
             subst eo19
             have p597 : 0 ≤ (x10_3 : Int) := xd
             have q597 : x10_3 < (t591.length : Int) := xd
             obtain ⟨ad597, e597, hx597_0⟩ := Kd.at_int (Kd.R_reads' HO_7.out).2.2 x10_3 p597 q597
             cases e597
             replace p597 := eq_true p597
             replace q597 := eq_true q597
             have p598 : 0 ≤ (x10_3 : Int) := xd
             have q598 : x10_3 < (t591.length : Int) := xd
             obtain ⟨ad598, e598, hx598_0⟩ := Kd.at_int (Kd.R_reads' HO_7.out).2.2 x10_3 p598 q598
             obtain rfl : ad597 = ad598 := (by injection e598)
             replace p598 := eq_true p598
             replace q598 := eq_true q598
             go_wp2_with (first | ((with_reducible refine gate_builtin (b := .append) (xs := #[.tmp 49, .tmp 56]) rfl ?_); at_builtin; refine Kd.R_append (Kd.int .i64) (w0 := w) w.heap.size rfl (.tmp 49) (.tmp 56) 24 3 (.int .i64 0) 8 rfl Try.underlying24 info3 rfl (by decide) (by omega) u9 x9_3 (wrap64 (Int.tdiv (rd t591 x10_3) a1)) [.int .i64 (wrap64 (Int.tdiv (rd t591 x10_3) a1))] (fun k_ => some k_ ≠ (.slice (some ad597) t591.length co19 : Value).ownBlock) (fun _ => False) rfl rfl ?aP (fun _ hk => hk.elim) ?aF ?aO ?aB ?aS ?aL ?_; (case aP => exact rfl); (case aB => exact (xb HB.out)); (case aF => exact (fun k_ hk => Kd.fresh' (Kd.R_lt (xR HO_7.out)) k_ hk)); (case aO => exact (xR HO_9.out)); (case aS => exact (below_size (xb HB.out))); (case aL => have := LMc18.out; omega); intro v600 w20 ho hb hg hat; rw [← Ny599.out] at ho; have n0_ := ax (Kd.S_after (ok := (fun k_ => some k_ ≠ (.slice (some ad597) t591.length co19 : Value).ownBlock)) (xS HO_5.out) hg hat); have n1_ := ax (Kd.R_after (ok := (fun _ => True)) (by (with_reducible repeat (first | apply Kd.R_alloc | apply Kd.R_drewN | apply Kd.R_drew)); exact Kd.R_mono HO_7.out (fun _ hk => ⟨trivial, by first | exact hk | simpa only [xw_own] using hk⟩)) hg hat); have n2_ := ax (hb); have n3_ := ax (ho); clear HO_5; clear HO_7; clear HB; clear HO_9; have HO_5 := n0_; have HO_7 := n1_; have HB := n2_; have HO601 := n3_; clear n0_ n1_ n2_ n3_; clear ho hb hg hat))
             go_roundg k3
             case measure => have := HK1.out; have := HK2.out; have := HK3.out; omega
             case rel => exact ⟨(y599), (wrap64 (x10_3 + 1)), xr, H', ⟨by have := HK1.out; have := HK2.out; have := HK3.out; omega⟩, ⟨xS HO_5.out⟩, ⟨by (with_reducible repeat (first | apply Kd.R_alloc | apply Kd.R_drewN | apply Kd.R_drew)); exact Kd.R_mono HO_7.out (fun _ hk => hk.2)⟩, ⟨xR HO601.out⟩, ⟨xb HB.out⟩⟩
            ·rw [if_neg c17] at H
             have c17b0 : ((Int.tmod (rd t591 x10_3) a1) == x8_2) = false := beq_eq_false_iff_ne.mpr c17
             have c17b1 : ((Int.tmod (rd t591 x10_3) a1) != x8_2) = true := bne_iff_ne.mpr c17
             have H' := ax H
             clear H
             obtain ⟨Ao21, co21, eo21⟩ := Kd.R_slice HO_7.out
             subst eo21
             have p597 : 0 ≤ (x10_3 : Int) := xd
             have q597 : x10_3 < (t591.length : Int) := xd
             obtain ⟨ad597, e597, hx597_0⟩ := Kd.at_int (Kd.R_reads' HO_7.out).2.2 x10_3 p597 q597
             cases e597
             replace p597 := eq_true p597
             replace q597 := eq_true q597
             go_wp2
             go_roundg k3
             case measure => have := HK1.out; have := HK2.out; have := HK3.out; omega
             case rel => exact ⟨(x9_3), (wrap64 (x10_3 + 1)), xr, H', ⟨by have := HK1.out; have := HK2.out; have := HK3.out; omega⟩, ⟨xS HO_5.out⟩, ⟨xR HO_7.out⟩, ⟨xR HO_9.out⟩, ⟨xb HB.out⟩⟩
          ·rw [if_neg c14] at H
           have c14b0 := decide_eq_false c14
           clear c14
           obtain ⟨⟨t602, t603⟩, A22, H⟩ := xI H
           dsimp only at H
           obtain ⟨c23, H⟩ := xp H
           have LMc23 := ax c23
           clear c23
           obtain ⟨y606, hy606⟩ : ∃ y_ : List (List Int), y_ = (x5_2 ++ [t602]) := ⟨_, rfl⟩
           replace H : (spec_QuotientOf.l1 k3 a1 y606 t591 (wrap64 (x8_2 + 1))) = some r := xv hy606 H
           have Ny606 := ax hy606
           clear hy606
           have H' := ax H
           clear H
           obtain ⟨Ao24, co24, eo24⟩ := Kd.R_slice HO_7.out
           subst eo24
           obtain ⟨Ao25, co25, eo25⟩ := Kd.R_slice HO_9.out
           subst eo25
           go_wp2_with (first | ((with_reducible refine gate_callee (f := 13) rfl ?_); refine goesL_ (some 60) rfl rfl Try.func13 (by kernel_rfl) rfl #[.slice Ao25 x9_3.length co25] rfl xm ?_; (with_reducible refine (spec_FromBeta.calls k3 _ _ x9_3 t602 t603 _ ?side1 ?side2 A22.out).mono ?_); (case side1 => exact xc (Kd.R_reads' HO_9.out).2.2); (case side2 => exact (Kd.R_reads' HO_9.out).2.1); rintro e w26 ⟨v604, rfl, ho0, hb⟩; refine ⟨_, rfl, ?_⟩; replace HO_5 := ax (Kd.S_elder' (xS HO_5.out) (Kd.R_base ho0) hb); have HO605 := ax (Kd.R_lower (Kd.R_new' (Kd.R_new' ho0 (Kd.R_lt (xR HO_7.out))) (Kd.R_lt (xR HO_9.out))) (below_size (xb HB.out))); replace HO_7 := ax (Kd.R_elder' (xR HO_7.out) (Kd.R_base ho0) hb); replace HO_9 := ax (Kd.R_elder' (xR HO_9.out) (Kd.R_base ho0) hb); replace HB := yB HB hb; (try clear hb); (try clear ho0); obtain ⟨Ao28, co28, eo28⟩ := Kd.R_slice HO605.out; subst eo28) | ((with_reducible refine gate_builtin (b := .append) (xs := #[.tmp 63, .tmp 65]) rfl ?_); at_builtin; refine Kd.S_append (Kd.qslice 3 (Kd.int .i64)) (w0 := w) w.heap.size rfl (.tmp 63) (.tmp 65) 29 24 (.slice none 0 0) 24 rfl Try.underlying29 info24 rfl (by decide) (by omega) u5 x5_2 t602 [.slice Ao28 t602.length co28] (fun k_ => some k_ ≠ (.slice Ao24 t591.length co24 : Value).ownBlock ∧ some k_ ≠ (.slice Ao25 x9_3.length co25 : Value).ownBlock) (fun k_ => some k_ = (.slice Ao28 t602.length co28 : Value).ownBlock) rfl rfl ?aP (fun k_ hk_ => ((Kd.Q_mono (ok' := fun k_ => ((fun k_ => some k_ ≠ (.slice Ao24 t591.length co24 : Value).ownBlock ∧ some k_ ≠ (.slice Ao25 x9_3.length co25 : Value).ownBlock)) k_ ∧ some k_ ≠ (u5 : Value).ownBlock) (Kd.Q_apart' (Kd.Q_of_R (HO605.out)) (Kd.S_typed HO_5.out) (by decide)) (fun k_ hk => ⟨⟨hk.1.1.2, hk.1.2⟩, hk.2⟩))).1 k_ hk_.symm) ?aF ?aO ?aB ?aS ?aL ?_; (case aP => exact Kd.M_rowq (Kd.Q_mono (Kd.Q_tight rfl (Kd.Q_mono (ok' := fun k_ => ((fun k_ => some k_ ≠ (.slice Ao24 t591.length co24 : Value).ownBlock ∧ some k_ ≠ (.slice Ao25 x9_3.length co25 : Value).ownBlock)) k_ ∧ some k_ ≠ (u5 : Value).ownBlock) (Kd.Q_apart' (Kd.Q_of_R (HO605.out)) (Kd.S_typed HO_5.out) (by decide)) (fun k_ hk => ⟨⟨hk.1.1.2, hk.1.2⟩, hk.2⟩))) (fun _ h_ => h_))); (case aB => exact (xb HB.out)); (case aF => exact (fun k_ hk => ⟨Kd.fresh' (Kd.R_lt (xR HO_7.out)) k_ hk, Kd.fresh' (Kd.R_lt (xR HO_9.out)) k_ hk⟩)); (case aO => exact (by (with_reducible repeat (first | apply Kd.S_alloc | apply Kd.S_drewN | apply Kd.S_drew)); exact Kd.S_mono HO_5.out (fun k_ hk => ⟨⟨hk.1.1, hk.1.2⟩, fun e_ => hk.2 e_⟩))); (case aS => exact (below_size (xb HB.out))); (case aL => have := LMc23.out; omega); intro v607 w27 ho hb hg hat; rw [← Ny606.out] at ho; have n0_ := ax (Kd.R_over' (xR HO_7.out) (Kd.S_typed (xS HO_5.out)) (by decide) hg); have n1_ := ax (Kd.R_over' (xR HO_9.out) (Kd.S_typed (xS HO_5.out)) (by decide) hg); have n2_ := ax (hb); have n3_ := ax (ho); clear HO_7; clear HO_9; clear HB; clear HO_5; clear HO605; have HO_7 := n0_; have HO_9 := n1_; have HB := n2_; have HO608 := n3_; clear n0_ n1_ n2_ n3_; clear ho hb hg hat))
           go_roundg k3
           case measure => have := HK1.out; have := HK2.out; have := HK3.out; omega
           case rel => exact ⟨(y606), (wrap64 (x8_2 + 1)), xr, H', ⟨by have := HK1.out; have := HK2.out; have := HK3.out; omega⟩, ⟨by (with_reducible repeat (first | apply Kd.S_alloc | apply Kd.S_drewN | apply Kd.S_drew)); exact Kd.S_mono HO608.out (fun _ hk => hk.1)⟩, ⟨by (with_reducible repeat (first | apply Kd.R_alloc | apply Kd.R_drewN | apply Kd.R_drew)); exact Kd.R_mono HO_7.out (fun _ hk => trivial)⟩, ⟨xb HB.out⟩⟩
       ·rw [if_neg c11] at H
        have c11b0 := decide_eq_false c11
        clear c11
        obtain rfl := Option.some.inj H
        go_wp2
        go_ret
        exact ⟨_, xe, by (with_reducible repeat (first | apply Kd.S_alloc | apply Kd.S_drewN | apply Kd.S_drew)); exact Kd.S_mono HO_5.out (fun _ hk => trivial), xb HB.out⟩
 ·replace c4 := Bool.eq_false_iff.mpr c4
  subst c4
  rw [if_neg (show ¬ (false = true) by decide)] at H
  obtain rfl := Option.some.inj H
  go_enter Try.func18, Try.ntmps18
  go_wp2_with (first | ((with_reducible refine gate_dst (N := 13) rfl ?_); refine Kd.S_lit (Kd.qslice 3 (Kd.int .i64)) _ 24 ?hg (N := 13) ?hd (xs := ([] : List (List Int))) (inner := []) (ok := fun _ => True) (okp := fun _ => True) ?hr ?hp (fun _ hk => hk) trivial (Below.refl _ _) (Nat.le_refl _) (by simp) ?_; (case hd => rfl); (case hg => rfl); (case hr => first | (go_simp; done) | (go_simp; rfl)); (case hp => exact (Reps.none _ _)); intro v588 w29 ho30 hb hg_ hnew_; clear hg_ hnew_; (first | rw [← Ny587.out] at ho30 | (simp only [Int.reduceToNat] at ho30; rw [← Ny587.out] at ho30)); have HO589 := ax (Kd.S_lower ho30 (below_size (xb HB.out))); replace HB := yB HB hb; clear hb ho30) | ((with_reducible refine gate_callee (f := 39) rfl ?_); refine goesL_ (some 16) rfl rfl Try.func39 (by kernel_rfl) rfl #[.slice A0 l0.length c0, .int .i64 a1] rfl xm ?_; (with_reducible refine (spec_l24Fine.calls k _ _ l0 a1 false _ ?side1 ?side2 A3.out).mono ?_); (case side1 => exact xz HR0.out HB.out); (case side2 => exact HC0.out); rintro e w31 ⟨rfl, hb⟩; refine ⟨_, rfl, ?_⟩; replace HO589 := ax (Kd.S_below (xS HO589.out) hb); replace HB := yB HB hb; (try clear hb)))
  go_ret
  exact ⟨_, xe, xS HO589.out, xb HB.out⟩

/-! ### impl_IsCore: function 20 -/
def impl_IsCore.f (k : Nat) (l0 : List Int) (a1 : Int) : Option (Bool) := (impl_stripped.f k l0 a1).bind fun bt609 => (if bt609.2.2 = true then ((slices_Equal_int_int.f k bt609.1 l0).bind fun t614 => (some t614)) else (some false))
theorem impl_IsCore.mono : ∀ a0 a1 k, LeO (impl_IsCore.f k a0 a1) (impl_IsCore.f (k + 1) a0 a1) := by
 intro a0 a1 k
 unfold impl_IsCore.f
 repeat' with_reducible first | exact impl_stripped.mono _ _ _ | exact slices_Equal_int_int.mono _ _ _ | exact xl | refine LeO.ite ?_ ?_ | refine LeO.bind ?_ fun _ => ?_
theorem impl_IsCore.calls (k : Nat) (A0 : Option Addr) (c0 : Nat) (l0 : List Int) (a1 : Int) (r : Bool) (w : World) (hr0 : Kd.C (Kd.int .i64) w A0 l0.length l0) (hc0 : l0.length ≤ c0) (h : impl_IsCore.f k l0 a1 = some r) :
  Calls Try.prog 20 #[.slice A0 l0.length c0, .int .i64 a1] w fun e w' => e = .returned (.bool r) ∧ Below w.heap.size w w' := by
 have HR0 := ax hr0
 have HC0 := ax hc0
 clear hr0 hc0
 have HB := ax (Below.refl w.heap.size w)
 have H : ((impl_stripped.f k l0 a1).bind fun bt609 => (if bt609.2.2 = true then ((slices_Equal_int_int.f k bt609.1 l0).bind fun t614 => (some t614)) else (some false))) = some r := h
 clear h
 obtain ⟨⟨t609, t612, t613⟩, A3, H⟩ := xI H
 dsimp only at H
 by_cases c4 : t613 = true
 ·subst c4
  rw [if_pos rfl] at H
  obtain ⟨t614, A5, H⟩ := xI H
  obtain rfl := Option.some.inj H
  go_enter Try.func20, Try.ntmps20
  go_wp2_with (first | ((with_reducible refine gate_callee (f := 25) rfl ?_); refine goesL_ (some 11) rfl rfl Try.func25 (by kernel_rfl) rfl #[.slice A0 l0.length c0, .int .i64 a1] rfl xm ?_; (with_reducible refine (impl_stripped.calls k _ _ l0 a1 t609 t612 true _ ?side1 ?side2 A3.out).mono ?_); (case side1 => exact xc HR0.out); (case side2 => exact HC0.out); rintro e w6 ⟨v610, rfl, ho0, hb⟩; refine ⟨_, rfl, ?_⟩; have HO611 := ax (Kd.V_lower (Kd.V_mono (ok' := fun k_ => True) ho0 (fun k_ hk_ => trivial)) (below_size (xb HB.out))); replace HB := yB HB hb; (try clear hb); (try clear ho0); obtain ⟨Ao7, co7, eo7⟩ := Kd.V_slice HO611.out; subst eo7) | (go_at_call 36; (with_reducible refine (slices_Equal_int_int.calls k _ _ t609 _ _ l0 t614 _ ?side1 ?side2 ?side3 ?side4 A5.out).mono ?_); (case side1 => exact xc (Kd.V_reads' HO611.out).2.2); (case side2 => exact (Kd.V_reads' HO611.out).2.1); (case side3 => exact xz HR0.out HB.out); (case side4 => exact HC0.out); rintro e w' ⟨rfl, ⟨nd, rfl⟩⟩))
  go_ret
  exact ⟨xe, xb HB.out⟩
 ·replace c4 := Bool.eq_false_iff.mpr c4
  subst c4
  rw [if_neg (show ¬ (false = true) by decide)] at H
  obtain rfl := Option.some.inj H
  go_enter Try.func20, Try.ntmps20
  go_wp2_with (first | ((with_reducible refine gate_callee (f := 25) rfl ?_); refine goesL_ (some 11) rfl rfl Try.func25 (by kernel_rfl) rfl #[.slice A0 l0.length c0, .int .i64 a1] rfl xm ?_; (with_reducible refine (impl_stripped.calls k _ _ l0 a1 t609 t612 false _ ?side1 ?side2 A3.out).mono ?_); (case side1 => exact xc HR0.out); (case side2 => exact HC0.out); rintro e w8 ⟨v610, rfl, ho0, hb⟩; refine ⟨_, rfl, ?_⟩; have HO611 := ax (Kd.V_lower (Kd.V_mono (ok' := fun k_ => True) ho0 (fun k_ hk_ => trivial)) (below_size (xb HB.out))); replace HB := yB HB hb; (try clear hb); (try clear ho0)))
  go_ret
  exact ⟨xe, xb HB.out⟩

/-! ### spec_IsCore: function 21 -/
def spec_IsCore.f (k : Nat) (l0 : List Int) (a1 : Int) : Option (Bool) := (spec_l24Fine.f k l0 a1).bind fun t615 => (if t615 = true then ((spec_CoreWeight.f k l0 a1).bind fun t616 => (some (t616 == 0))) else (some false))
theorem spec_IsCore.mono : ∀ a0 a1 k, LeO (spec_IsCore.f k a0 a1) (spec_IsCore.f (k + 1) a0 a1) := by
 intro a0 a1 k
 unfold spec_IsCore.f
 repeat' with_reducible first | exact spec_CoreWeight.mono _ _ _ | exact spec_l24Fine.mono _ _ _ | exact xl | refine LeO.ite ?_ ?_ | refine LeO.bind ?_ fun _ => ?_
theorem spec_IsCore.calls (k : Nat) (A0 : Option Addr) (c0 : Nat) (l0 : List Int) (a1 : Int) (r : Bool) (w : World) (hr0 : Kd.C (Kd.int .i64) w A0 l0.length l0) (hc0 : l0.length ≤ c0) (h : spec_IsCore.f k l0 a1 = some r) :
  Calls Try.prog 21 #[.slice A0 l0.length c0, .int .i64 a1] w fun e w' => e = .returned (.bool r) ∧ Below w.heap.size w w' := by
 have HR0 := ax hr0
 have HC0 := ax hc0
 clear hr0 hc0
 have HB := ax (Below.refl w.heap.size w)
 have H : ((spec_l24Fine.f k l0 a1).bind fun t615 => (if t615 = true then ((spec_CoreWeight.f k l0 a1).bind fun t616 => (some (t616 == 0))) else (some false))) = some r := h
 clear h
 obtain ⟨t615, A3, H⟩ := xI H
 by_cases c4 : t615 = true
 ·subst c4
  rw [if_pos rfl] at H
  obtain ⟨t616, A5, H⟩ := xI H
  obtain rfl := Option.some.inj H
  go_enter Try.func21, Try.ntmps21
  go_wp2_with (first | ((with_reducible refine gate_callee (f := 39) rfl ?_); refine goesL_ (some 7) rfl rfl Try.func39 (by kernel_rfl) rfl #[.slice A0 l0.length c0, .int .i64 a1] rfl xm ?_; (with_reducible refine (spec_l24Fine.calls k _ _ l0 a1 true _ ?side1 ?side2 A3.out).mono ?_); (case side1 => exact xc HR0.out); (case side2 => exact HC0.out); rintro e w6 ⟨rfl, hb⟩; refine ⟨_, rfl, ?_⟩; replace HB := yB HB hb; (try clear hb)) | (go_at_call 16; (with_reducible refine (spec_CoreWeight.calls k _ _ l0 a1 t616 _ ?side1 ?side2 A5.out).mono ?_); (case side1 => exact xz HR0.out HB.out); (case side2 => exact HC0.out); rintro e w7 ⟨rfl, hb⟩; replace HB := yB HB hb; (try clear hb)))
  go_ret
  exact ⟨xe, xb HB.out⟩
 ·replace c4 := Bool.eq_false_iff.mpr c4
  subst c4
  rw [if_neg (show ¬ (false = true) by decide)] at H
  obtain rfl := Option.some.inj H
  go_enter Try.func21, Try.ntmps21
  go_wp2_with (first | ((with_reducible refine gate_callee (f := 39) rfl ?_); refine goesL_ (some 7) rfl rfl Try.func39 (by kernel_rfl) rfl #[.slice A0 l0.length c0, .int .i64 a1] rfl xm ?_; (with_reducible refine (spec_l24Fine.calls k _ _ l0 a1 false _ ?side1 ?side2 A3.out).mono ?_); (case side1 => exact xc HR0.out); (case side2 => exact HC0.out); rintro e w8 ⟨rfl, hb⟩; refine ⟨_, rfl, ?_⟩; replace HB := yB HB hb; (try clear hb)))
  go_ret
  exact ⟨xe, xb HB.out⟩

/-! ### spec_SizeOf: function 22 -/
def spec_SizeOf.f (k : Nat) (l0 : List Int) : Option (Int) := (spec_IsPartition.f k l0).bind fun t617 => (if t617 = true then ((spec_l2Size.f k l0).bind fun t618 => (some t618)) else (some (-1)))
theorem spec_SizeOf.mono : ∀ a0 k, LeO (spec_SizeOf.f k a0) (spec_SizeOf.f (k + 1) a0) := by
 intro a0 k
 unfold spec_SizeOf.f
 repeat' with_reducible first | exact spec_IsPartition.mono _ _ | exact spec_l2Size.mono _ _ | exact xl | refine LeO.ite ?_ ?_ | refine LeO.bind ?_ fun _ => ?_
theorem spec_SizeOf.calls (k : Nat) (A0 : Option Addr) (c0 : Nat) (l0 : List Int) (r : Int) (w : World) (hr0 : Kd.C (Kd.int .i64) w A0 l0.length l0) (hc0 : l0.length ≤ c0) (h : spec_SizeOf.f k l0 = some r) :
  Calls Try.prog 22 #[.slice A0 l0.length c0] w fun e w' => e = .returned (.int .i64 r) ∧ Below w.heap.size w w' := by
 have HR0 := ax hr0
 have HC0 := ax hc0
 clear hr0 hc0
 have HB := ax (Below.refl w.heap.size w)
 have H : ((spec_IsPartition.f k l0).bind fun t617 => (if t617 = true then ((spec_l2Size.f k l0).bind fun t618 => (some t618)) else (some (-1)))) = some r := h
 clear h
 obtain ⟨t617, A2, H⟩ := xI H
 by_cases c3 : t617 = true
 ·subst c3
  rw [if_pos rfl] at H
  obtain ⟨t618, A4, H⟩ := xI H
  obtain rfl := Option.some.inj H
  go_enter Try.func22, Try.ntmps22
  go_wp2_with (first | ((with_reducible refine gate_callee (f := 41) rfl ?_); refine goesL_ (some 4) rfl rfl Try.func41 (by kernel_rfl) rfl #[.slice A0 l0.length c0] rfl xm ?_; (with_reducible refine (spec_IsPartition.calls k _ _ l0 true _ ?side1 ?side2 A2.out).mono ?_); (case side1 => exact xc HR0.out); (case side2 => exact HC0.out); rintro e w5 ⟨rfl, hb⟩; refine ⟨_, rfl, ?_⟩; replace HB := yB HB hb; (try clear hb)) | ((with_reducible refine gate_callee (f := 43) rfl ?_); refine goesL_ (some 7) rfl rfl Try.func43 (by kernel_rfl) rfl #[.slice A0 l0.length c0] rfl xm ?_; (with_reducible refine (spec_l2Size.calls k _ _ l0 t618 _ ?side1 ?side2 A4.out).mono ?_); (case side1 => exact xz HR0.out HB.out); (case side2 => exact HC0.out); rintro e w' ⟨rfl, ⟨nd, rfl⟩⟩; refine ⟨_, rfl, ?_⟩))
  go_ret
  exact ⟨xe, xb HB.out⟩
 ·replace c3 := Bool.eq_false_iff.mpr c3
  subst c3
  rw [if_neg (show ¬ (false = true) by decide)] at H
  obtain rfl := Option.some.inj H
  go_enter Try.func22, Try.ntmps22
  go_wp2_with (first | ((with_reducible refine gate_callee (f := 41) rfl ?_); refine goesL_ (some 4) rfl rfl Try.func41 (by kernel_rfl) rfl #[.slice A0 l0.length c0] rfl xm ?_; (with_reducible refine (spec_IsPartition.calls k _ _ l0 false _ ?side1 ?side2 A2.out).mono ?_); (case side1 => exact xc HR0.out); (case side2 => exact HC0.out); rintro e w6 ⟨rfl, hb⟩; refine ⟨_, rfl, ?_⟩; replace HB := yB HB hb; (try clear hb)))
  go_ret
  exact ⟨xe, xb HB.out⟩

end Go.Proofs.Ytopmggldaicpaaa.PFnCores
