import Derived.Test.YtopmggldaicpaaaPFnCoresx1
import Derived.Test.YtopmggldaicpaaaPFnCoresx6
namespace Go.Proofs.Ytopmggldaicpaaa.PFnCores
open Go.RowKit Go.Proofs.YtopmggldaicpaaaW.PrintWords Go.Proofs.YtopmggldaicpaaaW.PrintLast Go.Proofs.YtopmggldaicpaaaW.PrintMore
set_option linter.unusedVariables false
set_option linter.unusedSimpArgs false
set_option maxHeartbeats 8000000
set_option maxRecDepth 100000
/-! ### impl_QuotientOf: function 8 -/
mutual
def impl_QuotientOf.j0 : Nat → List Int → Int → Bool → Option ((List (List Int)))
 | 0, _, _, _ => none
 | k + 1, x0, x1, x20 => if x20 = true then (some ([] : List (List Int))) else (if x1 = 0 then (none) else (impl_QuotientOf.l0 k x0 x1 (wrap64 ((wrap64 (Int.tdiv (wrap64 ((wrap64 ((x0.length : Int) + x1)) - 1)) x1)) * x1)) (([] : List (List Int))) x1 0))
def impl_QuotientOf.l0 : Nat → List Int → Int → Int → List (List Int) → Int → Int → Option ((List (List Int)))
 | 0, _, _, _, _, _, _ => none
 | k + 1, x0, x1, x5, x6, x31, x32 => if x32 < x31 then ((impl_BetaNumbers.f k x0 x5).bind fun t344 => (impl_QuotientOf.l1 k x0 x1 x5 x6 x32 (([] : List Int)) x31 x32 t344 (t344.length : Int) 0)) else (some x6)
def impl_QuotientOf.l1 : Nat → List Int → Int → Int → List (List Int) → Int → List Int → Int → Int → List Int → Int → Int → Option ((List (List Int)))
 | 0, _, _, _, _, _, _, _, _, _, _, _ => none
 | k + 1, x0, x1, x5, x6, x7, x8, x31, x32, x38, x39, x40 => if x40 < x39 then (if 0 ≤ x40 then (if x40 < (x38.length : Int) then (if x1 = 0 then (none) else (if (Int.tmod (rd x38 x40) x1) = x7 then (if x8.length < 17592186044416 then (impl_QuotientOf.l1 k x0 x1 x5 x6 x7 (x8 ++ [wrap64 (Int.tdiv (rd x38 x40) x1)]) x31 x32 x38 x39 (wrap64 (x40 + 1))) else (none)) else (impl_QuotientOf.l1 k x0 x1 x5 x6 x7 x8 x31 x32 x38 x39 (wrap64 (x40 + 1))))) else (none)) else (none)) else ((impl_FromBeta.f k x8).bind fun bt351 => (if x6.length < 5864062014805 then (impl_QuotientOf.l0 k x0 x1 x5 (x6 ++ [bt351.1]) x31 (wrap64 (x32 + 1))) else (none)))
end
def impl_QuotientOf.f (k : Nat) (l0 : List Int) (a1 : Int) : Option ((List (List Int))) := (impl_IsPartition.f k l0).bind fun t336 => (if t336 = true then ((impl_within.f a1 1 9).bind fun t337 => (impl_QuotientOf.j0 k l0 a1 (!t337))) else (impl_QuotientOf.j0 k l0 a1 true))
theorem impl_QuotientOf.mono_l : ∀ k, (∀ y0 y1 y2, LeO (impl_QuotientOf.j0 k y0 y1 y2) (impl_QuotientOf.j0 (k + 1) y0 y1 y2)) ∧ (∀ y0 y1 y2 y3 y4 y5, LeO (impl_QuotientOf.l0 k y0 y1 y2 y3 y4 y5) (impl_QuotientOf.l0 (k + 1) y0 y1 y2 y3 y4 y5)) ∧ (∀ y0 y1 y2 y3 y4 y5 y6 y7 y8 y9 y10, LeO (impl_QuotientOf.l1 k y0 y1 y2 y3 y4 y5 y6 y7 y8 y9 y10) (impl_QuotientOf.l1 (k + 1) y0 y1 y2 y3 y4 y5 y6 y7 y8 y9 y10))
 | 0 => ⟨fun _ _ _ r h => by simp [impl_QuotientOf.j0] at h, fun _ _ _ _ _ _ r h => by simp [impl_QuotientOf.l0] at h, fun _ _ _ _ _ _ _ _ _ _ _ r h => by simp [impl_QuotientOf.l1] at h⟩
 | k + 1 => by
  obtain ⟨ih0, ih1, ih2⟩ := impl_QuotientOf.mono_l k
  refine ⟨?_, ?_, ?_⟩
  ·intro y0 y1 y2
   unfold impl_QuotientOf.j0
   repeat' with_reducible first | exact ih0 _ _ _ | exact ih1 _ _ _ _ _ _ | exact ih2 _ _ _ _ _ _ _ _ _ _ _ | exact impl_BetaNumbers.mono _ _ _ | exact impl_FromBeta.mono _ _ | exact impl_IsPartition.mono _ _ | exact xl | refine LeO.ite ?_ ?_ | refine LeO.bind ?_ fun _ => ?_
  ·intro y0 y1 y2 y3 y4 y5
   unfold impl_QuotientOf.l0
   repeat' with_reducible first | exact ih0 _ _ _ | exact ih1 _ _ _ _ _ _ | exact ih2 _ _ _ _ _ _ _ _ _ _ _ | exact impl_BetaNumbers.mono _ _ _ | exact impl_FromBeta.mono _ _ | exact impl_IsPartition.mono _ _ | exact xl | refine LeO.ite ?_ ?_ | refine LeO.bind ?_ fun _ => ?_
  ·intro y0 y1 y2 y3 y4 y5 y6 y7 y8 y9 y10
   unfold impl_QuotientOf.l1
   repeat' with_reducible first | exact ih0 _ _ _ | exact ih1 _ _ _ _ _ _ | exact ih2 _ _ _ _ _ _ _ _ _ _ _ | exact impl_BetaNumbers.mono _ _ _ | exact impl_FromBeta.mono _ _ | exact impl_IsPartition.mono _ _ | exact xl | refine LeO.ite ?_ ?_ | refine LeO.bind ?_ fun _ => ?_
theorem impl_QuotientOf.mono : ∀ a0 a1 k, LeO (impl_QuotientOf.f k a0 a1) (impl_QuotientOf.f (k + 1) a0 a1) := by
 intro a0 a1 k
 obtain ⟨ih0, ih1, ih2⟩ := impl_QuotientOf.mono_l k
 unfold impl_QuotientOf.f
 repeat' with_reducible first | exact ih0 _ _ _ | exact ih1 _ _ _ _ _ _ | exact ih2 _ _ _ _ _ _ _ _ _ _ _ | exact impl_BetaNumbers.mono _ _ _ | exact impl_FromBeta.mono _ _ | exact impl_IsPartition.mono _ _ | exact xl | refine LeO.ite ?_ ?_ | refine LeO.bind ?_ fun _ => ?_
theorem impl_QuotientOf.calls (k : Nat) (A0 : Option Addr) (c0 : Nat) (l0 : List Int) (a1 : Int) (r : List (List Int)) (w : World) (hr0 : Kd.C (Kd.int .i64) w A0 l0.length l0) (hc0 : l0.length ≤ c0) (h : impl_QuotientOf.f k l0 a1 = some r) :
  Calls Try.prog 8 #[.slice A0 l0.length c0, .int .i64 a1] w fun e w' => ∃ v0_ : Value, e = .returned (v0_) ∧ Kd.S (Kd.qslice 3 (Kd.int .i64)) 24 w' w.heap.size (fun _ => True) v0_ r ∧ Below w.heap.size w w' := by
 have HR0 := ax hr0
 have HC0 := ax hc0
 clear hr0 hc0
 have HB := ax (Below.refl w.heap.size w)
 have H : ((impl_IsPartition.f k l0).bind fun t336 => (if t336 = true then ((impl_within.f a1 1 9).bind fun t337 => (impl_QuotientOf.j0 k l0 a1 (!t337))) else (impl_QuotientOf.j0 k l0 a1 true))) = some r := h
 clear h
 have HC3 := ax H
 clear H
 go_enter Try.func8, Try.ntmps8
 go_upto_region 1 with (fail)
 go_cut [20] (fun v20 wc => ∃ (kq : Nat) (x20_2 : Bool), v20 = .bool x20_2 ∧ Aside0 (impl_QuotientOf.j0 kq l0 a1 x20_2 = some r) ∧ Aside0 (kq ≤ k) ∧ Aside0 (Below w.heap.size w wc))
 case first =>
  have H := HC3.out
  clear HC3
  obtain ⟨t336, A4, H⟩ := xI H
  by_cases c5 : t336 = true
  ·subst c5
   rw [if_pos rfl] at H
   obtain ⟨t337, A6, H⟩ := xI H
   have H' := ax H
   clear H
   go_wp2_with (first | ((with_reducible refine gate_callee (f := 26) rfl ?_); refine goesL_ (some 14) rfl rfl Try.func26 (by kernel_rfl) rfl #[.slice A0 l0.length c0] rfl xm ?_; (with_reducible refine (impl_IsPartition.calls k _ _ l0 true _ ?side1 ?side2 A4.out).mono ?_); (case side1 => exact xz HR0.out HB.out); (case side2 => exact HC0.out); rintro e w' ⟨rfl, ⟨nd, rfl⟩⟩; refine ⟨_, rfl, ?_⟩) | (go_at_call 27; (with_reducible refine (impl_within.calls a1 1 9 t337 _ A6.out).mono ?_); rintro e w' ⟨rfl, ⟨nd, rfl⟩⟩))
   go_meet
   case rel => exact ⟨_, (!t337), xr, H', ⟨by first | omega | exact Nat.le_refl _⟩, ⟨xb HB.out⟩⟩
  ·replace c5 := Bool.eq_false_iff.mpr c5
   subst c5
   rw [if_neg (show ¬ (false = true) by decide)] at H
   have H' := ax H
   clear H
   go_wp2_with (first | ((with_reducible refine gate_callee (f := 26) rfl ?_); refine goesL_ (some 14) rfl rfl Try.func26 (by kernel_rfl) rfl #[.slice A0 l0.length c0] rfl xm ?_; (with_reducible refine (impl_IsPartition.calls k _ _ l0 false _ ?side1 ?side2 A4.out).mono ?_); (case side1 => exact xz HR0.out HB.out); (case side2 => exact HC0.out); rintro e w' ⟨rfl, ⟨nd, rfl⟩⟩; refine ⟨_, rfl, ?_⟩))
   go_meet
   case rel => exact ⟨_, (true), xr, H', ⟨by first | omega | exact Nat.le_refl _⟩, ⟨xb HB.out⟩⟩
 case rest =>
  clear HC3
  (try clear c5)
  obtain ⟨kq, x20_2, rfl, HA, HJ2, HB⟩ := hcut
  cases kq with
  | zero => exact absurd HA.out (by simp [impl_QuotientOf.j0])
  | succ kj2 =>
   have H := HA.out
   clear HA
   simp only [impl_QuotientOf.j0] at H
   by_cases c7 : x20_2 = true
   ·subst c7
    rw [if_pos rfl] at H
    obtain rfl := Option.some.inj H
    go_wp2
    go_ret
    exact ⟨_, xe, by first | exact Kd.S_nil _ _ _ _ _ | exact Kd.N_nil _ _ _ _ _ | exact Kd.V_nil _ _ _ _ _ | exact Kd.Q_nil _ _ _ _ _ | exact Kd.R_nil _ _ _ _ _, xb HB.out⟩
   ·replace c7 := Bool.eq_false_iff.mpr c7
    subst c7
    rw [if_neg (show ¬ (false = true) by decide)] at H
    by_cases c8 : a1 = 0
    ·rw [if_pos c8] at H
     exact absurd H (by simp)
    ·rw [if_neg c8] at H
     have c8b0 : (a1 == 0) = false := beq_eq_false_iff_ne.mpr c8
     have c8b1 : (a1 != 0) = true := bne_iff_ne.mpr c8
     obtain ⟨y338, hy338⟩ : ∃ y_ : List (List Int), y_ = (([] : List (List Int))) := ⟨_, rfl⟩
     replace H : (impl_QuotientOf.l0 kj2 l0 a1 (wrap64 ((wrap64 (Int.tdiv (wrap64 ((wrap64 ((l0.length : Int) + a1)) - 1)) a1)) * a1)) y338 a1 0) = some r := xv hy338 H
     have Ny338 := ax hy338
     clear hy338
     have H' := ax H
     clear H
     go_wp2_with (first | ((with_reducible refine gate_dst (N := 30) rfl ?_); refine Kd.S_lit (Kd.qslice 3 (Kd.int .i64)) _ 24 ?hg (N := 30) ?hd (xs := ([] : List (List Int))) (inner := []) (ok := fun _ => True) (okp := fun _ => True) ?hr ?hp (fun _ hk => hk) trivial (Below.refl _ _) (Nat.le_refl _) (by simp) ?_; (case hd => rfl); (case hg => rfl); (case hr => first | (go_simp; done) | (go_simp; rfl)); (case hp => exact (Reps.none _ _)); intro v339 w9 ho10 hb hg_ hnew_; clear hg_ hnew_; (first | rw [← Ny338.out] at ho10 | (simp only [Int.reduceToNat] at ho10; rw [← Ny338.out] at ho10)); have HO340 := ax (Kd.S_lower ho10 (below_size (xb HB.out))); replace HB := yB HB hb; clear hb ho10))
     go_loopg [6, 32] kj2 (fun kq v6 v32 w' => ∃ (x6_2 : List (List Int)) (x32_2 : Int), v32 = .int .i64 x32_2 ∧ Aside0 (impl_QuotientOf.l0 kq l0 a1 (wrap64 ((wrap64 (Int.tdiv (wrap64 ((wrap64 ((l0.length : Int) + a1)) - 1)) a1)) * a1)) x6_2 a1 x32_2 = some r) ∧ Aside0 (kq ≤ kj2) ∧ Aside0 (Kd.S (Kd.qslice 3 (Kd.int .i64)) 24 w' w.heap.size (fun _ => True) v6 x6_2) ∧ Aside0 (Below w.heap.size w w'))
     case atStart => exact ⟨(y338), (0), xr, H', ⟨Nat.le_refl _⟩, ⟨xS HO340.out⟩, ⟨xb HB.out⟩⟩
     case round =>
      clear H'
      (try clear c5); (try clear c7); (try clear c8); (try clear c8b0); (try clear c8b1)
      obtain ⟨x6_2, x32_2, rfl, HA, HK2, HO_6, HB⟩ := hrel
      cases gk with
      | zero => exact absurd HA.out (by simp [impl_QuotientOf.l0])
      | succ k2 =>
       have H := HA.out
       clear HA
       simp only [impl_QuotientOf.l0] at H
       by_cases c11 : x32_2 < a1
       ·rw [if_pos c11] at H
        have c11b0 := decide_eq_true c11
        clear c11
        obtain ⟨y341, hy341⟩ : ∃ y_ : List Int, y_ = (([] : List Int)) := ⟨_, rfl⟩
        replace H : ((impl_BetaNumbers.f k2 l0 (wrap64 ((wrap64 (Int.tdiv (wrap64 ((wrap64 ((l0.length : Int) + a1)) - 1)) a1)) * a1))).bind fun t344 => (impl_QuotientOf.l1 k2 l0 a1 (wrap64 ((wrap64 (Int.tdiv (wrap64 ((wrap64 ((l0.length : Int) + a1)) - 1)) a1)) * a1)) x6_2 x32_2 y341 a1 x32_2 t344 (t344.length : Int) 0)) = some r := xv hy341 H
        have Ny341 := ax hy341
        clear hy341
        obtain ⟨t344, A12, H⟩ := xI H
        have H' := ax H
        clear H
        go_wp2_with (first | ((with_reducible refine gate_dst (N := 35) rfl ?_); refine Kd.R_lit (Kd.int .i64) _ 3 ?hg (N := 35) ?hd (xs := ([] : List Int)) (inner := []) (ok := fun _ => True) (okp := fun _ => True) ?hr ?hp (fun _ hk => hk) trivial (Below.refl _ _) (Nat.le_refl _) (by simp) ?_; (case hd => rfl); (case hg => rfl); (case hr => first | (go_simp; done) | (go_simp; rfl)); (case hp => exact (Reps.none _ _)); intro v342 w13 ho14 hb hg_ hnew_; clear hg_ hnew_; (first | rw [← Ny341.out] at ho14 | (simp only [Int.reduceToNat] at ho14; rw [← Ny341.out] at ho14)); replace HO_6 := ax (Kd.S_elder' (xS HO_6.out) (Kd.R_base ho14) hb); have HO343 := ax (Kd.R_lower ho14 (below_size (xb HB.out))); replace HB := yB HB hb; clear hb ho14) | ((with_reducible refine gate_callee (f := 10) rfl ?_); refine goesL_ (some 38) rfl rfl Try.func10 (by kernel_rfl) rfl #[.slice A0 l0.length c0, .int .i64 (wrap64 ((wrap64 (Int.tdiv (wrap64 ((wrap64 ((l0.length : Int) + a1)) - 1)) a1)) * a1))] rfl xm ?_; (with_reducible refine (impl_BetaNumbers.calls k2 _ _ l0 (wrap64 ((wrap64 (Int.tdiv (wrap64 ((wrap64 ((l0.length : Int) + a1)) - 1)) a1)) * a1)) t344 _ ?side1 ?side2 A12.out).mono ?_); (case side1 => exact xz HR0.out HB.out); (case side2 => exact HC0.out); rintro e w15 ⟨v345, rfl, ho0, hb⟩; refine ⟨_, rfl, ?_⟩; replace HO_6 := ax (Kd.S_elder' (xS HO_6.out) (Kd.R_base ho0) hb); have HO346 := ax (Kd.R_lower (Kd.R_new' ho0 (Kd.R_lt (xR HO343.out))) (below_size (xb HB.out))); replace HO343 := ax (Kd.R_elder' (xR HO343.out) (Kd.R_base ho0) hb); replace HB := yB HB hb; (try clear hb); (try clear ho0); obtain ⟨Ao16, co16, eo16⟩ := Kd.R_slice HO346.out; subst eo16))
        go_loopg [8, 40] k2 (fun kq v8 v40 w' => ∃ (x8_3 : List Int) (x40_3 : Int), v40 = .int .i64 x40_3 ∧ Aside0 (impl_QuotientOf.l1 kq l0 a1 (wrap64 ((wrap64 (Int.tdiv (wrap64 ((wrap64 ((l0.length : Int) + a1)) - 1)) a1)) * a1)) x6_2 x32_2 x8_3 a1 x32_2 t344 (t344.length : Int) x40_3 = some r) ∧ Aside0 (kq ≤ k2) ∧ Aside0 (Kd.S (Kd.qslice 3 (Kd.int .i64)) 24 w' w.heap.size (fun k_ => some k_ ≠ (v8 : Value).ownBlock ∧ some k_ ≠ ((.slice Ao16 t344.length co16) : Value).ownBlock) u6 x6_2) ∧ Aside0 (Kd.R (Kd.int .i64) 3 w' w.heap.size (fun k_ => some k_ ≠ ((.slice Ao16 t344.length co16) : Value).ownBlock) v8 x8_3) ∧ Aside0 (Kd.R (Kd.int .i64) 3 w' w.heap.size (fun k_ => some k_ ≠ (v8 : Value).ownBlock) (.slice Ao16 t344.length co16) t344) ∧ Aside0 (Below w.heap.size w w'))
        case atStart => exact ⟨(y341), (0), xr, H', ⟨Nat.le_refl _⟩, ⟨by (with_reducible repeat (first | apply Kd.S_alloc | apply Kd.S_drewN | apply Kd.S_drew)); exact Kd.S_mono HO_6.out (fun _ hk => ⟨hk.1.2, hk.2⟩)⟩, ⟨by (with_reducible repeat (first | apply Kd.R_alloc | apply Kd.R_drewN | apply Kd.R_drew)); exact Kd.R_mono HO343.out (fun _ hk => hk.2)⟩, ⟨by (with_reducible repeat (first | apply Kd.R_alloc | apply Kd.R_drewN | apply Kd.R_drew)); exact Kd.R_mono HO346.out (fun _ hk => hk.2)⟩, ⟨xb HB.out⟩⟩
        case round =>
         clear H'
         (try clear c5); (try clear c7); (try clear c8); (try clear c8b0); (try clear c8b1); (try clear c11); (try clear c11b0)
         obtain ⟨x8_3, x40_3, rfl, HA, HK3, HO_6, HO_8, HO_38, HB⟩ := hrel
         cases gk with
         | zero => exact absurd HA.out (by simp [impl_QuotientOf.l1])
         | succ k3 =>
          have H := HA.out
          clear HA
          simp only [impl_QuotientOf.l1] at H
          by_cases c17 : x40_3 < (t344.length : Int)
          ·rw [if_pos c17] at H
           have c17b0 := decide_eq_true c17
           clear c17
           obtain ⟨c18b0, H⟩ := xq H
           obtain ⟨c19b0, H⟩ := xq H
           by_cases c20 : a1 = 0
           ·rw [if_pos c20] at H
            exact absurd H (by simp)
           ·rw [if_neg c20] at H
            have c20b0 : (a1 == 0) = false := beq_eq_false_iff_ne.mpr c20
            have c20b1 : (a1 != 0) = true := bne_iff_ne.mpr c20
            by_cases c21 : (Int.tmod (rd t344 x40_3) a1) = x32_2
            ·rw [if_pos c21] at H
             have c21b0 : ((Int.tmod (rd t344 x40_3) a1) == x32_2) = true := beq_iff_eq.mpr c21
             have c21b1 : ((Int.tmod (rd t344 x40_3) a1) != x32_2) = false := bne_eq_false_iff_eq.mpr c21
             clear c21
             obtain ⟨c22, H⟩ := xp H
             have LMc22 := ax c22
             clear c22
             obtain ⟨y348, hy348⟩ : ∃ y_ : List Int, y_ = (x8_3 ++ [wrap64 (Int.tdiv (rd t344 x40_3) a1)]) := ⟨_, rfl⟩
             replace H : (impl_QuotientOf.l1 k3 l0 a1 (wrap64 ((wrap64 (Int.tdiv (wrap64 ((wrap64 ((l0.length : Int) + a1)) - 1)) a1)) * a1)) x6_2 x32_2 y348 a1 x32_2 t344 (t344.length : Int) (wrap64 (x40_3 + 1))) = some r := xv hy348 H
             have Ny348 := ax hy348
             clear hy348
             have H' := ax H
             clear H
             have p347 : 0 ≤ (x40_3 : Int) := xd
             have q347 : x40_3 < (t344.length : Int) := xd
             obtain ⟨ad347, e347, hx347_0⟩ := Kd.at_int (Kd.R_reads' HO_38.out).2.2 x40_3 p347 q347
             cases e347
             replace p347 := eq_true p347
             replace q347 := eq_true q347
             go_wp2_with (first | ((with_reducible refine gate_builtin (b := .append) (xs := #[.tmp 49, .tmp 53]) rfl ?_); at_builtin; refine Kd.R_append (Kd.int .i64) (w0 := w) w.heap.size rfl (.tmp 49) (.tmp 53) 24 3 (.int .i64 0) 8 rfl Try.underlying24 info3 rfl (by decide) (by omega) u8 x8_3 (wrap64 (Int.tdiv (rd t344 x40_3) a1)) [.int .i64 (wrap64 (Int.tdiv (rd t344 x40_3) a1))] (fun k_ => some k_ ≠ (.slice (some ad347) t344.length co16 : Value).ownBlock) (fun _ => False) rfl rfl ?aP (fun _ hk => hk.elim) ?aF ?aO ?aB ?aS ?aL ?_; (case aP => exact rfl); (case aB => exact (xb HB.out)); (case aF => exact (fun k_ hk => Kd.fresh' (Kd.R_lt (xR HO_38.out)) k_ hk)); (case aO => exact (xR HO_8.out)); (case aS => exact (below_size (xb HB.out))); (case aL => have := LMc22.out; omega); intro v349 w23 ho hb hg hat; rw [← Ny348.out] at ho; have n0_ := ax (Kd.S_after (ok := (fun k_ => some k_ ≠ (.slice (some ad347) t344.length co16 : Value).ownBlock)) (by (with_reducible repeat (first | apply Kd.S_alloc | apply Kd.S_drewN | apply Kd.S_drew)); exact Kd.S_mono HO_6.out (fun _ hk => ⟨hk.2, hk.1⟩)) hg hat); have n1_ := ax (Kd.R_after (ok := (fun _ => True)) (by (with_reducible repeat (first | apply Kd.R_alloc | apply Kd.R_drewN | apply Kd.R_drew)); exact Kd.R_mono HO_38.out (fun _ hk => ⟨trivial, by first | exact hk | simpa only [xw_own] using hk⟩)) hg hat); have n2_ := ax (hb); have n3_ := ax (ho); clear HO_6; clear HO_38; clear HB; clear HO_8; have HO_6 := n0_; have HO_38 := n1_; have HB := n2_; have HO350 := n3_; clear n0_ n1_ n2_ n3_; clear ho hb hg hat))
             go_roundg k3
             case measure => have := HJ2.out; have := HK2.out; have := HK3.out; omega
             case rel => exact ⟨(y348), (wrap64 (x40_3 + 1)), xr, H', ⟨by have := HJ2.out; have := HK2.out; have := HK3.out; omega⟩, ⟨by (with_reducible repeat (first | apply Kd.S_alloc | apply Kd.S_drewN | apply Kd.S_drew)); exact Kd.S_mono HO_6.out (fun _ hk => ⟨hk.2, hk.1⟩)⟩, ⟨xR HO350.out⟩, ⟨by (with_reducible repeat (first | apply Kd.R_alloc | apply Kd.R_drewN | apply Kd.R_drew)); exact Kd.R_mono HO_38.out (fun _ hk => hk.2)⟩, ⟨xb HB.out⟩⟩
            ·rw [if_neg c21] at H
             have c21b0 : ((Int.tmod (rd t344 x40_3) a1) == x32_2) = false := beq_eq_false_iff_ne.mpr c21
             have c21b1 : ((Int.tmod (rd t344 x40_3) a1) != x32_2) = true := bne_iff_ne.mpr c21
             have H' := ax H
             clear H
             have p347 : 0 ≤ (x40_3 : Int) := xd
             have q347 : x40_3 < (t344.length : Int) := xd
             obtain ⟨ad347, e347, hx347_0⟩ := Kd.at_int (Kd.R_reads' HO_38.out).2.2 x40_3 p347 q347
             cases e347
             replace p347 := eq_true p347
             replace q347 := eq_true q347
             go_wp2
             go_roundg k3
             case measure => have := HJ2.out; have := HK2.out; have := HK3.out; omega
             case rel => exact ⟨(x8_3), (wrap64 (x40_3 + 1)), xr, H', ⟨by have := HJ2.out; have := HK2.out; have := HK3.out; omega⟩, ⟨xS HO_6.out⟩, ⟨xR HO_8.out⟩, ⟨xR HO_38.out⟩, ⟨xb HB.out⟩⟩
          ·rw [if_neg c17] at H
           have c17b0 := decide_eq_false c17
           clear c17
           obtain ⟨⟨t351, t352⟩, A24, H⟩ := xI H
           dsimp only at H
           obtain ⟨c25, H⟩ := xp H
           have LMc25 := ax c25
           clear c25
           obtain ⟨y355, hy355⟩ : ∃ y_ : List (List Int), y_ = (x6_2 ++ [t351]) := ⟨_, rfl⟩
           replace H : (impl_QuotientOf.l0 k3 l0 a1 (wrap64 ((wrap64 (Int.tdiv (wrap64 ((wrap64 ((l0.length : Int) + a1)) - 1)) a1)) * a1)) y355 a1 (wrap64 (x32_2 + 1))) = some r := xv hy355 H
           have Ny355 := ax hy355
           clear hy355
           have H' := ax H
           clear H
           obtain ⟨Ao26, co26, eo26⟩ := Kd.R_slice HO_8.out
           subst eo26
           go_wp2_with (first | ((with_reducible refine gate_callee (f := 12) rfl ?_); refine goesL_ (some 58) rfl rfl Try.func12 (by kernel_rfl) rfl #[.slice Ao26 x8_3.length co26] rfl xm ?_; (with_reducible refine (impl_FromBeta.calls k3 _ _ x8_3 t351 t352 _ ?side1 ?side2 A24.out).mono ?_); (case side1 => exact xc (Kd.R_reads' HO_8.out).2.2); (case side2 => exact (Kd.R_reads' HO_8.out).2.1); rintro e w27 ⟨v353, rfl, ho0, hb⟩; refine ⟨_, rfl, ?_⟩; replace HO_6 := ax (Kd.S_elder' (xS HO_6.out) (Kd.Q_base ho0) hb); have HO354 := ax (Kd.Q_lower (Kd.Q_new' (Kd.Q_new' ho0 (Kd.R_lt (xR HO_8.out))) (Kd.R_lt (xR HO_38.out))) (below_size (xb HB.out))); replace HO_8 := ax (Kd.R_elder' (xR HO_8.out) (Kd.Q_base ho0) hb); replace HO_38 := ax (Kd.R_elder' (xR HO_38.out) (Kd.Q_base ho0) hb); replace HB := yB HB hb; (try clear hb); (try clear ho0); obtain ⟨Ao29, co29, eo29, _⟩ := Kd.Q_slice HO354.out; subst eo29) | ((with_reducible refine gate_builtin (b := .append) (xs := #[.tmp 61, .tmp 63]) rfl ?_); at_builtin; refine Kd.S_append (Kd.qslice 3 (Kd.int .i64)) (w0 := w) w.heap.size rfl (.tmp 61) (.tmp 63) 29 24 (.slice none 0 0) 24 rfl Try.underlying29 info24 rfl (by decide) (by omega) u6 x6_2 t351 [.slice Ao29 t351.length co29] (fun k_ => some k_ ≠ (.slice Ao26 x8_3.length co26 : Value).ownBlock ∧ some k_ ≠ (.slice Ao16 t344.length co16 : Value).ownBlock) (fun k_ => some k_ = (.slice Ao29 t351.length co29 : Value).ownBlock) rfl rfl ?aP (fun k_ hk_ => ((Kd.Q_mono (ok' := fun k_ => ((fun k_ => some k_ ≠ (.slice Ao26 x8_3.length co26 : Value).ownBlock ∧ some k_ ≠ (.slice Ao16 t344.length co16 : Value).ownBlock)) k_ ∧ some k_ ≠ (u6 : Value).ownBlock) (Kd.Q_apart' (HO354.out) (Kd.S_typed HO_6.out) (by decide)) (fun k_ hk => ⟨⟨hk.1.1.2, hk.1.2⟩, hk.2⟩))).1 k_ hk_.symm) ?aF ?aO ?aB ?aS ?aL ?_; (case aP => exact Kd.M_rowq (Kd.Q_mono (Kd.Q_tight rfl (Kd.Q_mono (ok' := fun k_ => ((fun k_ => some k_ ≠ (.slice Ao26 x8_3.length co26 : Value).ownBlock ∧ some k_ ≠ (.slice Ao16 t344.length co16 : Value).ownBlock)) k_ ∧ some k_ ≠ (u6 : Value).ownBlock) (Kd.Q_apart' (HO354.out) (Kd.S_typed HO_6.out) (by decide)) (fun k_ hk => ⟨⟨hk.1.1.2, hk.1.2⟩, hk.2⟩))) (fun _ h_ => h_))); (case aB => exact (xb HB.out)); (case aF => exact (fun k_ hk => ⟨Kd.fresh' (Kd.R_lt (xR HO_8.out)) k_ hk, Kd.fresh' (Kd.R_lt (xR HO_38.out)) k_ hk⟩)); (case aO => exact (by (with_reducible repeat (first | apply Kd.S_alloc | apply Kd.S_drewN | apply Kd.S_drew)); exact Kd.S_mono HO_6.out (fun k_ hk => ⟨⟨hk.1.1, hk.1.2⟩, fun e_ => hk.2 e_⟩))); (case aS => exact (below_size (xb HB.out))); (case aL => have := LMc25.out; omega); intro v356 w28 ho hb hg hat; rw [← Ny355.out] at ho; have n0_ := ax (Kd.R_over' (xR HO_8.out) (Kd.S_typed (xS HO_6.out)) (by decide) hg); have n1_ := ax (Kd.R_over' (xR HO_38.out) (Kd.S_typed (xS HO_6.out)) (by decide) hg); have n2_ := ax (hb); have n3_ := ax (ho); clear HO_8; clear HO_38; clear HB; clear HO_6; clear HO354; have HO_8 := n0_; have HO_38 := n1_; have HB := n2_; have HO357 := n3_; clear n0_ n1_ n2_ n3_; clear ho hb hg hat))
           go_roundg k3
           case measure => have := HJ2.out; have := HK2.out; have := HK3.out; omega
           case rel => exact ⟨(y355), (wrap64 (x32_2 + 1)), xr, H', ⟨by have := HJ2.out; have := HK2.out; have := HK3.out; omega⟩, ⟨by (with_reducible repeat (first | apply Kd.S_alloc | apply Kd.S_drewN | apply Kd.S_drew)); exact Kd.S_mono HO357.out (fun _ hk => trivial)⟩, ⟨xb HB.out⟩⟩
       ·rw [if_neg c11] at H
        have c11b0 := decide_eq_false c11
        clear c11
        obtain rfl := Option.some.inj H
        go_wp2
        go_ret
        exact ⟨_, xe, xS HO_6.out, xb HB.out⟩

/-! ### spec_l1Bit: function 31 -/
def spec_l1Bit.f (a0 : Bool) : Option (Int) := if a0 = true then (some 1) else (some 0)
theorem spec_l1Bit.calls (a0 : Bool) (r : Int) (w : World) (h : spec_l1Bit.f a0 = some r) :
  Calls Try.prog 31 #[.bool a0] w fun e w' => e = .returned (.int .i64 r) ∧ Drawn0 w w' := by
 have H : (if a0 = true then (some 1) else (some 0)) = some r := h
 clear h
 by_cases c2 : a0 = true
 ·subst c2
  rw [if_pos rfl] at H
  obtain rfl := Option.some.inj H
  go_enter Try.func31, Try.ntmps31
  go_wp2
  go_ret
  exact ⟨by first | rfl | (simp; done) | (simp [*]; done), by repeat (first | exact Drawn0.refl _ | apply Drawn0.step)⟩
 ·replace c2 := Bool.eq_false_iff.mpr c2
  subst c2
  rw [if_neg (show ¬ (false = true) by decide)] at H
  obtain rfl := Option.some.inj H
  go_enter Try.func31, Try.ntmps31
  go_wp2
  go_ret
  exact ⟨by first | rfl | (simp; done) | (simp [*]; done), by repeat (first | exact Drawn0.refl _ | apply Drawn0.step)⟩

/-! ### spec_l1Once: function 32 -/
def spec_l1Once.f (s0_0 : List Int) (s0_1 : Int) (s0_2 : Int) (a1 : Int) : Option (Bool × Int × Int) := (spec_l1Below.f s0_0 s0_1 s0_2 a1).bind fun bt358 => (some ((bt358.1 == 0), bt358.2.1, bt358.2.2))
theorem spec_l1Once.calls (g : Nat) (s0_0 : List Int) (s0_1 : Int) (s0_2 : Int) (a1 : Int) (r1 : Bool) (r2 : Int) (r3 : Int) (w0 w : World) (hI : IsS57 w0 w g s0_0 s0_1 s0_2) (hB : Below w0.heap.size w0 w) (h : spec_l1Once.f s0_0 s0_1 s0_2 a1 = some (r1, r2, r3)) :
  Calls Try.prog 32 #[.pointer (some ⟨g, 0, none⟩), .int .i64 a1] w fun e w' => e = .returned (.bool r1) ∧ IsS57 w0 w' g s0_0 r2 r3 ∧ Below w0.heap.size w0 w' ∧ KeepBut w w' g none := by
 have HI0 := ax hI
 have HK := ax (KeepBut.refl w g none)
 have HL := ax hB.size
 clear hI
 have HW0 := ax hB.size
 have HB := ax hB
 clear hB
 have H : ((spec_l1Below.f s0_0 s0_1 s0_2 a1).bind fun bt358 => (some ((bt358.1 == 0), bt358.2.1, bt358.2.2))) = some (r1, r2, r3) := h
 clear h
 obtain ⟨⟨t358, t359, t360⟩, A3, H⟩ := xI H
 dsimp only at H
 simp only [Option.some.injEq, Prod.mk.injEq] at H
 obtain ⟨rfl, rfl, rfl⟩ := H
 go_enter Try.func32, Try.ntmps32
 go_wp2_with (first | ((with_reducible refine gate_callee (f := 30) rfl ?_); refine goesL_ (some 7) rfl rfl Try.func30 (by kernel_rfl) rfl #[.pointer (some ⟨g, 0, none⟩), .int .i64 a1] rfl xm ?_; (with_reducible refine (spec_l1Below.calls g s0_0 s0_1 s0_2 a1 t358 t359 t360 w0 _ ?side1 ?side2 A3.out).mono ?_); (case side1 => exact xt57 HI0.out); (case side2 => exact xs HB.out (IsS57.ge HI0.out)); rintro e w4 ⟨rfl, hi, hb, hk⟩; refine ⟨_, rfl, ?_⟩; replace HK := ax (KeepBut.trans (xh HK.out) hk (.inl rfl)); replace HB := ax (hb); replace HI0 := ax (hi); (try clear hb); (try clear hk); (try clear hi)))
 go_ret
 exact ⟨xe, xt57 HI0.out, xs HB.out (IsS57.ge HI0.out), xh HK.out⟩

/-! ### spec_DrawBetaNumbers: function 9 -/
def spec_DrawBetaNumbers.f (k : Nat) (l0 : List Int) : Option (List Int × Int) := (spec_l1New.f k l0).bind fun bt361 => ((spec_l2Bent.f k bt361.1 bt361.2.1 bt361.2.2 9).bind fun bt365 => ((spec_l1Below.f bt361.1 bt365.2.1 bt365.2.2 4).bind fun bt370 => ((spec_l1Once.f bt361.1 bt370.2.1 bt370.2.2 8).bind fun bt373 => ((spec_l1Bit.f bt373.1).bind fun t376 => (some (bt365.1, wrap64 ((wrap64 ((bt365.1.length : Int) + bt370.1)) - t376)))))))
theorem spec_DrawBetaNumbers.mono : ∀ a0 k, LeO (spec_DrawBetaNumbers.f k a0) (spec_DrawBetaNumbers.f (k + 1) a0) := by
 intro a0 k
 unfold spec_DrawBetaNumbers.f
 repeat' with_reducible first | exact spec_l1New.mono _ _ | exact spec_l2Bent.mono _ _ _ _ _ | exact xl | refine LeO.ite ?_ ?_ | refine LeO.bind ?_ fun _ => ?_
theorem spec_DrawBetaNumbers.calls (k : Nat) (A0 : Option Addr) (c0 : Nat) (l0 : List Int) (r1 : List Int) (r2 : Int) (w : World) (hr0 : Kd.C (Kd.int .u8) w A0 l0.length l0) (hc0 : l0.length ≤ c0) (h : spec_DrawBetaNumbers.f k l0 = some (r1, r2)) :
  Calls Try.prog 9 #[.slice A0 l0.length c0] w fun e w' => ∃ v0_ : Value, e = .returned (.tuple #[v0_, .int .i64 r2]) ∧ Kd.R (Kd.int .i64) 3 w' w.heap.size (fun _ => True) v0_ r1 ∧ Below w.heap.size w w' := by
 have HR0 := ax hr0
 have HC0 := ax hc0
 clear hr0 hc0
 have HB := ax (Below.refl w.heap.size w)
 have H : ((spec_l1New.f k l0).bind fun bt361 => ((spec_l2Bent.f k bt361.1 bt361.2.1 bt361.2.2 9).bind fun bt365 => ((spec_l1Below.f bt361.1 bt365.2.1 bt365.2.2 4).bind fun bt370 => ((spec_l1Once.f bt361.1 bt370.2.1 bt370.2.2 8).bind fun bt373 => ((spec_l1Bit.f bt373.1).bind fun t376 => (some (bt365.1, wrap64 ((wrap64 ((bt365.1.length : Int) + bt370.1)) - t376)))))))) = some (r1, r2) := h
 clear h
 obtain ⟨⟨t361, t362, t363⟩, A2, H⟩ := xI H
 dsimp only at H
 obtain ⟨⟨t365, t368, t369⟩, A3, H⟩ := xI H
 dsimp only at H
 obtain ⟨⟨t370, t371, t372⟩, A4, H⟩ := xI H
 dsimp only at H
 obtain ⟨⟨t373, t374, t375⟩, A5, H⟩ := xI H
 dsimp only at H
 obtain ⟨t376, A6, H⟩ := xI H
 simp only [Option.some.injEq, Prod.mk.injEq] at H
 obtain ⟨rfl, rfl⟩ := H
 go_enter Try.func9, Try.ntmps9
 go_wp2_with (first | ((with_reducible refine gate_callee (f := 28) rfl ?_); refine goesL_ (some 7) rfl rfl Try.func28 (by kernel_rfl) rfl #[.slice A0 l0.length c0] rfl xm ?_; (with_reducible refine (spec_l1New.calls k _ _ l0 t361 t362 t363 w _ ?side1 ?side2 ?side3 A2.out).mono ?_); (case side1 => exact xb HB.out); (case side2 => exact HR0.out); (case side3 => exact HC0.out); rintro e w7 ⟨g364, rfl, hi, hb, hb2⟩; refine ⟨_, rfl, ?_⟩; replace HB := ax (hb); have HI364 := ax (hi); (try clear hb); (try clear hb2); (try clear hi)) | ((with_reducible refine gate_callee (f := 29) rfl ?_); refine goesL_ (some 9) rfl rfl Try.func29 (by kernel_rfl) rfl #[.pointer (some ⟨g364, 0, none⟩), .int .i64 9] rfl xm ?_; (with_reducible refine (spec_l2Bent.calls k g364 t361 t362 t363 9 t365 t368 t369 w _ ?side1 ?side2 A3.out).mono ?_); (case side1 => exact xt57 HI364.out); (case side2 => exact xs HB.out (IsS57.ge HI364.out)); rintro e w8 ⟨v366, rfl, ho0, hi, hb, hk⟩; refine ⟨_, rfl, ?_⟩; have HO367 := ax (Kd.R_lower ho0 (below_size (xs HB.out (IsS57.ge HI364.out)))); replace HB := ax (hb); replace HI364 := ax (hi); (try clear hb); (try clear hk); (try clear hi); (try clear ho0); obtain ⟨Ao9, co9, eo9⟩ := Kd.R_slice HO367.out; subst eo9) | ((with_reducible refine gate_callee (f := 30) rfl ?_); refine goesL_ (some 14) rfl rfl Try.func30 (by kernel_rfl) rfl #[.pointer (some ⟨g364, 0, none⟩), .int .i64 4] rfl xm ?_; (with_reducible refine (spec_l1Below.calls g364 t361 t368 t369 4 t370 t371 t372 w _ ?side1 ?side2 A4.out).mono ?_); (case side1 => exact xt57 HI364.out); (case side2 => exact xs HB.out (IsS57.ge HI364.out)); rintro e w10 ⟨rfl, hi, hb, hk⟩; refine ⟨_, rfl, ?_⟩; replace HO367 := ax (Kd.R_mono (Kd.R_keep (IsS57.apart (show IsS57 w _ g364 t361 t368 t369 from xt57 HI364.out) (xR HO367.out) (by decide)) hk (fun _ h => h.2)) (fun _ h => h.1)); replace HB := ax (hb); replace HI364 := ax (hi); (try clear hb); (try clear hk); (try clear hi)) | ((with_reducible refine gate_callee (f := 32) rfl ?_); refine goesL_ (some 17) rfl rfl Try.func32 (by kernel_rfl) rfl #[.pointer (some ⟨g364, 0, none⟩), .int .i64 8] rfl xm ?_; (with_reducible refine (spec_l1Once.calls g364 t361 t371 t372 8 t373 t374 t375 w _ ?side1 ?side2 A5.out).mono ?_); (case side1 => exact xt57 HI364.out); (case side2 => exact xs HB.out (IsS57.ge HI364.out)); rintro e w11 ⟨rfl, hi, hb, hk⟩; refine ⟨_, rfl, ?_⟩; replace HO367 := ax (Kd.R_mono (Kd.R_keep (IsS57.apart (show IsS57 w _ g364 t361 t371 t372 from xt57 HI364.out) (xR HO367.out) (by decide)) hk (fun _ h => h.2)) (fun _ h => h.1)); replace HB := ax (hb); replace HI364 := ax (hi); (try clear hb); (try clear hk); (try clear hi)) | ((with_reducible refine gate_callee (f := 31) rfl ?_); refine goesL_ (some 18) rfl rfl Try.func31 (by kernel_rfl) rfl #[.bool t373] rfl xm ?_; (with_reducible refine (spec_l1Bit.calls t373 t376 _ A6.out).mono ?_); rintro e w' ⟨rfl, ⟨nd, rfl⟩⟩; refine ⟨_, rfl, ?_⟩))
 go_ret2
 exact ⟨_, xe, xR HO367.out, xs HB.out (IsS57.ge HI364.out)⟩

/-! ### spec_l1In: function 37 -/
def spec_l1In.f (a0 : Int) (a1 : Int) (a2 : Int) : Option (Bool) := if a0 ≥ a1 then (some (decide (a0 ≤ a2))) else (some false)
theorem spec_l1In.calls (a0 : Int) (a1 : Int) (a2 : Int) (r : Bool) (w : World) (h : spec_l1In.f a0 a1 a2 = some r) :
  Calls Try.prog 37 #[.int .i64 a0, .int .i64 a1, .int .i64 a2] w fun e w' => e = .returned (.bool r) ∧ Drawn0 w w' := by
 have H : (if a0 ≥ a1 then (some (decide (a0 ≤ a2))) else (some false)) = some r := h
 clear h
 by_cases c4 : a0 ≥ a1
 ·rw [if_pos c4] at H
  have c4b0 : decide (a1 ≤ a0) = true := decide_eq_true c4
  clear c4
  obtain rfl := Option.some.inj H
  go_enter Try.func37, Try.ntmps37
  go_wp2
  go_ret
  exact ⟨by first | rfl | (simp; done) | (simp [*]; done), by repeat (first | exact Drawn0.refl _ | apply Drawn0.step)⟩
 ·rw [if_neg c4] at H
  have c4b0 : decide (a1 ≤ a0) = false := decide_eq_false c4
  clear c4
  obtain rfl := Option.some.inj H
  go_enter Try.func37, Try.ntmps37
  go_wp2
  go_ret
  exact ⟨by first | rfl | (simp; done) | (simp [*]; done), by repeat (first | exact Drawn0.refl _ | apply Drawn0.step)⟩

end Go.Proofs.Ytopmggldaicpaaa.PFnCores
