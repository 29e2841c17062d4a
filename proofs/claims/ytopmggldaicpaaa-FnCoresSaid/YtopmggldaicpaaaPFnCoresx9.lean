import Derived.Test.YtopmggldaicpaaaPFnCoresx8
namespace Go.Proofs.Ytopmggldaicpaaa.PFnCores
open Go.RowKit Go.Proofs.YtopmggldaicpaaaW.PrintWords Go.Proofs.YtopmggldaicpaaaW.PrintLast Go.Proofs.YtopmggldaicpaaaW.PrintMore
set_option linter.unusedVariables false
set_option linter.unusedSimpArgs false
set_option maxHeartbeats 8000000
set_option maxRecDepth 100000
/-! ### spec_BetaNumbers: function 19 -/
mutual
def spec_BetaNumbers.j0 : Nat → List Int → Int → List Int → Bool → Option (List Int)
 | 0, _, _, _, _ => none
 | k + 1, x0, x1, x5, x17 => if x17 = true then (some x5) else (spec_BetaNumbers.l0 k x0 x1 x5 0)
def spec_BetaNumbers.l0 : Nat → List Int → Int → List Int → Int → Option (List Int)
 | 0, _, _, _, _ => none
 | k + 1, x0, x1, x5, x6 => if x6 < x1 then ((spec_l2At.f x0 x6).bind fun t388 => (if x5.length < 17592186044416 then (spec_BetaNumbers.l0 k x0 x1 (x5 ++ [wrap64 ((wrap64 ((wrap64 (t388 + x1)) - 1)) - x6)]) (wrap64 (x6 + 1))) else (none))) else (some x5)
end
def spec_BetaNumbers.f (k : Nat) (l0 : List Int) (a1 : Int) : Option (List Int) := (some (([] : List Int) : List Int)).bind fun y383 => ((spec_IsPartition.f k l0).bind fun t386 => (if t386 = true then ((spec_l1In.f a1 (l0.length : Int) 18).bind fun t387 => (spec_BetaNumbers.j0 k l0 a1 y383 (!t387))) else (spec_BetaNumbers.j0 k l0 a1 y383 true)))
theorem spec_BetaNumbers.mono_l : ∀ k, (∀ y0 y1 y2 y3, LeO (spec_BetaNumbers.j0 k y0 y1 y2 y3) (spec_BetaNumbers.j0 (k + 1) y0 y1 y2 y3)) ∧ (∀ y0 y1 y2 y3, LeO (spec_BetaNumbers.l0 k y0 y1 y2 y3) (spec_BetaNumbers.l0 (k + 1) y0 y1 y2 y3))
 | 0 => ⟨fun _ _ _ _ r h => by simp [spec_BetaNumbers.j0] at h, fun _ _ _ _ r h => by simp [spec_BetaNumbers.l0] at h⟩
 | k + 1 => by
  obtain ⟨ih0, ih1⟩ := spec_BetaNumbers.mono_l k
  refine ⟨?_, ?_⟩
  ·intro y0 y1 y2 y3
   unfold spec_BetaNumbers.j0
   repeat' with_reducible first | exact ih0 _ _ _ _ | exact ih1 _ _ _ _ | exact spec_IsPartition.mono _ _ | exact xl | refine LeO.ite ?_ ?_ | refine LeO.bind ?_ fun _ => ?_
  ·intro y0 y1 y2 y3
   unfold spec_BetaNumbers.l0
   repeat' with_reducible first | exact ih0 _ _ _ _ | exact ih1 _ _ _ _ | exact spec_IsPartition.mono _ _ | exact xl | refine LeO.ite ?_ ?_ | refine LeO.bind ?_ fun _ => ?_
theorem spec_BetaNumbers.mono : ∀ a0 a1 k, LeO (spec_BetaNumbers.f k a0 a1) (spec_BetaNumbers.f (k + 1) a0 a1) := by
 intro a0 a1 k
 obtain ⟨ih0, ih1⟩ := spec_BetaNumbers.mono_l k
 unfold spec_BetaNumbers.f
 repeat' with_reducible first | exact ih0 _ _ _ _ | exact ih1 _ _ _ _ | exact spec_IsPartition.mono _ _ | exact xl | refine LeO.ite ?_ ?_ | refine LeO.bind ?_ fun _ => ?_
theorem spec_BetaNumbers.calls (k : Nat) (A0 : Option Addr) (c0 : Nat) (l0 : List Int) (a1 : Int) (r : List Int) (w : World) (hr0 : Kd.C (Kd.int .i64) w A0 l0.length l0) (hc0 : l0.length ≤ c0) (h : spec_BetaNumbers.f k l0 a1 = some r) :
  Calls Try.prog 19 #[.slice A0 l0.length c0, .int .i64 a1] w fun e w' => ∃ v0_ : Value, e = .returned (v0_) ∧ Kd.R (Kd.int .i64) 3 w' w.heap.size (fun _ => True) v0_ r ∧ Below w.heap.size w w' := by
 have HR0 := ax hr0
 have HC0 := ax hc0
 clear hr0 hc0
 have HB := ax (Below.refl w.heap.size w)
 have H : ((some (([] : List Int) : List Int)).bind fun y383 => ((spec_IsPartition.f k l0).bind fun t386 => (if t386 = true then ((spec_l1In.f a1 (l0.length : Int) 18).bind fun t387 => (spec_BetaNumbers.j0 k l0 a1 y383 (!t387))) else (spec_BetaNumbers.j0 k l0 a1 y383 true)))) = some r := h
 clear h
 obtain ⟨y383, Ny383, H⟩ := xg H
 have HC3 := ax H
 clear H
 go_enter Try.func19, Try.ntmps19
 go_upto_region 2 with (first | ((with_reducible refine gate_dst (N := 7) rfl ?_); (try (refine gate_guard (by rfl) ?_; dsimp only)); refine Kd.R_lit (Kd.int .i64) _ 3 ?hg (N := 7) ?hd (xs := ([] : List Int)) (inner := []) (ok := fun _ => True) (okp := fun _ => True) ?hr ?hp (fun _ hk => hk) trivial (Below.refl _ _) (Nat.le_refl _) (by simp) ?_; (case hd => rfl); (case hg => rfl); (case hr => first | (go_simp; done) | (go_simp; rfl)); (case hp => exact (Reps.none _ _)); intro v384 w4 ho5 hb hg_ hnew_; clear hg_ hnew_; (first | rw [← Ny383.out] at ho5 | (simp only [Int.reduceToNat] at ho5; rw [← Ny383.out] at ho5)); have HO385 := ax (Kd.R_lower ho5 (below_size (xb HB.out))); replace HB := yB HB hb; clear hb ho5))
 (try simp only [Act.put, List.setIfInBounds_toArray, List.set_cons_zero, List.set_cons_succ])
 go_cut [17] (fun v17 wc => ∃ (kq : Nat) (x17_2 : Bool), v17 = .bool x17_2 ∧ Aside0 (spec_BetaNumbers.j0 kq l0 a1 y383 x17_2 = some r) ∧ Aside0 (kq ≤ k) ∧ Aside0 (Kd.R (Kd.int .i64) 3 wc w.heap.size (fun _ => True) v384 y383) ∧ Aside0 (Below w.heap.size w wc))
 case first =>
  have H := HC3.out
  clear HC3
  obtain ⟨t386, A6, H⟩ := xI H
  by_cases c7 : t386 = true
  ·subst c7
   rw [if_pos rfl] at H
   obtain ⟨t387, A8, H⟩ := xI H
   have H' := ax H
   clear H
   go_wp2_with (first | ((with_reducible refine gate_callee (f := 41) rfl ?_); refine goesL_ (some 9) rfl rfl Try.func41 (by kernel_rfl) rfl #[.slice A0 l0.length c0] rfl xm ?_; (with_reducible refine (spec_IsPartition.calls k _ _ l0 true _ ?side1 ?side2 A6.out).mono ?_); (case side1 => exact xz HR0.out HB.out); (case side2 => exact HC0.out); rintro e w9 ⟨rfl, hb⟩; refine ⟨_, rfl, ?_⟩; replace HO385 := yR HO385 hb; replace HB := yB HB hb; (try clear hb)) | (go_at_call 37; (with_reducible refine (spec_l1In.calls a1 (l0.length : Int) 18 t387 _ A8.out).mono ?_); rintro e w' ⟨rfl, ⟨nd, rfl⟩⟩))
   go_meet
   case rel => exact ⟨_, (!t387), xr, H', ⟨by first | omega | exact Nat.le_refl _⟩, ⟨xR HO385.out⟩, ⟨xb HB.out⟩⟩
  ·replace c7 := Bool.eq_false_iff.mpr c7
   subst c7
   rw [if_neg (show ¬ (false = true) by decide)] at H
   have H' := ax H
   clear H
   go_wp2_with (first | ((with_reducible refine gate_callee (f := 41) rfl ?_); refine goesL_ (some 9) rfl rfl Try.func41 (by kernel_rfl) rfl #[.slice A0 l0.length c0] rfl xm ?_; (with_reducible refine (spec_IsPartition.calls k _ _ l0 false _ ?side1 ?side2 A6.out).mono ?_); (case side1 => exact xz HR0.out HB.out); (case side2 => exact HC0.out); rintro e w10 ⟨rfl, hb⟩; refine ⟨_, rfl, ?_⟩; replace HO385 := yR HO385 hb; replace HB := yB HB hb; (try clear hb)))
   go_meet
   case rel => exact ⟨_, (true), xr, H', ⟨by first | omega | exact Nat.le_refl _⟩, ⟨xR HO385.out⟩, ⟨xb HB.out⟩⟩
 case rest =>
  clear HC3
  (try clear c7)
  obtain ⟨kq, x17_2, rfl, HA, HJ2, HO_5, HB⟩ := hcut
  cases kq with
  | zero => exact absurd HA.out (by simp [spec_BetaNumbers.j0])
  | succ kj2 =>
   have H := HA.out
   clear HA
   simp only [spec_BetaNumbers.j0] at H
   by_cases c11 : x17_2 = true
   ·subst c11
    rw [if_pos rfl] at H
    obtain rfl := Option.some.inj H
    go_wp2
    go_ret
    exact ⟨_, xe, xR HO_5.out, xb HB.out⟩
   ·replace c11 := Bool.eq_false_iff.mpr c11
    subst c11
    rw [if_neg (show ¬ (false = true) by decide)] at H
    have H' := ax H
    clear H
    go_wp2
    go_loopg [5, 6] kj2 (fun kq v5 v6 w' => ∃ (x5_2 : List Int) (x6_2 : Int), v6 = .int .i64 x6_2 ∧ Aside0 (spec_BetaNumbers.l0 kq l0 a1 x5_2 x6_2 = some r) ∧ Aside0 (kq ≤ kj2) ∧ Aside0 (Kd.R (Kd.int .i64) 3 w' w.heap.size (fun _ => True) v5 x5_2) ∧ Aside0 (Below w.heap.size w w'))
    case atStart => exact ⟨(y383), (0), xr, H', ⟨Nat.le_refl _⟩, ⟨xR HO_5.out⟩, ⟨xb HB.out⟩⟩
    case round =>
     clear H'
     (try clear c7); (try clear c11)
     obtain ⟨x5_2, x6_2, rfl, HA, HK2, HO_5, HB⟩ := hrel
     cases gk with
     | zero => exact absurd HA.out (by simp [spec_BetaNumbers.l0])
     | succ k2 =>
      have H := HA.out
      clear HA
      simp only [spec_BetaNumbers.l0] at H
      by_cases c12 : x6_2 < a1
      ·rw [if_pos c12] at H
       have c12b0 := decide_eq_true c12
       clear c12
       obtain ⟨t388, A13, H⟩ := xI H
       obtain ⟨c14, H⟩ := xp H
       have LMc14 := ax c14
       clear c14
       obtain ⟨y389, hy389⟩ : ∃ y_ : List Int, y_ = (x5_2 ++ [wrap64 ((wrap64 ((wrap64 (t388 + a1)) - 1)) - x6_2)]) := ⟨_, rfl⟩
       replace H : (spec_BetaNumbers.l0 k2 l0 a1 y389 (wrap64 (x6_2 + 1))) = some r := xv hy389 H
       have Ny389 := ax hy389
       clear hy389
       have H' := ax H
       clear H
       go_wp2_with (first | ((with_reducible refine gate_callee (f := 42) rfl ?_); refine goesL_ (some 27) rfl rfl Try.func42 (by kernel_rfl) rfl #[.slice A0 l0.length c0, .int .i64 x6_2] rfl xm ?_; (with_reducible refine (spec_l2At.calls _ _ l0 x6_2 t388 _ ?side1 ?side2 A13.out).mono ?_); (case side1 => exact xz HR0.out HB.out); (case side2 => exact HC0.out); rintro e w' ⟨rfl, ⟨nd, rfl⟩⟩; refine ⟨_, rfl, ?_⟩) | ((with_reducible refine gate_builtin (b := .append) (xs := #[.tmp 24, .tmp 33]) rfl ?_); (try (refine gate_guard (by rfl) ?_; dsimp only)); at_builtin; refine Kd.R_append (Kd.int .i64) (w0 := w) w.heap.size rfl (.tmp 24) (.tmp 33) 24 3 (.int .i64 0) 8 rfl Try.underlying24 info3 rfl (by decide) (by omega) u5 x5_2 (wrap64 ((wrap64 ((wrap64 (t388 + a1)) - 1)) - x6_2)) [.int .i64 (wrap64 ((wrap64 ((wrap64 (t388 + a1)) - 1)) - x6_2))] (fun _ => True) (fun _ => False) rfl rfl ?aP (fun _ hk => hk.elim) ?aF ?aO ?aB ?aS ?aL ?_; (case aP => exact rfl); (case aB => exact (xb HB.out)); (case aF => exact (fun _ _ => trivial)); (case aO => exact (xR HO_5.out)); (case aS => exact (below_size (xb HB.out))); (case aL => have := LMc14.out; omega); intro v390 w15 ho hb hg hat; rw [← Ny389.out] at ho; have n0_ := ax (hb); have n1_ := ax (ho); clear HB; clear HO_5; have HB := n0_; have HO391 := n1_; clear n0_ n1_; clear ho hb hg hat))
       go_roundg k2
       case measure => have := HJ2.out; have := HK2.out; omega
       case rel => exact ⟨(y389), (wrap64 (x6_2 + 1)), xr, H', ⟨by have := HJ2.out; have := HK2.out; omega⟩, ⟨xR HO391.out⟩, ⟨xb HB.out⟩⟩
      ·rw [if_neg c12] at H
       have c12b0 := decide_eq_false c12
       clear c12
       obtain rfl := Option.some.inj H
       go_wp2
       go_ret
       exact ⟨_, xe, xR HO_5.out, xb HB.out⟩

/-! ### spec_DrawFromBeta: function 11 -/
def spec_DrawFromBeta.j0 : Nat → List Int → Bool → List Int → Int → Int → Option (List Int)
 | 0, _, _, _, _, _ => none
 | k + 1, x5, x23, x396000, x396001, x396002 => if x23 = true then ((spec_l1Below.f x396000 x396001 x396002 (x5.length : Int)).bind fun bt410 => ((spec_l1Below.f x396000 bt410.2.1 bt410.2.2 9).bind fun bt413 => (if 0 ≤ bt410.1 then (if bt410.1 < (x5.length : Int) then (some (x5.set (bt410.1 : Int).toNat (wrap64 (bt413.1 - 1)))) else (none)) else (none)))) else (some x5)
def spec_DrawFromBeta.f (k : Nat) (l0 : List Int) : Option (List Int) := (spec_l1New.f k l0).bind fun bt392 => ((spec_l2Draw.f k bt392.1 bt392.2.1 bt392.2.2 8).bind fun bt396 => ((spec_l1Below.f bt392.1 bt396.2.1 bt396.2.2 3).bind fun bt401 => ((spec_BetaNumbers.f k bt396.1 (wrap64 ((bt396.1.length : Int) + bt401.1))).bind fun t404 => (if (t404.length : Int) > 0 then ((spec_l1Once.f bt392.1 bt401.2.1 bt401.2.2 5).bind fun bt407 => (spec_DrawFromBeta.j0 k t404 bt407.1 bt392.1 bt407.2.1 bt407.2.2)) else (spec_DrawFromBeta.j0 k t404 false bt392.1 bt401.2.1 bt401.2.2)))))
theorem spec_DrawFromBeta.mono_l : ∀ k, (∀ y0 y1 y2 y3 y4, LeO (spec_DrawFromBeta.j0 k y0 y1 y2 y3 y4) (spec_DrawFromBeta.j0 (k + 1) y0 y1 y2 y3 y4))
 | 0 => fun _ _ _ _ _ r h => by simp [spec_DrawFromBeta.j0] at h
 | k + 1 => by
  have ih0 := spec_DrawFromBeta.mono_l k
  ·intro y0 y1 y2 y3 y4
   unfold spec_DrawFromBeta.j0
   repeat' with_reducible first | exact ih0 _ _ _ _ _ | exact spec_BetaNumbers.mono _ _ _ | exact spec_l1New.mono _ _ | exact spec_l2Draw.mono _ _ _ _ _ | exact xl | refine LeO.ite ?_ ?_ | refine LeO.bind ?_ fun _ => ?_
theorem spec_DrawFromBeta.mono : ∀ a0 k, LeO (spec_DrawFromBeta.f k a0) (spec_DrawFromBeta.f (k + 1) a0) := by
 intro a0 k
 have ih0 := spec_DrawFromBeta.mono_l k
 unfold spec_DrawFromBeta.f
 repeat' with_reducible first | exact ih0 _ _ _ _ _ | exact spec_BetaNumbers.mono _ _ _ | exact spec_l1New.mono _ _ | exact spec_l2Draw.mono _ _ _ _ _ | exact xl | refine LeO.ite ?_ ?_ | refine LeO.bind ?_ fun _ => ?_
theorem spec_DrawFromBeta.calls (k : Nat) (A0 : Option Addr) (c0 : Nat) (l0 : List Int) (r : List Int) (w : World) (hr0 : Kd.C (Kd.int .u8) w A0 l0.length l0) (hc0 : l0.length ≤ c0) (h : spec_DrawFromBeta.f k l0 = some r) :
  Calls Try.prog 11 #[.slice A0 l0.length c0] w fun e w' => ∃ v0_ : Value, e = .returned (v0_) ∧ Kd.R (Kd.int .i64) 3 w' w.heap.size (fun _ => True) v0_ r ∧ Below w.heap.size w w' := by
 have HR0 := ax hr0
 have HC0 := ax hc0
 clear hr0 hc0
 have HB := ax (Below.refl w.heap.size w)
 have H : ((spec_l1New.f k l0).bind fun bt392 => ((spec_l2Draw.f k bt392.1 bt392.2.1 bt392.2.2 8).bind fun bt396 => ((spec_l1Below.f bt392.1 bt396.2.1 bt396.2.2 3).bind fun bt401 => ((spec_BetaNumbers.f k bt396.1 (wrap64 ((bt396.1.length : Int) + bt401.1))).bind fun t404 => (if (t404.length : Int) > 0 then ((spec_l1Once.f bt392.1 bt401.2.1 bt401.2.2 5).bind fun bt407 => (spec_DrawFromBeta.j0 k t404 bt407.1 bt392.1 bt407.2.1 bt407.2.2)) else (spec_DrawFromBeta.j0 k t404 false bt392.1 bt401.2.1 bt401.2.2)))))) = some r := h
 clear h
 obtain ⟨⟨t392, t393, t394⟩, A2, H⟩ := xI H
 dsimp only at H
 obtain ⟨⟨t396, t399, t400⟩, A3, H⟩ := xI H
 dsimp only at H
 obtain ⟨⟨t401, t402, t403⟩, A4, H⟩ := xI H
 dsimp only at H
 obtain ⟨t404, A5, H⟩ := xI H
 have HC6 := ax H
 clear H
 go_enter Try.func11, Try.ntmps11
 go_upto_region 4 with (first | ((with_reducible refine gate_callee (f := 28) rfl ?_); refine goesL_ (some 7) rfl rfl Try.func28 (by kernel_rfl) rfl #[.slice A0 l0.length c0] rfl xm ?_; (with_reducible refine (spec_l1New.calls k _ _ l0 t392 t393 t394 w _ ?side1 ?side2 ?side3 A2.out).mono ?_); (case side1 => exact xb HB.out); (case side2 => exact HR0.out); (case side3 => exact HC0.out); rintro e w7 ⟨g395, rfl, hi, hb, hb2⟩; refine ⟨_, rfl, ?_⟩; replace HB := ax (hb); have HI395 := ax (hi); (try clear hb); (try clear hb2); (try clear hi)) | ((with_reducible refine gate_callee (f := 34) rfl ?_); refine goesL_ (some 9) rfl rfl Try.func34 (by kernel_rfl) rfl #[.pointer (some ⟨g395, 0, none⟩), .int .i64 8] rfl xm ?_; (with_reducible refine (spec_l2Draw.calls k g395 t392 t393 t394 8 t396 t399 t400 w _ ?side1 ?side2 A3.out).mono ?_); (case side1 => exact xt57 HI395.out); (case side2 => exact xs HB.out (IsS57.ge HI395.out)); rintro e w8 ⟨v397, rfl, ho0, hi, hb, hk⟩; refine ⟨_, rfl, ?_⟩; have HO398 := ax (Kd.R_lower ho0 (below_size (xs HB.out (IsS57.ge HI395.out)))); replace HB := ax (hb); replace HI395 := ax (hi); (try clear hb); (try clear hk); (try clear hi); (try clear ho0); obtain ⟨Ao9, co9, eo9⟩ := Kd.R_slice HO398.out; subst eo9) | ((with_reducible refine gate_callee (f := 30) rfl ?_); refine goesL_ (some 14) rfl rfl Try.func30 (by kernel_rfl) rfl #[.pointer (some ⟨g395, 0, none⟩), .int .i64 3] rfl xm ?_; (with_reducible refine (spec_l1Below.calls g395 t392 t399 t400 3 t401 t402 t403 w _ ?side1 ?side2 A4.out).mono ?_); (case side1 => exact xt57 HI395.out); (case side2 => exact xs HB.out (IsS57.ge HI395.out)); rintro e w10 ⟨rfl, hi, hb, hk⟩; refine ⟨_, rfl, ?_⟩; replace HO398 := ax (Kd.R_mono (Kd.R_keep (IsS57.apart (show IsS57 w _ g395 t392 t399 t400 from xt57 HI395.out) (xR HO398.out) (by decide)) hk (fun _ h => h.2)) (fun _ h => h.1)); replace HB := ax (hb); replace HI395 := ax (hi); (try clear hb); (try clear hk); (try clear hi)) | ((with_reducible refine gate_callee (f := 19) rfl ?_); refine goesL_ (some 16) rfl rfl Try.func19 (by kernel_rfl) rfl #[.slice Ao9 t396.length co9, .int .i64 (wrap64 ((t396.length : Int) + t401))] rfl xm ?_; (with_reducible refine (spec_BetaNumbers.calls k _ _ t396 (wrap64 ((t396.length : Int) + t401)) t404 _ ?side1 ?side2 A5.out).mono ?_); (case side1 => exact xc (Kd.R_reads' HO398.out).2.2); (case side2 => exact (Kd.R_reads' HO398.out).2.1); rintro e w11 ⟨v405, rfl, ho0, hb⟩; refine ⟨_, rfl, ?_⟩; have HO406 := ax (Kd.R_lower (Kd.R_new' ho0 (Kd.R_lt (xR HO398.out))) (below_size (xs HB.out (IsS57.ge HI395.out)))); replace HO398 := ax (Kd.R_elder' (xR HO398.out) (Kd.R_base ho0) hb); replace HB := ax (below_step (xs HB.out (IsS57.ge HI395.out)) hb); replace HI395 := ax (IsS57.below (xt57 HI395.out) hb); (try clear hb); (try clear ho0)))
 (try simp only [Act.put, List.setIfInBounds_toArray, List.set_cons_zero, List.set_cons_succ])
 go_cut [23] (fun v23 wc => ∃ (kq : Nat) (x23_5 : Bool) (x396001_5 : Int) (x396002_5 : Int), v23 = .bool x23_5 ∧ Aside0 (spec_DrawFromBeta.j0 kq t404 x23_5 t392 x396001_5 x396002_5 = some r) ∧ Aside0 (kq ≤ k) ∧ Aside0 (Kd.R (Kd.int .i64) 3 wc w.heap.size (fun _ => True) v405 t404) ∧ Aside0 (IsS57 w wc g395 t392 x396001_5 x396002_5) ∧ Aside0 (Below w.heap.size w wc))
 case first =>
  have H := HC6.out
  clear HC6
  by_cases c12 : (t404.length : Int) > 0
  ·rw [if_pos c12] at H
   have c12b0 : decide (0 < (t404.length : Int)) = true := decide_eq_true c12
   have c12b1 : decide (0 < t404.length) = true := decide_eq_true (by omega)
   clear c12
   (first | rw [c12b0] | (simp only [i64_w, i32_w]; rw [c12b0]) | skip)
   obtain ⟨⟨t407, t408, t409⟩, A13, H⟩ := xI H
   dsimp only at H
   have H' := ax H
   clear H
   obtain ⟨Ao14, co14, eo14⟩ := Kd.R_slice HO406.out
   subst eo14
   go_wp2_with (first | (go_at_call 32; (with_reducible refine (spec_l1Once.calls g395 t392 t402 t403 5 t407 t408 t409 w _ ?side1 ?side2 A13.out).mono ?_); (case side1 => exact xt57 HI395.out); (case side2 => exact xs HB.out (IsS57.ge HI395.out)); rintro e w15 ⟨rfl, hi, hb, hk⟩; replace HO398 := ax (Kd.R_mono (Kd.R_keep (IsS57.apart (show IsS57 w _ g395 t392 t402 t403 from xt57 HI395.out) (xR HO398.out) (by decide)) hk (fun _ h => h.2)) (fun _ h => h.1)); replace HO406 := ax (Kd.R_mono (Kd.R_keep (IsS57.apart (show IsS57 w _ g395 t392 t402 t403 from xt57 HI395.out) (xR HO406.out) (by decide)) hk (fun _ h => h.2)) (fun _ h => h.1)); replace HB := ax (hb); replace HI395 := ax (hi); (try clear hb); (try clear hk); (try clear hi)))
   go_meet
   case rel => exact ⟨_, (t407), (t408), (t409), xr, H', ⟨by first | omega | exact Nat.le_refl _⟩, ⟨by (with_reducible repeat (first | apply Kd.R_alloc | apply Kd.R_drewN | apply Kd.R_drew)); exact Kd.R_mono HO406.out (fun _ hk => trivial)⟩, ⟨xt57 HI395.out⟩, ⟨xs HB.out (IsS57.ge HI395.out)⟩⟩
  ·rw [if_neg c12] at H
   have c12b0 : decide (0 < (t404.length : Int)) = false := decide_eq_false c12
   have c12b1 : decide (0 < t404.length) = false := decide_eq_false (by omega)
   clear c12
   (first | rw [c12b0] | (simp only [i64_w, i32_w]; rw [c12b0]) | skip)
   have H' := ax H
   clear H
   obtain ⟨Ao16, co16, eo16⟩ := Kd.R_slice HO406.out
   subst eo16
   go_wp2
   go_meet
   case rel => exact ⟨_, (false), (t402), (t403), xr, H', ⟨by first | omega | exact Nat.le_refl _⟩, ⟨by (with_reducible repeat (first | apply Kd.R_alloc | apply Kd.R_drewN | apply Kd.R_drew)); exact Kd.R_mono HO406.out (fun _ hk => trivial)⟩, ⟨xt57 HI395.out⟩, ⟨xs HB.out (IsS57.ge HI395.out)⟩⟩
 case rest =>
  clear HC6
  (try clear c12); (try clear c12b0); (try clear c12b1)
  obtain ⟨kq, x23_5, x396001_5, x396002_5, rfl, HA, HJ5, HO_5, HI395, HB⟩ := hcut
  cases kq with
  | zero => exact absurd HA.out (by simp [spec_DrawFromBeta.j0])
  | succ kj5 =>
   have H := HA.out
   clear HA
   simp only [spec_DrawFromBeta.j0] at H
   by_cases c17 : x23_5 = true
   ·subst c17
    rw [if_pos rfl] at H
    obtain ⟨⟨t410, t411, t412⟩, A18, H⟩ := xI H
    dsimp only at H
    obtain ⟨⟨t413, t414, t415⟩, A19, H⟩ := xI H
    dsimp only at H
    obtain ⟨c20b0, H⟩ := xq H
    obtain ⟨c21b0, H⟩ := xq H
    obtain ⟨y416, hy416⟩ : ∃ y_ : List Int, y_ = (t404.set (t410 : Int).toNat (wrap64 (t413 - 1))) := ⟨_, rfl⟩
    replace H : (some y416) = some r := xv hy416 H
    have Ny416 := ax hy416
    clear hy416
    obtain rfl := Option.some.inj H
    obtain ⟨Ao23, co23, eo23⟩ := Kd.R_slice HO_5.out
    subst eo23
    go_wp2_with (first | ((with_reducible refine gate_callee (f := 30) rfl ?_); refine goesL_ (some 28) rfl rfl Try.func30 (by kernel_rfl) rfl #[.pointer (some ⟨g395, 0, none⟩), .int .i64 (t404.length : Int)] rfl xm ?_; (with_reducible refine (spec_l1Below.calls g395 t392 x396001_5 x396002_5 (t404.length : Int) t410 t411 t412 w _ ?side1 ?side2 A18.out).mono ?_); (case side1 => exact xt57 HI395.out); (case side2 => exact xs HB.out (IsS57.ge HI395.out)); rintro e w24 ⟨rfl, hi, hb, hk⟩; refine ⟨_, rfl, ?_⟩; replace HO_5 := ax (Kd.R_mono (Kd.R_keep (IsS57.apart (show IsS57 w _ g395 t392 x396001_5 x396002_5 from xt57 HI395.out) (xR HO_5.out) (by decide)) hk (fun _ h => h.2)) (fun _ h => h.1)); replace HB := ax (hb); replace HI395 := ax (hi); (try clear hb); (try clear hk); (try clear hi)) | ((with_reducible refine gate_callee (f := 30) rfl ?_); refine goesL_ (some 30) rfl rfl Try.func30 (by kernel_rfl) rfl #[.pointer (some ⟨g395, 0, none⟩), .int .i64 9] rfl xm ?_; (with_reducible refine (spec_l1Below.calls g395 t392 t411 t412 9 t413 t414 t415 w _ ?side1 ?side2 A19.out).mono ?_); (case side1 => exact xt57 HI395.out); (case side2 => exact xs HB.out (IsS57.ge HI395.out)); rintro e w25 ⟨rfl, hi, hb, hk⟩; refine ⟨_, rfl, ?_⟩; replace HO_5 := ax (Kd.R_mono (Kd.R_keep (IsS57.apart (show IsS57 w _ g395 t392 t411 t412 from xt57 HI395.out) (xR HO_5.out) (by decide)) hk (fun _ h => h.2)) (fun _ h => h.1)); replace HB := ax (hb); replace HI395 := ax (hi); (try clear hb); (try clear hk); (try clear hi); have p22 : 0 ≤ (t410 : Int) := xd; have q22 : (t410 : Int) < ((t404.length : Int) : Int) := xd; obtain ⟨go22, co22, eo22, gb22, gl22, cl22, HG22⟩ := Kd.R_form HO_5.out (by omega); (first | cases eo22 | (injection eo22 with ea_ en_ ec_; (first | subst ea_ | (injection ea_ with ea_; subst ea_)); subst ec_; clear en_)); have GB22 := ax gb22; have GG22 := ax HG22; clear gb22 gl22 HG22; obtain ⟨hx22_0, hf22_0⟩ := Kd.R_celln 0 HO_5.out (t410 : Int) p22 q22; replace p22 := eq_true p22; replace q22 := eq_true q22; obtain ⟨hy26_, hz26_⟩ := Kd.R_celln 0 HO_5.out (t410 : Int) (xd) (xd); have HP26 := Kd.R_putg HO_5.out (t410 : Int) (wrap64 (t413 - 1))) | ((with_reducible refine gate_store (t := 3) (p := 32) rfl ?_); refine store_event (t := 3) (p := 32) (v := ?vo_w27) (w1 := (w25.setCell ⟨go22, (t410 : Int).toNat, none⟩ (.int .i64 (wrap64 (t413 - 1))))) ?hg ?ho ?hn ?hr ?_; (case ho => rfl); (case hg => rfl); (case hn => rfl); (case hr => first | (go_simp; done) | (go_simp; rfl)); intro w27 hw; have hg : w25.grownBy w27 (some go22) := (by rw [hw]; exact HP26.2); have hp_ : Kd.R (Kd.int .i64) 3 w27 w.heap.size (fun _ => True) (.slice (some ⟨go22, 0, none⟩) t404.length co23) y416 := (by rw [hw, Ny416.out]; exact HP26.1); clear HP26; replace HI395 := ax (IsS57.grown (xt57 HI395.out) hg (IsS57.own_ne HI395.out HO_5.out (by decide))); replace HO_5 := ax (hp_); replace HB := ax ((by rw [hw]; exact below_set (HB.out) GB22.out : Below w.heap.size w w27)); clear hg hw hp_))
    go_ret
    exact ⟨_, xe, xR HO_5.out, xs HB.out (IsS57.ge HI395.out)⟩
   ·replace c17 := Bool.eq_false_iff.mpr c17
    subst c17
    rw [if_neg (show ¬ (false = true) by decide)] at H
    obtain rfl := Option.some.inj H
    go_wp2
    go_ret
    exact ⟨_, xe, xR HO_5.out, xs HB.out (IsS57.ge HI395.out)⟩

/-! ### spec_l2Same: function 38 -/
def spec_l2Same.l0 : Nat → List Int → List Int → Int → Option (Bool)
 | 0, _, _, _ => none
 | k + 1, x0, x1, x5 => if x5 < (x0.length : Int) then (if 0 ≤ x5 then (if x5 < (x1.length : Int) then (if (rd x0 x5) = (rd x1 x5) then (spec_l2Same.l0 k x0 x1 (wrap64 (x5 + 1))) else (some false)) else (none)) else (none)) else (some true)
def spec_l2Same.f (k : Nat) (l0 : List Int) (l1 : List Int) : Option (Bool) := if (l0.length : Int) = (l1.length : Int) then (spec_l2Same.l0 k l0 l1 0) else (some false)
theorem spec_l2Same.mono_l : ∀ k, (∀ y0 y1 y2, LeO (spec_l2Same.l0 k y0 y1 y2) (spec_l2Same.l0 (k + 1) y0 y1 y2))
 | 0 => fun _ _ _ r h => by simp [spec_l2Same.l0] at h
 | k + 1 => by
  have ih0 := spec_l2Same.mono_l k
  ·intro y0 y1 y2
   unfold spec_l2Same.l0
   repeat' with_reducible first | exact ih0 _ _ _ | exact xl | refine LeO.ite ?_ ?_ | refine LeO.bind ?_ fun _ => ?_
theorem spec_l2Same.mono : ∀ a0 a1 k, LeO (spec_l2Same.f k a0 a1) (spec_l2Same.f (k + 1) a0 a1) := by
 intro a0 a1 k
 have ih0 := spec_l2Same.mono_l k
 unfold spec_l2Same.f
 repeat' with_reducible first | exact ih0 _ _ _ | exact xl | refine LeO.ite ?_ ?_ | refine LeO.bind ?_ fun _ => ?_
theorem spec_l2Same.calls (k : Nat) (A0 : Option Addr) (c0 : Nat) (l0 : List Int) (A1 : Option Addr) (c1 : Nat) (l1 : List Int) (r : Bool) (w : World) (hr0 : Kd.C (Kd.int .i64) w A0 l0.length l0) (hc0 : l0.length ≤ c0) (hr1 : Kd.C (Kd.int .i64) w A1 l1.length l1) (hc1 : l1.length ≤ c1) (h : spec_l2Same.f k l0 l1 = some r) :
  Calls Try.prog 38 #[.slice A0 l0.length c0, .slice A1 l1.length c1] w fun e w' => e = .returned (.bool r) ∧ Drawn0 w w' := by
 have HR0 := ax hr0
 have HC0 := ax hc0
 clear hr0 hc0
 have HR1 := ax hr1
 have HC1 := ax hc1
 clear hr1 hc1
 have H : (if (l0.length : Int) = (l1.length : Int) then (spec_l2Same.l0 k l0 l1 0) else (some false)) = some r := h
 clear h
 by_cases c3 : (l0.length : Int) = (l1.length : Int)
 ·rw [if_pos c3] at H
  have c3b0 : ((l0.length : Int) == (l1.length : Int)) = true := beq_iff_eq.mpr c3
  have c3b1 : ((l0.length : Int) != (l1.length : Int)) = false := bne_eq_false_iff_eq.mpr c3
  have c3b2 : (l0.length == l1.length) = true := by first | simpa using c3 | (simp at c3 ⊢; omega)
  clear c3
  have H' := ax H
  clear H
  go_enter Try.func38, Try.ntmps38
  go_wp2
  repeat (go_quiet (fail); try go_wp2)
  go_loopg [5] k (fun kq v5 w' => ∃ (x5_1 : Int), v5 = .int .i64 x5_1 ∧ Aside0 (spec_l2Same.l0 kq l0 l1 x5_1 = some r) ∧ Aside0 (kq ≤ k) ∧ Drawn0 w w')
  case atStart => exact ⟨(0), xr, H', ⟨Nat.le_refl _⟩, by repeat (first | exact Drawn0.refl _ | apply Drawn0.step)⟩
  case round =>
   clear H'
   (try clear c1); (try clear c3); (try clear c3b0); (try clear c3b1); (try clear c3b2)
   obtain ⟨x5_1, rfl, HA, HK1, ⟨m1, rfl⟩⟩ := hrel
   cases gk with
   | zero => exact absurd HA.out (by simp [spec_l2Same.l0])
   | succ k1 =>
    have H := HA.out
    clear HA
    simp only [spec_l2Same.l0] at H
    by_cases c4 : x5_1 < (l0.length : Int)
    ·rw [if_pos c4] at H
     have c4b0 := decide_eq_true c4
     clear c4
     obtain ⟨c5b0, H⟩ := xq H
     obtain ⟨c6b0, H⟩ := xq H
     by_cases c7 : (rd l0 x5_1) = (rd l1 x5_1)
     ·rw [if_pos c7] at H
      have c7b0 : ((rd l0 x5_1) == (rd l1 x5_1)) = true := beq_iff_eq.mpr c7
      have c7b1 : ((rd l0 x5_1) != (rd l1 x5_1)) = false := bne_eq_false_iff_eq.mpr c7
      clear c7
      have H' := ax H
      clear H
      have p417 : 0 ≤ (x5_1 : Int) := xd
      have q417 : x5_1 < (l0.length : Int) := xd
      obtain ⟨ad417, e417, hx417_0⟩ := Kd.at_int HR0.out x5_1 p417 q417
      cases e417
      replace p417 := eq_true p417
      replace q417 := eq_true q417
      have p418 : 0 ≤ (x5_1 : Int) := xd
      have q418 : x5_1 < (l1.length : Int) := xd
      obtain ⟨ad418, e418, hx418_0⟩ := Kd.at_int HR1.out x5_1 p418 q418
      cases e418
      replace p418 := eq_true p418
      replace q418 := eq_true q418
      go_wp2
      repeat (go_quiet (fail); try go_wp2)
      go_roundg k1
      case measure => have := HK1.out; omega
      case rel => exact ⟨(wrap64 (x5_1 + 1)), xr, H', ⟨by have := HK1.out; omega⟩, by repeat (first | exact Drawn0.refl _ | apply Drawn0.step)⟩
     ·rw [if_neg c7] at H
      have c7b0 : ((rd l0 x5_1) == (rd l1 x5_1)) = false := beq_eq_false_iff_ne.mpr c7
      have c7b1 : ((rd l0 x5_1) != (rd l1 x5_1)) = true := bne_iff_ne.mpr c7
      obtain rfl := Option.some.inj H
      have p417 : 0 ≤ (x5_1 : Int) := xd
      have q417 : x5_1 < (l0.length : Int) := xd
      obtain ⟨ad417, e417, hx417_0⟩ := Kd.at_int HR0.out x5_1 p417 q417
      cases e417
      replace p417 := eq_true p417
      replace q417 := eq_true q417
      have p418 : 0 ≤ (x5_1 : Int) := xd
      have q418 : x5_1 < (l1.length : Int) := xd
      obtain ⟨ad418, e418, hx418_0⟩ := Kd.at_int HR1.out x5_1 p418 q418
      cases e418
      replace p418 := eq_true p418
      replace q418 := eq_true q418
      go_wp2
      repeat (go_quiet (fail); try go_wp2)
      go_ret
      exact ⟨by first | rfl | (simp; done) | (simp [*]; done), by repeat (first | exact Drawn0.refl _ | apply Drawn0.step)⟩
    ·rw [if_neg c4] at H
     have c4b0 := decide_eq_false c4
     clear c4
     obtain rfl := Option.some.inj H
     go_wp2
     repeat (go_quiet (fail); try go_wp2)
     go_ret
     exact ⟨by first | rfl | (simp; done) | (simp [*]; done), by repeat (first | exact Drawn0.refl _ | apply Drawn0.step)⟩
 ·rw [if_neg c3] at H
  have c3b0 : ((l0.length : Int) == (l1.length : Int)) = false := beq_eq_false_iff_ne.mpr c3
  have c3b1 : ((l0.length : Int) != (l1.length : Int)) = true := bne_iff_ne.mpr c3
  have c3b2 : (l0.length == l1.length) = false := by first | simpa using c3 | (simp at c3 ⊢; omega)
  obtain rfl := Option.some.inj H
  go_enter Try.func38, Try.ntmps38
  go_wp2
  repeat (go_quiet (fail); try go_wp2)
  go_ret
  exact ⟨by first | rfl | (simp; done) | (simp [*]; done), by repeat (first | exact Drawn0.refl _ | apply Drawn0.step)⟩

/-! ### spec_FromBeta: function 13 -/
def spec_FromBeta.l0 : Nat → List Int → List Int → Int → Int → Option (List Int × Bool)
 | 0, _, _, _, _ => none
 | k + 1, x0, x4, x5, x6 => if x6 < x5 then (if 0 ≤ x6 then (if x6 < (x0.length : Int) then ((spec_l1In.f (rd x0 x6) 0 27).bind fun t423 => (if t423 = true then (if (wrap64 ((wrap64 ((wrap64 ((rd x0 x6) - x5)) + 1)) + x6)) = 0 then (spec_FromBeta.l0 k x0 x4 x5 (wrap64 (x6 + 1))) else (if x4.length < 17592186044416 then (spec_FromBeta.l0 k x0 (x4 ++ [wrap64 ((wrap64 ((wrap64 ((rd x0 x6) - x5)) + 1)) + x6)]) x5 (wrap64 (x6 + 1))) else (none))) else (some ((([] : List Int)), false)))) else (none)) else (none)) else (if x5 > 18 then (some ((([] : List Int)), false)) else ((spec_BetaNumbers.f k x4 x5).bind fun t434 => ((spec_l2Same.f k t434 x0).bind fun t437 => (if t437 = true then (some (x4, true)) else (some ((([] : List Int)), false))))))
def spec_FromBeta.f (k : Nat) (l0 : List Int) : Option (List Int × Bool) := spec_FromBeta.l0 k l0 (([] : List Int)) (l0.length : Int) 0
theorem spec_FromBeta.mono_l : ∀ k, (∀ y0 y1 y2 y3, LeO (spec_FromBeta.l0 k y0 y1 y2 y3) (spec_FromBeta.l0 (k + 1) y0 y1 y2 y3))
 | 0 => fun _ _ _ _ r h => by simp [spec_FromBeta.l0] at h
 | k + 1 => by
  have ih0 := spec_FromBeta.mono_l k
  ·intro y0 y1 y2 y3
   unfold spec_FromBeta.l0
   repeat' with_reducible first | exact ih0 _ _ _ _ | exact spec_BetaNumbers.mono _ _ _ | exact spec_l2Same.mono _ _ _ | exact xl | refine LeO.ite ?_ ?_ | refine LeO.bind ?_ fun _ => ?_
theorem spec_FromBeta.mono : ∀ a0 k, LeO (spec_FromBeta.f k a0) (spec_FromBeta.f (k + 1) a0) := by
 intro a0 k
 have ih0 := spec_FromBeta.mono_l k
 unfold spec_FromBeta.f
 repeat' with_reducible first | exact ih0 _ _ _ _ | exact spec_BetaNumbers.mono _ _ _ | exact spec_l2Same.mono _ _ _ | exact xl | refine LeO.ite ?_ ?_ | refine LeO.bind ?_ fun _ => ?_
theorem spec_FromBeta.calls (k : Nat) (A0 : Option Addr) (c0 : Nat) (l0 : List Int) (r1 : List Int) (r2 : Bool) (w : World) (hr0 : Kd.C (Kd.int .i64) w A0 l0.length l0) (hc0 : l0.length ≤ c0) (h : spec_FromBeta.f k l0 = some (r1, r2)) :
  Calls Try.prog 13 #[.slice A0 l0.length c0] w fun e w' => ∃ v0_ : Value, e = .returned (.tuple #[v0_, .bool r2]) ∧ Kd.R (Kd.int .i64) 3 w' w.heap.size (fun _ => True) v0_ r1 ∧ Below w.heap.size w w' := by
 have HR0 := ax hr0
 have HC0 := ax hc0
 clear hr0 hc0
 have HB := ax (Below.refl w.heap.size w)
 have H : (spec_FromBeta.l0 k l0 (([] : List Int)) (l0.length : Int) 0) = some (r1, r2) := h
 clear h
 obtain ⟨y419, hy419⟩ : ∃ y_ : List Int, y_ = (([] : List Int)) := ⟨_, rfl⟩
 replace H : (spec_FromBeta.l0 k l0 y419 (l0.length : Int) 0) = some (r1, r2) := xv hy419 H
 have Ny419 := ax hy419
 clear hy419
 have H' := ax H
 clear H
 go_enter Try.func13, Try.ntmps13
 go_wp2_with (first | ((with_reducible refine gate_dst (N := 8) rfl ?_); refine Kd.R_lit (Kd.int .i64) _ 3 ?hg (N := 8) ?hd (xs := ([] : List Int)) (inner := []) (ok := fun _ => True) (okp := fun _ => True) ?hr ?hp (fun _ hk => hk) trivial (Below.refl _ _) (Nat.le_refl _) (by simp) ?_; (case hd => rfl); (case hg => rfl); (case hr => first | (go_simp; done) | (go_simp; rfl)); (case hp => exact (Reps.none _ _)); intro v420 w2 ho3 hb hg_ hnew_; clear hg_ hnew_; (first | rw [← Ny419.out] at ho3 | (simp only [Int.reduceToNat] at ho3; rw [← Ny419.out] at ho3)); have HO421 := ax (Kd.R_lower ho3 (below_size (xb HB.out))); replace HB := yB HB hb; clear hb ho3))
 go_loopg [4, 6] k (fun kq v4 v6 w' => ∃ (x4_1 : List Int) (x6_1 : Int), v6 = .int .i64 x6_1 ∧ Aside0 (spec_FromBeta.l0 kq l0 x4_1 (l0.length : Int) x6_1 = some (r1, r2)) ∧ Aside0 (kq ≤ k) ∧ Aside0 (Kd.R (Kd.int .i64) 3 w' w.heap.size (fun _ => True) v4 x4_1) ∧ Aside0 (Below w.heap.size w w'))
 case atStart => exact ⟨(y419), (0), xr, H', ⟨Nat.le_refl _⟩, ⟨xR HO421.out⟩, ⟨xb HB.out⟩⟩
 case round =>
  clear H'
  obtain ⟨x4_1, x6_1, rfl, HA, HK1, HO_4, HB⟩ := hrel
  cases gk with
  | zero => exact absurd HA.out (by simp [spec_FromBeta.l0])
  | succ k1 =>
   have H := HA.out
   clear HA
   simp only [spec_FromBeta.l0] at H
   by_cases c4 : x6_1 < (l0.length : Int)
   ·rw [if_pos c4] at H
    have c4b0 := decide_eq_true c4
    clear c4
    obtain ⟨c5b0, H⟩ := xq H
    obtain ⟨c6b0, H⟩ := xq H
    obtain ⟨t423, A7, H⟩ := xI H
    by_cases c8 : t423 = true
    ·subst c8
     rw [if_pos rfl] at H
     by_cases c9 : (wrap64 ((wrap64 ((wrap64 ((rd l0 x6_1) - (l0.length : Int))) + 1)) + x6_1)) = 0
     ·rw [if_pos c9] at H
      have c9b0 : ((wrap64 ((wrap64 ((wrap64 ((rd l0 x6_1) - (l0.length : Int))) + 1)) + x6_1)) == 0) = true := beq_iff_eq.mpr c9
      have c9b1 : ((wrap64 ((wrap64 ((wrap64 ((rd l0 x6_1) - (l0.length : Int))) + 1)) + x6_1)) != 0) = false := bne_eq_false_iff_eq.mpr c9
      clear c9
      have H' := ax H
      clear H
      have p422 : 0 ≤ (x6_1 : Int) := xd
      have q422 : x6_1 < (l0.length : Int) := xd
      obtain ⟨ad422, e422, hx422_0⟩ := Kd.at_int HR0.out x6_1 p422 q422
      cases e422
      (try replace hx422_0 := (HB.out.cell (World.block_lt_of_cell? w _ hx422_0)).trans hx422_0)
      replace p422 := eq_true p422
      replace q422 := eq_true q422
      go_wp2_with (first | ((with_reducible refine gate_callee (f := 37) rfl ?_); refine goesL_ (some 20) rfl rfl Try.func37 (by kernel_rfl) rfl #[.int .i64 (rd l0 x6_1), .int .i64 0, .int .i64 27] rfl xm ?_; (with_reducible refine (spec_l1In.calls (rd l0 x6_1) 0 27 true _ A7.out).mono ?_); rintro e w' ⟨rfl, ⟨nd, rfl⟩⟩; refine ⟨_, rfl, ?_⟩; have p424 : 0 ≤ (x6_1 : Int) := xd; have q424 : x6_1 < (l0.length : Int) := xd; obtain ⟨ad424, e424, hx424_0⟩ := Kd.at_int HR0.out x6_1 p424 q424; obtain rfl : ad422 = ad424 := (by injection e424); replace hx424_0 := (HB.out.cell (World.block_lt_of_cell? w _ hx424_0)).trans hx424_0; replace p424 := eq_true p424; replace q424 := eq_true q424))
      go_roundg k1
      case measure => have := HK1.out; omega
      case rel => exact ⟨(x4_1), (wrap64 (x6_1 + 1)), xr, H', ⟨by have := HK1.out; omega⟩, ⟨xR HO_4.out⟩, ⟨xb HB.out⟩⟩
     ·rw [if_neg c9] at H
      have c9b0 : ((wrap64 ((wrap64 ((wrap64 ((rd l0 x6_1) - (l0.length : Int))) + 1)) + x6_1)) == 0) = false := beq_eq_false_iff_ne.mpr c9
      have c9b1 : ((wrap64 ((wrap64 ((wrap64 ((rd l0 x6_1) - (l0.length : Int))) + 1)) + x6_1)) != 0) = true := bne_iff_ne.mpr c9
      obtain ⟨c10, H⟩ := xp H
      have LMc10 := ax c10
      clear c10
      obtain ⟨y425, hy425⟩ : ∃ y_ : List Int, y_ = (x4_1 ++ [wrap64 ((wrap64 ((wrap64 ((rd l0 x6_1) - (l0.length : Int))) + 1)) + x6_1)]) := ⟨_, rfl⟩
      replace H : (spec_FromBeta.l0 k1 l0 y425 (l0.length : Int) (wrap64 (x6_1 + 1))) = some (r1, r2) := xv hy425 H
      have Ny425 := ax hy425
      clear hy425
      have H' := ax H
      clear H
      have p422 : 0 ≤ (x6_1 : Int) := xd
      have q422 : x6_1 < (l0.length : Int) := xd
      obtain ⟨ad422, e422, hx422_0⟩ := Kd.at_int HR0.out x6_1 p422 q422
      cases e422
      (try replace hx422_0 := (HB.out.cell (World.block_lt_of_cell? w _ hx422_0)).trans hx422_0)
      replace p422 := eq_true p422
      replace q422 := eq_true q422
      go_wp2_with (first | ((with_reducible refine gate_callee (f := 37) rfl ?_); refine goesL_ (some 20) rfl rfl Try.func37 (by kernel_rfl) rfl #[.int .i64 (rd l0 x6_1), .int .i64 0, .int .i64 27] rfl xm ?_; (with_reducible refine (spec_l1In.calls (rd l0 x6_1) 0 27 true _ A7.out).mono ?_); rintro e w' ⟨rfl, ⟨nd, rfl⟩⟩; refine ⟨_, rfl, ?_⟩; have p424 : 0 ≤ (x6_1 : Int) := xd; have q424 : x6_1 < (l0.length : Int) := xd; obtain ⟨ad424, e424, hx424_0⟩ := Kd.at_int HR0.out x6_1 p424 q424; obtain rfl : ad422 = ad424 := (by injection e424); replace hx424_0 := (HB.out.cell (World.block_lt_of_cell? w _ hx424_0)).trans hx424_0; replace p424 := eq_true p424; replace q424 := eq_true q424) | ((with_reducible refine gate_builtin (b := .append) (xs := #[.tmp 34, .tmp 36]) rfl ?_); at_builtin; refine Kd.R_append (Kd.int .i64) (w0 := w) w.heap.size rfl (.tmp 34) (.tmp 36) 24 3 (.int .i64 0) 8 rfl Try.underlying24 info3 rfl (by decide) (by omega) u4 x4_1 (wrap64 ((wrap64 ((wrap64 ((rd l0 x6_1) - (l0.length : Int))) + 1)) + x6_1)) [.int .i64 (wrap64 ((wrap64 ((wrap64 ((rd l0 x6_1) - (l0.length : Int))) + 1)) + x6_1))] (fun _ => True) (fun _ => False) rfl rfl ?aP (fun _ hk => hk.elim) ?aF ?aO ?aB ?aS ?aL ?_; (case aP => exact rfl); (case aB => exact (xb HB.out)); (case aF => exact (fun _ _ => trivial)); (case aO => exact (xR HO_4.out)); (case aS => exact (below_size (xb HB.out))); (case aL => have := LMc10.out; omega); intro v426 w11 ho hb hg hat; rw [← Ny425.out] at ho; have n0_ := ax (hb); have n1_ := ax (ho); clear HB; clear HO_4; have HB := n0_; have HO427 := n1_; clear n0_ n1_; clear ho hb hg hat))
      go_roundg k1
      case measure => have := HK1.out; omega
      case rel => exact ⟨(y425), (wrap64 (x6_1 + 1)), xr, H', ⟨by have := HK1.out; omega⟩, ⟨xR HO427.out⟩, ⟨xb HB.out⟩⟩
    ·replace c8 := Bool.eq_false_iff.mpr c8
     subst c8
     rw [if_neg (show ¬ (false = true) by decide)] at H
     obtain ⟨y428, hy428⟩ : ∃ y_ : List Int, y_ = (([] : List Int)) := ⟨_, rfl⟩
     replace H : (some (y428, false)) = some (r1, r2) := xv hy428 H
     have Ny428 := ax hy428
     clear hy428
     simp only [Option.some.injEq, Prod.mk.injEq] at H
     obtain ⟨rfl, rfl⟩ := H
     have p422 : 0 ≤ (x6_1 : Int) := xd
     have q422 : x6_1 < (l0.length : Int) := xd
     obtain ⟨ad422, e422, hx422_0⟩ := Kd.at_int HR0.out x6_1 p422 q422
     cases e422
     (try replace hx422_0 := (HB.out.cell (World.block_lt_of_cell? w _ hx422_0)).trans hx422_0)
     replace p422 := eq_true p422
     replace q422 := eq_true q422
     go_wp2_with (first | ((with_reducible refine gate_callee (f := 37) rfl ?_); refine goesL_ (some 20) rfl rfl Try.func37 (by kernel_rfl) rfl #[.int .i64 (rd l0 x6_1), .int .i64 0, .int .i64 27] rfl xm ?_; (with_reducible refine (spec_l1In.calls (rd l0 x6_1) 0 27 false _ A7.out).mono ?_); rintro e w' ⟨rfl, ⟨nd, rfl⟩⟩; refine ⟨_, rfl, ?_⟩) | ((with_reducible refine gate_dst (N := 22) rfl ?_); refine Kd.R_lit (Kd.int .i64) _ 3 ?hg (N := 22) ?hd (xs := ([] : List Int)) (inner := []) (ok := fun _ => True) (okp := fun _ => True) ?hr ?hp (fun _ hk => hk) trivial (Below.refl _ _) (Nat.le_refl _) (by simp) ?_; (case hd => rfl); (case hg => rfl); (case hr => first | (go_simp; done) | (go_simp; rfl)); (case hp => exact (Reps.none _ _)); intro v429 w12 ho13 hb hg_ hnew_; clear hg_ hnew_; (first | rw [← Ny428.out] at ho13 | (simp only [Int.reduceToNat] at ho13; rw [← Ny428.out] at ho13)); have HO430 := ax (Kd.R_lower (Kd.R_new' ho13 (Kd.R_lt (xR HO_4.out))) (below_size (xb HB.out))); replace HO_4 := ax (Kd.R_elder' (xR HO_4.out) (Kd.R_base ho13) hb); replace HB := yB HB hb; clear hb ho13))
     go_ret2
     exact ⟨_, xe, by (with_reducible repeat (first | apply Kd.R_alloc | apply Kd.R_drewN | apply Kd.R_drew)); exact Kd.R_mono HO430.out (fun _ hk => trivial), xb HB.out⟩
   ·rw [if_neg c4] at H
    have c4b0 := decide_eq_false c4
    clear c4
    by_cases c14 : (l0.length : Int) > 18
    ·rw [if_pos c14] at H
     have c14b0 : decide (18 < (l0.length : Int)) = true := decide_eq_true c14
     have c14b1 : decide (18 < l0.length) = true := decide_eq_true (by omega)
     clear c14
     obtain ⟨y431, hy431⟩ : ∃ y_ : List Int, y_ = (([] : List Int)) := ⟨_, rfl⟩
     replace H : (some (y431, false)) = some (r1, r2) := xv hy431 H
     have Ny431 := ax hy431
     clear hy431
     simp only [Option.some.injEq, Prod.mk.injEq] at H
     obtain ⟨rfl, rfl⟩ := H
     go_wp2_with (first | ((with_reducible refine gate_dst (N := 48) rfl ?_); refine Kd.R_lit (Kd.int .i64) _ 3 ?hg (N := 48) ?hd (xs := ([] : List Int)) (inner := []) (ok := fun _ => True) (okp := fun _ => True) ?hr ?hp (fun _ hk => hk) trivial (Below.refl _ _) (Nat.le_refl _) (by simp) ?_; (case hd => rfl); (case hg => rfl); (case hr => first | (go_simp; done) | (go_simp; rfl)); (case hp => exact (Reps.none _ _)); intro v432 w15 ho16 hb hg_ hnew_; clear hg_ hnew_; (first | rw [← Ny431.out] at ho16 | (simp only [Int.reduceToNat] at ho16; rw [← Ny431.out] at ho16)); have HO433 := ax (Kd.R_lower (Kd.R_new' ho16 (Kd.R_lt (xR HO_4.out))) (below_size (xb HB.out))); replace HO_4 := ax (Kd.R_elder' (xR HO_4.out) (Kd.R_base ho16) hb); replace HB := yB HB hb; clear hb ho16))
     go_ret2
     exact ⟨_, xe, by (with_reducible repeat (first | apply Kd.R_alloc | apply Kd.R_drewN | apply Kd.R_drew)); exact Kd.R_mono HO433.out (fun _ hk => trivial), xb HB.out⟩
    ·rw [if_neg c14] at H
     have c14b0 : decide (18 < (l0.length : Int)) = false := decide_eq_false c14
     have c14b1 : decide (18 < l0.length) = false := decide_eq_false (by omega)
     clear c14
     obtain ⟨t434, A17, H⟩ := xI H
     obtain ⟨t437, A18, H⟩ := xI H
     by_cases c19 : t437 = true
     ·subst c19
      rw [if_pos rfl] at H
      simp only [Option.some.injEq, Prod.mk.injEq] at H
      obtain ⟨rfl, rfl⟩ := H
      obtain ⟨Ao20, co20, eo20⟩ := Kd.R_slice HO_4.out
      subst eo20
      go_wp2_with (first | (go_at_call 19; (with_reducible refine (spec_BetaNumbers.calls k1 _ _ x4_1 (l0.length : Int) t434 _ ?side1 ?side2 A17.out).mono ?_); (case side1 => exact xc (Kd.R_reads' HO_4.out).2.2); (case side2 => exact (Kd.R_reads' HO_4.out).2.1); rintro e w21 ⟨v435, rfl, ho0, hb⟩; have HO436 := ax (Kd.R_lower (Kd.R_new' ho0 (Kd.R_lt (xR HO_4.out))) (below_size (xb HB.out))); replace HO_4 := ax (Kd.R_elder' (xR HO_4.out) (Kd.R_base ho0) hb); replace HB := yB HB hb; (try clear hb); (try clear ho0); obtain ⟨Ao22, co22, eo22⟩ := Kd.R_slice HO436.out; subst eo22) | (go_at_call 38; (with_reducible refine (spec_l2Same.calls k1 _ _ t434 _ _ l0 true _ ?side1 ?side2 ?side3 ?side4 A18.out).mono ?_); (case side1 => exact xc (Kd.R_reads' HO436.out).2.2); (case side2 => exact (Kd.R_reads' HO436.out).2.1); (case side3 => exact xz HR0.out HB.out); (case side4 => exact HC0.out); rintro e w' ⟨rfl, ⟨nd, rfl⟩⟩))
      go_ret2
      exact ⟨_, xe, by (with_reducible repeat (first | apply Kd.R_alloc | apply Kd.R_drewN | apply Kd.R_drew)); exact Kd.R_mono HO_4.out (fun _ hk => trivial), xb HB.out⟩
     ·replace c19 := Bool.eq_false_iff.mpr c19
      subst c19
      rw [if_neg (show ¬ (false = true) by decide)] at H
      obtain ⟨y438, hy438⟩ : ∃ y_ : List Int, y_ = (([] : List Int)) := ⟨_, rfl⟩
      replace H : (some (y438, false)) = some (r1, r2) := xv hy438 H
      have Ny438 := ax hy438
      clear hy438
      simp only [Option.some.injEq, Prod.mk.injEq] at H
      obtain ⟨rfl, rfl⟩ := H
      obtain ⟨Ao23, co23, eo23⟩ := Kd.R_slice HO_4.out
      subst eo23
      go_wp2_with (first | (go_at_call 19; (with_reducible refine (spec_BetaNumbers.calls k1 _ _ x4_1 (l0.length : Int) t434 _ ?side1 ?side2 A17.out).mono ?_); (case side1 => exact xc (Kd.R_reads' HO_4.out).2.2); (case side2 => exact (Kd.R_reads' HO_4.out).2.1); rintro e w24 ⟨v435, rfl, ho0, hb⟩; have HO436 := ax (Kd.R_lower (Kd.R_new' ho0 (Kd.R_lt (xR HO_4.out))) (below_size (xb HB.out))); replace HO_4 := ax (Kd.R_elder' (xR HO_4.out) (Kd.R_base ho0) hb); replace HB := yB HB hb; (try clear hb); (try clear ho0); obtain ⟨Ao25, co25, eo25⟩ := Kd.R_slice HO436.out; subst eo25) | (go_at_call 38; (with_reducible refine (spec_l2Same.calls k1 _ _ t434 _ _ l0 false _ ?side1 ?side2 ?side3 ?side4 A18.out).mono ?_); (case side1 => exact xc (Kd.R_reads' HO436.out).2.2); (case side2 => exact (Kd.R_reads' HO436.out).2.1); (case side3 => exact xz HR0.out HB.out); (case side4 => exact HC0.out); rintro e w' ⟨rfl, ⟨nd, rfl⟩⟩) | ((with_reducible refine gate_dst (N := 48) rfl ?_); refine Kd.R_lit (Kd.int .i64) _ 3 ?hg (N := 48) ?hd (xs := ([] : List Int)) (inner := []) (ok := fun _ => True) (okp := fun _ => True) ?hr ?hp (fun _ hk => hk) trivial (Below.refl _ _) (Nat.le_refl _) (by simp) ?_; (case hd => rfl); (case hg => rfl); (case hr => first | (go_simp; done) | (go_simp; rfl)); (case hp => exact (Reps.none _ _)); intro v439 w26 ho27 hb hg_ hnew_; clear hg_ hnew_; (first | rw [← Ny438.out] at ho27 | (simp only [Int.reduceToNat] at ho27; rw [← Ny438.out] at ho27)); have HO440 := ax (Kd.R_lower (Kd.R_new' (Kd.R_new' ho27 (Kd.R_lt (xR HO_4.out))) (Kd.R_lt (xR HO436.out))) (below_size (xb HB.out))); replace HO_4 := ax (Kd.R_elder' (xR HO_4.out) (Kd.R_base ho27) hb); replace HO436 := ax (Kd.R_elder' (xR HO436.out) (Kd.R_base ho27) hb); replace HB := yB HB hb; clear hb ho27))
      go_ret2
      exact ⟨_, xe, by (with_reducible repeat (first | apply Kd.R_alloc | apply Kd.R_drewN | apply Kd.R_drew)); exact Kd.R_mono HO440.out (fun _ hk => trivial), xb HB.out⟩

end Go.Proofs.Ytopmggldaicpaaa.PFnCores
