import Derived.Test.YtneipehcmmigeaaPFnExactTimesPolysx13
namespace Go.Proofs.Ytneipehcmmigeaa.PFnExactTimesPolys
open Go.RowKit Go.Proofs.YtneipehcmmigeaaW.PrintWords Go.Proofs.YtneipehcmmigeaaW.PrintLast Go.Proofs.YtneipehcmmigeaaW.PrintMore
set_option linter.unusedVariables false
set_option linter.unusedSimpArgs false
set_option maxHeartbeats 8000000
set_option maxRecDepth 100000
mutual
def zap.j0 : Nat → Bool → Int → List (S48) → Int → List (S48) → Option (Int × (List (S48)) × Bool)
 | 0, _, _, _, _, _ => none
 | k + 1, x28, x1003, x1001, x1004, x1002 => if x28 = true then (some (0, ([] : List (S48)), false)) else (zap.l0 k (([] : List (S48))) x1001 (x1001.length : Int) 0 x1003 x1001 x1004 x1002)
def zap.l0 : Nat → List (S48) → List (S48) → Int → Int → Int → List (S48) → Int → List (S48) → Option (Int × (List (S48)) × Bool)
 | 0, _, _, _, _, _, _, _, _ => none
 | k + 1, x6, x32, x33, x34, x1003, x1001, x1004, x1002 => if x34 < x33 then (if 0 ≤ x34 then (if x34 < (x32.length : Int) then (zap.l1 k x6 x32 x33 x34 x1002 (x1002.length : Int) 0 x1003 x1001 x1004 x1002 ((zab x32 x34).f0) ((zab x32 x34).f1)) else (none)) else (none)) else ((zau.f k x1003 x6).bind fun bt257 => ((zbq.f k bt257.1 bt257.2).bind fun bt261 => (some (bt261.1, bt261.2.1, bt261.2.2))))
def zap.l1 : Nat → List (S48) → List (S48) → Int → Int → List (S48) → Int → Int → Int → List (S48) → Int → List (S48) → List Int → Int → Option (Int × (List (S48)) × Bool)
 | 0, _, _, _, _, _, _, _, _, _, _, _, _, _ => none
 | k + 1, x6, x32, x33, x34, x39, x40, x41, x1003, x1001, x1004, x1002, x1005, x1006 => if x41 < x40 then (if 0 ≤ x41 then (if x41 < (x39.length : Int) then ((za1.f x1005).bind fun t270 => (zap.l2 k x6 x32 x33 x34 x39 x40 x41 ((zab x39 x41).f0) (((zab x39 x41).f0).length : Int) 0 x1003 x1001 x1004 x1002 x1005 x1006 t270 (wrap64 (x1006 * ((zab x39 x41).f1))))) else (none)) else (none)) else (zap.l0 k x6 x32 x33 (wrap64 (x34 + 1)) x1003 x1001 x1004 x1002)
def zap.l2 : Nat → List (S48) → List (S48) → Int → Int → List (S48) → Int → Int → List Int → Int → Int → Int → List (S48) → Int → List (S48) → List Int → Int → List Int → Int → Option (Int × (List (S48)) × Bool)
 | 0, _, _, _, _, _, _, _, _, _, _, _, _, _, _, _, _, _, _ => none
 | k + 1, x6, x32, x33, x34, x39, x40, x41, x55, x56, x57, x1003, x1001, x1004, x1002, x1005, x1006, x1000, x1007 => if x57 < x56 then (if 0 ≤ x57 then (if x57 < (x55.length : Int) then (if x57 < (x1000.length : Int) then (zap.l2 k x6 x32 x33 x34 x39 x40 x41 x55 x56 (wrap64 (x57 + 1)) x1003 x1001 x1004 x1002 x1005 x1006 (x1000.set (x57 : Int).toNat (wrap64 ((rd x1000 x57) + (rd x55 x57)))) x1007) else (none)) else (none)) else (none)) else (if x6.length < 4398046511104 then (zap.l1 k (x6 ++ [(⟨x1000, x1007⟩ : S48)]) x32 x33 x34 x39 x40 (wrap64 (x41 + 1)) x1003 x1001 x1004 x1002 x1005 x1006) else (none))
end
def zap.f (k : Nat) (a0_0 : Int) (l0_1 : List (S48)) (a1_0 : Int) (l1_1 : List (S48)) : Option (Int × (List (S48)) × Bool) := (zaw.f k a0_0 l0_1).bind fun t252 => (if t252 = true then ((zaw.f k a1_0 l1_1).bind fun t253 => (if t253 = true then (zap.j0 k (a0_0 != a1_0) a0_0 l0_1 a1_0 l1_1) else (zap.j0 k true a0_0 l0_1 a1_0 l1_1))) else (zap.j0 k true a0_0 l0_1 a1_0 l1_1))
theorem zap.zbb : ∀ k, (∀ y0 y1 y2 y3 y4, LeO (zap.j0 k y0 y1 y2 y3 y4) (zap.j0 (k + 1) y0 y1 y2 y3 y4)) ∧ (∀ y0 y1 y2 y3 y4 y5 y6 y7, LeO (zap.l0 k y0 y1 y2 y3 y4 y5 y6 y7) (zap.l0 (k + 1) y0 y1 y2 y3 y4 y5 y6 y7)) ∧ (∀ y0 y1 y2 y3 y4 y5 y6 y7 y8 y9 y10 y11 y12, LeO (zap.l1 k y0 y1 y2 y3 y4 y5 y6 y7 y8 y9 y10 y11 y12) (zap.l1 (k + 1) y0 y1 y2 y3 y4 y5 y6 y7 y8 y9 y10 y11 y12)) ∧ (∀ y0 y1 y2 y3 y4 y5 y6 y7 y8 y9 y10 y11 y12 y13 y14 y15 y16 y17, LeO (zap.l2 k y0 y1 y2 y3 y4 y5 y6 y7 y8 y9 y10 y11 y12 y13 y14 y15 y16 y17) (zap.l2 (k + 1) y0 y1 y2 y3 y4 y5 y6 y7 y8 y9 y10 y11 y12 y13 y14 y15 y16 y17))
 | 0 => ⟨fun _ _ _ _ _ r h => by simp [zap.j0] at h, fun _ _ _ _ _ _ _ _ r h => by simp [zap.l0] at h, fun _ _ _ _ _ _ _ _ _ _ _ _ _ r h => by simp [zap.l1] at h, fun _ _ _ _ _ _ _ _ _ _ _ _ _ _ _ _ _ _ r h => by simp [zap.l2] at h⟩
 | k + 1 => by
  obtain ⟨ih0, ih1, ih2, ih3⟩ := zap.zbb k
  refine ⟨?_, ?_, ?_, ?_⟩ <;> intros <;> (first | unfold zap.j0 | unfold zap.l0 | unfold zap.l1 | unfold zap.l2) <;> repeat' with_reducible first | exact ih0 _ _ _ _ _ | exact ih1 _ _ _ _ _ _ _ _ | exact ih2 _ _ _ _ _ _ _ _ _ _ _ _ _ | exact ih3 _ _ _ _ _ _ _ _ _ _ _ _ _ _ _ _ _ _ | exact zaw.mono _ _ _ | exact zbq.mono _ _ _ | exact zau.mono _ _ _ | exact xl | refine LeO.ite ?_ ?_ | refine LeO.bind ?_ fun _ => ?_
theorem zap.mono : ∀ a0 a1 a2 a3 k, LeO (zap.f k a0 a1 a2 a3) (zap.f (k + 1) a0 a1 a2 a3) := by
 intro a0 a1 a2 a3 k
 obtain ⟨ih0, ih1, ih2, ih3⟩ := zap.zbb k
 unfold zap.f
 repeat' with_reducible first | exact ih0 _ _ _ _ _ | exact ih1 _ _ _ _ _ _ _ _ | exact ih2 _ _ _ _ _ _ _ _ _ _ _ _ _ | exact ih3 _ _ _ _ _ _ _ _ _ _ _ _ _ _ _ _ _ _ | exact zaw.mono _ _ _ | exact zbq.mono _ _ _ | exact zau.mono _ _ _ | exact xl | refine LeO.ite ?_ ?_ | refine LeO.bind ?_ fun _ => ?_
def zap.T10 : Bool × List (List Nat × List Nat) := (true, [([], []), ([0], [0]), ([1], [1]), ([], []), ([3], [3]), ([], []), ([5], [5]), ([4, 6], [4, 6]), ([2, 7], [2, 7]), ([], []), ([9, 8, 2, 0, 1, 2, 3, 4, 5, 6, 7, 8, 9], [8, 9])])
def zap.B10 : List Nat := [0, 1, 3, 0, 8, 0, 32, 120, 255, 0, 1023]
theorem zap.zh0 : rtab .any (opsOf Try.f10 10) = zap.T10 := by kernel_rfl
theorem zap.zgB : zbT zap.T10.2 zap.B10 = true := by kernel_rfl
theorem zap.calls (k : Nat) (a0_0 : Int) (A0_1 : Option Addr) (c0_1 : Nat) (l0_1 : List (S48)) (a1_0 : Int) (A1_1 : Option Addr) (c1_1 : Nat) (l1_1 : List (S48)) (r1 : Int) (r2 : List (S48)) (r3 : Bool) (w : World) (hr0_1 : Kd.C k48 w A0_1 l0_1.length l0_1) (hc0_1 : l0_1.length ≤ c0_1) (hr1_1 : Kd.C k48 w A1_1 l1_1.length l1_1) (hc1_1 : l1_1.length ≤ c1_1) (h : zap.f k a0_0 l0_1 a1_0 l1_1 = some (r1, r2, r3)) :
  Calls Try.prog 10 #[.agg #[.int .i64 a0_0, .slice A0_1 l0_1.length c0_1], .agg #[.int .i64 a1_0, .slice A1_1 l1_1.length c1_1]] w fun e w' => ∃ v1_ : Value, e = .returned (.tuple #[.agg #[.int .i64 r1, v1_], .bool r3]) ∧ Kd.S k48 48 w' w.heap.size (fun _ => True) v1_ r2 ∧ Below w.heap.size w w' := by
 have hu28 := Try.underlying28
 have hu48 := Try.underlying48
 have HR0_1 := ax hr0_1
 have HC0_1 := ax hc0_1
 clear hr0_1 hc0_1
 have HR1_1 := ax hr1_1
 have HC1_1 := ax hc1_1
 clear hr1_1 hc1_1
 have HB := ax (Below.refl w.heap.size w)
 have H : ((zaw.f k a0_0 l0_1).bind fun t252 => (if t252 = true then ((zaw.f k a1_0 l1_1).bind fun t253 => (if t253 = true then (zap.j0 k (a0_0 != a1_0) a0_0 l0_1 a1_0 l1_1) else (zap.j0 k true a0_0 l0_1 a1_0 l1_1))) else (zap.j0 k true a0_0 l0_1 a1_0 l1_1))) = some (r1, r2, r3) := h
 clear h
 have HC3 := ax H
 clear H
 go_enter Try.func10, Try.ntmps10
 go_upto_region 1 with (first | ((with_reducible refine zaP (N := 2) rfl ?_); refine zaO ?hg (N := 2) ?hd (cs := #[.int .i64 a0_0, .slice A0_1 l0_1.length c0_1]) (t := 28) ?hr ?_; (case hd => rfl); (case hg => rfl); (case hr => first | (go_simp; done) | (go_simp; rfl)); intro gb249 hg w4 hbox hb; have BK249 := ax (hbox); have GW249 := ax ((by rw [hg]; exact (zaj (xb HB.out)) : w.heap.size ≤ gb249)); have GE249 := ax ((by rw [hg]; exact (zaj (xb HB.out)) : w.heap.size ≤ gb249)); replace HB := yB HB hb; clear hb hbox hg) | ((with_reducible refine zaP (N := 3) rfl ?_); refine zaO ?hg (N := 3) ?hd (cs := #[.int .i64 a1_0, .slice A1_1 l1_1.length c1_1]) (t := 28) ?hr ?_; (case hd => rfl); (case hg => rfl); (case hr => first | (go_simp; done) | (go_simp; rfl)); intro gb250 hg w5 hbox hb; have BK250 := ax (hbox); have GW250 := ax ((by rw [hg]; exact (zaj (xs HB.out GE249.out)) : w.heap.size ≤ gb250)); have GE250 := ax ((by rw [hg]; exact (zaj (xs HB.out GE249.out)) : w.heap.size ≤ gb250)); replace HB := ax (zas (xs HB.out GE249.out) hb); have NB249_250 := ax (bn hg BK249.out); have NB250_249 := ax (bm hg BK249.out); replace BK249 := ax (bb BK249.out hb); clear hb hbox hg) | ((with_reducible refine zaP (N := 4) rfl ?_); refine zaO ?hg (N := 4) ?hd (cs := #[.int .i64 0, .slice none 0 0]) (t := 28) ?hr ?_; (case hd => rfl); (case hg => rfl); (case hr => first | (go_simp; done) | (go_simp; rfl)); intro gb251 hg w6 hbox hb; have BK251 := ax (hbox); have GW251 := ax ((by rw [hg]; exact (zaj (bh HB.out)) : w.heap.size ≤ gb251)); have GE251 := ax ((by rw [hg]; exact (zaj (bh HB.out)) : w.heap.size ≤ gb251)); replace HB := ax (zas (bh HB.out) hb); have NB249_251 := ax (bn hg BK249.out); have NB251_249 := ax (bm hg BK249.out); replace BK249 := ax (bb BK249.out hb); have NB250_251 := ax (bn hg BK250.out); have NB251_250 := ax (bm hg BK250.out); replace BK250 := ax (bb BK250.out hb); clear hb hbox hg))
 (try simp only [Act.put, List.setIfInBounds_toArray, List.set_cons_zero, List.set_cons_succ])
 go_cut [28] (fun v28 wc => ∃ (kq : Nat) (x28_2 : Bool), v28 = .bool x28_2 ∧ zal (zap.j0 kq x28_2 a0_0 l0_1 a1_0 l1_1 = some (r1, r2, r3)) ∧ zal (kq ≤ k) ∧ zal (wc.heap[gb249]? = some (.cells #[.int .i64 a0_0, (.slice A0_1 l0_1.length c0_1)] 28 (0, 0))) ∧ zal (wc.heap[gb250]? = some (.cells #[.int .i64 a1_0, (.slice A1_1 l1_1.length c1_1)] 28 (0, 0))) ∧ zal (wc.heap[gb251]? = some (.cells #[.int .i64 0, (.slice none 0 0)] 28 (0, 0))) ∧ zal (Below w.heap.size w wc))
 case first =>
  have H := HC3.out
  clear HC3
  obtain ⟨t252, A7, H⟩ := xI H
  by_cases c8 : t252 = true
  ·subst c8
   rw [if_pos rfl] at H
   obtain ⟨t253, A9, H⟩ := xI H
   by_cases c10 : t253 = true
   ·subst c10
    rw [if_pos rfl] at H
    have H' := ax H
    clear H
    have hnb11 := NB249_250.out
    have hnc11 := NB250_249.out
    have hnb12 := NB249_251.out
    have hnc12 := NB251_249.out
    have hcz13_0 := bc0 BK249.out
    have hcz13_1 := bc1 BK249.out
    have hfz13_0 := zag BK249.out 0
    have hfz13_1 := zag BK249.out 1
    go_wp2_with (first | ((with_reducible refine zat (f := 29) rfl ?_); refine za2 (some 15) rfl rfl Try.func29 (by kernel_rfl) rfl #[.agg #[.int .i64 a0_0, .slice A0_1 l0_1.length c0_1]] rfl xm ?_; (with_reducible refine (zaw.calls k a0_0 _ _ l0_1 true _ ?side1 ?side2 A7.out).mono ?_); (case side1 => exact xz HR0_1.out HB.out); (case side2 => exact HC0_1.out); rintro e w14 ⟨rfl, hb⟩; refine ⟨_, rfl, ?_⟩; replace BK249 := ax (bb BK249.out hb); replace BK250 := ax (bb BK250.out hb); replace BK251 := ax (bb BK251.out hb); replace HB := ax (zas (bh HB.out) hb); (try clear hb); have hnb15 := NB250_251.out; have hnc15 := NB251_250.out; have hcz16_0 := bc0 BK250.out; have hcz16_1 := bc1 BK250.out; have hfz16_0 := zag BK250.out 0; have hfz16_1 := zag BK250.out 1) | (go_at_call 29; (with_reducible refine (zaw.calls k a1_0 _ _ l1_1 true _ ?side1 ?side2 A9.out).mono ?_); (case side1 => exact xz HR1_1.out HB.out); (case side2 => exact HC1_1.out); rintro e w17 ⟨rfl, hb⟩; replace BK249 := ax (bb BK249.out hb); replace BK250 := ax (bb BK250.out hb); replace BK251 := ax (bb BK251.out hb); replace HB := ax (zas (bh HB.out) hb); (try clear hb); have hcz18_0 := bc0 BK249.out; have hcz18_1 := bc1 BK249.out; have hfz18_0 := zag BK249.out 0; have hfz18_1 := zag BK249.out 1; have hcz19_0 := bc0 BK250.out; have hcz19_1 := bc1 BK250.out; have hfz19_0 := zag BK250.out 0; have hfz19_1 := zag BK250.out 1))
    go_meet
    case rel => exact ⟨_, ((a0_0 != a1_0)), xr, H', ⟨by first | omega | exact Nat.le_refl _⟩, ⟨xk BK249.out⟩, ⟨xk BK250.out⟩, ⟨xk BK251.out⟩, ⟨bh HB.out⟩⟩
   ·replace c10 := Bool.eq_false_iff.mpr c10
    subst c10
    rw [if_neg (show ¬ (false = true) by decide)] at H
    have H' := ax H
    clear H
    have hnb20 := NB249_250.out
    have hnc20 := NB250_249.out
    have hnb21 := NB249_251.out
    have hnc21 := NB251_249.out
    have hcz22_0 := bc0 BK249.out
    have hcz22_1 := bc1 BK249.out
    have hfz22_0 := zag BK249.out 0
    have hfz22_1 := zag BK249.out 1
    go_wp2_with (first | ((with_reducible refine zat (f := 29) rfl ?_); refine za2 (some 15) rfl rfl Try.func29 (by kernel_rfl) rfl #[.agg #[.int .i64 a0_0, .slice A0_1 l0_1.length c0_1]] rfl xm ?_; (with_reducible refine (zaw.calls k a0_0 _ _ l0_1 true _ ?side1 ?side2 A7.out).mono ?_); (case side1 => exact xz HR0_1.out HB.out); (case side2 => exact HC0_1.out); rintro e w23 ⟨rfl, hb⟩; refine ⟨_, rfl, ?_⟩; replace BK249 := ax (bb BK249.out hb); replace BK250 := ax (bb BK250.out hb); replace BK251 := ax (bb BK251.out hb); replace HB := ax (zas (bh HB.out) hb); (try clear hb); have hnb24 := NB250_251.out; have hnc24 := NB251_250.out; have hcz25_0 := bc0 BK250.out; have hcz25_1 := bc1 BK250.out; have hfz25_0 := zag BK250.out 0; have hfz25_1 := zag BK250.out 1) | (go_at_call 29; (with_reducible refine (zaw.calls k a1_0 _ _ l1_1 false _ ?side1 ?side2 A9.out).mono ?_); (case side1 => exact xz HR1_1.out HB.out); (case side2 => exact HC1_1.out); rintro e w26 ⟨rfl, hb⟩; replace BK249 := ax (bb BK249.out hb); replace BK250 := ax (bb BK250.out hb); replace BK251 := ax (bb BK251.out hb); replace HB := ax (zas (bh HB.out) hb); (try clear hb)))
    go_meet
    case rel => exact ⟨_, (true), xr, H', ⟨by first | omega | exact Nat.le_refl _⟩, ⟨xk BK249.out⟩, ⟨xk BK250.out⟩, ⟨xk BK251.out⟩, ⟨bh HB.out⟩⟩
  ·replace c8 := Bool.eq_false_iff.mpr c8
   subst c8
   rw [if_neg (show ¬ (false = true) by decide)] at H
   have H' := ax H
   clear H
   have hnb27 := NB249_250.out
   have hnc27 := NB250_249.out
   have hnb28 := NB249_251.out
   have hnc28 := NB251_249.out
   have hcz29_0 := bc0 BK249.out
   have hcz29_1 := bc1 BK249.out
   have hfz29_0 := zag BK249.out 0
   have hfz29_1 := zag BK249.out 1
   go_wp2_with (first | ((with_reducible refine zat (f := 29) rfl ?_); refine za2 (some 15) rfl rfl Try.func29 (by kernel_rfl) rfl #[.agg #[.int .i64 a0_0, .slice A0_1 l0_1.length c0_1]] rfl xm ?_; (with_reducible refine (zaw.calls k a0_0 _ _ l0_1 false _ ?side1 ?side2 A7.out).mono ?_); (case side1 => exact xz HR0_1.out HB.out); (case side2 => exact HC0_1.out); rintro e w30 ⟨rfl, hb⟩; refine ⟨_, rfl, ?_⟩; replace BK249 := ax (bb BK249.out hb); replace BK250 := ax (bb BK250.out hb); replace BK251 := ax (bb BK251.out hb); replace HB := ax (zas (bh HB.out) hb); (try clear hb)))
   go_meet
   case rel => exact ⟨_, (true), xr, H', ⟨by first | omega | exact Nat.le_refl _⟩, ⟨xk BK249.out⟩, ⟨xk BK250.out⟩, ⟨xk BK251.out⟩, ⟨bh HB.out⟩⟩
 case rest =>
  clear HC3
  (try clear c8); (try clear c10); (try clear hcz13_0); (try clear hcz13_1); (try clear hcz16_0); (try clear hcz16_1); (try clear hcz18_0); (try clear hcz18_1); (try clear hcz19_0); (try clear hcz19_1); (try clear hcz22_0); (try clear hcz22_1); (try clear hcz25_0); (try clear hcz25_1); (try clear hcz29_0); (try clear hcz29_1); (try clear hfz13_0); (try clear hfz13_1); (try clear hfz16_0); (try clear hfz16_1); (try clear hfz18_0); (try clear hfz18_1); (try clear hfz19_0); (try clear hfz19_1); (try clear hfz22_0); (try clear hfz22_1); (try clear hfz25_0); (try clear hfz25_1); (try clear hfz29_0); (try clear hfz29_1)
  obtain ⟨kq, x28_2, rfl, HA, HJ2, BK249, BK250, BK251, HB⟩ := hcut
  cases kq with
  | zero => exact absurd HA.out (by simp [zap.j0])
  | succ kj2 =>
   have H := HA.out
   clear HA
   simp only [zap.j0] at H
   by_cases c31 : x28_2 = true
   ·subst c31
    rw [if_pos rfl] at H
    simp only [Option.some.injEq, Prod.mk.injEq] at H
    obtain ⟨rfl, rfl, rfl⟩ := H
    have hnb32 := NB251_249.out
    have hnc32 := NB249_251.out
    have hnb33 := NB251_250.out
    have hnc33 := NB250_251.out
    have hcz34_0 := bc0 BK251.out
    have hcz34_1 := bc1 BK251.out
    have hfz34_0 := zag BK251.out 0
    have hfz34_1 := zag BK251.out 1
    go_wp2
    refine bodyPost_ret (zcB rfl _ _ gb251 28 #[.int .i64 0, .slice none 0 0] (0, 0) _ rfl (by (with_reducible repeat (first | refine zah ?_ _ | refine zad ?_ | refine zae ?_ _)); refine zba (cs := #[.int .i64 0, .slice none 0 0]) ?_ 1 _ rfl; (with_reducible repeat (first | refine zah ?_ _ | refine zad ?_ | refine zae ?_ _)); refine zba (cs := #[.int .i64 0, .slice none 0 0]) ?_ 0 _ rfl; (with_reducible repeat (first | refine zah ?_ _ | refine zad ?_ | refine zae ?_ _)); exact BK251.out) Try.underlying28 rfl (by kernel_rfl)) rfl ?_
    exact ⟨_, xe, by first | exact Kd.zhK _ _ _ _ _ | exact Kd.zhP _ _ _ _ _ | exact Kd.zhH _ _ _ _ _ | exact Kd.ziu _ _ _ _ _ | exact Kd.zeK _ _ _ _ _, bh HB.out⟩
   ·replace c31 := Bool.eq_false_iff.mpr c31
    subst c31
    rw [if_neg (show ¬ (false = true) by decide)] at H
    obtain ⟨y254, hy254⟩ : ∃ y_ : List (S48), y_ = (([] : List (S48))) := ⟨_, rfl⟩
    replace H : (zap.l0 kj2 y254 l0_1 (l0_1.length : Int) 0 a0_0 l0_1 a1_0 l1_1) = some (r1, r2, r3) := xv hy254 H
    have Ny254 := ax hy254
    clear hy254
    have H' := ax H
    clear H
    go_wp2_with (first | ((with_reducible refine zaP (N := 30) rfl ?_); refine Kd.zkq k48 _ 48 ?hg (N := 30) ?hd (xs := ([] : List (S48))) (inner := []) (ok := fun _ => True) (okp := fun _ => True) ?hr ?hp (fun _ hk => hk) trivial (Below.refl _ _) (Nat.le_refl _) (by simp) ?_; (case hd => rfl); (case hg => rfl); (case hr => first | (go_simp; done) | (go_simp; rfl)); (case hp => exact (Reps.none _ _)); intro v255 w35 ho36 hb hg_ hnew_; clear hg_ hnew_; (first | rw [← Ny254.out] at ho36 | (simp only [Int.reduceToNat] at ho36; rw [← Ny254.out] at ho36)); have HO256 := ax (Kd.zbS ho36 (zaj (bh HB.out))); replace BK249 := ax (bb BK249.out hb); replace BK250 := ax (bb BK250.out hb); replace BK251 := ax (bb BK251.out hb); replace HB := ax (zas (bh HB.out) hb); clear hb ho36; have hnb37 := NB249_250.out; have hnc37 := NB250_249.out; have hnb38 := NB249_251.out; have hnc38 := NB251_249.out; have hcz39_0 := bc0 BK249.out; have hcz39_1 := bc1 BK249.out; have hfz39_0 := zag BK249.out 0; have hfz39_1 := zag BK249.out 1))
    go_loopg [6, 34] kj2 (fun kq v6 v34 w' => ∃ (x6_2 : List (S48)) (x34_2 : Int), v34 = .int .i64 x34_2 ∧ zal (zap.l0 kq x6_2 l0_1 (l0_1.length : Int) x34_2 a0_0 l0_1 a1_0 l1_1 = some (r1, r2, r3)) ∧ zal (kq ≤ kj2) ∧ zal (Kd.S k48 48 w' w.heap.size (fun _ => True) v6 x6_2) ∧ zal (w'.heap[gb249]? = some (.cells #[.int .i64 a0_0, (.slice A0_1 l0_1.length c0_1)] 28 (0, 0))) ∧ zal (w'.heap[gb250]? = some (.cells #[.int .i64 a1_0, (.slice A1_1 l1_1.length c1_1)] 28 (0, 0))) ∧ zal (w'.heap[gb251]? = some (.cells #[.int .i64 0, (.slice none 0 0)] 28 (0, 0))) ∧ zal (Below w.heap.size w w'))
    case atStart => exact ⟨(y254), (0), xr, H', ⟨Nat.le_refl _⟩, ⟨xS HO256.out⟩, ⟨xk BK249.out⟩, ⟨xk BK250.out⟩, ⟨xk BK251.out⟩, ⟨bh HB.out⟩⟩
    case round =>
     clear H'
     (try clear c8); (try clear c10); (try clear c31); (try clear hcz13_0); (try clear hcz13_1); (try clear hcz16_0); (try clear hcz16_1); (try clear hcz18_0); (try clear hcz18_1); (try clear hcz19_0); (try clear hcz19_1); (try clear hcz22_0); (try clear hcz22_1); (try clear hcz25_0); (try clear hcz25_1); (try clear hcz29_0); (try clear hcz29_1); (try clear hcz34_0); (try clear hcz34_1); (try clear hcz39_0); (try clear hcz39_1); (try clear hfz13_0); (try clear hfz13_1); (try clear hfz16_0); (try clear hfz16_1); (try clear hfz18_0); (try clear hfz18_1); (try clear hfz19_0); (try clear hfz19_1); (try clear hfz22_0); (try clear hfz22_1); (try clear hfz25_0); (try clear hfz25_1); (try clear hfz29_0); (try clear hfz29_1); (try clear hfz34_0); (try clear hfz34_1); (try clear hfz39_0); (try clear hfz39_1)
     obtain ⟨x6_2, x34_2, rfl, HA, HK2, HO_6, BK249, BK250, BK251, HB⟩ := hrel
     cases gk with
     | zero => exact absurd HA.out (by simp [zap.l0])
     | succ k2 =>
      have H := HA.out
      clear HA
      simp only [zap.l0] at H
      by_cases c40 : x34_2 < (l0_1.length : Int)
      ·rw [if_pos c40] at H
       have c40b0 := decide_eq_true c40
       clear c40
       obtain ⟨c41b0, H⟩ := xq H
       obtain ⟨c42b0, H⟩ := xq H
       have H' := ax H
       clear H
       have p266 : 0 ≤ (x34_2 : Int) := xd
       have q266 : x34_2 < (l0_1.length : Int) := xd
       obtain ⟨ad266, A266_0, c266_0, e266, hx266_0, hx266_1, hl266_0, hi266_0⟩ := zbr HR0_1.out x34_2 p266 q266
       cases e266
       (try replace hx266_0 := (HB.out.cell (World.block_lt_of_cell? w _ hx266_0)).trans hx266_0)
       (try replace hx266_1 := (HB.out.cell (World.block_lt_of_cell? w _ hx266_1)).trans hx266_1)
       have HR266_0 := ax hi266_0
       have HC266_0 := ax hl266_0
       clear hi266_0 hl266_0
       replace p266 := eq_true p266
       replace q266 := eq_true q266
       go_wp2_with (first | ((with_reducible refine zaP (N := 8) rfl ?_); refine zaO ?hg (N := 8) ?hd (cs := #[.slice none 0 0, .int .i64 0]) (t := 48) ?hr ?_; (case hd => rfl); (case hg => rfl); (case hr => first | (go_simp; done) | (go_simp; rfl)); intro gb267 hg w43 hbox hb; replace HO_6 := ax (Kd.zaF (Kd.zeg (xS HO_6.out) gb267 (Nat.le_of_eq hg.symm)) hb); have BK267 := ax (hbox); have GW267 := ax ((by rw [hg]; exact (zaj (bh HB.out)) : w.heap.size ≤ gb267)); have GE267 := ax ((by rw [hg]; exact (zaj (bh HB.out)) : w.heap.size ≤ gb267)); replace HB := ax (zas (bh HB.out) hb); have NB249_267 := ax (bn hg BK249.out); have NB267_249 := ax (bm hg BK249.out); replace BK249 := ax (bb BK249.out hb); have NB250_267 := ax (bn hg BK250.out); have NB267_250 := ax (bm hg BK250.out); replace BK250 := ax (bb BK250.out hb); have NB251_267 := ax (bn hg BK251.out); have NB267_251 := ax (bm hg BK251.out); replace BK251 := ax (bb BK251.out hb); clear hb hbox hg; have hnb44 := NB267_249.out; have hnc44 := NB249_267.out; have hnb45 := NB267_250.out; have hnc45 := NB250_267.out; have hnb46 := NB267_251.out; have hnc46 := NB251_267.out; have hcz47_0 := bc0 BK267.out; have hcz47_1 := bc1 BK267.out; have hfz47_0 := zag BK267.out 0; have hfz47_1 := zag BK267.out 1; have hnb48 := NB250_249.out; have hnc48 := NB249_250.out; have hnb49 := NB250_251.out; have hnc49 := NB251_250.out; have hcz50_0 := bc0 BK250.out; have hcz50_1 := bc1 BK250.out; have hfz50_0 := zag BK250.out 0; have hfz50_1 := zag BK250.out 1))
       go_loopg [6, 41] k2 (fun kq v6 v41 w' => ∃ (x6_3 : List (S48)) (x41_3 : Int), v41 = .int .i64 x41_3 ∧ zal (zap.l1 kq x6_3 l0_1 (l0_1.length : Int) x34_2 l1_1 (l1_1.length : Int) x41_3 a0_0 l0_1 a1_0 l1_1 ((zab l0_1 x34_2).f0) ((zab l0_1 x34_2).f1) = some (r1, r2, r3)) ∧ zal (kq ≤ k2) ∧ zal (Kd.S k48 48 w' w.heap.size (fun k_ => k_ ≠ gb267) v6 x6_3) ∧ zal (w'.heap[gb249]? = some (.cells #[.int .i64 a0_0, (.slice (some ad266) l0_1.length c0_1)] 28 (0, 0))) ∧ zal (w'.heap[gb250]? = some (.cells #[.int .i64 a1_0, (.slice A1_1 l1_1.length c1_1)] 28 (0, 0))) ∧ zal (w'.heap[gb251]? = some (.cells #[.int .i64 0, (.slice none 0 0)] 28 (0, 0))) ∧ zal (w'.heap[gb267]? = some (.cells #[(.slice A266_0 ((zab l0_1 x34_2).f0).length c266_0), .int .i64 ((zab l0_1 x34_2).f1)] 48 (0, 0))) ∧ zal (Below w.heap.size w w'))
       case atStart => exact ⟨(x6_2), (0), xr, H', ⟨Nat.le_refl _⟩, ⟨by (with_reducible repeat (first | apply Kd.zaG | apply Kd.zaB | apply Kd.zaK)); exact Kd.zaQ (Kd.zd0 (p := ⟨gb267, 1, none⟩) (Kd.zd0 (p := ⟨gb267, 0, none⟩) (Kd.zaQ HO_6.out (fun k_ hk => (⟨hk, hk.2⟩ : _ ∧ k_ ≠ gb267))) (fun _ hk => hk.2) (.slice A266_0 ((zab l0_1 x34_2).f0).length c266_0)) (fun _ hk => hk.2) (.int .i64 ((zab l0_1 x34_2).f1))) (fun _ hk => hk.1.2)⟩, ⟨by (with_reducible repeat (first | refine zah ?_ _ | refine zad ?_ | refine zae ?_ _)); refine zaD ?_ NB249_267.out _; (with_reducible repeat (first | refine zah ?_ _ | refine zad ?_ | refine zae ?_ _)); refine zaD ?_ NB249_267.out _; (with_reducible repeat (first | refine zah ?_ _ | refine zad ?_ | refine zae ?_ _)); exact BK249.out⟩, ⟨by (with_reducible repeat (first | refine zah ?_ _ | refine zad ?_ | refine zae ?_ _)); refine zaD ?_ NB250_267.out _; (with_reducible repeat (first | refine zah ?_ _ | refine zad ?_ | refine zae ?_ _)); refine zaD ?_ NB250_267.out _; (with_reducible repeat (first | refine zah ?_ _ | refine zad ?_ | refine zae ?_ _)); exact BK250.out⟩, ⟨by (with_reducible repeat (first | refine zah ?_ _ | refine zad ?_ | refine zae ?_ _)); refine zaD ?_ NB251_267.out _; (with_reducible repeat (first | refine zah ?_ _ | refine zad ?_ | refine zae ?_ _)); refine zaD ?_ NB251_267.out _; (with_reducible repeat (first | refine zah ?_ _ | refine zad ?_ | refine zae ?_ _)); exact BK251.out⟩, ⟨by (with_reducible repeat (first | refine zah ?_ _ | refine zad ?_ | refine zae ?_ _)); refine zba (cs := #[.slice A266_0 ((zab l0_1 x34_2).f0).length c266_0, .int .i64 0]) ?_ 1 _ rfl; (with_reducible repeat (first | refine zah ?_ _ | refine zad ?_ | refine zae ?_ _)); refine zba (cs := #[.slice none 0 0, .int .i64 0]) ?_ 0 _ rfl; (with_reducible repeat (first | refine zah ?_ _ | refine zad ?_ | refine zae ?_ _)); exact BK267.out⟩, ⟨bh HB.out⟩⟩
       case round =>
        clear H'
        (try clear c8); (try clear c10); (try clear c31); (try clear c40); (try clear c40b0); (try clear c41); (try clear c41b0); (try clear c42); (try clear c42b0); (try clear hcz13_0); (try clear hcz13_1); (try clear hcz16_0); (try clear hcz16_1); (try clear hcz18_0); (try clear hcz18_1); (try clear hcz19_0); (try clear hcz19_1); (try clear hcz22_0); (try clear hcz22_1); (try clear hcz25_0); (try clear hcz25_1); (try clear hcz29_0); (try clear hcz29_1); (try clear hcz34_0); (try clear hcz34_1); (try clear hcz39_0); (try clear hcz39_1); (try clear hcz47_0); (try clear hcz47_1); (try clear hcz50_0); (try clear hcz50_1); (try clear hfz13_0); (try clear hfz13_1); (try clear hfz16_0); (try clear hfz16_1); (try clear hfz18_0); (try clear hfz18_1); (try clear hfz19_0); (try clear hfz19_1); (try clear hfz22_0); (try clear hfz22_1); (try clear hfz25_0); (try clear hfz25_1); (try clear hfz29_0); (try clear hfz29_1); (try clear hfz34_0); (try clear hfz34_1); (try clear hfz39_0); (try clear hfz39_1); (try clear hfz47_0); (try clear hfz47_1); (try clear hfz50_0); (try clear hfz50_1); (try clear hx266_0); (try clear hx266_1); (try clear p266); (try clear q266)
        obtain ⟨x6_3, x41_3, rfl, HA, HK3, HO_6, BK249, BK250, BK251, BK267, HB⟩ := hrel
        cases gk with
        | zero => exact absurd HA.out (by simp [zap.l1])
        | succ k3 =>
         have H := HA.out
         clear HA
         simp only [zap.l1] at H
         by_cases c51 : x41_3 < (l1_1.length : Int)
         ·rw [if_pos c51] at H
          have c51b0 := decide_eq_true c51
          clear c51
          obtain ⟨c52b0, H⟩ := xq H
          obtain ⟨c53b0, H⟩ := xq H
          obtain ⟨t270, A54, H⟩ := xI H
          have H' := ax H
          clear H
          have p268 : 0 ≤ (x41_3 : Int) := xd
          have q268 : x41_3 < (l1_1.length : Int) := xd
          obtain ⟨ad268, A268_0, c268_0, e268, hx268_0, hx268_1, hl268_0, hi268_0⟩ := zbr HR1_1.out x41_3 p268 q268
          cases e268
          (try replace hx268_0 := (HB.out.cell (World.block_lt_of_cell? w _ hx268_0)).trans hx268_0)
          (try replace hx268_1 := (HB.out.cell (World.block_lt_of_cell? w _ hx268_1)).trans hx268_1)
          have HR268_0 := ax hi268_0
          have HC268_0 := ax hl268_0
          clear hi268_0 hl268_0
          replace p268 := eq_true p268
          replace q268 := eq_true q268
          try go_wp2_with (first | ((with_reducible refine zaP (N := 10) rfl ?_); refine zaO ?hg (N := 10) ?hd (cs := #[.slice none 0 0, .int .i64 0]) (t := 48) ?hr ?_; (case hd => rfl); (case hg => rfl); (case hr => first | (go_simp; done) | (go_simp; rfl)); intro gb269 hg w55 hbox hb; replace HO_6 := ax (Kd.zaF (Kd.zeg (xS HO_6.out) gb269 (Nat.le_of_eq hg.symm)) hb); have BK269 := ax (hbox); have GW269 := ax ((by rw [hg]; exact (zaj (bh HB.out)) : w.heap.size ≤ gb269)); have GE269 := ax ((by rw [hg]; exact (zaj (bh HB.out)) : w.heap.size ≤ gb269)); replace HB := ax (zas (bh HB.out) hb); have NB249_269 := ax (bn hg BK249.out); have NB269_249 := ax (bm hg BK249.out); replace BK249 := ax (bb BK249.out hb); have NB250_269 := ax (bn hg BK250.out); have NB269_250 := ax (bm hg BK250.out); replace BK250 := ax (bb BK250.out hb); have NB251_269 := ax (bn hg BK251.out); have NB269_251 := ax (bm hg BK251.out); replace BK251 := ax (bb BK251.out hb); have NB267_269 := ax (bn hg BK267.out); have NB269_267 := ax (bm hg BK267.out); replace BK267 := ax (bb BK267.out hb); clear hb hbox hg; have hnb56 := NB269_249.out; have hnc56 := NB249_269.out; have hnb57 := NB269_250.out; have hnc57 := NB250_269.out; have hnb58 := NB269_251.out; have hnc58 := NB251_269.out; have hnb59 := NB269_267.out; have hnc59 := NB267_269.out; have hcz60_0 := bc0 BK269.out; have hcz60_1 := bc1 BK269.out; have hfz60_0 := zag BK269.out 0; have hfz60_1 := zag BK269.out 1))
          have n0_ : zal (Kd.S k48 48 ((w55.setCell ⟨gb269, 0, none⟩ (.slice A268_0 ((zab l1_1 x41_3).f0).length c268_0)).setCell ⟨gb269, 1, none⟩ (.int .i64 ((zab l1_1 x41_3).f1))) w.heap.size (fun k_ => k_ ≠ gb267 ∧ k_ ≠ gb269) u6 x6_3) := ⟨by (with_reducible repeat (first | apply Kd.zaG | apply Kd.zaB | apply Kd.zaK)); exact Kd.zaQ (Kd.zd0 (p := ⟨gb269, 1, none⟩) (Kd.zd0 (p := ⟨gb269, 0, none⟩) (Kd.zaQ HO_6.out (fun k_ hk => (⟨hk, hk.2⟩ : _ ∧ k_ ≠ gb269))) (fun _ hk => hk.2) (.slice A268_0 ((zab l1_1 x41_3).f0).length c268_0)) (fun _ hk => hk.2) (.int .i64 ((zab l1_1 x41_3).f1))) (fun _ hk => ⟨hk.1.1, hk.1.2⟩)⟩
          have n1_ : zal (((w55.setCell ⟨gb269, 0, none⟩ (.slice A268_0 ((zab l1_1 x41_3).f0).length c268_0)).setCell ⟨gb269, 1, none⟩ (.int .i64 ((zab l1_1 x41_3).f1))).heap[gb249]? = some (.cells #[.int .i64 a0_0, .slice (some ad266) l0_1.length c0_1] 28 (0, 0))) := ⟨by (with_reducible repeat (first | refine zah ?_ _ | refine zad ?_ | refine zae ?_ _)); refine zaD ?_ NB249_269.out _; (with_reducible repeat (first | refine zah ?_ _ | refine zad ?_ | refine zae ?_ _)); refine zaD ?_ NB249_269.out _; (with_reducible repeat (first | refine zah ?_ _ | refine zad ?_ | refine zae ?_ _)); exact BK249.out⟩
          have n2_ : zal (((w55.setCell ⟨gb269, 0, none⟩ (.slice A268_0 ((zab l1_1 x41_3).f0).length c268_0)).setCell ⟨gb269, 1, none⟩ (.int .i64 ((zab l1_1 x41_3).f1))).heap[gb250]? = some (.cells #[.int .i64 a1_0, .slice (some ad268) l1_1.length c1_1] 28 (0, 0))) := ⟨by (with_reducible repeat (first | refine zah ?_ _ | refine zad ?_ | refine zae ?_ _)); refine zaD ?_ NB250_269.out _; (with_reducible repeat (first | refine zah ?_ _ | refine zad ?_ | refine zae ?_ _)); refine zaD ?_ NB250_269.out _; (with_reducible repeat (first | refine zah ?_ _ | refine zad ?_ | refine zae ?_ _)); exact BK250.out⟩
          have n3_ : zal (((w55.setCell ⟨gb269, 0, none⟩ (.slice A268_0 ((zab l1_1 x41_3).f0).length c268_0)).setCell ⟨gb269, 1, none⟩ (.int .i64 ((zab l1_1 x41_3).f1))).heap[gb251]? = some (.cells #[.int .i64 0, .slice none 0 0] 28 (0, 0))) := ⟨by (with_reducible repeat (first | refine zah ?_ _ | refine zad ?_ | refine zae ?_ _)); refine zaD ?_ NB251_269.out _; (with_reducible repeat (first | refine zah ?_ _ | refine zad ?_ | refine zae ?_ _)); refine zaD ?_ NB251_269.out _; (with_reducible repeat (first | refine zah ?_ _ | refine zad ?_ | refine zae ?_ _)); exact BK251.out⟩
          have n4_ : zal (((w55.setCell ⟨gb269, 0, none⟩ (.slice A268_0 ((zab l1_1 x41_3).f0).length c268_0)).setCell ⟨gb269, 1, none⟩ (.int .i64 ((zab l1_1 x41_3).f1))).heap[gb267]? = some (.cells #[.slice A266_0 ((zab l0_1 x34_2).f0).length c266_0, .int .i64 ((zab l0_1 x34_2).f1)] 48 (0, 0))) := ⟨by (with_reducible repeat (first | refine zah ?_ _ | refine zad ?_ | refine zae ?_ _)); refine zaD ?_ NB267_269.out _; (with_reducible repeat (first | refine zah ?_ _ | refine zad ?_ | refine zae ?_ _)); refine zaD ?_ NB267_269.out _; (with_reducible repeat (first | refine zah ?_ _ | refine zad ?_ | refine zae ?_ _)); exact BK267.out⟩
          have n5_ : zal (((w55.setCell ⟨gb269, 0, none⟩ (.slice A268_0 ((zab l1_1 x41_3).f0).length c268_0)).setCell ⟨gb269, 1, none⟩ (.int .i64 ((zab l1_1 x41_3).f1))).heap[gb269]? = some (.cells #[.slice A268_0 ((zab l1_1 x41_3).f0).length c268_0, .int .i64 ((zab l1_1 x41_3).f1)] 48 (0, 0))) := ⟨by (with_reducible repeat (first | refine zah ?_ _ | refine zad ?_ | refine zae ?_ _)); refine zba (cs := #[.slice A268_0 ((zab l1_1 x41_3).f0).length c268_0, .int .i64 0]) ?_ 1 _ rfl; (with_reducible repeat (first | refine zah ?_ _ | refine zad ?_ | refine zae ?_ _)); refine zba (cs := #[.slice none 0 0, .int .i64 0]) ?_ 0 _ rfl; (with_reducible repeat (first | refine zah ?_ _ | refine zad ?_ | refine zae ?_ _)); exact BK269.out⟩
          have n6_ : zal (Below w.heap.size w ((w55.setCell ⟨gb269, 0, none⟩ (.slice A268_0 ((zab l1_1 x41_3).f0).length c268_0)).setCell ⟨gb269, 1, none⟩ (.int .i64 ((zab l1_1 x41_3).f1)))) := ⟨bh HB.out⟩
          (try clear HO_6)
          (try clear BK249)
          (try clear BK250)
          (try clear BK251)
          (try clear BK267)
          (try clear BK269)
          (try clear HB)
          generalize ((w55.setCell ⟨gb269, 0, none⟩ (.slice A268_0 ((zab l1_1 x41_3).f0).length c268_0)).setCell ⟨gb269, 1, none⟩ (.int .i64 ((zab l1_1 x41_3).f1))) = w61 at n0_ n1_ n2_ n3_ n4_ n5_ n6_ ⊢
          have HO_6 := n0_
          have BK249 := n1_
          have BK250 := n2_
          have BK251 := n3_
          have BK267 := n4_
          have BK269 := n5_
          have HB := n6_
          clear n0_ n1_ n2_ n3_ n4_ n5_ n6_
          replace HO_6 := ax (Kd.zaK HO_6.out); replace BK249 := ax (zad BK249.out); replace BK250 := ax (zad BK250.out); replace BK251 := ax (zad BK251.out); replace BK267 := ax (zad BK267.out); replace BK269 := ax (zad BK269.out); replace HB := ax (zaN HB.out)
          refine zbG (n := 11) (S := fun w' => w'.cell? ⟨gb267, 0, none⟩ = some (.slice A266_0 ((zab l0_1 x34_2).f0).length c266_0) ∧ w'.cell? ⟨gb267, 1, none⟩ = some (.int .i64 ((zab l0_1 x34_2).f1)) ∧ w'.cell? ⟨gb269, 0, none⟩ = some (.slice A268_0 ((zab l1_1 x41_3).f0).length c268_0) ∧ w'.cell? ⟨gb269, 1, none⟩ = some (.int .i64 ((zab l1_1 x41_3).f1))) (ds := []) (xB 11 0) (by kernel_rfl) rfl (by kernel_rfl) ⟨(zai BK267.out 0).trans rfl, (zai BK267.out 1).trans rfl, (zai BK269.out 0).trans rfl, (zai BK269.out 1).trans rfl⟩ (fun hHeld => ?_); refine zbf zap.zh0 zap.zgB (fun HT_ HW_ => ?_)
          generalize w61.drew = w62 at HO_6 BK249 BK250 BK251 BK267 BK269 HB hHeld ⊢
          refine pu (i := 0) (N := some 45) (xB 11 1) HT_.out ?_
          refine pu (i := 3) (N := some 48) (xB 11 9) HT_.out ?_
          refine pu (i := 5) (N := some 50) (xB 11 41) HT_.out ?_
          refine tk (i := 1) (N := some 46) (xB 11 43) HT_.out HW_.out hHeld ?_
          refine tk (i := 4) (N := some 49) (xB 11 59) HT_.out HW_.out hHeld ?_
          refine tk (i := 6) (N := some 51) (xB 11 123) HT_.out HW_.out hHeld ?_
          refine pu (i := 7) (N := some 52) (xB 11 251) HT_.out ?_
          refine zhk (σ := Value × Nat) 1 (xB 11 1023) (fun s_ => [(47, s_.1), (11, .pointer (some ⟨s_.2, 0, none⟩)), (53, .agg #[s_.1, .int .i64 (wrap64 (((zab l0_1 x34_2).f1) * ((zab l1_1 x41_3).f1)))])]) (fun s_ w' => (w'.cell? ⟨gb267, 0, none⟩ = some (.slice A266_0 ((zab l0_1 x34_2).f0).length c266_0) ∧ w'.cell? ⟨gb267, 1, none⟩ = some (.int .i64 ((zab l0_1 x34_2).f1)) ∧ w'.cell? ⟨gb269, 0, none⟩ = some (.slice A268_0 ((zab l1_1 x41_3).f0).length c268_0) ∧ w'.cell? ⟨gb269, 1, none⟩ = some (.int .i64 ((zab l1_1 x41_3).f1))) ∧ (Kd.R (Kd.int .i64) 3 w' w.heap.size (fun _ => True) s_.1 t270) ∧ (Kd.S k48 48 w' w.heap.size (fun k_ => some k_ ≠ (s_.1 : Value).ownBlock ∧ k_ ≠ gb267 ∧ k_ ≠ gb269 ∧ k_ ≠ s_.2) u6 x6_3) ∧ (w'.heap[gb249]? = some (.cells #[.int .i64 a0_0, .slice (some ad266) l0_1.length c0_1] 28 (0, 0))) ∧ (w'.heap[gb250]? = some (.cells #[.int .i64 a1_0, .slice (some ad268) l1_1.length c1_1] 28 (0, 0))) ∧ (w'.heap[gb251]? = some (.cells #[.int .i64 0, .slice none 0 0] 28 (0, 0))) ∧ (w'.heap[gb267]? = some (.cells #[.slice A266_0 ((zab l0_1 x34_2).f0).length c266_0, .int .i64 ((zab l0_1 x34_2).f1)] 48 (0, 0))) ∧ (w'.heap[gb269]? = some (.cells #[.slice A268_0 ((zab l1_1 x41_3).f0).length c268_0, .int .i64 ((zab l1_1 x41_3).f1)] 48 (0, 0))) ∧ (w'.heap[s_.2]? = some (.cells #[.slice none 0 0, .int .i64 0] 48 (0, 0))) ∧ (w.heap.size ≤ s_.2) ∧ (w.heap.size ≤ s_.2) ∧ (gb249 ≠ s_.2) ∧ (s_.2 ≠ gb249) ∧ (gb250 ≠ s_.2) ∧ (s_.2 ≠ gb250) ∧ (gb251 ≠ s_.2) ∧ (s_.2 ≠ gb251) ∧ (gb267 ≠ s_.2) ∧ (s_.2 ≠ gb267) ∧ (gb269 ≠ s_.2) ∧ (s_.2 ≠ gb269) ∧ (Below w.heap.size w w')) ?_ ?_
          rotate_left
          ·intro hCont
           refine two_ (i := 2) (j := 9) (Ni := some 47) (Nj := some 11) (xB 11 255) (xB 11 763) rfl rfl rfl rfl (zem HT_.out (by kernel_rfl)) (by decide) (by decide) (fun K hK => ?_) (fun K hK => ?_)
           ·skip
            refine zbM Try.func30 (by kernel_rfl) rfl #[.slice A266_0 ((zab l0_1 x34_2).f0).length c266_0] (by rfl) rfl rfl xm ?_
            with_reducible refine (za1.calls _ _ ((zab l0_1 x34_2).f0) t270 _ ?side1 ?side2 A54.out).mono ?_
            (case side1 => exact xz HR266_0.out HB.out)
            (case side2 => exact HC266_0.out)
            rintro e w63 ⟨v271, rfl, ho0, hb⟩
            refine ⟨_, rfl, ?_⟩
            replace HO_6 := ax (Kd.zeh (xS HO_6.out) (Kd.zcf ho0) hb); have HO272 := ax (Kd.zcJ ho0 (zaj (bh HB.out))); replace BK249 := ax (bb BK249.out hb); replace BK250 := ax (bb BK250.out hb); replace BK251 := ax (bb BK251.out hb); replace BK267 := ax (bb BK267.out hb); replace BK269 := ax (bb BK269.out hb); replace HB := ax (zas (bh HB.out) hb)
            (try clear hb)
            (try clear hk)
            (try clear ho0)
            obtain ⟨Ao64, co64, eo64⟩ := Kd.zcd HO272.out
            (first | subst eo64 | (injection eo64 with f1_ f2_ f3_; have f4_ := f1_.symm; have f5_ := f3_.symm; clear f1_ f2_ f3_; subst f4_; subst f5_))
            refine hK.out _ _ ⟨(zai BK267.out 0).trans rfl, (zai BK267.out 1).trans rfl, (zai BK269.out 0).trans rfl, (zai BK269.out 1).trans rfl⟩ (fun hHeld => ?_)
            clear hK K
            refine nm ?_
            refine pu (i := 8) (N := some 53) (xB 11 511) HT_.out ?_
            refine one_ (i := 9) (N := some 11) (xB 11 1023) rfl rfl (zbj HT_.out (by kernel_rfl)) (by decide) (fun K hK => ?_)
            refine zce ?hg (N := 11) ?hd (cs := #[.slice none 0 0, .int .i64 0]) (t := 48) ?hr ?_; (case hd => rfl); (case hg => rfl); (case hr => first | (go_simp; done) | (go_simp; rfl))
            intro gb273 hg w65 hbox hb
            replace HO_6 := ax (Kd.zaF (Kd.zeg (xS HO_6.out) gb273 (Nat.le_of_eq hg.symm)) hb); replace HO272 := yR HO272 hb; have BK273 := ax (hbox); have GW273 := ax ((by rw [hg]; exact (zaj (bh HB.out)) : w.heap.size ≤ gb273)); have GE273 := ax ((by rw [hg]; exact (zaj (bh HB.out)) : w.heap.size ≤ gb273)); replace HB := ax (zas (bh HB.out) hb); have NB249_273 := ax (bn hg BK249.out); have NB273_249 := ax (bm hg BK249.out); replace BK249 := ax (bb BK249.out hb); have NB250_273 := ax (bn hg BK250.out); have NB273_250 := ax (bm hg BK250.out); replace BK250 := ax (bb BK250.out hb); have NB251_273 := ax (bn hg BK251.out); have NB273_251 := ax (bm hg BK251.out); replace BK251 := ax (bb BK251.out hb); have NB267_273 := ax (bn hg BK267.out); have NB273_267 := ax (bm hg BK267.out); replace BK267 := ax (bb BK267.out hb); have NB269_273 := ax (bn hg BK269.out); have NB273_269 := ax (bm hg BK269.out); replace BK269 := ax (bb BK269.out hb); clear hb hbox hg
            refine hK.out _ _ ⟨(zai BK267.out 0).trans rfl, (zai BK267.out 1).trans rfl, (zai BK269.out 0).trans rfl, (zai BK269.out 1).trans rfl⟩ (fun hHeld => ?_)
            clear hK K
            refine nm ?_
            exact zc6 (by simp only [zco, Act.put, List.setIfInBounds_toArray, List.set_cons_zero, List.set_cons_succ]) (hCont (.slice Ao64 t270.length co64, gb273) _ ⟨hHeld, (xR HO272.out), (by (with_reducible repeat (first | apply Kd.zaG | apply Kd.zaB | apply Kd.zaK)); exact Kd.zaQ HO_6.out (fun _ hk => ⟨hk.1.2, ⟨hk.1.1.1, ⟨hk.1.1.2, hk.2⟩⟩⟩)), (xk BK249.out), (xk BK250.out), (xk BK251.out), (xk BK267.out), (xk BK269.out), (xk BK273.out), GW273.out, GE273.out, NB249_273.out, NB273_249.out, NB250_273.out, NB273_250.out, NB251_273.out, NB273_251.out, NB267_273.out, NB273_267.out, NB269_273.out, NB273_269.out, (bh HB.out)⟩)
           ·skip
            refine zce ?hg (N := 11) ?hd (cs := #[.slice none 0 0, .int .i64 0]) (t := 48) ?hr ?_; (case hd => rfl); (case hg => rfl); (case hr => first | (go_simp; done) | (go_simp; rfl))
            intro gb273 hg w63 hbox hb
            replace HO_6 := ax (Kd.zaF (Kd.zeg (xS HO_6.out) gb273 (Nat.le_of_eq hg.symm)) hb); have BK273 := ax (hbox); have GW273 := ax ((by rw [hg]; exact (zaj (bh HB.out)) : w.heap.size ≤ gb273)); have GE273 := ax ((by rw [hg]; exact (zaj (bh HB.out)) : w.heap.size ≤ gb273)); replace HB := ax (zas (bh HB.out) hb); have NB249_273 := ax (bn hg BK249.out); have NB273_249 := ax (bm hg BK249.out); replace BK249 := ax (bb BK249.out hb); have NB250_273 := ax (bn hg BK250.out); have NB273_250 := ax (bm hg BK250.out); replace BK250 := ax (bb BK250.out hb); have NB251_273 := ax (bn hg BK251.out); have NB273_251 := ax (bm hg BK251.out); replace BK251 := ax (bb BK251.out hb); have NB267_273 := ax (bn hg BK267.out); have NB273_267 := ax (bm hg BK267.out); replace BK267 := ax (bb BK267.out hb); have NB269_273 := ax (bn hg BK269.out); have NB273_269 := ax (bm hg BK269.out); replace BK269 := ax (bb BK269.out hb); clear hb hbox hg
            refine hK.out _ _ ⟨(zai BK267.out 0).trans rfl, (zai BK267.out 1).trans rfl, (zai BK269.out 0).trans rfl, (zai BK269.out 1).trans rfl⟩ (fun hHeld => ?_)
            clear hK K
            refine nm ?_
            refine one_ (i := 2) (N := some 47) (xB 11 767) rfl rfl (zbj HT_.out (by kernel_rfl)) (by decide) (fun K hK => ?_)
            refine zbM Try.func30 (by kernel_rfl) rfl #[.slice A266_0 ((zab l0_1 x34_2).f0).length c266_0] (by rfl) rfl rfl xm ?_
            with_reducible refine (za1.calls _ _ ((zab l0_1 x34_2).f0) t270 _ ?side1 ?side2 A54.out).mono ?_
            (case side1 => exact xz HR266_0.out HB.out)
            (case side2 => exact HC266_0.out)
            rintro e w64 ⟨v271, rfl, ho0, hb⟩
            refine ⟨_, rfl, ?_⟩
            replace HO_6 := ax (Kd.zeh (xS HO_6.out) (Kd.zcf ho0) hb); have HO272 := ax (Kd.zcJ ho0 (zaj (bh HB.out))); replace BK249 := ax (bb BK249.out hb); replace BK250 := ax (bb BK250.out hb); replace BK251 := ax (bb BK251.out hb); replace BK267 := ax (bb BK267.out hb); replace BK269 := ax (bb BK269.out hb); replace BK273 := ax (bb BK273.out hb); replace HB := ax (zas (bh HB.out) hb)
            (try clear hb)
            (try clear hk)
            (try clear ho0)
            obtain ⟨Ao65, co65, eo65⟩ := Kd.zcd HO272.out
            (first | subst eo65 | (injection eo65 with f1_ f2_ f3_; have f4_ := f1_.symm; have f5_ := f3_.symm; clear f1_ f2_ f3_; subst f4_; subst f5_))
            refine hK.out _ _ ⟨(zai BK267.out 0).trans rfl, (zai BK267.out 1).trans rfl, (zai BK269.out 0).trans rfl, (zai BK269.out 1).trans rfl⟩ (fun hHeld => ?_)
            clear hK K
            refine nm ?_
            refine pu (i := 8) (N := some 53) (xB 11 1023) HT_.out ?_
            exact zc6 (by simp only [zco, Act.put, List.setIfInBounds_toArray, List.set_cons_zero, List.set_cons_succ]) (hCont (.slice Ao65 t270.length co65, gb273) _ ⟨hHeld, (xR HO272.out), (by (with_reducible repeat (first | apply Kd.zaG | apply Kd.zaB | apply Kd.zaK)); exact Kd.zaQ HO_6.out (fun _ hk => ⟨hk.2, ⟨hk.1.1.1, ⟨hk.1.1.2, hk.1.2⟩⟩⟩)), (xk BK249.out), (xk BK250.out), (xk BK251.out), (xk BK267.out), (xk BK269.out), (xk BK273.out), GW273.out, GE273.out, NB249_273.out, NB273_249.out, NB250_273.out, NB273_250.out, NB251_273.out, NB273_251.out, NB267_273.out, NB273_267.out, NB269_273.out, NB273_269.out, (bh HB.out)⟩)
          rintro ⟨v271, gb273⟩ w66 ⟨hS_, h0_, h1_, h2_, h3_, h4_, h5_, h6_, h7_, h8_, h9_, h10_, h11_, h12_, h13_, h14_, h15_, h16_, h17_, h18_, h19_, h20_⟩
          have n0_ : zal (Kd.R (Kd.int .i64) 3 w66 w.heap.size (fun _ => True) v271 t270) := ⟨h0_⟩
          have n1_ : zal (Kd.S k48 48 w66 w.heap.size (fun k_ => some k_ ≠ (v271 : Value).ownBlock ∧ k_ ≠ gb267 ∧ k_ ≠ gb269 ∧ k_ ≠ gb273) u6 x6_3) := ⟨h1_⟩
          have n2_ : zal (w66.heap[gb249]? = some (.cells #[.int .i64 a0_0, .slice (some ad266) l0_1.length c0_1] 28 (0, 0))) := ⟨h2_⟩
          have n3_ : zal (w66.heap[gb250]? = some (.cells #[.int .i64 a1_0, .slice (some ad268) l1_1.length c1_1] 28 (0, 0))) := ⟨h3_⟩
          have n4_ : zal (w66.heap[gb251]? = some (.cells #[.int .i64 0, .slice none 0 0] 28 (0, 0))) := ⟨h4_⟩
          have n5_ : zal (w66.heap[gb267]? = some (.cells #[.slice A266_0 ((zab l0_1 x34_2).f0).length c266_0, .int .i64 ((zab l0_1 x34_2).f1)] 48 (0, 0))) := ⟨h5_⟩
          have n6_ : zal (w66.heap[gb269]? = some (.cells #[.slice A268_0 ((zab l1_1 x41_3).f0).length c268_0, .int .i64 ((zab l1_1 x41_3).f1)] 48 (0, 0))) := ⟨h6_⟩
          have n7_ : zal (w66.heap[gb273]? = some (.cells #[.slice none 0 0, .int .i64 0] 48 (0, 0))) := ⟨h7_⟩
          have n8_ : zal (w.heap.size ≤ gb273) := ⟨h8_⟩
          have n9_ : zal (w.heap.size ≤ gb273) := ⟨h9_⟩
          have n10_ : zal (gb249 ≠ gb273) := ⟨h10_⟩
          have n11_ : zal (gb273 ≠ gb249) := ⟨h11_⟩
          have n12_ : zal (gb250 ≠ gb273) := ⟨h12_⟩
          have n13_ : zal (gb273 ≠ gb250) := ⟨h13_⟩
          have n14_ : zal (gb251 ≠ gb273) := ⟨h14_⟩
          have n15_ : zal (gb273 ≠ gb251) := ⟨h15_⟩
          have n16_ : zal (gb267 ≠ gb273) := ⟨h16_⟩
          have n17_ : zal (gb273 ≠ gb267) := ⟨h17_⟩
          have n18_ : zal (gb269 ≠ gb273) := ⟨h18_⟩
          have n19_ : zal (gb273 ≠ gb269) := ⟨h19_⟩
          have n20_ : zal (Below w.heap.size w w66) := ⟨h20_⟩
          clear HO_6 BK249 BK250 BK251 BK267 BK269 HB h0_ h1_ h2_ h3_ h4_ h5_ h6_ h7_ h8_ h9_ h10_ h11_ h12_ h13_ h14_ h15_ h16_ h17_ h18_ h19_ h20_
          have HO272 := n0_
          have HO_6 := n1_
          have BK249 := n2_
          have BK250 := n3_
          have BK251 := n4_
          have BK267 := n5_
          have BK269 := n6_
          have BK273 := n7_
          have GW273 := n8_
          have GE273 := n9_
          have NB249_273 := n10_
          have NB273_249 := n11_
          have NB250_273 := n12_
          have NB273_250 := n13_
          have NB251_273 := n14_
          have NB273_251 := n15_
          have NB267_273 := n16_
          have NB273_267 := n17_
          have NB269_273 := n18_
          have NB273_269 := n19_
          have HB := n20_
          clear n0_ n1_ n2_ n3_ n4_ n5_ n6_ n7_ n8_ n9_ n10_ n11_ n12_ n13_ n14_ n15_ n16_ n17_ n18_ n19_ n20_
          have hHeld : w66.cell? ⟨gb267, 0, none⟩ = some (.slice A266_0 ((zab l0_1 x34_2).f0).length c266_0) ∧ w66.cell? ⟨gb267, 1, none⟩ = some (.int .i64 ((zab l0_1 x34_2).f1)) ∧ w66.cell? ⟨gb269, 0, none⟩ = some (.slice A268_0 ((zab l1_1 x41_3).f0).length c268_0) ∧ w66.cell? ⟨gb269, 1, none⟩ = some (.int .i64 ((zab l1_1 x41_3).f1)) := hS_
          obtain ⟨Ao67, co67, eo67⟩ := Kd.zcd HO272.out
          (first | subst eo67 | (injection eo67 with f1_ f2_ f3_; have f4_ := f1_.symm; have f5_ := f3_.symm; clear f1_ f2_ f3_; subst f4_; subst f5_))
          refine zc6 (a' := ?_) ?_ ?_
          rotate_left
          ·simp only [zco, Act.put, List.setIfInBounds_toArray, List.set_cons_zero, List.set_cons_succ]
           rfl
          refine one_ (i := 10) (N := none) (xB 11 2047) rfl rfl (zbj HT_.out (by kernel_rfl)) (by decide) (fun K hK => ?_)
          have hs68 : w66.cell? ⟨gb273, 0, none⟩ = some (.slice none 0 0) := (zai BK273.out 0).trans rfl
          have hfs68 := zag BK273.out 0
          have hns68_0 := NB249_273.out
          have hns68_1 := NB250_273.out
          have hns68_2 := NB251_273.out
          have hns68_3 := NB267_273.out
          have hns68_4 := NB269_273.out
          have hms68_0 := NB273_249.out
          have hms68_1 := NB273_250.out
          have hms68_2 := NB273_251.out
          have hms68_3 := NB273_267.out
          have hms68_4 := NB273_269.out
          have hs69 : w66.cell? ⟨gb273, 1, none⟩ = some (.int .i64 0) := (zai BK273.out 1).trans rfl
          have hfs69 := zag BK273.out 1
          have hns69_0 := NB249_273.out
          have hns69_1 := NB250_273.out
          have hns69_2 := NB251_273.out
          have hns69_3 := NB267_273.out
          have hns69_4 := NB269_273.out
          have hms69_0 := NB273_249.out
          have hms69_1 := NB273_250.out
          have hms69_2 := NB273_251.out
          have hms69_3 := NB273_267.out
          have hms69_4 := NB273_269.out
          refine zdz (w1 := ?_) (by rfl) rfl ?_ ?_
          rotate_left
          ·go_simp
           rfl
          refine hK.out _ _ ⟨((cell_far (p := ⟨gb273, _, none⟩) NB267_273.out _).trans (((cell_far (p := ⟨gb273, _, none⟩) NB267_273.out _).trans (hHeld.1)))), ((cell_far (p := ⟨gb273, _, none⟩) NB267_273.out _).trans (((cell_far (p := ⟨gb273, _, none⟩) NB267_273.out _).trans (hHeld.2.1)))), ((cell_far (p := ⟨gb273, _, none⟩) NB269_273.out _).trans (((cell_far (p := ⟨gb273, _, none⟩) NB269_273.out _).trans (hHeld.2.2.1)))), ((cell_far (p := ⟨gb273, _, none⟩) NB269_273.out _).trans (((cell_far (p := ⟨gb273, _, none⟩) NB269_273.out _).trans (hHeld.2.2.2))))⟩ (fun hHeld => ?_)
          clear hK K
          refine zb5 (zbA HT_.out (by kernel_rfl)) ?_
          have hnb70 := NB269_273.out
          have hnc70 := NB273_269.out
          have hcz71_0 := bc0 BK269.out
          have hcz71_1 := bc1 BK269.out
          have hfz71_0 := zag BK269.out 0
          have hfz71_1 := zag BK269.out 1
          try go_wp2
          go_loopg [57] k3 (fun kq v57 w' => ∃ (x57_4 : Int) (x1000_4 : List Int) (u1000 : Value), v57 = .int .i64 x57_4 ∧ zal (zap.l2 kq x6_3 l0_1 (l0_1.length : Int) x34_2 l1_1 (l1_1.length : Int) x41_3 ((zab l1_1 x41_3).f0) (((zab l1_1 x41_3).f0).length : Int) x57_4 a0_0 l0_1 a1_0 l1_1 ((zab l0_1 x34_2).f0) ((zab l0_1 x34_2).f1) x1000_4 (wrap64 (((zab l0_1 x34_2).f1) * ((zab l1_1 x41_3).f1))) = some (r1, r2, r3)) ∧ zal (kq ≤ k3) ∧ zal (Kd.S k48 48 w' w.heap.size (fun k_ => some k_ ≠ (u1000 : Value).ownBlock ∧ k_ ≠ gb267 ∧ k_ ≠ gb269 ∧ k_ ≠ gb273) u6 x6_3) ∧ zal (Kd.R (Kd.int .i64) 3 w' w.heap.size (fun _ => True) u1000 x1000_4) ∧ zal (w'.heap[gb249]? = some (.cells #[.int .i64 a0_0, (.slice (some ad266) l0_1.length c0_1)] 28 (0, 0))) ∧ zal (w'.heap[gb250]? = some (.cells #[.int .i64 a1_0, (.slice (some ad268) l1_1.length c1_1)] 28 (0, 0))) ∧ zal (w'.heap[gb251]? = some (.cells #[.int .i64 0, (.slice none 0 0)] 28 (0, 0))) ∧ zal (w'.heap[gb267]? = some (.cells #[(.slice A266_0 ((zab l0_1 x34_2).f0).length c266_0), .int .i64 ((zab l0_1 x34_2).f1)] 48 (0, 0))) ∧ zal (w'.heap[gb269]? = some (.cells #[(.slice A268_0 ((zab l1_1 x41_3).f0).length c268_0), .int .i64 ((zab l1_1 x41_3).f1)] 48 (0, 0))) ∧ zal (w'.heap[gb273]? = some (.cells #[u1000, .int .i64 (wrap64 (((zab l0_1 x34_2).f1) * ((zab l1_1 x41_3).f1)))] 48 (0, 0))) ∧ zal (Below w.heap.size w w'))
          case atStart => exact ⟨(0), (t270), (.slice Ao67 t270.length co67), xr, H', ⟨Nat.le_refl _⟩, ⟨by (with_reducible repeat (first | apply Kd.zaG | apply Kd.zaB | apply Kd.zaK)); exact Kd.zaQ (Kd.zd0 (p := ⟨gb273, 1, none⟩) (Kd.zd0 (p := ⟨gb273, 0, none⟩) (Kd.zaQ HO_6.out (fun k_ hk => (⟨hk, hk.2.2.2⟩ : _ ∧ k_ ≠ gb273))) (fun _ hk => hk.2) (.slice Ao67 t270.length co67)) (fun _ hk => hk.2) (.int .i64 (wrap64 (((zab l0_1 x34_2).f1) * ((zab l1_1 x41_3).f1))))) (fun _ hk => ⟨hk.1.1, ⟨hk.1.2.1, ⟨hk.1.2.2.1, hk.1.2.2.2⟩⟩⟩)⟩, ⟨by (with_reducible repeat (first | apply Kd.zd2 | apply Kd.zd1 | apply Kd.zeb)); exact Kd.zbZ (Kd.zgU (p := ⟨gb273, 1, none⟩) (Kd.zgU (p := ⟨gb273, 0, none⟩) (Kd.zcq HO272.out BK273.out (by decide)) (fun _ hk => hk.2) (.slice Ao67 t270.length co67)) (fun _ hk => hk.2) (.int .i64 (wrap64 (((zab l0_1 x34_2).f1) * ((zab l1_1 x41_3).f1))))) (fun _ hk => trivial)⟩, ⟨by (with_reducible repeat (first | refine zah ?_ _ | refine zad ?_ | refine zae ?_ _)); refine zaD ?_ NB249_273.out _; (with_reducible repeat (first | refine zah ?_ _ | refine zad ?_ | refine zae ?_ _)); refine zaD ?_ NB249_273.out _; (with_reducible repeat (first | refine zah ?_ _ | refine zad ?_ | refine zae ?_ _)); exact BK249.out⟩, ⟨by (with_reducible repeat (first | refine zah ?_ _ | refine zad ?_ | refine zae ?_ _)); refine zaD ?_ NB250_273.out _; (with_reducible repeat (first | refine zah ?_ _ | refine zad ?_ | refine zae ?_ _)); refine zaD ?_ NB250_273.out _; (with_reducible repeat (first | refine zah ?_ _ | refine zad ?_ | refine zae ?_ _)); exact BK250.out⟩, ⟨by (with_reducible repeat (first | refine zah ?_ _ | refine zad ?_ | refine zae ?_ _)); refine zaD ?_ NB251_273.out _; (with_reducible repeat (first | refine zah ?_ _ | refine zad ?_ | refine zae ?_ _)); refine zaD ?_ NB251_273.out _; (with_reducible repeat (first | refine zah ?_ _ | refine zad ?_ | refine zae ?_ _)); exact BK251.out⟩, ⟨by (with_reducible repeat (first | refine zah ?_ _ | refine zad ?_ | refine zae ?_ _)); refine zaD ?_ NB267_273.out _; (with_reducible repeat (first | refine zah ?_ _ | refine zad ?_ | refine zae ?_ _)); refine zaD ?_ NB267_273.out _; (with_reducible repeat (first | refine zah ?_ _ | refine zad ?_ | refine zae ?_ _)); exact BK267.out⟩, ⟨by (with_reducible repeat (first | refine zah ?_ _ | refine zad ?_ | refine zae ?_ _)); refine zaD ?_ NB269_273.out _; (with_reducible repeat (first | refine zah ?_ _ | refine zad ?_ | refine zae ?_ _)); refine zaD ?_ NB269_273.out _; (with_reducible repeat (first | refine zah ?_ _ | refine zad ?_ | refine zae ?_ _)); exact BK269.out⟩, ⟨by (with_reducible repeat (first | refine zah ?_ _ | refine zad ?_ | refine zae ?_ _)); refine zba (cs := #[.slice Ao67 t270.length co67, .int .i64 0]) ?_ 1 _ rfl; (with_reducible repeat (first | refine zah ?_ _ | refine zad ?_ | refine zae ?_ _)); refine zba (cs := #[.slice none 0 0, .int .i64 0]) ?_ 0 _ rfl; (with_reducible repeat (first | refine zah ?_ _ | refine zad ?_ | refine zae ?_ _)); exact BK273.out⟩, ⟨bh HB.out⟩⟩
          case round =>
           clear H'
           (try clear c8); (try clear c10); (try clear c31); (try clear c40); (try clear c40b0); (try clear c41); (try clear c41b0); (try clear c42); (try clear c42b0); (try clear c51); (try clear c51b0); (try clear c52); (try clear c52b0); (try clear c53); (try clear c53b0); (try clear hcz13_0); (try clear hcz13_1); (try clear hcz16_0); (try clear hcz16_1); (try clear hcz18_0); (try clear hcz18_1); (try clear hcz19_0); (try clear hcz19_1); (try clear hcz22_0); (try clear hcz22_1); (try clear hcz25_0); (try clear hcz25_1); (try clear hcz29_0); (try clear hcz29_1); (try clear hcz34_0); (try clear hcz34_1); (try clear hcz39_0); (try clear hcz39_1); (try clear hcz47_0); (try clear hcz47_1); (try clear hcz50_0); (try clear hcz50_1); (try clear hcz60_0); (try clear hcz60_1); (try clear hcz71_0); (try clear hcz71_1); (try clear hfz13_0); (try clear hfz13_1); (try clear hfz16_0); (try clear hfz16_1); (try clear hfz18_0); (try clear hfz18_1); (try clear hfz19_0); (try clear hfz19_1); (try clear hfz22_0); (try clear hfz22_1); (try clear hfz25_0); (try clear hfz25_1); (try clear hfz29_0); (try clear hfz29_1); (try clear hfz34_0); (try clear hfz34_1); (try clear hfz39_0); (try clear hfz39_1); (try clear hfz47_0); (try clear hfz47_1); (try clear hfz50_0); (try clear hfz50_1); (try clear hfz60_0); (try clear hfz60_1); (try clear hfz71_0); (try clear hfz71_1); (try clear hx266_0); (try clear hx266_1); (try clear hx268_0); (try clear hx268_1); (try clear p266); (try clear p268); (try clear q266); (try clear q268)
           obtain ⟨x57_4, x1000_4, u1000, rfl, HA, HK4, HO_6, HO_1000, BK249, BK250, BK251, BK267, BK269, BK273, HB⟩ := hrel
           cases gk with
           | zero => exact absurd HA.out (by simp [zap.l2])
           | succ k4 =>
            have H := HA.out
            clear HA
            simp only [zap.l2] at H
            by_cases c72 : x57_4 < (((zab l1_1 x41_3).f0).length : Int)
            ·rw [if_pos c72] at H
             have c72b0 := decide_eq_true c72
             clear c72
             obtain ⟨c73b0, H⟩ := xq H
             obtain ⟨c74b0, H⟩ := xq H
             obtain ⟨c75b0, H⟩ := xq H
             obtain ⟨y276, hy276⟩ : ∃ y_ : List Int, y_ = (x1000_4.set (x57_4 : Int).toNat (wrap64 ((rd x1000_4 x57_4) + (rd ((zab l1_1 x41_3).f0) x57_4)))) := ⟨_, rfl⟩
             replace H : (zap.l2 k4 x6_3 l0_1 (l0_1.length : Int) x34_2 l1_1 (l1_1.length : Int) x41_3 ((zab l1_1 x41_3).f0) (((zab l1_1 x41_3).f0).length : Int) (wrap64 (x57_4 + 1)) a0_0 l0_1 a1_0 l1_1 ((zab l0_1 x34_2).f0) ((zab l0_1 x34_2).f1) y276 (wrap64 (((zab l0_1 x34_2).f1) * ((zab l1_1 x41_3).f1)))) = some (r1, r2, r3) := xv hy276 H
             have Ny276 := ax hy276
             clear hy276
             have H' := ax H
             clear H
             have p274 : 0 ≤ (x57_4 : Int) := xd
             have q274 : x57_4 < (((zab l1_1 x41_3).f0).length : Int) := xd
             obtain ⟨ad274, e274, hx274_0⟩ := Kd.zbO HR268_0.out x57_4 p274 q274
             cases e274
             (try replace hx274_0 := (HB.out.cell (World.block_lt_of_cell? w _ hx274_0)).trans hx274_0)
             replace p274 := eq_true p274
             replace q274 := eq_true q274
             have hnb77 := NB273_249.out
             have hnc77 := NB249_273.out
             have hnb78 := NB273_250.out
             have hnc78 := NB250_273.out
             have hnb79 := NB273_251.out
             have hnc79 := NB251_273.out
             have hnb80 := NB273_267.out
             have hnc80 := NB267_273.out
             have hnb81 := NB273_269.out
             have hnc81 := NB269_273.out
             have hcz82_0 := bc0 BK273.out
             have hcz82_1 : wr.cell? ⟨gb273, 1, none⟩ = some (.int .i64 (wrap64 (((zab l0_1 x34_2).f1) * ((zab l1_1 x41_3).f1)))) := (zai BK273.out 1).trans rfl
             have hfz82_0 := zag BK273.out 0
             have hfz82_1 := zag BK273.out 1
             obtain ⟨Ao83, co83, eo83⟩ := Kd.zcd HO_1000.out
             subst eo83
             have p275 : 0 ≤ (x57_4 : Int) := xd
             have q275 : x57_4 < (x1000_4.length : Int) := xd
             obtain ⟨ad275, e275, hx275_0⟩ := Kd.zbO (Kd.zb1 HO_1000.out).2.2 x57_4 p275 q275
             cases e275
             replace p275 := eq_true p275
             replace q275 := eq_true q275
             have p76 : 0 ≤ (x57_4 : Int) := xd
             have q76 : (x57_4 : Int) < ((x1000_4.length : Int) : Int) := xd
             obtain ⟨go76, co76, eo76, gb76, gl76, cl76, HG76⟩ := Kd.zeX HO_1000.out (by omega)
             (first | cases eo76 | (injection eo76 with ea_ en_ ec_; (first | subst ea_ | (injection ea_ with ea_; subst ea_)); subst ec_; clear en_))
             have GB76 := ax gb76
             have GG76 := ax HG76
             clear gb76 gl76 HG76
             (first | simp only [add_plain] at hx275_0 | skip)
             obtain ⟨hx76_0, hf76_0⟩ := Kd.zeD 0 HO_1000.out (x57_4 : Int) p76 q76
             replace p76 := eq_true p76
             replace q76 := eq_true q76
             have HP84 := Kd.zgE HO_1000.out (x57_4 : Int) (wrap64 ((rd x1000_4 x57_4) + (rd ((zab l1_1 x41_3).f0) x57_4)))
             go_wp2_with (first | ((with_reducible refine zcR (t := 3) (p := 69) rfl ?_); refine zcV (t := 3) (p := 69) (v := ?vo_w85) (w1 := (wr.setCell ⟨go76, (x57_4 : Int).toNat, none⟩ (.int .i64 (wrap64 ((rd x1000_4 x57_4) + (rd ((zab l1_1 x41_3).f0) x57_4)))))) ?hg ?ho ?hn ?hr ?_; (case ho => rfl); (case hg => rfl); (case hn => rfl); (case hr => first | (go_simp; done) | (go_simp; rfl)); intro w85 hw; have hg : wr.grownBy w85 (some go76) := (by rw [hw]; exact HP84.2); have hp_ : Kd.R (Kd.int .i64) 3 w85 w.heap.size (fun _ => True) (.slice (some ⟨go76, 0, none⟩) x1000_4.length co83) y276 := (by rw [hw, Ny276.out]; exact HP84.1); clear HP84; replace HO_6 := ax (Kd.zjg (v := (.slice (some ⟨go76, 0, none⟩) x1000_4.length co83)) (v1 := (.slice (some ⟨go76, 0, none⟩) x1000_4.length co83)) (ok := (fun k_ => k_ ≠ gb267 ∧ k_ ≠ gb269 ∧ k_ ≠ gb273)) (by (with_reducible repeat (first | apply Kd.zaG | apply Kd.zaB | apply Kd.zaK)); exact Kd.zaQ HO_6.out (fun _ hk => ⟨⟨hk.2.1, ⟨hk.2.2.1, hk.2.2.2⟩⟩, hk.1⟩)) hg (.inl rfl)); replace BK249 := ax (zbF (g := gb249) (o := .cells #[.int .i64 a0_0, .slice (some ad266) l0_1.length c0_1] 28 (0, 0)) (xk BK249.out) hg (Kd.R_ne HO_1000.out BK249.out (by decide))); replace BK250 := ax (zbF (g := gb250) (o := .cells #[.int .i64 a1_0, .slice (some ad268) l1_1.length c1_1] 28 (0, 0)) (xk BK250.out) hg (Kd.R_ne HO_1000.out BK250.out (by decide))); replace BK251 := ax (zbF (g := gb251) (o := .cells #[.int .i64 0, .slice none 0 0] 28 (0, 0)) (xk BK251.out) hg (Kd.R_ne HO_1000.out BK251.out (by decide))); replace BK267 := ax (zbF (g := gb267) (o := .cells #[.slice A266_0 ((zab l0_1 x34_2).f0).length c266_0, .int .i64 ((zab l0_1 x34_2).f1)] 48 (0, 0)) (xk BK267.out) hg (Kd.R_ne HO_1000.out BK267.out (by decide))); replace BK269 := ax (zbF (g := gb269) (o := .cells #[.slice (some ad274) ((zab l1_1 x41_3).f0).length c268_0, .int .i64 ((zab l1_1 x41_3).f1)] 48 (0, 0)) (xk BK269.out) hg (Kd.R_ne HO_1000.out BK269.out (by decide))); replace BK273 := ax (zbF (g := gb273) (o := .cells #[.slice (some ⟨go76, 0, none⟩) x1000_4.length co83, .int .i64 (wrap64 (((zab l0_1 x34_2).f1) * ((zab l1_1 x41_3).f1)))] 48 (0, 0)) (xk BK273.out) hg (Kd.R_ne HO_1000.out BK273.out (by decide))); replace HO_1000 := ax (hp_); replace HB := ax ((by rw [hw]; exact zcy (HB.out) GB76.out : Below w.heap.size w w85)); clear hg hw hp_))
             go_roundg k4
             case measure => have := HJ2.out; have := HK2.out; have := HK3.out; have := HK4.out; omega
             case rel => exact ⟨(wrap64 (x57_4 + 1)), (y276), (.slice (some ⟨go76, 0, none⟩) x1000_4.length co83), xr, H', ⟨by have := HJ2.out; have := HK2.out; have := HK3.out; have := HK4.out; omega⟩, ⟨by (with_reducible repeat (first | apply Kd.zaG | apply Kd.zaB | apply Kd.zaK)); exact Kd.zaQ HO_6.out (fun _ hk => ⟨hk.2, ⟨hk.1.1, ⟨hk.1.2.1, hk.1.2.2⟩⟩⟩)⟩, ⟨xR HO_1000.out⟩, ⟨xk BK249.out⟩, ⟨xk BK250.out⟩, ⟨xk BK251.out⟩, ⟨xk BK267.out⟩, ⟨xk BK269.out⟩, ⟨xk BK273.out⟩, ⟨bh HB.out⟩⟩
            ·rw [if_neg c72] at H
             have c72b0 := decide_eq_false c72
             clear c72
             obtain ⟨c86, H⟩ := xp H
             have LMc86 := ax c86
             clear c86
             obtain ⟨y277, hy277⟩ : ∃ y_ : List (S48), y_ = (x6_3 ++ [(⟨x1000_4, (wrap64 (((zab l0_1 x34_2).f1) * ((zab l1_1 x41_3).f1)))⟩ : S48)]) := ⟨_, rfl⟩
             replace H : (zap.l1 k4 y277 l0_1 (l0_1.length : Int) x34_2 l1_1 (l1_1.length : Int) (wrap64 (x41_3 + 1)) a0_0 l0_1 a1_0 l1_1 ((zab l0_1 x34_2).f0) ((zab l0_1 x34_2).f1)) = some (r1, r2, r3) := xv hy277 H
             have Ny277 := ax hy277
             clear hy277
             have H' := ax H
             clear H
             have hnb87 := NB273_249.out
             have hnc87 := NB249_273.out
             have hnb88 := NB273_250.out
             have hnc88 := NB250_273.out
             have hnb89 := NB273_251.out
             have hnc89 := NB251_273.out
             have hnb90 := NB273_267.out
             have hnc90 := NB267_273.out
             have hnb91 := NB273_269.out
             have hnc91 := NB269_273.out
             have hcz92_0 := bc0 BK273.out
             have hcz92_1 : wr.cell? ⟨gb273, 1, none⟩ = some (.int .i64 (wrap64 (((zab l0_1 x34_2).f1) * ((zab l1_1 x41_3).f1)))) := (zai BK273.out 1).trans rfl
             have hfz92_0 := zag BK273.out 0
             have hfz92_1 := zag BK273.out 1
             obtain ⟨Ao94, co94, eo94⟩ := Kd.zcd HO_1000.out
             subst eo94
             go_wp2_with (first | ((with_reducible refine zcj (b := .append) (xs := #[.tmp 71, .tmp 73]) rfl ?_); at_builtin; refine Kd.zio k48 (w0 := w) w.heap.size rfl (.tmp 71) (.tmp 73) 26 48 (.agg #[(.slice none 0 0), (.int .i64 0)]) 32 rfl Try.underlying26 zcH rfl (by decide) (by omega) u6 x6_3 (⟨x1000_4, (wrap64 (((zab l0_1 x34_2).f1) * ((zab l1_1 x41_3).f1)))⟩ : S48) [.slice Ao94 x1000_4.length co94, .int .i64 (wrap64 (((zab l0_1 x34_2).f1) * ((zab l1_1 x41_3).f1)))] (fun k_ => k_ ≠ gb267 ∧ k_ ≠ gb269 ∧ k_ ≠ gb273) (fun k_ => some k_ = (.slice Ao94 x1000_4.length co94 : Value).ownBlock) rfl rfl ?aP (fun k_ hk_ => ((Kd.zbZ (ok' := fun k_ => ((fun k_ => k_ ≠ gb267 ∧ k_ ≠ gb269 ∧ k_ ≠ gb273)) k_ ∧ some k_ ≠ (u6 : Value).ownBlock) (Kd.zcq (Kd.zcq (Kd.zcq (Kd.zcG (HO_1000.out) (Kd.zfc HO_6.out) (by decide)) BK267.out (by decide)) BK269.out (by decide)) BK273.out (by decide)) (fun k_ hk => ⟨⟨hk.1.1.2, ⟨hk.1.2, hk.2⟩⟩, hk.1.1.1.2⟩))).1 k_ hk_.symm) ?aF ?aO ?aB ?aS ?aL ?_; (case aP => exact zcW _ _ _ (⟨x1000_4, (wrap64 (((zab l0_1 x34_2).f1) * ((zab l1_1 x41_3).f1)))⟩ : S48) (Kd.zbZ (Kd.zdI rfl (Kd.zbZ (ok' := fun k_ => ((fun k_ => k_ ≠ gb267 ∧ k_ ≠ gb269 ∧ k_ ≠ gb273)) k_ ∧ some k_ ≠ (u6 : Value).ownBlock) (Kd.zcq (Kd.zcq (Kd.zcq (Kd.zcG (HO_1000.out) (Kd.zfc HO_6.out) (by decide)) BK267.out (by decide)) BK269.out (by decide)) BK273.out (by decide)) (fun k_ hk => ⟨⟨hk.1.1.2, ⟨hk.1.2, hk.2⟩⟩, hk.1.1.1.2⟩))) (fun _ h_ => h_))); (case aB => exact (bh HB.out)); (case aF => exact (fun k_ hk => ⟨Kd.zbK (g := gb267) (o := .cells #[.slice A266_0 ((zab l0_1 x34_2).f0).length c266_0, .int .i64 ((zab l0_1 x34_2).f1)] 48 (0, 0)) (xk BK267.out) k_ hk, Kd.zbK (g := gb269) (o := .cells #[.slice A268_0 ((zab l1_1 x41_3).f0).length c268_0, .int .i64 ((zab l1_1 x41_3).f1)] 48 (0, 0)) (xk BK269.out) k_ hk, Kd.zbK (g := gb273) (o := .cells #[.slice Ao94 x1000_4.length co94, .int .i64 (wrap64 (((zab l0_1 x34_2).f1) * ((zab l1_1 x41_3).f1)))] 48 (0, 0)) (xk BK273.out) k_ hk⟩)); (case aO => exact (by (with_reducible repeat (first | apply Kd.zaG | apply Kd.zaB | apply Kd.zaK)); exact Kd.zaQ HO_6.out (fun k_ hk => ⟨⟨hk.2.1, ⟨hk.2.2.1, hk.2.2.2⟩⟩, fun e_ => hk.1 e_⟩))); (case aS => exact (zaj (bh HB.out))); (case aL => have := LMc86.out; omega); intro v278 w93 ho hb hg hat; rw [← Ny277.out] at ho; have n0_ := ax (zbF (g := gb249) (o := .cells #[.int .i64 a0_0, .slice (some ad266) l0_1.length c0_1] 28 (0, 0)) (xk BK249.out) hg (Kd.S_ne HO_6.out BK249.out (by decide))); have n1_ := ax (zbF (g := gb250) (o := .cells #[.int .i64 a1_0, .slice (some ad268) l1_1.length c1_1] 28 (0, 0)) (xk BK250.out) hg (Kd.S_ne HO_6.out BK250.out (by decide))); have n2_ := ax (zbF (g := gb251) (o := .cells #[.int .i64 0, .slice none 0 0] 28 (0, 0)) (xk BK251.out) hg (Kd.S_ne HO_6.out BK251.out (by decide))); have n3_ := ax (zbF (g := gb267) (o := .cells #[.slice A266_0 ((zab l0_1 x34_2).f0).length c266_0, .int .i64 ((zab l0_1 x34_2).f1)] 48 (0, 0)) (xk BK267.out) hg (Kd.zhL HO_6.out (fun _ hk => hk.2.1))); have n4_ := ax (zbF (g := gb269) (o := .cells #[.slice A268_0 ((zab l1_1 x41_3).f0).length c268_0, .int .i64 ((zab l1_1 x41_3).f1)] 48 (0, 0)) (xk BK269.out) hg (Kd.zhL HO_6.out (fun _ hk => hk.2.2.1))); have n5_ := ax (zbF (g := gb273) (o := .cells #[.slice Ao94 x1000_4.length co94, .int .i64 (wrap64 (((zab l0_1 x34_2).f1) * ((zab l1_1 x41_3).f1)))] 48 (0, 0)) (xk BK273.out) hg (Kd.zhL HO_6.out (fun _ hk => hk.2.2.2))); have n6_ := ax (hb); have n7_ := ax (ho); clear BK249; clear BK250; clear BK251; clear BK267; clear BK269; clear BK273; clear HB; clear HO_6; clear HO_1000; have BK249 := n0_; have BK250 := n1_; have BK251 := n2_; have BK267 := n3_; have BK269 := n4_; have BK273 := n5_; have HB := n6_; have HO279 := n7_; clear n0_ n1_ n2_ n3_ n4_ n5_ n6_ n7_; clear ho hb hg hat))
             go_roundg k4
             case measure => have := HJ2.out; have := HK2.out; have := HK3.out; have := HK4.out; omega
             case rel => exact ⟨(y277), (wrap64 (x41_3 + 1)), xr, H', ⟨by have := HJ2.out; have := HK2.out; have := HK3.out; have := HK4.out; omega⟩, ⟨by (with_reducible repeat (first | apply Kd.zaG | apply Kd.zaB | apply Kd.zaK)); exact Kd.zaQ HO279.out (fun _ hk => hk.1)⟩, ⟨xk BK249.out⟩, ⟨xk BK250.out⟩, ⟨xk BK251.out⟩, ⟨xk BK267.out⟩, ⟨bh HB.out⟩⟩
         ·rw [if_neg c51] at H
          have c51b0 := decide_eq_false c51
          clear c51
          have H' := ax H
          clear H
          go_wp2
          go_roundg k3
          case measure => have := HJ2.out; have := HK2.out; have := HK3.out; omega
          case rel => exact ⟨(x6_3), (wrap64 (x34_2 + 1)), xr, H', ⟨by have := HJ2.out; have := HK2.out; have := HK3.out; omega⟩, ⟨by (with_reducible repeat (first | apply Kd.zaG | apply Kd.zaB | apply Kd.zaK)); exact Kd.zaQ HO_6.out (fun _ hk => trivial)⟩, ⟨xk BK249.out⟩, ⟨xk BK250.out⟩, ⟨xk BK251.out⟩, ⟨bh HB.out⟩⟩
      ·rw [if_neg c40] at H
       have c40b0 := decide_eq_false c40
       clear c40
       obtain ⟨⟨t257, t258⟩, A95, H⟩ := xI H
       dsimp only at H
       obtain ⟨⟨t261, t262, t265⟩, A96, H⟩ := xI H
       dsimp only at H
       simp only [Option.some.injEq, Prod.mk.injEq] at H
       obtain ⟨rfl, rfl, rfl⟩ := H
       have hnb97 := NB249_250.out
       have hnc97 := NB250_249.out
       have hnb98 := NB249_251.out
       have hnc98 := NB251_249.out
       have hcz99_0 := bc0 BK249.out
       have hcz99_1 := bc1 BK249.out
       have hfz99_0 := zag BK249.out 0
       have hfz99_1 := zag BK249.out 1
       obtain ⟨Ao100, co100, eo100⟩ := Kd.zbB HO_6.out
       subst eo100
       go_wp2_with (first | ((with_reducible refine zat (f := 32) rfl ?_); refine za2 (some 80) rfl rfl Try.func32 (by kernel_rfl) rfl #[.int .i64 a0_0, .slice Ao100 x6_2.length co100] rfl xm ?_; (with_reducible refine (zau.calls k2 a0_0 _ _ x6_2 t257 t258 _ ?side1 ?side2 A95.out).mono ?_); (case side1 => exact xc (Kd.zaI HO_6.out).2.2); (case side2 => exact (Kd.zaI HO_6.out).2.1); rintro e w101 ⟨v259, rfl, ho0, hb⟩; refine ⟨_, rfl, ?_⟩; replace ho0 := Kd.zc3 ho0; obtain ⟨N280_, ho0, hN280_⟩ := ho0; have HO260 := ax (Kd.zbS (Kd.zbk ho0 (Kd.S_lt (xS HO_6.out))) (zaj (bh HB.out))); replace HO_6 := ax (Kd.zaR (xS HO_6.out) hN280_ (Kd.za9 ho0) hb); replace BK249 := ax (bb BK249.out hb); replace BK250 := ax (bb BK250.out hb); replace BK251 := ax (bb BK251.out hb); replace HB := ax (zas (bh HB.out) hb); (try clear hb); (try clear ho0); (try clear hN280_); obtain ⟨Ao102, co102, eo102⟩ := Kd.zbB HO260.out; subst eo102) | ((with_reducible refine zat (f := 31) rfl ?_); refine za2 (some 81) rfl rfl Try.func31 (by kernel_rfl) rfl #[.agg #[.int .i64 t257, .slice Ao102 t258.length co102]] rfl xm ?_; (with_reducible refine (zbq.calls ?pc1_ k2 t257 (fun k_ => some k_ = (.slice Ao102 t258.length co102 : Value).ownBlock) (.slice Ao102 t258.length co102) t258 t261 t262 t265 w _ ?side1 ?side2 A96.out).mono ?_); (case side1 => exact bh HB.out); (case side2 => exact HO260.out); rintro e w103 ⟨v263, rfl, ho0, hb, hkp⟩; refine ⟨_, rfl, ?_⟩; have n0_ := ax trivial; have n1_ := ax (zbo (xk BK249.out) hkp (fun hs_ => (fun e_ => (Kd.S_ne HO260.out BK249.out (by decide)) e_) hs_)); have n2_ := ax (zbo (xk BK250.out) hkp (fun hs_ => (fun e_ => (Kd.S_ne HO260.out BK250.out (by decide)) e_) hs_)); have n3_ := ax (zbo (xk BK251.out) hkp (fun hs_ => (fun e_ => (Kd.S_ne HO260.out BK251.out (by decide)) e_) hs_)); have n4_ := ax (Kd.zaQ (ok' := fun k_ => some k_ ≠ (.slice Ao100 x6_2.length co100 : Value).ownBlock) ho0 (fun k_ hk_ => by first | exact hk_ | exact hk_.2 | exact hk_.1 | exact hk_.2.1 | exact hk_.2.2 | exact hk_.1.1 | exact hk_.1.2 | exact hk_.2.2.1 | exact hk_.2.2.2)); have n5_ := ax (hb); clear HO_6; clear BK249; clear BK250; clear BK251; clear HB; clear HO260; have HO_6 := n0_; have BK249 := n1_; have BK250 := n2_; have BK251 := n3_; have HO264 := n4_; have HB := n5_; clear n0_ n1_ n2_ n3_ n4_ n5_; (try clear hb); (try clear hkp); (try clear ho0); have hnb104 := NB251_250.out; have hnc104 := NB250_251.out; have hcz105_0 := bc0 BK251.out; have hcz105_1 := bc1 BK251.out; have hfz105_0 := zag BK251.out 0; have hfz105_1 := zag BK251.out 1; obtain ⟨Ao106, co106, eo106⟩ := Kd.zbB HO264.out; subst eo106))
       refine bodyPost_ret (zcB rfl _ _ gb251 28 #[.int .i64 t261, .slice Ao106 t262.length co106] (0, 0) _ rfl (by (with_reducible repeat (first | refine zah ?_ _ | refine zad ?_ | refine zae ?_ _)); refine zba (cs := #[.int .i64 t261, .slice none 0 0]) ?_ 1 _ rfl; (with_reducible repeat (first | refine zah ?_ _ | refine zad ?_ | refine zae ?_ _)); refine zba (cs := #[.int .i64 0, .slice none 0 0]) ?_ 0 _ rfl; (with_reducible repeat (first | refine zah ?_ _ | refine zad ?_ | refine zae ?_ _)); exact BK251.out) Try.underlying28 rfl (by kernel_rfl)) rfl ?_
       exact ⟨_, xe, by (with_reducible repeat (first | apply Kd.zaG | apply Kd.zaB | apply Kd.zaK)); exact Kd.zaQ (Kd.zd0 (p := ⟨gb251, 1, none⟩) (Kd.zd0 (p := ⟨gb251, 0, none⟩) (Kd.zfb HO264.out BK251.out (by decide)) (fun _ hk => hk.2) (.int .i64 t261)) (fun _ hk => hk.2) (.slice Ao106 t262.length co106)) (fun _ hk => trivial), bh HB.out⟩

end Go.Proofs.Ytneipehcmmigeaa.PFnExactTimesPolys
