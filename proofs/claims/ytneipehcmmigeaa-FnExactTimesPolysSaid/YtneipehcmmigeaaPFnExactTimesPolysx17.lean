import Derived.Test.YtneipehcmmigeaaPFnExactTimesPolysx5
import Derived.Test.YtneipehcmmigeaaPFnExactTimesPolysx14
import Derived.Test.YtneipehcmmigeaaPFnExactTimesPolysx16
namespace Go.Proofs.Ytneipehcmmigeaa.PFnExactTimesPolys
open Go.RowKit Go.Proofs.YtneipehcmmigeaaW.PrintWords Go.Proofs.YtneipehcmmigeaaW.PrintLast Go.Proofs.YtneipehcmmigeaaW.PrintMore
set_option linter.unusedVariables false
set_option linter.unusedSimpArgs false
set_option maxHeartbeats 8000000
set_option maxRecDepth 100000
mutual
def zak.j0 : Nat → Bool → Bool → Bool → Int → List (S69) → Int → List (S69) → Int → List (S48) → Int → List (S48) → Int → List (S48) → Int → List (S48) → Option (Bool)
 | 0, _, _, _, _, _, _, _, _, _, _, _, _, _, _, _ => none
 | k + 1, x7, x11, x53, x1006, x1007, x1008, x1009, x1010, x1003, x1011, x1000, x1012, x1002, x1004, x1001 => if x53 = true then (some false) else ((zaX.f k x1006 x1007).bind fun bt335 => ((zbe.f k x1011 x1000 bt335.1 bt335.2).bind fun t339 => (if t339 = true then ((zaX.f k x1008 x1009).bind fun bt340 => ((zbe.f k x1012 x1002 bt340.1 bt340.2).bind fun t344 => (if t344 = true then ((zbm.f k x1011 x1000 1).bind fun bt345 => ((zbm.f k x1012 x1002 bt345.1).bind fun bt347 => (if bt347.1 < 0 then (zak.j1 k x7 true x1006 x1007 x1008 x1009 x1010 x1003 x1004 x1001) else ((zbe.f k x1004 x1001 x1010 x1003).bind fun t349 => (if t349 = true then (zak.j1 k x7 (x11 != x7) x1006 x1007 x1008 x1009 x1010 x1003 x1004 x1001) else (zak.j1 k x7 true x1006 x1007 x1008 x1009 x1010 x1003 x1004 x1001)))))) else (some false)))) else (some false))))
def zak.j1 : Nat → Bool → Bool → Int → List (S69) → Int → List (S69) → Int → List (S48) → Int → List (S48) → Option (Bool)
 | 0, _, _, _, _, _, _, _, _, _, _ => none
 | k + 1, x7, x82, x1006, x1007, x1008, x1009, x1010, x1003, x1004, x1001 => if x82 = true then (some false) else ((zbm.f k x1004 x1001 1).bind fun bt350 => ((zbn.f k x1004 bt350.2 1).bind fun t352 => (if t352 < 0 then (some false) else (if t352 = bt350.1 then ((zaX.f k x1006 x1007).bind fun bt353 => ((zaX.f k x1008 x1009).bind fun bt357 => ((zap.f k bt353.1 bt353.2 bt357.1 bt357.2).bind fun bt361 => ((zbe.f k bt361.1 bt361.2.1 x1010 x1003).bind fun t367 => (if t367 = true then (zak.j2 k bt350.1 (bt361.2.2 != x7) x1004 bt350.2) else (zak.j2 k bt350.1 true x1004 bt350.2)))))) else (some false)))))
def zak.j2 : Nat → Int → Bool → Int → List (S48) → Option (Bool)
 | 0, _, _, _, _ => none
 | k + 1, x13, x110, x1004, x1001 => if x110 = true then (some false) else ((zbn.f k x1004 x1001 1).bind fun t368 => (if t368 < 0 then (some false) else (if t368 = x13 then (some true) else (some false))))
end
def zak.f (k : Nat) (a0_0 : Int) (l0_1 : List (S69)) (a1_0 : Int) (l1_1 : List (S69)) : Option (Bool) := (zbw.f k a0_0 l0_1 1048576).bind fun t302 => (if t302 < 0 then (some true) else ((zbw.f k a1_0 l1_1 t302).bind fun t303 => (if t303 < 0 then (some true) else ((zaX.f k a0_0 l0_1).bind fun bt304 => ((zaX.f k a1_0 l1_1).bind fun bt308 => ((zam.f k bt304.1 bt304.2 bt308.1 bt308.2).bind fun bt312 => ((zaX.f k a0_0 l0_1).bind fun bt318 => ((zaX.f k a1_0 l1_1).bind fun bt323 => ((zap.f k bt318.1 bt318.2 bt323.1 bt323.2).bind fun bt328 => ((zbe.f k bt328.1 bt328.2.1 bt312.1 bt312.2.1).bind fun t334 => (if t334 = true then (zak.j0 k bt312.2.2 bt328.2.2 (bt328.2.2 != bt312.2.2) a0_0 l0_1 a1_0 l1_1 bt312.1 bt312.2.1 bt318.1 bt318.2 bt323.1 bt323.2 bt328.1 bt328.2.1) else (zak.j0 k bt312.2.2 bt328.2.2 true a0_0 l0_1 a1_0 l1_1 bt312.1 bt312.2.1 bt318.1 bt318.2 bt323.1 bt323.2 bt328.1 bt328.2.1))))))))))))
theorem zak.zbb : ∀ k, (∀ y0 y1 y2 y3 y4 y5 y6 y7 y8 y9 y10 y11 y12 y13 y14, LeO (zak.j0 k y0 y1 y2 y3 y4 y5 y6 y7 y8 y9 y10 y11 y12 y13 y14) (zak.j0 (k + 1) y0 y1 y2 y3 y4 y5 y6 y7 y8 y9 y10 y11 y12 y13 y14)) ∧ (∀ y0 y1 y2 y3 y4 y5 y6 y7 y8 y9, LeO (zak.j1 k y0 y1 y2 y3 y4 y5 y6 y7 y8 y9) (zak.j1 (k + 1) y0 y1 y2 y3 y4 y5 y6 y7 y8 y9)) ∧ (∀ y0 y1 y2 y3, LeO (zak.j2 k y0 y1 y2 y3) (zak.j2 (k + 1) y0 y1 y2 y3))
 | 0 => ⟨fun _ _ _ _ _ _ _ _ _ _ _ _ _ _ _ r h => by simp [zak.j0] at h, fun _ _ _ _ _ _ _ _ _ _ r h => by simp [zak.j1] at h, fun _ _ _ _ r h => by simp [zak.j2] at h⟩
 | k + 1 => by
  obtain ⟨ih0, ih1, ih2⟩ := zak.zbb k
  refine ⟨?_, ?_, ?_⟩ <;> intros <;> (first | unfold zak.j0 | unfold zak.j1 | unfold zak.j2) <;> repeat' with_reducible first | exact ih0 _ _ _ _ _ _ _ _ _ _ _ _ _ _ _ | exact ih1 _ _ _ _ _ _ _ _ _ _ | exact ih2 _ _ _ _ | exact zap.mono _ _ _ _ _ | exact zbe.mono _ _ _ _ _ | exact zbn.mono _ _ _ _ | exact zbm.mono _ _ _ _ | exact zbw.mono _ _ _ _ | exact zaX.mono _ _ _ | exact zam.mono _ _ _ _ _ | exact xl | refine LeO.ite ?_ ?_ | refine LeO.bind ?_ fun _ => ?_
theorem zak.mono : ∀ a0 a1 a2 a3 k, LeO (zak.f k a0 a1 a2 a3) (zak.f (k + 1) a0 a1 a2 a3) := by
 intro a0 a1 a2 a3 k
 obtain ⟨ih0, ih1, ih2⟩ := zak.zbb k
 unfold zak.f
 repeat' with_reducible first | exact ih0 _ _ _ _ _ _ _ _ _ _ _ _ _ _ _ | exact ih1 _ _ _ _ _ _ _ _ _ _ | exact ih2 _ _ _ _ | exact zap.mono _ _ _ _ _ | exact zbe.mono _ _ _ _ _ | exact zbn.mono _ _ _ _ | exact zbm.mono _ _ _ _ | exact zbw.mono _ _ _ _ | exact zaX.mono _ _ _ | exact zam.mono _ _ _ _ _ | exact xl | refine LeO.ite ?_ ?_ | refine LeO.bind ?_ fun _ => ?_
def zak.T8 : Bool × List (List Nat × List Nat) := (true, [([], []), ([0], [0]), ([], []), ([2, 1], [2]), ([1, 3, 3], [1, 3]), ([4], [4]), ([5], [5]), ([5], [5]), ([], []), ([8, 6, 4, 0, 1, 2, 3, 4, 5, 6, 8], [6, 8]), ([7, 9, 0, 1, 2, 3, 4, 5, 6, 7, 8, 9], [7])])
def zak.B8 : List Nat := [0, 1, 0, 7, 15, 31, 63, 63, 0, 383, 1023]
theorem zak.tab8 : rtab .any (opsOf Try.f3 8) = zak.T8 := by kernel_rfl
theorem zak.zfR : zbT zak.T8.2 zak.B8 = true := by kernel_rfl
def zak.T31 : Bool × List (List Nat × List Nat) := (true, [([], []), ([0], [0]), ([], []), ([2, 1], [2]), ([1, 3, 3], [1, 3]), ([4], [4]), ([5], [5]), ([5], [5]), ([], []), ([8, 6, 4, 0, 1, 2, 3, 4, 5, 6, 8], [6, 8]), ([7, 9, 0, 1, 2, 3, 4, 5, 6, 7, 8, 9], [7])])
def zak.B31 : List Nat := [0, 1, 0, 7, 15, 31, 63, 63, 0, 383, 1023]
theorem zak.zkc : rtab .any (opsOf Try.f3 31) = zak.T31 := by kernel_rfl
theorem zak.zjI : zbT zak.T31.2 zak.B31 = true := by kernel_rfl
theorem zak.calls (k : Nat) (a0_0 : Int) (A0_1 : Option Addr) (c0_1 : Nat) (l0_1 : List (S69)) (a1_0 : Int) (A1_1 : Option Addr) (c1_1 : Nat) (l1_1 : List (S69)) (r : Bool) (w : World) (hr0_1 : Kd.C k69 w A0_1 l0_1.length l0_1) (hc0_1 : l0_1.length ≤ c0_1) (hr1_1 : Kd.C k69 w A1_1 l1_1.length l1_1) (hc1_1 : l1_1.length ≤ c1_1) (h : zak.f k a0_0 l0_1 a1_0 l1_1 = some r) :
  Calls Try.prog 3 #[.agg #[.int .i64 a0_0, .slice A0_1 l0_1.length c0_1], .agg #[.int .i64 a1_0, .slice A1_1 l1_1.length c1_1]] w fun e w' => e = .returned (.bool r) ∧ Below w.heap.size w w' := by
 have hu24 := Try.underlying24
 have hu28 := Try.underlying28
 have HR0_1 := ax hr0_1
 have HC0_1 := ax hc0_1
 clear hr0_1 hc0_1
 have HR1_1 := ax hr1_1
 have HC1_1 := ax hc1_1
 clear hr1_1 hc1_1
 have HB := ax (Below.refl w.heap.size w)
 have H : ((zbw.f k a0_0 l0_1 1048576).bind fun t302 => (if t302 < 0 then (some true) else ((zbw.f k a1_0 l1_1 t302).bind fun t303 => (if t303 < 0 then (some true) else ((zaX.f k a0_0 l0_1).bind fun bt304 => ((zaX.f k a1_0 l1_1).bind fun bt308 => ((zam.f k bt304.1 bt304.2 bt308.1 bt308.2).bind fun bt312 => ((zaX.f k a0_0 l0_1).bind fun bt318 => ((zaX.f k a1_0 l1_1).bind fun bt323 => ((zap.f k bt318.1 bt318.2 bt323.1 bt323.2).bind fun bt328 => ((zbe.f k bt328.1 bt328.2.1 bt312.1 bt312.2.1).bind fun t334 => (if t334 = true then (zak.j0 k bt312.2.2 bt328.2.2 (bt328.2.2 != bt312.2.2) a0_0 l0_1 a1_0 l1_1 bt312.1 bt312.2.1 bt318.1 bt318.2 bt323.1 bt323.2 bt328.1 bt328.2.1) else (zak.j0 k bt312.2.2 bt328.2.2 true a0_0 l0_1 a1_0 l1_1 bt312.1 bt312.2.1 bt318.1 bt318.2 bt323.1 bt323.2 bt328.1 bt328.2.1))))))))))))) = some r := h
 clear h
 obtain ⟨t302, A3, H⟩ := xI H
 by_cases c4 : t302 < 0
 ·rw [if_pos c4] at H
  have c4b0 := decide_eq_true c4
  clear c4
  obtain rfl := Option.some.inj H
  go_enter Try.func3, Try.ntmps3
  go_wp2_with (first | ((with_reducible refine zaP (N := 2) rfl ?_); refine zaO ?hg (N := 2) ?hd (cs := #[.int .i64 a0_0, .slice A0_1 l0_1.length c0_1]) (t := 24) ?hr ?_; (case hd => rfl); (case hg => rfl); (case hr => first | (go_simp; done) | (go_simp; rfl)); intro gb300 hg w5 hbox hb; have BK300 := ax (hbox); have GW300 := ax ((by rw [hg]; exact (zaj (xb HB.out)) : w.heap.size ≤ gb300)); have GE300 := ax ((by rw [hg]; exact (zaj (xb HB.out)) : w.heap.size ≤ gb300)); replace HB := yB HB hb; clear hb hbox hg) | ((with_reducible refine zaP (N := 3) rfl ?_); refine zaO ?hg (N := 3) ?hd (cs := #[.int .i64 a1_0, .slice A1_1 l1_1.length c1_1]) (t := 24) ?hr ?_; (case hd => rfl); (case hg => rfl); (case hr => first | (go_simp; done) | (go_simp; rfl)); intro gb301 hg w6 hbox hb; have BK301 := ax (hbox); have GW301 := ax ((by rw [hg]; exact (zaj (xs HB.out GE300.out)) : w.heap.size ≤ gb301)); have GE301 := ax ((by rw [hg]; exact (zaj (xs HB.out GE300.out)) : w.heap.size ≤ gb301)); replace HB := ax (zas (xs HB.out GE300.out) hb); have NB300_301 := ax (bn hg BK300.out); have NB301_300 := ax (bm hg BK300.out); replace BK300 := ax (bb BK300.out hb); clear hb hbox hg; have hnb7 := NB300_301.out; have hnc7 := NB301_300.out; have hcz8_0 := bc0 BK300.out; have hcz8_1 := bc1 BK300.out; have hfz8_0 := zag BK300.out 0; have hfz8_1 := zag BK300.out 1) | ((with_reducible refine zat (f := 7) rfl ?_); refine za2 (some 19) rfl rfl Try.func7 (by kernel_rfl) rfl #[.agg #[.int .i64 a0_0, .slice A0_1 l0_1.length c0_1], .int .i64 1048576] rfl xm ?_; (with_reducible refine (zbw.calls k a0_0 _ _ l0_1 1048576 t302 _ ?side1 ?side2 A3.out).mono ?_); (case side1 => exact xz HR0_1.out HB.out); (case side2 => exact HC0_1.out); rintro e w9 ⟨rfl, hb⟩; refine ⟨_, rfl, ?_⟩; replace BK300 := ax (bb BK300.out hb); replace BK301 := ax (bb BK301.out hb); replace HB := ax (zas (bh HB.out) hb); (try clear hb)))
  go_ret
  exact ⟨xe, bh HB.out⟩
 ·rw [if_neg c4] at H
  have c4b0 := decide_eq_false c4
  clear c4
  obtain ⟨t303, A10, H⟩ := xI H
  by_cases c11 : t303 < 0
  ·rw [if_pos c11] at H
   have c11b0 := decide_eq_true c11
   clear c11
   obtain rfl := Option.some.inj H
   go_enter Try.func3, Try.ntmps3
   go_wp2_with (first | ((with_reducible refine zaP (N := 2) rfl ?_); refine zaO ?hg (N := 2) ?hd (cs := #[.int .i64 a0_0, .slice A0_1 l0_1.length c0_1]) (t := 24) ?hr ?_; (case hd => rfl); (case hg => rfl); (case hr => first | (go_simp; done) | (go_simp; rfl)); intro gb300 hg w12 hbox hb; have BK300 := ax (hbox); have GW300 := ax ((by rw [hg]; exact (zaj (xb HB.out)) : w.heap.size ≤ gb300)); have GE300 := ax ((by rw [hg]; exact (zaj (xb HB.out)) : w.heap.size ≤ gb300)); replace HB := yB HB hb; clear hb hbox hg) | ((with_reducible refine zaP (N := 3) rfl ?_); refine zaO ?hg (N := 3) ?hd (cs := #[.int .i64 a1_0, .slice A1_1 l1_1.length c1_1]) (t := 24) ?hr ?_; (case hd => rfl); (case hg => rfl); (case hr => first | (go_simp; done) | (go_simp; rfl)); intro gb301 hg w13 hbox hb; have BK301 := ax (hbox); have GW301 := ax ((by rw [hg]; exact (zaj (xs HB.out GE300.out)) : w.heap.size ≤ gb301)); have GE301 := ax ((by rw [hg]; exact (zaj (xs HB.out GE300.out)) : w.heap.size ≤ gb301)); replace HB := ax (zas (xs HB.out GE300.out) hb); have NB300_301 := ax (bn hg BK300.out); have NB301_300 := ax (bm hg BK300.out); replace BK300 := ax (bb BK300.out hb); clear hb hbox hg; have hnb14 := NB300_301.out; have hnc14 := NB301_300.out; have hcz15_0 := bc0 BK300.out; have hcz15_1 := bc1 BK300.out; have hfz15_0 := zag BK300.out 0; have hfz15_1 := zag BK300.out 1) | ((with_reducible refine zat (f := 7) rfl ?_); refine za2 (some 19) rfl rfl Try.func7 (by kernel_rfl) rfl #[.agg #[.int .i64 a0_0, .slice A0_1 l0_1.length c0_1], .int .i64 1048576] rfl xm ?_; (with_reducible refine (zbw.calls k a0_0 _ _ l0_1 1048576 t302 _ ?side1 ?side2 A3.out).mono ?_); (case side1 => exact xz HR0_1.out HB.out); (case side2 => exact HC0_1.out); rintro e w16 ⟨rfl, hb⟩; refine ⟨_, rfl, ?_⟩; replace BK300 := ax (bb BK300.out hb); replace BK301 := ax (bb BK301.out hb); replace HB := ax (zas (bh HB.out) hb); (try clear hb); have hcz17_0 := bc0 BK301.out; have hcz17_1 := bc1 BK301.out; have hfz17_0 := zag BK301.out 0; have hfz17_1 := zag BK301.out 1) | ((with_reducible refine zat (f := 7) rfl ?_); refine za2 (some 24) rfl rfl Try.func7 (by kernel_rfl) rfl #[.agg #[.int .i64 a1_0, .slice A1_1 l1_1.length c1_1], .int .i64 t302] rfl xm ?_; (with_reducible refine (zbw.calls k a1_0 _ _ l1_1 t302 t303 _ ?side1 ?side2 A10.out).mono ?_); (case side1 => exact xz HR1_1.out HB.out); (case side2 => exact HC1_1.out); rintro e w18 ⟨rfl, hb⟩; refine ⟨_, rfl, ?_⟩; replace BK300 := ax (bb BK300.out hb); replace BK301 := ax (bb BK301.out hb); replace HB := ax (zas (bh HB.out) hb); (try clear hb)))
   go_ret
   exact ⟨xe, bh HB.out⟩
  ·rw [if_neg c11] at H
   have c11b0 := decide_eq_false c11
   clear c11
   obtain ⟨⟨t304, t305⟩, A19, H⟩ := xI H
   dsimp only at H
   obtain ⟨⟨t308, t309⟩, A20, H⟩ := xI H
   dsimp only at H
   obtain ⟨⟨t312, t313, t316⟩, A21, H⟩ := xI H
   dsimp only at H
   obtain ⟨⟨t318, t319⟩, A22, H⟩ := xI H
   dsimp only at H
   obtain ⟨⟨t323, t324⟩, A23, H⟩ := xI H
   dsimp only at H
   obtain ⟨⟨t328, t329, t332⟩, A24, H⟩ := xI H
   dsimp only at H
   have HC25 := ax H
   clear H
   go_enter Try.func3, Try.ntmps3
   try go_wp2_with (first | ((with_reducible refine zaP (N := 2) rfl ?_); refine zaO ?hg (N := 2) ?hd (cs := #[.int .i64 a0_0, .slice A0_1 l0_1.length c0_1]) (t := 24) ?hr ?_; (case hd => rfl); (case hg => rfl); (case hr => first | (go_simp; done) | (go_simp; rfl)); intro gb300 hg w26 hbox hb; have BK300 := ax (hbox); have GW300 := ax ((by rw [hg]; exact (zaj (xb HB.out)) : w.heap.size ≤ gb300)); have GE300 := ax ((by rw [hg]; exact (zaj (xb HB.out)) : w.heap.size ≤ gb300)); replace HB := yB HB hb; clear hb hbox hg) | ((with_reducible refine zaP (N := 3) rfl ?_); refine zaO ?hg (N := 3) ?hd (cs := #[.int .i64 a1_0, .slice A1_1 l1_1.length c1_1]) (t := 24) ?hr ?_; (case hd => rfl); (case hg => rfl); (case hr => first | (go_simp; done) | (go_simp; rfl)); intro gb301 hg w27 hbox hb; have BK301 := ax (hbox); have GW301 := ax ((by rw [hg]; exact (zaj (xs HB.out GE300.out)) : w.heap.size ≤ gb301)); have GE301 := ax ((by rw [hg]; exact (zaj (xs HB.out GE300.out)) : w.heap.size ≤ gb301)); replace HB := ax (zas (xs HB.out GE300.out) hb); have NB300_301 := ax (bn hg BK300.out); have NB301_300 := ax (bm hg BK300.out); replace BK300 := ax (bb BK300.out hb); clear hb hbox hg; have hnb28 := NB300_301.out; have hnc28 := NB301_300.out; have hcz29_0 := bc0 BK300.out; have hcz29_1 := bc1 BK300.out; have hfz29_0 := zag BK300.out 0; have hfz29_1 := zag BK300.out 1) | ((with_reducible refine zat (f := 7) rfl ?_); refine za2 (some 19) rfl rfl Try.func7 (by kernel_rfl) rfl #[.agg #[.int .i64 a0_0, .slice A0_1 l0_1.length c0_1], .int .i64 1048576] rfl xm ?_; (with_reducible refine (zbw.calls k a0_0 _ _ l0_1 1048576 t302 _ ?side1 ?side2 A3.out).mono ?_); (case side1 => exact xz HR0_1.out HB.out); (case side2 => exact HC0_1.out); rintro e w30 ⟨rfl, hb⟩; refine ⟨_, rfl, ?_⟩; replace BK300 := ax (bb BK300.out hb); replace BK301 := ax (bb BK301.out hb); replace HB := ax (zas (bh HB.out) hb); (try clear hb); have hcz31_0 := bc0 BK301.out; have hcz31_1 := bc1 BK301.out; have hfz31_0 := zag BK301.out 0; have hfz31_1 := zag BK301.out 1) | ((with_reducible refine zat (f := 7) rfl ?_); refine za2 (some 24) rfl rfl Try.func7 (by kernel_rfl) rfl #[.agg #[.int .i64 a1_0, .slice A1_1 l1_1.length c1_1], .int .i64 t302] rfl xm ?_; (with_reducible refine (zbw.calls k a1_0 _ _ l1_1 t302 t303 _ ?side1 ?side2 A10.out).mono ?_); (case side1 => exact xz HR1_1.out HB.out); (case side2 => exact HC1_1.out); rintro e w32 ⟨rfl, hb⟩; refine ⟨_, rfl, ?_⟩; replace BK300 := ax (bb BK300.out hb); replace BK301 := ax (bb BK301.out hb); replace HB := ax (zas (bh HB.out) hb); (try clear hb)))
   replace BK300 := ax (zad BK300.out); replace BK301 := ax (zad BK301.out); replace HB := ax (zaN HB.out)
   refine zbG (n := 11) (S := fun w' => w'.cell? ⟨gb300, 0, none⟩ = some (.int .i64 a0_0) ∧ w'.cell? ⟨gb300, 1, none⟩ = some (.slice A0_1 l0_1.length c0_1) ∧ w'.cell? ⟨gb301, 0, none⟩ = some (.int .i64 a1_0) ∧ w'.cell? ⟨gb301, 1, none⟩ = some (.slice A1_1 l1_1.length c1_1)) (ds := []) (xB 11 0) (by kernel_rfl) rfl (by kernel_rfl) ⟨(zai BK300.out 0).trans rfl, (zai BK300.out 1).trans rfl, (zai BK301.out 0).trans rfl, (zai BK301.out 1).trans rfl⟩ (fun hHeld => ?_); refine zbf zak.tab8 zak.zfR (fun HT_ HW_ => ?_)
   generalize w32.drew = w33 at BK300 BK301 HB hHeld ⊢
   refine tk (i := 0) (N := some 28) (xB 11 1) HT_.out HW_.out hHeld ?_
   refine tk (i := 2) (N := some 30) (xB 11 5) HT_.out HW_.out hHeld ?_
   refine zhk (σ := Value × Value × Value × Nat) 2 (xB 11 511) (fun s_ => [(29, .agg #[.int .i64 t304, s_.1]), (31, .agg #[.int .i64 t308, s_.2.1]), (32, .tuple #[.agg #[.int .i64 t312, s_.2.2.1], .bool t316]), (6, .pointer (some ⟨s_.2.2.2, 0, none⟩)), (27, .tuple #[.agg #[.int .i64 t312, s_.2.2.1], .bool t316]), (33, .agg #[.int .i64 t312, s_.2.2.1]), (34, .bool t316)]) (fun s_ w' => (w'.cell? ⟨gb300, 0, none⟩ = some (.int .i64 a0_0) ∧ w'.cell? ⟨gb300, 1, none⟩ = some (.slice A0_1 l0_1.length c0_1) ∧ w'.cell? ⟨gb301, 0, none⟩ = some (.int .i64 a1_0) ∧ w'.cell? ⟨gb301, 1, none⟩ = some (.slice A1_1 l1_1.length c1_1)) ∧ (∃ N377_ : Nat, (Kd.S k48 48 w' w.heap.size (fun k_ => some k_ ≠ (s_.2.1 : Value).ownBlock ∧ k_ ≠ dmO N377_ k_) s_.1 t305) ∧ (Kd.S k48 48 w' w.heap.size (fun k_ => some k_ ≠ (s_.1 : Value).ownBlock ∧ k_ ≠ dmI N377_ k_) s_.2.1 t309)) ∧ (Kd.V k48 48 w' w.heap.size (fun k_ => some k_ ≠ (s_.1 : Value).ownBlock ∧ some k_ ≠ (s_.2.1 : Value).ownBlock ∧ k_ ≠ gb300 ∧ k_ ≠ gb301 ∧ k_ ≠ s_.2.2.2) s_.2.2.1 t313) ∧ (w'.heap[gb300]? = some (.cells #[.int .i64 a0_0, .slice A0_1 l0_1.length c0_1] 24 (0, 0))) ∧ (w'.heap[gb301]? = some (.cells #[.int .i64 a1_0, .slice A1_1 l1_1.length c1_1] 24 (0, 0))) ∧ (w'.heap[s_.2.2.2]? = some (.cells #[.int .i64 0, .slice none 0 0] 28 (0, 0))) ∧ (w.heap.size ≤ s_.2.2.2) ∧ (w.heap.size ≤ s_.2.2.2) ∧ (gb300 ≠ s_.2.2.2) ∧ (s_.2.2.2 ≠ gb300) ∧ (gb301 ≠ s_.2.2.2) ∧ (s_.2.2.2 ≠ gb301) ∧ (Below w.heap.size w w')) ?_ ?_
   rotate_left
   ·intro hCont
    refine two_ (i := 1) (j := 8) (Ni := some 29) (Nj := some 6) (xB 11 7) (xB 11 261) rfl rfl rfl rfl (zem HT_.out (by kernel_rfl)) (by decide) (by decide) (fun K hK => ?_) (fun K hK => ?_)
    ·skip
     refine zbM Try.func9 (by kernel_rfl) rfl #[.agg #[.int .i64 a0_0, .slice A0_1 l0_1.length c0_1]] (by rfl) rfl rfl xm ?_
     with_reducible refine (zaX.calls k a0_0 _ _ l0_1 t304 t305 _ ?side1 ?side2 A19.out).mono ?_
     (case side1 => exact xz HR0_1.out HB.out)
     (case side2 => exact HC0_1.out)
     rintro e w34 ⟨v306, rfl, ho0, hb⟩
     refine ⟨_, rfl, ?_⟩
     have HO307 := ax (Kd.zbS ho0 (zaj (bh HB.out))); replace BK300 := ax (bb BK300.out hb); replace BK301 := ax (bb BK301.out hb); replace HB := ax (zas (bh HB.out) hb)
     (try clear hb)
     (try clear hk)
     (try clear ho0)
     refine hK.out _ _ ⟨(zai BK300.out 0).trans rfl, (zai BK300.out 1).trans rfl, (zai BK301.out 0).trans rfl, (zai BK301.out 1).trans rfl⟩ (fun hHeld => ?_)
     clear hK K
     refine nm ?_
     refine two_ (i := 3) (j := 8) (Ni := some 31) (Nj := some 6) (xB 11 15) (xB 11 263) rfl rfl rfl rfl (zem HT_.out (by kernel_rfl)) (by decide) (by decide) (fun K hK => ?_) (fun K hK => ?_)
     ·skip
      refine zbM Try.func9 (by kernel_rfl) rfl #[.agg #[.int .i64 a1_0, .slice A1_1 l1_1.length c1_1]] (by rfl) rfl rfl xm ?_
      with_reducible refine (zaX.calls k a1_0 _ _ l1_1 t308 t309 _ ?side1 ?side2 A20.out).mono ?_
      (case side1 => exact xz HR1_1.out HB.out)
      (case side2 => exact HC1_1.out)
      rintro e w35 ⟨v310, rfl, ho0, hb⟩
      refine ⟨_, rfl, ?_⟩
      replace ho0 := Kd.zc3 ho0
      obtain ⟨N369_, ho0, hN369_⟩ := ho0
      have HO311 := ax (Kd.zbS (Kd.zbk ho0 (Kd.S_lt (xS HO307.out))) (zaj (bh HB.out))); replace HO307 := ax (Kd.zaR (xS HO307.out) hN369_ (Kd.za9 ho0) hb); replace BK300 := ax (bb BK300.out hb); replace BK301 := ax (bb BK301.out hb); replace HB := ax (zas (bh HB.out) hb)
      (try clear hb)
      (try clear hk)
      (try clear ho0)
      (try clear hN369_)
      obtain ⟨Ao36, co36, eo36⟩ := Kd.zbB HO307.out
      (first | subst eo36 | (injection eo36 with f1_ f2_ f3_; have f4_ := f1_.symm; have f5_ := f3_.symm; clear f1_ f2_ f3_; subst f4_; subst f5_))
      obtain ⟨Ao37, co37, eo37⟩ := Kd.zbB HO311.out
      (first | subst eo37 | (injection eo37 with f1_ f2_ f3_; have f4_ := f1_.symm; have f5_ := f3_.symm; clear f1_ f2_ f3_; subst f4_; subst f5_))
      refine hK.out _ _ ⟨(zai BK300.out 0).trans rfl, (zai BK300.out 1).trans rfl, (zai BK301.out 0).trans rfl, (zai BK301.out 1).trans rfl⟩ (fun hHeld => ?_)
      clear hK K
      refine nm ?_
      refine two_ (i := 4) (j := 8) (Ni := some 32) (Nj := some 6) (xB 11 31) (xB 11 271) rfl rfl rfl rfl (zem HT_.out (by kernel_rfl)) (by decide) (by decide) (fun K hK => ?_) (fun K hK => ?_)
      ·skip
       refine zbM Try.func8 (by kernel_rfl) rfl #[.agg #[.int .i64 t304, .slice Ao36 t305.length co36], .agg #[.int .i64 t308, .slice Ao37 t309.length co37]] (by rfl) rfl rfl xm ?_
       with_reducible refine (zam.calls k t304 _ _ t305 t308 _ _ t309 t312 t313 t316 _ ?side1 ?side2 ?side3 ?side4 A21.out).mono ?_
       (case side1 => exact xc (Kd.zaI HO307.out).2.2)
       (case side2 => exact (Kd.zaI HO307.out).2.1)
       (case side3 => exact xc (Kd.zaI HO311.out).2.2)
       (case side4 => exact (Kd.zaI HO311.out).2.1)
       rintro e w38 ⟨v314, rfl, ho0, hb⟩
       refine ⟨_, rfl, ?_⟩
       have HO315 := ax (Kd.zfa (Kd.za3 (ok' := fun k_ => some k_ ≠ (.slice Ao36 t305.length co36 : Value).ownBlock ∧ some k_ ≠ (.slice Ao37 t309.length co37 : Value).ownBlock ∧ k_ ≠ gb300 ∧ k_ ≠ gb301) ho0 (fun k_ hk_ => ⟨(Kd.fresh' (Kd.S_lt (xS HO307.out)) k_ hk_), (Kd.fresh' (Kd.S_lt (xS HO311.out)) k_ hk_), (Kd.zbK (g := gb300) (o := .cells #[.int .i64 a0_0, .slice A0_1 l0_1.length c0_1] 24 (0, 0)) (xk BK300.out) k_ hk_), (Kd.zbK (g := gb301) (o := .cells #[.int .i64 a1_0, .slice A1_1 l1_1.length c1_1] 24 (0, 0)) (xk BK301.out) k_ hk_)⟩)) (zaj (bh HB.out))); replace HO307 := ax (Kd.zaF (xS HO307.out) hb); replace HO311 := ax (Kd.zaF (xS HO311.out) hb); replace BK300 := ax (bb BK300.out hb); replace BK301 := ax (bb BK301.out hb); replace HB := ax (zas (bh HB.out) hb)
       (try clear hb)
       (try clear hk)
       (try clear ho0)
       refine hK.out _ _ ⟨(zai BK300.out 0).trans rfl, (zai BK300.out 1).trans rfl, (zai BK301.out 0).trans rfl, (zai BK301.out 1).trans rfl⟩ (fun hHeld => ?_)
       clear hK K
       refine nm ?_
       refine pu (i := 5) (N := some 27) (xB 11 63) HT_.out ?_
       refine pu (i := 6) (N := some 33) (xB 11 127) HT_.out ?_
       refine pu (i := 7) (N := some 34) (xB 11 255) HT_.out ?_
       refine one_ (i := 8) (N := some 6) (xB 11 511) rfl rfl (zbj HT_.out (by kernel_rfl)) (by decide) (fun K hK => ?_)
       refine zce ?hg (N := 6) ?hd (cs := #[.int .i64 0, .slice none 0 0]) (t := 28) ?hr ?_; (case hd => rfl); (case hg => rfl); (case hr => first | (go_simp; done) | (go_simp; rfl))
       intro gb317 hg w39 hbox hb
       replace HO307 := ax (Kd.zaF (xS HO307.out) hb); replace HO311 := ax (Kd.zaF (xS HO311.out) hb); replace HO315 := ax (Kd.zbR (Kd.zbY (xV HO315.out) gb317 (Nat.le_of_eq hg.symm)) hb); have BK317 := ax (hbox); have GW317 := ax ((by rw [hg]; exact (zaj (bh HB.out)) : w.heap.size ≤ gb317)); have GE317 := ax ((by rw [hg]; exact (zaj (bh HB.out)) : w.heap.size ≤ gb317)); replace HB := ax (zas (bh HB.out) hb); have NB300_317 := ax (bn hg BK300.out); have NB317_300 := ax (bm hg BK300.out); replace BK300 := ax (bb BK300.out hb); have NB301_317 := ax (bn hg BK301.out); have NB317_301 := ax (bm hg BK301.out); replace BK301 := ax (bb BK301.out hb); clear hb hbox hg
       refine hK.out _ _ ⟨(zai BK300.out 0).trans rfl, (zai BK300.out 1).trans rfl, (zai BK301.out 0).trans rfl, (zai BK301.out 1).trans rfl⟩ (fun hHeld => ?_)
       clear hK K
       refine nm ?_
       exact zc6 (by simp only [zco, Act.put, List.setIfInBounds_toArray, List.set_cons_zero, List.set_cons_succ]) (hCont (.slice Ao36 t305.length co36, .slice Ao37 t309.length co37, v314, gb317) _ ⟨hHeld, ⟨N369_, (by (with_reducible repeat (first | apply Kd.zaG | apply Kd.zaB | apply Kd.zaK)); exact Kd.zaQ HO307.out (fun _ hk => ⟨hk.1.2, hk.2⟩)), (by (with_reducible repeat (first | apply Kd.zaG | apply Kd.zaB | apply Kd.zaK)); exact Kd.zaQ HO311.out (fun _ hk => ⟨hk.2, hk.1⟩))⟩, (by (with_reducible repeat (first | apply Kd.zbv | apply Kd.zbu | apply Kd.zbs)); exact Kd.za3 HO315.out (fun _ hk => ⟨hk.1.1, ⟨hk.1.2.1, ⟨hk.1.2.2.1, ⟨hk.1.2.2.2, hk.2⟩⟩⟩⟩)), (xk BK300.out), (xk BK301.out), (xk BK317.out), GW317.out, GE317.out, NB300_317.out, NB317_300.out, NB301_317.out, NB317_301.out, (bh HB.out)⟩)
      ·skip
       refine zce ?hg (N := 6) ?hd (cs := #[.int .i64 0, .slice none 0 0]) (t := 28) ?hr ?_; (case hd => rfl); (case hg => rfl); (case hr => first | (go_simp; done) | (go_simp; rfl))
       intro gb317 hg w36 hbox hb
       replace HO307 := ax (Kd.zaF (xS HO307.out) hb); replace HO311 := ax (Kd.zaF (xS HO311.out) hb); have BK317 := ax (hbox); have GW317 := ax ((by rw [hg]; exact (zaj (bh HB.out)) : w.heap.size ≤ gb317)); have GE317 := ax ((by rw [hg]; exact (zaj (bh HB.out)) : w.heap.size ≤ gb317)); replace HB := ax (zas (bh HB.out) hb); have NB300_317 := ax (bn hg BK300.out); have NB317_300 := ax (bm hg BK300.out); replace BK300 := ax (bb BK300.out hb); have NB301_317 := ax (bn hg BK301.out); have NB317_301 := ax (bm hg BK301.out); replace BK301 := ax (bb BK301.out hb); clear hb hbox hg
       obtain ⟨Ao37, co37, eo37⟩ := Kd.zbB HO307.out
       (first | subst eo37 | (injection eo37 with f1_ f2_ f3_; have f4_ := f1_.symm; have f5_ := f3_.symm; clear f1_ f2_ f3_; subst f4_; subst f5_))
       obtain ⟨Ao38, co38, eo38⟩ := Kd.zbB HO311.out
       (first | subst eo38 | (injection eo38 with f1_ f2_ f3_; have f4_ := f1_.symm; have f5_ := f3_.symm; clear f1_ f2_ f3_; subst f4_; subst f5_))
       refine hK.out _ _ ⟨(zai BK300.out 0).trans rfl, (zai BK300.out 1).trans rfl, (zai BK301.out 0).trans rfl, (zai BK301.out 1).trans rfl⟩ (fun hHeld => ?_)
       clear hK K
       refine nm ?_
       refine one_ (i := 4) (N := some 32) (xB 11 287) rfl rfl (zbj HT_.out (by kernel_rfl)) (by decide) (fun K hK => ?_)
       refine zbM Try.func8 (by kernel_rfl) rfl #[.agg #[.int .i64 t304, .slice Ao37 t305.length co37], .agg #[.int .i64 t308, .slice Ao38 t309.length co38]] (by rfl) rfl rfl xm ?_
       with_reducible refine (zam.calls k t304 _ _ t305 t308 _ _ t309 t312 t313 t316 _ ?side1 ?side2 ?side3 ?side4 A21.out).mono ?_
       (case side1 => exact xc (Kd.zaI HO307.out).2.2)
       (case side2 => exact (Kd.zaI HO307.out).2.1)
       (case side3 => exact xc (Kd.zaI HO311.out).2.2)
       (case side4 => exact (Kd.zaI HO311.out).2.1)
       rintro e w39 ⟨v314, rfl, ho0, hb⟩
       refine ⟨_, rfl, ?_⟩
       have HO315 := ax (Kd.zfa (Kd.za3 (ok' := fun k_ => some k_ ≠ (.slice Ao37 t305.length co37 : Value).ownBlock ∧ some k_ ≠ (.slice Ao38 t309.length co38 : Value).ownBlock ∧ k_ ≠ gb300 ∧ k_ ≠ gb301 ∧ k_ ≠ gb317) ho0 (fun k_ hk_ => ⟨(Kd.fresh' (Kd.S_lt (xS HO307.out)) k_ hk_), (Kd.fresh' (Kd.S_lt (xS HO311.out)) k_ hk_), (Kd.zbK (g := gb300) (o := .cells #[.int .i64 a0_0, .slice A0_1 l0_1.length c0_1] 24 (0, 0)) (xk BK300.out) k_ hk_), (Kd.zbK (g := gb301) (o := .cells #[.int .i64 a1_0, .slice A1_1 l1_1.length c1_1] 24 (0, 0)) (xk BK301.out) k_ hk_), (Kd.zbK (g := gb317) (o := .cells #[.int .i64 0, .slice none 0 0] 28 (0, 0)) (xk BK317.out) k_ hk_)⟩)) (zaj (bh HB.out))); replace HO307 := ax (Kd.zaF (xS HO307.out) hb); replace HO311 := ax (Kd.zaF (xS HO311.out) hb); replace BK300 := ax (bb BK300.out hb); replace BK301 := ax (bb BK301.out hb); replace BK317 := ax (bb BK317.out hb); replace HB := ax (zas (bh HB.out) hb)
       (try clear hb)
       (try clear hk)
       (try clear ho0)
       refine hK.out _ _ ⟨(zai BK300.out 0).trans rfl, (zai BK300.out 1).trans rfl, (zai BK301.out 0).trans rfl, (zai BK301.out 1).trans rfl⟩ (fun hHeld => ?_)
       clear hK K
       refine nm ?_
       refine pu (i := 5) (N := some 27) (xB 11 319) HT_.out ?_
       refine pu (i := 6) (N := some 33) (xB 11 383) HT_.out ?_
       refine pu (i := 7) (N := some 34) (xB 11 511) HT_.out ?_
       exact zc6 (by simp only [zco, Act.put, List.setIfInBounds_toArray, List.set_cons_zero, List.set_cons_succ]) (hCont (.slice Ao37 t305.length co37, .slice Ao38 t309.length co38, v314, gb317) _ ⟨hHeld, ⟨N369_, (by (with_reducible repeat (first | apply Kd.zaG | apply Kd.zaB | apply Kd.zaK)); exact Kd.zaQ HO307.out (fun _ hk => ⟨hk.1.2, hk.2⟩)), (by (with_reducible repeat (first | apply Kd.zaG | apply Kd.zaB | apply Kd.zaK)); exact Kd.zaQ HO311.out (fun _ hk => ⟨hk.2, hk.1⟩))⟩, (xV HO315.out), (xk BK300.out), (xk BK301.out), (xk BK317.out), GW317.out, GE317.out, NB300_317.out, NB317_300.out, NB301_317.out, NB317_301.out, (bh HB.out)⟩)
     ·skip
      refine zce ?hg (N := 6) ?hd (cs := #[.int .i64 0, .slice none 0 0]) (t := 28) ?hr ?_; (case hd => rfl); (case hg => rfl); (case hr => first | (go_simp; done) | (go_simp; rfl))
      intro gb317 hg w35 hbox hb
      replace HO307 := ax (Kd.zaF (xS HO307.out) hb); have BK317 := ax (hbox); have GW317 := ax ((by rw [hg]; exact (zaj (bh HB.out)) : w.heap.size ≤ gb317)); have GE317 := ax ((by rw [hg]; exact (zaj (bh HB.out)) : w.heap.size ≤ gb317)); replace HB := ax (zas (bh HB.out) hb); have NB300_317 := ax (bn hg BK300.out); have NB317_300 := ax (bm hg BK300.out); replace BK300 := ax (bb BK300.out hb); have NB301_317 := ax (bn hg BK301.out); have NB317_301 := ax (bm hg BK301.out); replace BK301 := ax (bb BK301.out hb); clear hb hbox hg
      refine hK.out _ _ ⟨(zai BK300.out 0).trans rfl, (zai BK300.out 1).trans rfl, (zai BK301.out 0).trans rfl, (zai BK301.out 1).trans rfl⟩ (fun hHeld => ?_)
      clear hK K
      refine nm ?_
      refine one_ (i := 3) (N := some 31) (xB 11 271) rfl rfl (zbj HT_.out (by kernel_rfl)) (by decide) (fun K hK => ?_)
      refine zbM Try.func9 (by kernel_rfl) rfl #[.agg #[.int .i64 a1_0, .slice A1_1 l1_1.length c1_1]] (by rfl) rfl rfl xm ?_
      with_reducible refine (zaX.calls k a1_0 _ _ l1_1 t308 t309 _ ?side1 ?side2 A20.out).mono ?_
      (case side1 => exact xz HR1_1.out HB.out)
      (case side2 => exact HC1_1.out)
      rintro e w36 ⟨v310, rfl, ho0, hb⟩
      refine ⟨_, rfl, ?_⟩
      replace ho0 := Kd.zc3 ho0
      obtain ⟨N373_, ho0, hN373_⟩ := ho0
      have HO311 := ax (Kd.zbS (Kd.zbk ho0 (Kd.S_lt (xS HO307.out))) (zaj (bh HB.out))); replace HO307 := ax (Kd.zaR (xS HO307.out) hN373_ (Kd.za9 ho0) hb); replace BK300 := ax (bb BK300.out hb); replace BK301 := ax (bb BK301.out hb); replace BK317 := ax (bb BK317.out hb); replace HB := ax (zas (bh HB.out) hb)
      (try clear hb)
      (try clear hk)
      (try clear ho0)
      (try clear hN373_)
      obtain ⟨Ao37, co37, eo37⟩ := Kd.zbB HO307.out
      (first | subst eo37 | (injection eo37 with f1_ f2_ f3_; have f4_ := f1_.symm; have f5_ := f3_.symm; clear f1_ f2_ f3_; subst f4_; subst f5_))
      obtain ⟨Ao38, co38, eo38⟩ := Kd.zbB HO311.out
      (first | subst eo38 | (injection eo38 with f1_ f2_ f3_; have f4_ := f1_.symm; have f5_ := f3_.symm; clear f1_ f2_ f3_; subst f4_; subst f5_))
      refine hK.out _ _ ⟨(zai BK300.out 0).trans rfl, (zai BK300.out 1).trans rfl, (zai BK301.out 0).trans rfl, (zai BK301.out 1).trans rfl⟩ (fun hHeld => ?_)
      clear hK K
      refine nm ?_
      refine one_ (i := 4) (N := some 32) (xB 11 287) rfl rfl (zbj HT_.out (by kernel_rfl)) (by decide) (fun K hK => ?_)
      refine zbM Try.func8 (by kernel_rfl) rfl #[.agg #[.int .i64 t304, .slice Ao37 t305.length co37], .agg #[.int .i64 t308, .slice Ao38 t309.length co38]] (by rfl) rfl rfl xm ?_
      with_reducible refine (zam.calls k t304 _ _ t305 t308 _ _ t309 t312 t313 t316 _ ?side1 ?side2 ?side3 ?side4 A21.out).mono ?_
      (case side1 => exact xc (Kd.zaI HO307.out).2.2)
      (case side2 => exact (Kd.zaI HO307.out).2.1)
      (case side3 => exact xc (Kd.zaI HO311.out).2.2)
      (case side4 => exact (Kd.zaI HO311.out).2.1)
      rintro e w39 ⟨v314, rfl, ho0, hb⟩
      refine ⟨_, rfl, ?_⟩
      have HO315 := ax (Kd.zfa (Kd.za3 (ok' := fun k_ => some k_ ≠ (.slice Ao37 t305.length co37 : Value).ownBlock ∧ some k_ ≠ (.slice Ao38 t309.length co38 : Value).ownBlock ∧ k_ ≠ gb300 ∧ k_ ≠ gb301 ∧ k_ ≠ gb317) ho0 (fun k_ hk_ => ⟨(Kd.fresh' (Kd.S_lt (xS HO307.out)) k_ hk_), (Kd.fresh' (Kd.S_lt (xS HO311.out)) k_ hk_), (Kd.zbK (g := gb300) (o := .cells #[.int .i64 a0_0, .slice A0_1 l0_1.length c0_1] 24 (0, 0)) (xk BK300.out) k_ hk_), (Kd.zbK (g := gb301) (o := .cells #[.int .i64 a1_0, .slice A1_1 l1_1.length c1_1] 24 (0, 0)) (xk BK301.out) k_ hk_), (Kd.zbK (g := gb317) (o := .cells #[.int .i64 0, .slice none 0 0] 28 (0, 0)) (xk BK317.out) k_ hk_)⟩)) (zaj (bh HB.out))); replace HO307 := ax (Kd.zaF (xS HO307.out) hb); replace HO311 := ax (Kd.zaF (xS HO311.out) hb); replace BK300 := ax (bb BK300.out hb); replace BK301 := ax (bb BK301.out hb); replace BK317 := ax (bb BK317.out hb); replace HB := ax (zas (bh HB.out) hb)
      (try clear hb)
      (try clear hk)
      (try clear ho0)
      refine hK.out _ _ ⟨(zai BK300.out 0).trans rfl, (zai BK300.out 1).trans rfl, (zai BK301.out 0).trans rfl, (zai BK301.out 1).trans rfl⟩ (fun hHeld => ?_)
      clear hK K
      refine nm ?_
      refine pu (i := 5) (N := some 27) (xB 11 319) HT_.out ?_
      refine pu (i := 6) (N := some 33) (xB 11 383) HT_.out ?_
      refine pu (i := 7) (N := some 34) (xB 11 511) HT_.out ?_
      exact zc6 (by simp only [zco, Act.put, List.setIfInBounds_toArray, List.set_cons_zero, List.set_cons_succ]) (hCont (.slice Ao37 t305.length co37, .slice Ao38 t309.length co38, v314, gb317) _ ⟨hHeld, ⟨N373_, (by (with_reducible repeat (first | apply Kd.zaG | apply Kd.zaB | apply Kd.zaK)); exact Kd.zaQ HO307.out (fun _ hk => ⟨hk.1.2, hk.2⟩)), (by (with_reducible repeat (first | apply Kd.zaG | apply Kd.zaB | apply Kd.zaK)); exact Kd.zaQ HO311.out (fun _ hk => ⟨hk.2, hk.1⟩))⟩, (xV HO315.out), (xk BK300.out), (xk BK301.out), (xk BK317.out), GW317.out, GE317.out, NB300_317.out, NB317_300.out, NB301_317.out, NB317_301.out, (bh HB.out)⟩)
    ·skip
     refine zce ?hg (N := 6) ?hd (cs := #[.int .i64 0, .slice none 0 0]) (t := 28) ?hr ?_; (case hd => rfl); (case hg => rfl); (case hr => first | (go_simp; done) | (go_simp; rfl))
     intro gb317 hg w34 hbox hb
     have BK317 := ax (hbox); have GW317 := ax ((by rw [hg]; exact (zaj (bh HB.out)) : w.heap.size ≤ gb317)); have GE317 := ax ((by rw [hg]; exact (zaj (bh HB.out)) : w.heap.size ≤ gb317)); replace HB := ax (zas (bh HB.out) hb); have NB300_317 := ax (bn hg BK300.out); have NB317_300 := ax (bm hg BK300.out); replace BK300 := ax (bb BK300.out hb); have NB301_317 := ax (bn hg BK301.out); have NB317_301 := ax (bm hg BK301.out); replace BK301 := ax (bb BK301.out hb); clear hb hbox hg
     refine hK.out _ _ ⟨(zai BK300.out 0).trans rfl, (zai BK300.out 1).trans rfl, (zai BK301.out 0).trans rfl, (zai BK301.out 1).trans rfl⟩ (fun hHeld => ?_)
     clear hK K
     refine nm ?_
     refine one_ (i := 1) (N := some 29) (xB 11 263) rfl rfl (zbj HT_.out (by kernel_rfl)) (by decide) (fun K hK => ?_)
     refine zbM Try.func9 (by kernel_rfl) rfl #[.agg #[.int .i64 a0_0, .slice A0_1 l0_1.length c0_1]] (by rfl) rfl rfl xm ?_
     with_reducible refine (zaX.calls k a0_0 _ _ l0_1 t304 t305 _ ?side1 ?side2 A19.out).mono ?_
     (case side1 => exact xz HR0_1.out HB.out)
     (case side2 => exact HC0_1.out)
     rintro e w35 ⟨v306, rfl, ho0, hb⟩
     refine ⟨_, rfl, ?_⟩
     have HO307 := ax (Kd.zbS ho0 (zaj (bh HB.out))); replace BK300 := ax (bb BK300.out hb); replace BK301 := ax (bb BK301.out hb); replace BK317 := ax (bb BK317.out hb); replace HB := ax (zas (bh HB.out) hb)
     (try clear hb)
     (try clear hk)
     (try clear ho0)
     refine hK.out _ _ ⟨(zai BK300.out 0).trans rfl, (zai BK300.out 1).trans rfl, (zai BK301.out 0).trans rfl, (zai BK301.out 1).trans rfl⟩ (fun hHeld => ?_)
     clear hK K
     refine nm ?_
     refine one_ (i := 3) (N := some 31) (xB 11 271) rfl rfl (zbj HT_.out (by kernel_rfl)) (by decide) (fun K hK => ?_)
     refine zbM Try.func9 (by kernel_rfl) rfl #[.agg #[.int .i64 a1_0, .slice A1_1 l1_1.length c1_1]] (by rfl) rfl rfl xm ?_
     with_reducible refine (zaX.calls k a1_0 _ _ l1_1 t308 t309 _ ?side1 ?side2 A20.out).mono ?_
     (case side1 => exact xz HR1_1.out HB.out)
     (case side2 => exact HC1_1.out)
     rintro e w36 ⟨v310, rfl, ho0, hb⟩
     refine ⟨_, rfl, ?_⟩
     replace ho0 := Kd.zc3 ho0
     obtain ⟨N375_, ho0, hN375_⟩ := ho0
     have HO311 := ax (Kd.zbS (Kd.zbk ho0 (Kd.S_lt (xS HO307.out))) (zaj (bh HB.out))); replace HO307 := ax (Kd.zaR (xS HO307.out) hN375_ (Kd.za9 ho0) hb); replace BK300 := ax (bb BK300.out hb); replace BK301 := ax (bb BK301.out hb); replace BK317 := ax (bb BK317.out hb); replace HB := ax (zas (bh HB.out) hb)
     (try clear hb)
     (try clear hk)
     (try clear ho0)
     (try clear hN375_)
     obtain ⟨Ao37, co37, eo37⟩ := Kd.zbB HO307.out
     (first | subst eo37 | (injection eo37 with f1_ f2_ f3_; have f4_ := f1_.symm; have f5_ := f3_.symm; clear f1_ f2_ f3_; subst f4_; subst f5_))
     obtain ⟨Ao38, co38, eo38⟩ := Kd.zbB HO311.out
     (first | subst eo38 | (injection eo38 with f1_ f2_ f3_; have f4_ := f1_.symm; have f5_ := f3_.symm; clear f1_ f2_ f3_; subst f4_; subst f5_))
     refine hK.out _ _ ⟨(zai BK300.out 0).trans rfl, (zai BK300.out 1).trans rfl, (zai BK301.out 0).trans rfl, (zai BK301.out 1).trans rfl⟩ (fun hHeld => ?_)
     clear hK K
     refine nm ?_
     refine one_ (i := 4) (N := some 32) (xB 11 287) rfl rfl (zbj HT_.out (by kernel_rfl)) (by decide) (fun K hK => ?_)
     refine zbM Try.func8 (by kernel_rfl) rfl #[.agg #[.int .i64 t304, .slice Ao37 t305.length co37], .agg #[.int .i64 t308, .slice Ao38 t309.length co38]] (by rfl) rfl rfl xm ?_
     with_reducible refine (zam.calls k t304 _ _ t305 t308 _ _ t309 t312 t313 t316 _ ?side1 ?side2 ?side3 ?side4 A21.out).mono ?_
     (case side1 => exact xc (Kd.zaI HO307.out).2.2)
     (case side2 => exact (Kd.zaI HO307.out).2.1)
     (case side3 => exact xc (Kd.zaI HO311.out).2.2)
     (case side4 => exact (Kd.zaI HO311.out).2.1)
     rintro e w39 ⟨v314, rfl, ho0, hb⟩
     refine ⟨_, rfl, ?_⟩
     have HO315 := ax (Kd.zfa (Kd.za3 (ok' := fun k_ => some k_ ≠ (.slice Ao37 t305.length co37 : Value).ownBlock ∧ some k_ ≠ (.slice Ao38 t309.length co38 : Value).ownBlock ∧ k_ ≠ gb300 ∧ k_ ≠ gb301 ∧ k_ ≠ gb317) ho0 (fun k_ hk_ => ⟨(Kd.fresh' (Kd.S_lt (xS HO307.out)) k_ hk_), (Kd.fresh' (Kd.S_lt (xS HO311.out)) k_ hk_), (Kd.zbK (g := gb300) (o := .cells #[.int .i64 a0_0, .slice A0_1 l0_1.length c0_1] 24 (0, 0)) (xk BK300.out) k_ hk_), (Kd.zbK (g := gb301) (o := .cells #[.int .i64 a1_0, .slice A1_1 l1_1.length c1_1] 24 (0, 0)) (xk BK301.out) k_ hk_), (Kd.zbK (g := gb317) (o := .cells #[.int .i64 0, .slice none 0 0] 28 (0, 0)) (xk BK317.out) k_ hk_)⟩)) (zaj (bh HB.out))); replace HO307 := ax (Kd.zaF (xS HO307.out) hb); replace HO311 := ax (Kd.zaF (xS HO311.out) hb); replace BK300 := ax (bb BK300.out hb); replace BK301 := ax (bb BK301.out hb); replace BK317 := ax (bb BK317.out hb); replace HB := ax (zas (bh HB.out) hb)
     (try clear hb)
     (try clear hk)
     (try clear ho0)
     refine hK.out _ _ ⟨(zai BK300.out 0).trans rfl, (zai BK300.out 1).trans rfl, (zai BK301.out 0).trans rfl, (zai BK301.out 1).trans rfl⟩ (fun hHeld => ?_)
     clear hK K
     refine nm ?_
     refine pu (i := 5) (N := some 27) (xB 11 319) HT_.out ?_
     refine pu (i := 6) (N := some 33) (xB 11 383) HT_.out ?_
     refine pu (i := 7) (N := some 34) (xB 11 511) HT_.out ?_
     exact zc6 (by simp only [zco, Act.put, List.setIfInBounds_toArray, List.set_cons_zero, List.set_cons_succ]) (hCont (.slice Ao37 t305.length co37, .slice Ao38 t309.length co38, v314, gb317) _ ⟨hHeld, ⟨N375_, (by (with_reducible repeat (first | apply Kd.zaG | apply Kd.zaB | apply Kd.zaK)); exact Kd.zaQ HO307.out (fun _ hk => ⟨hk.1.2, hk.2⟩)), (by (with_reducible repeat (first | apply Kd.zaG | apply Kd.zaB | apply Kd.zaK)); exact Kd.zaQ HO311.out (fun _ hk => ⟨hk.2, hk.1⟩))⟩, (xV HO315.out), (xk BK300.out), (xk BK301.out), (xk BK317.out), GW317.out, GE317.out, NB300_317.out, NB317_300.out, NB301_317.out, NB317_301.out, (bh HB.out)⟩)
   rintro ⟨v306, v310, v314, gb317⟩ w40 ⟨hS_, ⟨N377_, h0_, h1_⟩, h2_, h3_, h4_, h5_, h6_, h7_, h8_, h9_, h10_, h11_, h12_⟩
   have n0_ : zal (Kd.S k48 48 w40 w.heap.size (fun k_ => some k_ ≠ (v310 : Value).ownBlock ∧ k_ ≠ dmO N377_ k_) v306 t305) := ⟨h0_⟩
   have n1_ : zal (Kd.S k48 48 w40 w.heap.size (fun k_ => some k_ ≠ (v306 : Value).ownBlock ∧ k_ ≠ dmI N377_ k_) v310 t309) := ⟨h1_⟩
   have n2_ : zal (Kd.V k48 48 w40 w.heap.size (fun k_ => some k_ ≠ (v306 : Value).ownBlock ∧ some k_ ≠ (v310 : Value).ownBlock ∧ k_ ≠ gb300 ∧ k_ ≠ gb301 ∧ k_ ≠ gb317) v314 t313) := ⟨h2_⟩
   have n3_ : zal (w40.heap[gb300]? = some (.cells #[.int .i64 a0_0, .slice A0_1 l0_1.length c0_1] 24 (0, 0))) := ⟨h3_⟩
   have n4_ : zal (w40.heap[gb301]? = some (.cells #[.int .i64 a1_0, .slice A1_1 l1_1.length c1_1] 24 (0, 0))) := ⟨h4_⟩
   have n5_ : zal (w40.heap[gb317]? = some (.cells #[.int .i64 0, .slice none 0 0] 28 (0, 0))) := ⟨h5_⟩
   have n6_ : zal (w.heap.size ≤ gb317) := ⟨h6_⟩
   have n7_ : zal (w.heap.size ≤ gb317) := ⟨h7_⟩
   have n8_ : zal (gb300 ≠ gb317) := ⟨h8_⟩
   have n9_ : zal (gb317 ≠ gb300) := ⟨h9_⟩
   have n10_ : zal (gb301 ≠ gb317) := ⟨h10_⟩
   have n11_ : zal (gb317 ≠ gb301) := ⟨h11_⟩
   have n12_ : zal (Below w.heap.size w w40) := ⟨h12_⟩
   clear BK300 BK301 HB h0_ h1_ h2_ h3_ h4_ h5_ h6_ h7_ h8_ h9_ h10_ h11_ h12_
   have HO307 := n0_
   have HO311 := n1_
   have HO315 := n2_
   have BK300 := n3_
   have BK301 := n4_
   have BK317 := n5_
   have GW317 := n6_
   have GE317 := n7_
   have NB300_317 := n8_
   have NB317_300 := n9_
   have NB301_317 := n10_
   have NB317_301 := n11_
   have HB := n12_
   clear n0_ n1_ n2_ n3_ n4_ n5_ n6_ n7_ n8_ n9_ n10_ n11_ n12_
   have hHeld : w40.cell? ⟨gb300, 0, none⟩ = some (.int .i64 a0_0) ∧ w40.cell? ⟨gb300, 1, none⟩ = some (.slice A0_1 l0_1.length c0_1) ∧ w40.cell? ⟨gb301, 0, none⟩ = some (.int .i64 a1_0) ∧ w40.cell? ⟨gb301, 1, none⟩ = some (.slice A1_1 l1_1.length c1_1) := hS_
   obtain ⟨Ao42, co42, eo42⟩ := Kd.zjd HO315.out
   (first | subst eo42 | (injection eo42 with f1_ f2_ f3_; have f4_ := f1_.symm; have f5_ := f3_.symm; clear f1_ f2_ f3_; subst f4_; subst f5_))
   refine zc6 (a' := ?_) ?_ ?_
   rotate_left
   ·simp only [zco, Act.put, List.setIfInBounds_toArray, List.set_cons_zero, List.set_cons_succ]
    rfl
   refine one_ (i := 9) (N := none) (xB 11 1023) rfl rfl (zbj HT_.out (by kernel_rfl)) (by decide) (fun K hK => ?_)
   have hs41 : w40.cell? ⟨gb317, 0, none⟩ = some (.int .i64 0) := (zai BK317.out 0).trans rfl
   have hfs41 := zag BK317.out 0
   have hns41_0 := NB300_317.out
   have hns41_1 := NB301_317.out
   have hms41_0 := NB317_300.out
   have hms41_1 := NB317_301.out
   have hs43 : w40.cell? ⟨gb317, 1, none⟩ = some (.slice none 0 0) := (zai BK317.out 1).trans rfl
   have hfs43 := zag BK317.out 1
   have hns43_0 := NB300_317.out
   have hns43_1 := NB301_317.out
   have hms43_0 := NB317_300.out
   have hms43_1 := NB317_301.out
   refine zdz (w1 := ?_) (by rfl) rfl ?_ ?_
   rotate_left
   ·go_simp
    rfl
   refine hK.out _ _ ⟨((cell_far (p := ⟨gb317, _, none⟩) NB300_317.out _).trans (((cell_far (p := ⟨gb317, _, none⟩) NB300_317.out _).trans (hHeld.1)))), ((cell_far (p := ⟨gb317, _, none⟩) NB300_317.out _).trans (((cell_far (p := ⟨gb317, _, none⟩) NB300_317.out _).trans (hHeld.2.1)))), ((cell_far (p := ⟨gb317, _, none⟩) NB301_317.out _).trans (((cell_far (p := ⟨gb317, _, none⟩) NB301_317.out _).trans (hHeld.2.2.1)))), ((cell_far (p := ⟨gb317, _, none⟩) NB301_317.out _).trans (((cell_far (p := ⟨gb317, _, none⟩) NB301_317.out _).trans (hHeld.2.2.2))))⟩ (fun hHeld => ?_)
   clear hK K
   refine pu (i := 10) (N := some 7) (xB 11 2047) HT_.out ?_
   refine zb5 (zbA HT_.out (by kernel_rfl)) ?_
   have hnb44 := NB300_317.out
   have hnc44 := NB317_300.out
   have hcz45_0 := bc0 BK300.out
   have hcz45_1 := bc1 BK300.out
   have hfz45_0 := zag BK300.out 0
   have hfz45_1 := zag BK300.out 1
   go_upto_region 12 with (first | ((with_reducible refine zat (f := 9) rfl ?_); refine za2 (some 36) rfl rfl Try.func9 (by kernel_rfl) rfl #[.agg #[.int .i64 a0_0, .slice A0_1 l0_1.length c0_1]] rfl xm ?_; (with_reducible refine (zaX.calls k a0_0 _ _ l0_1 t318 t319 _ ?side1 ?side2 A22.out).mono ?_); (case side1 => exact Kd.zbC HR0_1.out (bh HB.out)); (case side2 => exact HC0_1.out); rintro e w46 ⟨v320, rfl, ho0, hb⟩; refine ⟨_, rfl, ?_⟩; replace ho0 := Kd.zc3 ho0; obtain ⟨N379_, ho0, hN379_⟩ := ho0; replace HO315 := ax (Kd.zb4 (by (with_reducible repeat (first | apply Kd.zbv | apply Kd.zbu | apply Kd.zbs)); exact (Kd.za3 (Kd.zb7 (p := ⟨gb317, 1, none⟩) (Kd.zb7 (p := ⟨gb317, 0, none⟩) (Kd.za3 HO315.out (fun k_ hk => (⟨hk, hk.2.2.2.2⟩ : _ ∧ k_ ≠ gb317))) (fun _ hk => hk.2) (.int .i64 t312)) (fun _ hk => hk.2) (.slice Ao42 t313.length co42)) (fun _ h_ => h_.1))) hN379_ (Kd.za9 ho0) hb); have HO321 := ax (Kd.zbS (Kd.zbk (Kd.zbk ho0 (Kd.S_lt (by (with_reducible repeat (first | apply Kd.zaG | apply Kd.zaB | apply Kd.zaK)); exact (f2S HO307.out BK317.out (.int .i64 t312) (.slice Ao42 t313.length co42))))) (Kd.S_lt (by (with_reducible repeat (first | apply Kd.zaG | apply Kd.zaB | apply Kd.zaK)); exact (f2S HO311.out BK317.out (.int .i64 t312) (.slice Ao42 t313.length co42))))) (zaj (bh HB.out))); replace HO307 := ax (Kd.zaR (by (with_reducible repeat (first | apply Kd.zaG | apply Kd.zaB | apply Kd.zaK)); exact (f2S HO307.out BK317.out (.int .i64 t312) (.slice Ao42 t313.length co42))) hN379_ (Kd.za9 ho0) hb); replace HO311 := ax (Kd.zaR (by (with_reducible repeat (first | apply Kd.zaG | apply Kd.zaB | apply Kd.zaK)); exact (f2S HO311.out BK317.out (.int .i64 t312) (.slice Ao42 t313.length co42))) hN379_ (Kd.za9 ho0) hb); replace BK300 := ax (zaZ (g := gb300) (o := .cells #[.int .i64 a0_0, .slice A0_1 l0_1.length c0_1] 24 (0, 0)) (by (with_reducible repeat (first | refine zah ?_ _ | refine zad ?_ | refine zae ?_ _)); refine zaD ?_ NB300_317.out _; (with_reducible repeat (first | refine zah ?_ _ | refine zad ?_ | refine zae ?_ _)); refine zaD ?_ NB300_317.out _; (with_reducible repeat (first | refine zah ?_ _ | refine zad ?_ | refine zae ?_ _)); exact BK300.out) hb); replace BK301 := ax (zaZ (g := gb301) (o := .cells #[.int .i64 a1_0, .slice A1_1 l1_1.length c1_1] 24 (0, 0)) (by (with_reducible repeat (first | refine zah ?_ _ | refine zad ?_ | refine zae ?_ _)); refine zaD ?_ NB301_317.out _; (with_reducible repeat (first | refine zah ?_ _ | refine zad ?_ | refine zae ?_ _)); refine zaD ?_ NB301_317.out _; (with_reducible repeat (first | refine zah ?_ _ | refine zad ?_ | refine zae ?_ _)); exact BK301.out) hb); replace BK317 := ax (zaZ (g := gb317) (o := .cells #[.int .i64 t312, .slice Ao42 t313.length co42] 28 (0, 0)) (by (with_reducible repeat (first | refine zah ?_ _ | refine zad ?_ | refine zae ?_ _)); refine zba (cs := #[.int .i64 t312, .slice none 0 0]) ?_ 1 _ rfl; (with_reducible repeat (first | refine zah ?_ _ | refine zad ?_ | refine zae ?_ _)); refine zba (cs := #[.int .i64 0, .slice none 0 0]) ?_ 0 _ rfl; (with_reducible repeat (first | refine zah ?_ _ | refine zad ?_ | refine zae ?_ _)); exact BK317.out) hb); replace HB := ax (zas (bh HB.out) hb); (try clear hb); (try clear ho0); (try clear hN379_)) | ((with_reducible refine zaP (N := 8) rfl ?_); refine zaO ?hg (N := 8) ?hd (cs := #[.int .i64 0, .slice none 0 0]) (t := 28) ?hr ?_; (case hd => rfl); (case hg => rfl); (case hr => first | (go_simp; done) | (go_simp; rfl)); intro gb322 hg w47 hbox hb; replace HO307 := ax (Kd.zaF (xS HO307.out) hb); replace HO311 := ax (Kd.zaF (xS HO311.out) hb); replace HO315 := ax (Kd.zbR (Kd.zbY (xV HO315.out) gb322 (Nat.le_of_eq hg.symm)) hb); replace HO321 := ax (Kd.zaF (xS HO321.out) hb); have BK322 := ax (hbox); have GW322 := ax ((by rw [hg]; exact (zaj (bh HB.out)) : w.heap.size ≤ gb322)); have GE322 := ax ((by rw [hg]; exact (zaj (bh HB.out)) : w.heap.size ≤ gb322)); replace HB := ax (zas (bh HB.out) hb); have NB300_322 := ax (bn hg BK300.out); have NB322_300 := ax (bm hg BK300.out); replace BK300 := ax (bb BK300.out hb); have NB301_322 := ax (bn hg BK301.out); have NB322_301 := ax (bm hg BK301.out); replace BK301 := ax (bb BK301.out hb); have NB317_322 := ax (bn hg BK317.out); have NB322_317 := ax (bm hg BK317.out); replace BK317 := ax (bb BK317.out hb); clear hb hbox hg; have hnb48 := NB322_300.out; have hnc48 := NB300_322.out; have hnb49 := NB322_301.out; have hnc49 := NB301_322.out; have hnb50 := NB322_317.out; have hnc50 := NB317_322.out; have hcz51_0 := bc0 BK322.out; have hcz51_1 := bc1 BK322.out; have hfz51_0 := zag BK322.out 0; have hfz51_1 := zag BK322.out 1; obtain ⟨Ao52, co52, eo52⟩ := Kd.zbB HO321.out; subst eo52; have hnb53 := NB301_317.out; have hnc53 := NB317_301.out; have hcz54_0 := bc0 BK301.out; have hcz54_1 := bc1 BK301.out; have hfz54_0 := zag BK301.out 0; have hfz54_1 := zag BK301.out 1) | ((with_reducible refine zat (f := 9) rfl ?_); refine za2 (some 38) rfl rfl Try.func9 (by kernel_rfl) rfl #[.agg #[.int .i64 a1_0, .slice A1_1 l1_1.length c1_1]] rfl xm ?_; (with_reducible refine (zaX.calls k a1_0 _ _ l1_1 t323 t324 _ ?side1 ?side2 A23.out).mono ?_); (case side1 => exact Kd.zbC HR1_1.out (bh HB.out)); (case side2 => exact HC1_1.out); rintro e w55 ⟨v325, rfl, ho0, hb⟩; refine ⟨_, rfl, ?_⟩; replace ho0 := Kd.zc3 ho0; obtain ⟨N381_, ho0, hN381_⟩ := ho0; replace HO315 := ax (Kd.zb4 (by (with_reducible repeat (first | apply Kd.zbv | apply Kd.zbu | apply Kd.zbs)); exact (Kd.za3 (Kd.zb7 (p := ⟨gb322, 1, none⟩) (Kd.zb7 (p := ⟨gb322, 0, none⟩) (Kd.za3 HO315.out (fun k_ hk => (⟨hk, hk.2⟩ : _ ∧ k_ ≠ gb322))) (fun _ hk => hk.2) (.int .i64 t318)) (fun _ hk => hk.2) (.slice Ao52 t319.length co52)) (fun _ h_ => h_.1))) hN381_ (Kd.za9 ho0) hb); have HO326 := ax (Kd.zbS (Kd.zbk (Kd.zbk (Kd.zbk ho0 (Kd.S_lt (by (with_reducible repeat (first | apply Kd.zaG | apply Kd.zaB | apply Kd.zaK)); exact (f2S HO307.out BK322.out (.int .i64 t318) (.slice Ao52 t319.length co52))))) (Kd.S_lt (by (with_reducible repeat (first | apply Kd.zaG | apply Kd.zaB | apply Kd.zaK)); exact (f2S HO311.out BK322.out (.int .i64 t318) (.slice Ao52 t319.length co52))))) (Kd.S_lt (by (with_reducible repeat (first | apply Kd.zaG | apply Kd.zaB | apply Kd.zaK)); exact (f2S HO321.out BK322.out (.int .i64 t318) (.slice Ao52 t319.length co52))))) (zaj (bh HB.out))); replace HO307 := ax (Kd.zaR (by (with_reducible repeat (first | apply Kd.zaG | apply Kd.zaB | apply Kd.zaK)); exact (f2S HO307.out BK322.out (.int .i64 t318) (.slice Ao52 t319.length co52))) hN381_ (Kd.za9 ho0) hb); replace HO311 := ax (Kd.zaR (by (with_reducible repeat (first | apply Kd.zaG | apply Kd.zaB | apply Kd.zaK)); exact (f2S HO311.out BK322.out (.int .i64 t318) (.slice Ao52 t319.length co52))) hN381_ (Kd.za9 ho0) hb); replace HO321 := ax (Kd.zaR (by (with_reducible repeat (first | apply Kd.zaG | apply Kd.zaB | apply Kd.zaK)); exact (f2S HO321.out BK322.out (.int .i64 t318) (.slice Ao52 t319.length co52))) hN381_ (Kd.za9 ho0) hb); replace BK300 := ax (zaZ (g := gb300) (o := .cells #[.int .i64 a0_0, .slice A0_1 l0_1.length c0_1] 24 (0, 0)) (by (with_reducible repeat (first | refine zah ?_ _ | refine zad ?_ | refine zae ?_ _)); refine zaD ?_ NB300_322.out _; (with_reducible repeat (first | refine zah ?_ _ | refine zad ?_ | refine zae ?_ _)); refine zaD ?_ NB300_322.out _; (with_reducible repeat (first | refine zah ?_ _ | refine zad ?_ | refine zae ?_ _)); exact BK300.out) hb); replace BK301 := ax (zaZ (g := gb301) (o := .cells #[.int .i64 a1_0, .slice A1_1 l1_1.length c1_1] 24 (0, 0)) (by (with_reducible repeat (first | refine zah ?_ _ | refine zad ?_ | refine zae ?_ _)); refine zaD ?_ NB301_322.out _; (with_reducible repeat (first | refine zah ?_ _ | refine zad ?_ | refine zae ?_ _)); refine zaD ?_ NB301_322.out _; (with_reducible repeat (first | refine zah ?_ _ | refine zad ?_ | refine zae ?_ _)); exact BK301.out) hb); replace BK317 := ax (zaZ (g := gb317) (o := .cells #[.int .i64 t312, .slice Ao42 t313.length co42] 28 (0, 0)) (by (with_reducible repeat (first | refine zah ?_ _ | refine zad ?_ | refine zae ?_ _)); refine zaD ?_ NB317_322.out _; (with_reducible repeat (first | refine zah ?_ _ | refine zad ?_ | refine zae ?_ _)); refine zaD ?_ NB317_322.out _; (with_reducible repeat (first | refine zah ?_ _ | refine zad ?_ | refine zae ?_ _)); exact BK317.out) hb); replace BK322 := ax (zaZ (g := gb322) (o := .cells #[.int .i64 t318, .slice Ao52 t319.length co52] 28 (0, 0)) (by (with_reducible repeat (first | refine zah ?_ _ | refine zad ?_ | refine zae ?_ _)); refine zba (cs := #[.int .i64 t318, .slice none 0 0]) ?_ 1 _ rfl; (with_reducible repeat (first | refine zah ?_ _ | refine zad ?_ | refine zae ?_ _)); refine zba (cs := #[.int .i64 0, .slice none 0 0]) ?_ 0 _ rfl; (with_reducible repeat (first | refine zah ?_ _ | refine zad ?_ | refine zae ?_ _)); exact BK322.out) hb); replace HB := ax (zas (bh HB.out) hb); (try clear hb); (try clear ho0); (try clear hN381_)) | ((with_reducible refine zaP (N := 9) rfl ?_); refine zaO ?hg (N := 9) ?hd (cs := #[.int .i64 0, .slice none 0 0]) (t := 28) ?hr ?_; (case hd => rfl); (case hg => rfl); (case hr => first | (go_simp; done) | (go_simp; rfl)); intro gb327 hg w56 hbox hb; replace HO307 := ax (Kd.zaF (xS HO307.out) hb); replace HO311 := ax (Kd.zaF (xS HO311.out) hb); replace HO315 := ax (Kd.zbR (Kd.zbY (xV HO315.out) gb327 (Nat.le_of_eq hg.symm)) hb); replace HO321 := ax (Kd.zaF (xS HO321.out) hb); replace HO326 := ax (Kd.zaF (xS HO326.out) hb); have BK327 := ax (hbox); have GW327 := ax ((by rw [hg]; exact (zaj (bh HB.out)) : w.heap.size ≤ gb327)); have GE327 := ax ((by rw [hg]; exact (zaj (bh HB.out)) : w.heap.size ≤ gb327)); replace HB := ax (zas (bh HB.out) hb); have NB300_327 := ax (bn hg BK300.out); have NB327_300 := ax (bm hg BK300.out); replace BK300 := ax (bb BK300.out hb); have NB301_327 := ax (bn hg BK301.out); have NB327_301 := ax (bm hg BK301.out); replace BK301 := ax (bb BK301.out hb); have NB317_327 := ax (bn hg BK317.out); have NB327_317 := ax (bm hg BK317.out); replace BK317 := ax (bb BK317.out hb); have NB322_327 := ax (bn hg BK322.out); have NB327_322 := ax (bm hg BK322.out); replace BK322 := ax (bb BK322.out hb); clear hb hbox hg; have hnb57 := NB327_300.out; have hnc57 := NB300_327.out; have hnb58 := NB327_301.out; have hnc58 := NB301_327.out; have hnb59 := NB327_317.out; have hnc59 := NB317_327.out; have hnb60 := NB327_322.out; have hnc60 := NB322_327.out; have hcz61_0 := bc0 BK327.out; have hcz61_1 := bc1 BK327.out; have hfz61_0 := zag BK327.out 0; have hfz61_1 := zag BK327.out 1; obtain ⟨Ao62, co62, eo62⟩ := Kd.zbB HO326.out; subst eo62; have hcz63_0 := bc0 BK322.out; have hcz63_1 := bc1 BK322.out; have hfz63_0 := zag BK322.out 0; have hfz63_1 := zag BK322.out 1) | ((with_reducible refine zat (f := 10) rfl ?_); refine za2 (some 42) rfl rfl Try.func10 (by kernel_rfl) rfl #[.agg #[.int .i64 t318, .slice Ao52 t319.length co52], .agg #[.int .i64 t323, .slice Ao62 t324.length co62]] rfl xm ?_; (with_reducible refine (zap.calls k t318 _ _ t319 t323 _ _ t324 t328 t329 t332 _ ?side1 ?side2 ?side3 ?side4 A24.out).mono ?_); (case side1 => refine (Kd.zaI (e := 48) (base := w.heap.size) (ok := fun k_ => ((((k_ ≠ dmI N379_ k_ ∧ some k_ ≠ (v306 : Value).ownBlock) ∧ some k_ ≠ (v310 : Value).ownBlock) ∧ some k_ ≠ (.slice Ao62 t324.length co62 : Value).ownBlock) ∧ k_ ≠ dmO N381_ k_)) (n := t319.length) (c := co52) ?_).2.2; exact (by (with_reducible repeat (first | apply Kd.zaG | apply Kd.zaB | apply Kd.zaK)); exact (f2S HO321.out BK327.out (.int .i64 t323) (.slice Ao62 t324.length co62)))); (case side2 => exact (Kd.zaI HO321.out).2.1); (case side3 => refine (Kd.zaI (e := 48) (base := w.heap.size) (ok := fun k_ => (((k_ ≠ dmI N381_ k_ ∧ some k_ ≠ (v306 : Value).ownBlock) ∧ some k_ ≠ (v310 : Value).ownBlock) ∧ some k_ ≠ (.slice Ao52 t319.length co52 : Value).ownBlock)) (n := t324.length) (c := co62) ?_).2.2; exact (by (with_reducible repeat (first | apply Kd.zaG | apply Kd.zaB | apply Kd.zaK)); exact (f2S HO326.out BK327.out (.int .i64 t323) (.slice Ao62 t324.length co62)))); (case side4 => exact (Kd.zaI HO326.out).2.1); rintro e w64 ⟨v330, rfl, ho0, hb⟩; refine ⟨_, rfl, ?_⟩; replace ho0 := Kd.zc3 ho0; obtain ⟨N383_, ho0, hN383_⟩ := ho0; replace HO315 := ax (Kd.zb4 (by (with_reducible repeat (first | apply Kd.zbv | apply Kd.zbu | apply Kd.zbs)); exact (Kd.za3 (Kd.zb7 (p := ⟨gb327, 1, none⟩) (Kd.zb7 (p := ⟨gb327, 0, none⟩) (Kd.za3 HO315.out (fun k_ hk => (⟨hk, hk.2⟩ : _ ∧ k_ ≠ gb327))) (fun _ hk => hk.2) (.int .i64 t323)) (fun _ hk => hk.2) (.slice Ao62 t324.length co62)) (fun _ h_ => h_.1))) hN383_ (Kd.za9 ho0) hb); have HO331 := ax (Kd.zbS (Kd.zbk (Kd.zbk (Kd.zbk (Kd.zbk ho0 (Kd.S_lt (by (with_reducible repeat (first | apply Kd.zaG | apply Kd.zaB | apply Kd.zaK)); exact (f2S HO307.out BK327.out (.int .i64 t323) (.slice Ao62 t324.length co62))))) (Kd.S_lt (by (with_reducible repeat (first | apply Kd.zaG | apply Kd.zaB | apply Kd.zaK)); exact (f2S HO311.out BK327.out (.int .i64 t323) (.slice Ao62 t324.length co62))))) (Kd.S_lt (by (with_reducible repeat (first | apply Kd.zaG | apply Kd.zaB | apply Kd.zaK)); exact (f2S HO321.out BK327.out (.int .i64 t323) (.slice Ao62 t324.length co62))))) (Kd.S_lt (by (with_reducible repeat (first | apply Kd.zaG | apply Kd.zaB | apply Kd.zaK)); exact (f2S HO326.out BK327.out (.int .i64 t323) (.slice Ao62 t324.length co62))))) (zaj (bh HB.out))); replace HO307 := ax (Kd.zaR (by (with_reducible repeat (first | apply Kd.zaG | apply Kd.zaB | apply Kd.zaK)); exact (f2S HO307.out BK327.out (.int .i64 t323) (.slice Ao62 t324.length co62))) hN383_ (Kd.za9 ho0) hb); replace HO311 := ax (Kd.zaR (by (with_reducible repeat (first | apply Kd.zaG | apply Kd.zaB | apply Kd.zaK)); exact (f2S HO311.out BK327.out (.int .i64 t323) (.slice Ao62 t324.length co62))) hN383_ (Kd.za9 ho0) hb); replace HO321 := ax (Kd.zaR (by (with_reducible repeat (first | apply Kd.zaG | apply Kd.zaB | apply Kd.zaK)); exact (f2S HO321.out BK327.out (.int .i64 t323) (.slice Ao62 t324.length co62))) hN383_ (Kd.za9 ho0) hb); replace HO326 := ax (Kd.zaR (by (with_reducible repeat (first | apply Kd.zaG | apply Kd.zaB | apply Kd.zaK)); exact (f2S HO326.out BK327.out (.int .i64 t323) (.slice Ao62 t324.length co62))) hN383_ (Kd.za9 ho0) hb); replace BK300 := ax (zaZ (g := gb300) (o := .cells #[.int .i64 a0_0, .slice A0_1 l0_1.length c0_1] 24 (0, 0)) (by (with_reducible repeat (first | refine zah ?_ _ | refine zad ?_ | refine zae ?_ _)); refine zaD ?_ NB300_327.out _; (with_reducible repeat (first | refine zah ?_ _ | refine zad ?_ | refine zae ?_ _)); refine zaD ?_ NB300_327.out _; (with_reducible repeat (first | refine zah ?_ _ | refine zad ?_ | refine zae ?_ _)); exact BK300.out) hb); replace BK301 := ax (zaZ (g := gb301) (o := .cells #[.int .i64 a1_0, .slice A1_1 l1_1.length c1_1] 24 (0, 0)) (by (with_reducible repeat (first | refine zah ?_ _ | refine zad ?_ | refine zae ?_ _)); refine zaD ?_ NB301_327.out _; (with_reducible repeat (first | refine zah ?_ _ | refine zad ?_ | refine zae ?_ _)); refine zaD ?_ NB301_327.out _; (with_reducible repeat (first | refine zah ?_ _ | refine zad ?_ | refine zae ?_ _)); exact BK301.out) hb); replace BK317 := ax (zaZ (g := gb317) (o := .cells #[.int .i64 t312, .slice Ao42 t313.length co42] 28 (0, 0)) (by (with_reducible repeat (first | refine zah ?_ _ | refine zad ?_ | refine zae ?_ _)); refine zaD ?_ NB317_327.out _; (with_reducible repeat (first | refine zah ?_ _ | refine zad ?_ | refine zae ?_ _)); refine zaD ?_ NB317_327.out _; (with_reducible repeat (first | refine zah ?_ _ | refine zad ?_ | refine zae ?_ _)); exact BK317.out) hb); replace BK322 := ax (zaZ (g := gb322) (o := .cells #[.int .i64 t318, .slice Ao52 t319.length co52] 28 (0, 0)) (by (with_reducible repeat (first | refine zah ?_ _ | refine zad ?_ | refine zae ?_ _)); refine zaD ?_ NB322_327.out _; (with_reducible repeat (first | refine zah ?_ _ | refine zad ?_ | refine zae ?_ _)); refine zaD ?_ NB322_327.out _; (with_reducible repeat (first | refine zah ?_ _ | refine zad ?_ | refine zae ?_ _)); exact BK322.out) hb); replace BK327 := ax (zaZ (g := gb327) (o := .cells #[.int .i64 t323, .slice Ao62 t324.length co62] 28 (0, 0)) (by (with_reducible repeat (first | refine zah ?_ _ | refine zad ?_ | refine zae ?_ _)); refine zba (cs := #[.int .i64 t323, .slice none 0 0]) ?_ 1 _ rfl; (with_reducible repeat (first | refine zah ?_ _ | refine zad ?_ | refine zae ?_ _)); refine zba (cs := #[.int .i64 0, .slice none 0 0]) ?_ 0 _ rfl; (with_reducible repeat (first | refine zah ?_ _ | refine zad ?_ | refine zae ?_ _)); exact BK327.out) hb); replace HB := ax (zas (bh HB.out) hb); (try clear hb); (try clear ho0); (try clear hN383_)) | ((with_reducible refine zaP (N := 10) rfl ?_); refine zaO ?hg (N := 10) ?hd (cs := #[.int .i64 0, .slice none 0 0]) (t := 28) ?hr ?_; (case hd => rfl); (case hg => rfl); (case hr => first | (go_simp; done) | (go_simp; rfl)); intro gb333 hg w65 hbox hb; replace HO307 := ax (Kd.zaF (xS HO307.out) hb); replace HO311 := ax (Kd.zaF (xS HO311.out) hb); replace HO315 := ax (Kd.zbR (Kd.zbY (xV HO315.out) gb333 (Nat.le_of_eq hg.symm)) hb); replace HO321 := ax (Kd.zaF (xS HO321.out) hb); replace HO326 := ax (Kd.zaF (xS HO326.out) hb); replace HO331 := ax (Kd.zaF (xS HO331.out) hb); have BK333 := ax (hbox); have GW333 := ax ((by rw [hg]; exact (zaj (bh HB.out)) : w.heap.size ≤ gb333)); have GE333 := ax ((by rw [hg]; exact (zaj (bh HB.out)) : w.heap.size ≤ gb333)); replace HB := ax (zas (bh HB.out) hb); have NB300_333 := ax (bn hg BK300.out); have NB333_300 := ax (bm hg BK300.out); replace BK300 := ax (bb BK300.out hb); have NB301_333 := ax (bn hg BK301.out); have NB333_301 := ax (bm hg BK301.out); replace BK301 := ax (bb BK301.out hb); have NB317_333 := ax (bn hg BK317.out); have NB333_317 := ax (bm hg BK317.out); replace BK317 := ax (bb BK317.out hb); have NB322_333 := ax (bn hg BK322.out); have NB333_322 := ax (bm hg BK322.out); replace BK322 := ax (bb BK322.out hb); have NB327_333 := ax (bn hg BK327.out); have NB333_327 := ax (bm hg BK327.out); replace BK327 := ax (bb BK327.out hb); clear hb hbox hg; have hnb66 := NB333_300.out; have hnc66 := NB300_333.out; have hnb67 := NB333_301.out; have hnc67 := NB301_333.out; have hnb68 := NB333_317.out; have hnc68 := NB317_333.out; have hnb69 := NB333_322.out; have hnc69 := NB322_333.out; have hnb70 := NB333_327.out; have hnc70 := NB327_333.out; have hcz71_0 := bc0 BK333.out; have hcz71_1 := bc1 BK333.out; have hfz71_0 := zag BK333.out 0; have hfz71_1 := zag BK333.out 1; obtain ⟨Ao72, co72, eo72⟩ := Kd.zbB HO331.out; subst eo72))
   (try simp only [Act.put, List.setIfInBounds_toArray, List.set_cons_zero, List.set_cons_succ])
   go_cut [53] (fun v53 wc => ∃ (kq : Nat) (x53_24 : Bool), v53 = .bool x53_24 ∧ zal (zak.j0 kq t316 t332 x53_24 a0_0 l0_1 a1_0 l1_1 t312 t313 t318 t319 t323 t324 t328 t329 = some r) ∧ zal (kq ≤ k) ∧ zal (Kd.V k48 48 wc w.heap.size (fun k_ => some k_ ≠ ((.slice Ao52 t319.length co52) : Value).ownBlock ∧ some k_ ≠ ((.slice Ao62 t324.length co62) : Value).ownBlock ∧ some k_ ≠ ((.slice Ao72 t329.length co72) : Value).ownBlock ∧ k_ ≠ gb300 ∧ k_ ≠ gb301 ∧ k_ ≠ gb317 ∧ k_ ≠ gb322 ∧ k_ ≠ gb327 ∧ k_ ≠ gb333 ∧ k_ ≠ dmO N379_ k_ ∧ k_ ≠ dmO N381_ k_ ∧ k_ ≠ dmO N383_ k_) (.slice Ao42 t313.length co42) t313) ∧ zal (Kd.S k48 48 wc w.heap.size (fun k_ => some k_ ≠ ((.slice Ao62 t324.length co62) : Value).ownBlock ∧ some k_ ≠ ((.slice Ao72 t329.length co72) : Value).ownBlock ∧ k_ ≠ dmI N379_ k_ ∧ k_ ≠ dmO N381_ k_ ∧ k_ ≠ dmO N383_ k_) (.slice Ao52 t319.length co52) t319) ∧ zal (Kd.S k48 48 wc w.heap.size (fun k_ => some k_ ≠ ((.slice Ao52 t319.length co52) : Value).ownBlock ∧ some k_ ≠ ((.slice Ao72 t329.length co72) : Value).ownBlock ∧ k_ ≠ dmI N381_ k_ ∧ k_ ≠ dmO N383_ k_) (.slice Ao62 t324.length co62) t324) ∧ zal (Kd.S k48 48 wc w.heap.size (fun k_ => some k_ ≠ ((.slice Ao52 t319.length co52) : Value).ownBlock ∧ some k_ ≠ ((.slice Ao62 t324.length co62) : Value).ownBlock ∧ k_ ≠ dmI N383_ k_) (.slice Ao72 t329.length co72) t329) ∧ zal (wc.heap[gb300]? = some (.cells #[.int .i64 a0_0, (.slice A0_1 l0_1.length c0_1)] 24 (0, 0))) ∧ zal (wc.heap[gb301]? = some (.cells #[.int .i64 a1_0, (.slice A1_1 l1_1.length c1_1)] 24 (0, 0))) ∧ zal (wc.heap[gb317]? = some (.cells #[.int .i64 t312, (.slice Ao42 t313.length co42)] 28 (0, 0))) ∧ zal (wc.heap[gb322]? = some (.cells #[.int .i64 t318, (.slice Ao52 t319.length co52)] 28 (0, 0))) ∧ zal (wc.heap[gb327]? = some (.cells #[.int .i64 t323, (.slice Ao62 t324.length co62)] 28 (0, 0))) ∧ zal (wc.heap[gb333]? = some (.cells #[.int .i64 t328, (.slice Ao72 t329.length co72)] 28 (0, 0))) ∧ zal (Below w.heap.size w wc))
   case first =>
    have H := HC25.out
    clear HC25
    obtain ⟨t334, A73, H⟩ := xI H
    by_cases c74 : t334 = true
    ·subst c74
     rw [if_pos rfl] at H
     have H' := ax H
     clear H
     have hnb75 := NB333_300.out
     have hnc75 := NB300_333.out
     have hnb76 := NB333_301.out
     have hnc76 := NB301_333.out
     have hnb77 := NB333_317.out
     have hnc77 := NB317_333.out
     have hnb78 := NB333_322.out
     have hnc78 := NB322_333.out
     have hnb79 := NB333_327.out
     have hnc79 := NB327_333.out
     have hcz80_0 := bc0 BK333.out
     have hcz80_1 := bc1 BK333.out
     have hfz80_0 := zag BK333.out 0
     have hfz80_1 := zag BK333.out 1
     have hnb81 := NB317_300.out
     have hnc81 := NB300_317.out
     have hnb82 := NB317_301.out
     have hnc82 := NB301_317.out
     have hnb83 := NB317_322.out
     have hnc83 := NB322_317.out
     have hnb84 := NB317_327.out
     have hnc84 := NB327_317.out
     have hcz85_0 := bc0 BK317.out
     have hcz85_1 := bc1 BK317.out
     have hfz85_0 := zag BK317.out 0
     have hfz85_1 := zag BK317.out 1
     go_wp2_with (first | ((with_reducible refine zat (f := 11) rfl ?_); refine za2 (some 47) rfl rfl Try.func11 (by kernel_rfl) rfl #[.agg #[.int .i64 t328, .slice Ao72 t329.length co72], .agg #[.int .i64 t312, .slice Ao42 t313.length co42]] rfl xm ?_; (with_reducible refine (zbe.calls k t328 _ _ t329 t312 _ _ t313 true _ ?side1 ?side2 ?side3 ?side4 A73.out).mono ?_); (case side1 => refine (Kd.zaI (e := 48) (base := w.heap.size) (ok := fun k_ => ((((k_ ≠ dmI N383_ k_ ∧ some k_ ≠ (v306 : Value).ownBlock) ∧ some k_ ≠ (v310 : Value).ownBlock) ∧ some k_ ≠ (.slice Ao52 t319.length co52 : Value).ownBlock) ∧ some k_ ≠ (.slice Ao62 t324.length co62 : Value).ownBlock)) (n := t329.length) (c := co72) ?_).2.2; exact (by (with_reducible repeat (first | apply Kd.zaG | apply Kd.zaB | apply Kd.zaK)); exact (f2S HO331.out BK333.out (.int .i64 t328) (.slice Ao72 t329.length co72)))); (case side2 => exact (Kd.zaI HO331.out).2.1); (case side3 => refine (Kd.zbl (e := 48) (base := w.heap.size) (ok := fun k_ => ((((((((((some k_ ≠ (v306 : Value).ownBlock ∧ (some k_ ≠ (v310 : Value).ownBlock ∧ (k_ ≠ gb300 ∧ (k_ ≠ gb301 ∧ k_ ≠ gb317)))) ∧ some k_ ≠ (.slice Ao52 t319.length co52 : Value).ownBlock) ∧ k_ ≠ dmO N379_ k_) ∧ k_ ≠ gb322) ∧ some k_ ≠ (.slice Ao62 t324.length co62 : Value).ownBlock) ∧ k_ ≠ dmO N381_ k_) ∧ k_ ≠ gb327) ∧ some k_ ≠ (.slice Ao72 t329.length co72 : Value).ownBlock) ∧ k_ ≠ dmO N383_ k_) ∧ k_ ≠ gb333)) (n := t313.length) (c := co42) ?_).2.2; exact (by (with_reducible repeat (first | apply Kd.zbv | apply Kd.zbu | apply Kd.zbs)); exact (Kd.za3 (Kd.zb7 (p := ⟨gb333, 1, none⟩) (Kd.zb7 (p := ⟨gb333, 0, none⟩) (Kd.za3 HO315.out (fun k_ hk => (⟨hk, hk.2⟩ : _ ∧ k_ ≠ gb333))) (fun _ hk => hk.2) (.int .i64 t328)) (fun _ hk => hk.2) (.slice Ao72 t329.length co72)) (fun _ h_ => h_.1)))); (case side4 => exact (Kd.zbl HO315.out).2.1); rintro e w86 ⟨rfl, hb⟩; refine ⟨_, rfl, ?_⟩; replace HO307 := ax (Kd.zaF (by (with_reducible repeat (first | apply Kd.zaG | apply Kd.zaB | apply Kd.zaK)); exact (f2S HO307.out BK333.out (.int .i64 t328) (.slice Ao72 t329.length co72))) hb); replace HO311 := ax (Kd.zaF (by (with_reducible repeat (first | apply Kd.zaG | apply Kd.zaB | apply Kd.zaK)); exact (f2S HO311.out BK333.out (.int .i64 t328) (.slice Ao72 t329.length co72))) hb); replace HO315 := ax (Kd.zbR (by (with_reducible repeat (first | apply Kd.zbv | apply Kd.zbu | apply Kd.zbs)); exact (Kd.za3 (Kd.zb7 (p := ⟨gb333, 1, none⟩) (Kd.zb7 (p := ⟨gb333, 0, none⟩) (Kd.za3 HO315.out (fun k_ hk => (⟨hk, hk.2⟩ : _ ∧ k_ ≠ gb333))) (fun _ hk => hk.2) (.int .i64 t328)) (fun _ hk => hk.2) (.slice Ao72 t329.length co72)) (fun _ h_ => h_.1))) hb); replace HO321 := ax (Kd.zaF (by (with_reducible repeat (first | apply Kd.zaG | apply Kd.zaB | apply Kd.zaK)); exact (f2S HO321.out BK333.out (.int .i64 t328) (.slice Ao72 t329.length co72))) hb); replace HO326 := ax (Kd.zaF (by (with_reducible repeat (first | apply Kd.zaG | apply Kd.zaB | apply Kd.zaK)); exact (f2S HO326.out BK333.out (.int .i64 t328) (.slice Ao72 t329.length co72))) hb); replace HO331 := ax (Kd.zaF (by (with_reducible repeat (first | apply Kd.zaG | apply Kd.zaB | apply Kd.zaK)); exact (f2S HO331.out BK333.out (.int .i64 t328) (.slice Ao72 t329.length co72))) hb); replace BK300 := ax (zaZ (g := gb300) (o := .cells #[.int .i64 a0_0, .slice A0_1 l0_1.length c0_1] 24 (0, 0)) (by (with_reducible repeat (first | refine zah ?_ _ | refine zad ?_ | refine zae ?_ _)); refine zaD ?_ NB300_333.out _; (with_reducible repeat (first | refine zah ?_ _ | refine zad ?_ | refine zae ?_ _)); refine zaD ?_ NB300_333.out _; (with_reducible repeat (first | refine zah ?_ _ | refine zad ?_ | refine zae ?_ _)); exact BK300.out) hb); replace BK301 := ax (zaZ (g := gb301) (o := .cells #[.int .i64 a1_0, .slice A1_1 l1_1.length c1_1] 24 (0, 0)) (by (with_reducible repeat (first | refine zah ?_ _ | refine zad ?_ | refine zae ?_ _)); refine zaD ?_ NB301_333.out _; (with_reducible repeat (first | refine zah ?_ _ | refine zad ?_ | refine zae ?_ _)); refine zaD ?_ NB301_333.out _; (with_reducible repeat (first | refine zah ?_ _ | refine zad ?_ | refine zae ?_ _)); exact BK301.out) hb); replace BK317 := ax (zaZ (g := gb317) (o := .cells #[.int .i64 t312, .slice Ao42 t313.length co42] 28 (0, 0)) (by (with_reducible repeat (first | refine zah ?_ _ | refine zad ?_ | refine zae ?_ _)); refine zaD ?_ NB317_333.out _; (with_reducible repeat (first | refine zah ?_ _ | refine zad ?_ | refine zae ?_ _)); refine zaD ?_ NB317_333.out _; (with_reducible repeat (first | refine zah ?_ _ | refine zad ?_ | refine zae ?_ _)); exact BK317.out) hb); replace BK322 := ax (zaZ (g := gb322) (o := .cells #[.int .i64 t318, .slice Ao52 t319.length co52] 28 (0, 0)) (by (with_reducible repeat (first | refine zah ?_ _ | refine zad ?_ | refine zae ?_ _)); refine zaD ?_ NB322_333.out _; (with_reducible repeat (first | refine zah ?_ _ | refine zad ?_ | refine zae ?_ _)); refine zaD ?_ NB322_333.out _; (with_reducible repeat (first | refine zah ?_ _ | refine zad ?_ | refine zae ?_ _)); exact BK322.out) hb); replace BK327 := ax (zaZ (g := gb327) (o := .cells #[.int .i64 t323, .slice Ao62 t324.length co62] 28 (0, 0)) (by (with_reducible repeat (first | refine zah ?_ _ | refine zad ?_ | refine zae ?_ _)); refine zaD ?_ NB327_333.out _; (with_reducible repeat (first | refine zah ?_ _ | refine zad ?_ | refine zae ?_ _)); refine zaD ?_ NB327_333.out _; (with_reducible repeat (first | refine zah ?_ _ | refine zad ?_ | refine zae ?_ _)); exact BK327.out) hb); replace BK333 := ax (zaZ (g := gb333) (o := .cells #[.int .i64 t328, .slice Ao72 t329.length co72] 28 (0, 0)) (by (with_reducible repeat (first | refine zah ?_ _ | refine zad ?_ | refine zae ?_ _)); refine zba (cs := #[.int .i64 t328, .slice none 0 0]) ?_ 1 _ rfl; (with_reducible repeat (first | refine zah ?_ _ | refine zad ?_ | refine zae ?_ _)); refine zba (cs := #[.int .i64 0, .slice none 0 0]) ?_ 0 _ rfl; (with_reducible repeat (first | refine zah ?_ _ | refine zad ?_ | refine zae ?_ _)); exact BK333.out) hb); replace HB := ax (zas (bh HB.out) hb); (try clear hb)))
     go_meet
     case rel => exact ⟨_, ((t332 != t316)), xr, H', ⟨by first | omega | exact Nat.le_refl _⟩, ⟨by (with_reducible repeat (first | apply Kd.zbv | apply Kd.zbu | apply Kd.zbs)); exact Kd.za3 HO315.out bq⟩, ⟨by (with_reducible repeat (first | apply Kd.zaG | apply Kd.zaB | apply Kd.zaK)); exact Kd.zaQ HO321.out (fun _ hk => ⟨hk.1.1.1.2, ⟨hk.1.2, ⟨hk.1.1.1.1.1.1, ⟨hk.1.1.2, hk.2⟩⟩⟩⟩)⟩, ⟨by (with_reducible repeat (first | apply Kd.zaG | apply Kd.zaB | apply Kd.zaK)); exact Kd.zaQ HO326.out (fun _ hk => ⟨hk.1.1.2, ⟨hk.1.2, ⟨hk.1.1.1.1.1, hk.2⟩⟩⟩)⟩, ⟨by (with_reducible repeat (first | apply Kd.zaG | apply Kd.zaB | apply Kd.zaK)); exact Kd.zaQ HO331.out (fun _ hk => ⟨hk.1.2, ⟨hk.2, hk.1.1.1.1⟩⟩)⟩, ⟨xk BK300.out⟩, ⟨xk BK301.out⟩, ⟨xk BK317.out⟩, ⟨xk BK322.out⟩, ⟨xk BK327.out⟩, ⟨xk BK333.out⟩, ⟨bh HB.out⟩⟩
    ·replace c74 := Bool.eq_false_iff.mpr c74
     subst c74
     rw [if_neg (show ¬ (false = true) by decide)] at H
     have H' := ax H
     clear H
     have hnb87 := NB333_300.out
     have hnc87 := NB300_333.out
     have hnb88 := NB333_301.out
     have hnc88 := NB301_333.out
     have hnb89 := NB333_317.out
     have hnc89 := NB317_333.out
     have hnb90 := NB333_322.out
     have hnc90 := NB322_333.out
     have hnb91 := NB333_327.out
     have hnc91 := NB327_333.out
     have hcz92_0 := bc0 BK333.out
     have hcz92_1 := bc1 BK333.out
     have hfz92_0 := zag BK333.out 0
     have hfz92_1 := zag BK333.out 1
     have hnb93 := NB317_300.out
     have hnc93 := NB300_317.out
     have hnb94 := NB317_301.out
     have hnc94 := NB301_317.out
     have hnb95 := NB317_322.out
     have hnc95 := NB322_317.out
     have hnb96 := NB317_327.out
     have hnc96 := NB327_317.out
     have hcz97_0 := bc0 BK317.out
     have hcz97_1 := bc1 BK317.out
     have hfz97_0 := zag BK317.out 0
     have hfz97_1 := zag BK317.out 1
     go_wp2_with (first | ((with_reducible refine zat (f := 11) rfl ?_); refine za2 (some 47) rfl rfl Try.func11 (by kernel_rfl) rfl #[.agg #[.int .i64 t328, .slice Ao72 t329.length co72], .agg #[.int .i64 t312, .slice Ao42 t313.length co42]] rfl xm ?_; (with_reducible refine (zbe.calls k t328 _ _ t329 t312 _ _ t313 false _ ?side1 ?side2 ?side3 ?side4 A73.out).mono ?_); (case side1 => refine (Kd.zaI (e := 48) (base := w.heap.size) (ok := fun k_ => ((((k_ ≠ dmI N383_ k_ ∧ some k_ ≠ (v306 : Value).ownBlock) ∧ some k_ ≠ (v310 : Value).ownBlock) ∧ some k_ ≠ (.slice Ao52 t319.length co52 : Value).ownBlock) ∧ some k_ ≠ (.slice Ao62 t324.length co62 : Value).ownBlock)) (n := t329.length) (c := co72) ?_).2.2; exact (by (with_reducible repeat (first | apply Kd.zaG | apply Kd.zaB | apply Kd.zaK)); exact (f2S HO331.out BK333.out (.int .i64 t328) (.slice Ao72 t329.length co72)))); (case side2 => exact (Kd.zaI HO331.out).2.1); (case side3 => refine (Kd.zbl (e := 48) (base := w.heap.size) (ok := fun k_ => ((((((((((some k_ ≠ (v306 : Value).ownBlock ∧ (some k_ ≠ (v310 : Value).ownBlock ∧ (k_ ≠ gb300 ∧ (k_ ≠ gb301 ∧ k_ ≠ gb317)))) ∧ some k_ ≠ (.slice Ao52 t319.length co52 : Value).ownBlock) ∧ k_ ≠ dmO N379_ k_) ∧ k_ ≠ gb322) ∧ some k_ ≠ (.slice Ao62 t324.length co62 : Value).ownBlock) ∧ k_ ≠ dmO N381_ k_) ∧ k_ ≠ gb327) ∧ some k_ ≠ (.slice Ao72 t329.length co72 : Value).ownBlock) ∧ k_ ≠ dmO N383_ k_) ∧ k_ ≠ gb333)) (n := t313.length) (c := co42) ?_).2.2; exact (by (with_reducible repeat (first | apply Kd.zbv | apply Kd.zbu | apply Kd.zbs)); exact (Kd.za3 (Kd.zb7 (p := ⟨gb333, 1, none⟩) (Kd.zb7 (p := ⟨gb333, 0, none⟩) (Kd.za3 HO315.out (fun k_ hk => (⟨hk, hk.2⟩ : _ ∧ k_ ≠ gb333))) (fun _ hk => hk.2) (.int .i64 t328)) (fun _ hk => hk.2) (.slice Ao72 t329.length co72)) (fun _ h_ => h_.1)))); (case side4 => exact (Kd.zbl HO315.out).2.1); rintro e w98 ⟨rfl, hb⟩; refine ⟨_, rfl, ?_⟩; replace HO307 := ax (Kd.zaF (by (with_reducible repeat (first | apply Kd.zaG | apply Kd.zaB | apply Kd.zaK)); exact (f2S HO307.out BK333.out (.int .i64 t328) (.slice Ao72 t329.length co72))) hb); replace HO311 := ax (Kd.zaF (by (with_reducible repeat (first | apply Kd.zaG | apply Kd.zaB | apply Kd.zaK)); exact (f2S HO311.out BK333.out (.int .i64 t328) (.slice Ao72 t329.length co72))) hb); replace HO315 := ax (Kd.zbR (by (with_reducible repeat (first | apply Kd.zbv | apply Kd.zbu | apply Kd.zbs)); exact (Kd.za3 (Kd.zb7 (p := ⟨gb333, 1, none⟩) (Kd.zb7 (p := ⟨gb333, 0, none⟩) (Kd.za3 HO315.out (fun k_ hk => (⟨hk, hk.2⟩ : _ ∧ k_ ≠ gb333))) (fun _ hk => hk.2) (.int .i64 t328)) (fun _ hk => hk.2) (.slice Ao72 t329.length co72)) (fun _ h_ => h_.1))) hb); replace HO321 := ax (Kd.zaF (by (with_reducible repeat (first | apply Kd.zaG | apply Kd.zaB | apply Kd.zaK)); exact (f2S HO321.out BK333.out (.int .i64 t328) (.slice Ao72 t329.length co72))) hb); replace HO326 := ax (Kd.zaF (by (with_reducible repeat (first | apply Kd.zaG | apply Kd.zaB | apply Kd.zaK)); exact (f2S HO326.out BK333.out (.int .i64 t328) (.slice Ao72 t329.length co72))) hb); replace HO331 := ax (Kd.zaF (by (with_reducible repeat (first | apply Kd.zaG | apply Kd.zaB | apply Kd.zaK)); exact (f2S HO331.out BK333.out (.int .i64 t328) (.slice Ao72 t329.length co72))) hb); replace BK300 := ax (zaZ (g := gb300) (o := .cells #[.int .i64 a0_0, .slice A0_1 l0_1.length c0_1] 24 (0, 0)) (by (with_reducible repeat (first | refine zah ?_ _ | refine zad ?_ | refine zae ?_ _)); refine zaD ?_ NB300_333.out _; (with_reducible repeat (first | refine zah ?_ _ | refine zad ?_ | refine zae ?_ _)); refine zaD ?_ NB300_333.out _; (with_reducible repeat (first | refine zah ?_ _ | refine zad ?_ | refine zae ?_ _)); exact BK300.out) hb); replace BK301 := ax (zaZ (g := gb301) (o := .cells #[.int .i64 a1_0, .slice A1_1 l1_1.length c1_1] 24 (0, 0)) (by (with_reducible repeat (first | refine zah ?_ _ | refine zad ?_ | refine zae ?_ _)); refine zaD ?_ NB301_333.out _; (with_reducible repeat (first | refine zah ?_ _ | refine zad ?_ | refine zae ?_ _)); refine zaD ?_ NB301_333.out _; (with_reducible repeat (first | refine zah ?_ _ | refine zad ?_ | refine zae ?_ _)); exact BK301.out) hb); replace BK317 := ax (zaZ (g := gb317) (o := .cells #[.int .i64 t312, .slice Ao42 t313.length co42] 28 (0, 0)) (by (with_reducible repeat (first | refine zah ?_ _ | refine zad ?_ | refine zae ?_ _)); refine zaD ?_ NB317_333.out _; (with_reducible repeat (first | refine zah ?_ _ | refine zad ?_ | refine zae ?_ _)); refine zaD ?_ NB317_333.out _; (with_reducible repeat (first | refine zah ?_ _ | refine zad ?_ | refine zae ?_ _)); exact BK317.out) hb); replace BK322 := ax (zaZ (g := gb322) (o := .cells #[.int .i64 t318, .slice Ao52 t319.length co52] 28 (0, 0)) (by (with_reducible repeat (first | refine zah ?_ _ | refine zad ?_ | refine zae ?_ _)); refine zaD ?_ NB322_333.out _; (with_reducible repeat (first | refine zah ?_ _ | refine zad ?_ | refine zae ?_ _)); refine zaD ?_ NB322_333.out _; (with_reducible repeat (first | refine zah ?_ _ | refine zad ?_ | refine zae ?_ _)); exact BK322.out) hb); replace BK327 := ax (zaZ (g := gb327) (o := .cells #[.int .i64 t323, .slice Ao62 t324.length co62] 28 (0, 0)) (by (with_reducible repeat (first | refine zah ?_ _ | refine zad ?_ | refine zae ?_ _)); refine zaD ?_ NB327_333.out _; (with_reducible repeat (first | refine zah ?_ _ | refine zad ?_ | refine zae ?_ _)); refine zaD ?_ NB327_333.out _; (with_reducible repeat (first | refine zah ?_ _ | refine zad ?_ | refine zae ?_ _)); exact BK327.out) hb); replace BK333 := ax (zaZ (g := gb333) (o := .cells #[.int .i64 t328, .slice Ao72 t329.length co72] 28 (0, 0)) (by (with_reducible repeat (first | refine zah ?_ _ | refine zad ?_ | refine zae ?_ _)); refine zba (cs := #[.int .i64 t328, .slice none 0 0]) ?_ 1 _ rfl; (with_reducible repeat (first | refine zah ?_ _ | refine zad ?_ | refine zae ?_ _)); refine zba (cs := #[.int .i64 0, .slice none 0 0]) ?_ 0 _ rfl; (with_reducible repeat (first | refine zah ?_ _ | refine zad ?_ | refine zae ?_ _)); exact BK333.out) hb); replace HB := ax (zas (bh HB.out) hb); (try clear hb)))
     go_meet
     case rel => exact ⟨_, (true), xr, H', ⟨by first | omega | exact Nat.le_refl _⟩, ⟨by (with_reducible repeat (first | apply Kd.zbv | apply Kd.zbu | apply Kd.zbs)); exact Kd.za3 HO315.out bq⟩, ⟨by (with_reducible repeat (first | apply Kd.zaG | apply Kd.zaB | apply Kd.zaK)); exact Kd.zaQ HO321.out (fun _ hk => ⟨hk.1.1.1.2, ⟨hk.1.2, ⟨hk.1.1.1.1.1.1, ⟨hk.1.1.2, hk.2⟩⟩⟩⟩)⟩, ⟨by (with_reducible repeat (first | apply Kd.zaG | apply Kd.zaB | apply Kd.zaK)); exact Kd.zaQ HO326.out (fun _ hk => ⟨hk.1.1.2, ⟨hk.1.2, ⟨hk.1.1.1.1.1, hk.2⟩⟩⟩)⟩, ⟨by (with_reducible repeat (first | apply Kd.zaG | apply Kd.zaB | apply Kd.zaK)); exact Kd.zaQ HO331.out (fun _ hk => ⟨hk.1.2, ⟨hk.2, hk.1.1.1.1⟩⟩)⟩, ⟨xk BK300.out⟩, ⟨xk BK301.out⟩, ⟨xk BK317.out⟩, ⟨xk BK322.out⟩, ⟨xk BK327.out⟩, ⟨xk BK333.out⟩, ⟨bh HB.out⟩⟩
   case rest =>
    clear HC25
    (try clear c4); (try clear c11); (try clear c74); (try clear hcz45_0); (try clear hcz45_1); (try clear hcz51_0); (try clear hcz51_1); (try clear hcz54_0); (try clear hcz54_1); (try clear hcz61_0); (try clear hcz61_1); (try clear hcz63_0); (try clear hcz63_1); (try clear hcz71_0); (try clear hcz71_1); (try clear hcz80_0); (try clear hcz80_1); (try clear hcz85_0); (try clear hcz85_1); (try clear hcz92_0); (try clear hcz92_1); (try clear hcz97_0); (try clear hcz97_1); (try clear hfz45_0); (try clear hfz45_1); (try clear hfz51_0); (try clear hfz51_1); (try clear hfz54_0); (try clear hfz54_1); (try clear hfz61_0); (try clear hfz61_1); (try clear hfz63_0); (try clear hfz63_1); (try clear hfz71_0); (try clear hfz71_1); (try clear hfz80_0); (try clear hfz80_1); (try clear hfz85_0); (try clear hfz85_1); (try clear hfz92_0); (try clear hfz92_1); (try clear hfz97_0); (try clear hfz97_1)
    obtain ⟨kq, x53_24, rfl, HA, HJ24, HO_1003, HO_1000, HO_1002, HO_1001, BK300, BK301, BK317, BK322, BK327, BK333, HB⟩ := hcut
    cases kq with
    | zero => exact absurd HA.out (by simp [zak.j0])
    | succ kj24 =>
     have H := HA.out
     clear HA
     simp only [zak.j0] at H
     by_cases c99 : x53_24 = true
     ·subst c99
      rw [if_pos rfl] at H
      obtain rfl := Option.some.inj H
      go_wp2
      go_ret
      exact ⟨xe, bh HB.out⟩
     ·replace c99 := Bool.eq_false_iff.mpr c99
      subst c99
      rw [if_neg (show ¬ (false = true) by decide)] at H
      obtain ⟨⟨t335, t336⟩, A100, H⟩ := xI H
      dsimp only at H
      obtain ⟨t339, A101, H⟩ := xI H
      by_cases c102 : t339 = true
      ·subst c102
       rw [if_pos rfl] at H
       obtain ⟨⟨t340, t341⟩, A103, H⟩ := xI H
       dsimp only at H
       obtain ⟨t344, A104, H⟩ := xI H
       by_cases c105 : t344 = true
       ·subst c105
        rw [if_pos rfl] at H
        obtain ⟨⟨t345, t346⟩, A106, H⟩ := xI H
        dsimp only at H
        obtain ⟨⟨t347, t348⟩, A107, H⟩ := xI H
        dsimp only at H
        have HC108 := ax H
        clear H
        try go_wp2
        replace HO_1003 := ax (Kd.zbs HO_1003.out); replace HO_1000 := ax (Kd.zaK HO_1000.out); replace HO_1002 := ax (Kd.zaK HO_1002.out); replace HO_1001 := ax (Kd.zaK HO_1001.out); replace BK300 := ax (zad BK300.out); replace BK301 := ax (zad BK301.out); replace BK317 := ax (zad BK317.out); replace BK322 := ax (zad BK322.out); replace BK327 := ax (zad BK327.out); replace BK333 := ax (zad BK333.out); replace HB := ax (zaN HB.out)
        refine zbG (n := 5) (S := fun w' => w'.cell? ⟨gb322, 0, none⟩ = some (.int .i64 t318) ∧ w'.cell? ⟨gb322, 1, none⟩ = some (.slice Ao52 t319.length co52) ∧ w'.cell? ⟨gb300, 0, none⟩ = some (.int .i64 a0_0) ∧ w'.cell? ⟨gb300, 1, none⟩ = some (.slice A0_1 l0_1.length c0_1)) (ds := []) (xB 5 0) (by kernel_rfl) rfl (by kernel_rfl) ⟨(zai BK322.out 0).trans rfl, (zai BK322.out 1).trans rfl, (zai BK300.out 0).trans rfl, (zai BK300.out 1).trans rfl⟩ (fun hHeld => ?_)
        generalize wc.drew = w109 at HO_1003 HO_1000 HO_1002 HO_1001 BK300 BK301 BK317 BK322 BK327 BK333 HB hHeld ⊢
        refine zdB (i := 0) (N := some 54) (v := ?_) (a' := ?_) (xB 5 1) rfl rfl (by kernel_rfl) (fun _ _ _ h => h) (Or.inl ⟨by rfl, ?_⟩) hHeld ?_ ?_
        rotate_left
        ·rintro w' ⟨s0, s1, s2, s3⟩
         go_simp
         with_reducible rfl
        rotate_left
        ·simp only [Act.put, List.setIfInBounds_toArray, List.set_cons_zero, List.set_cons_succ, zbP, zb8]
         rfl
        refine zdB (i := 1) (N := some 55) (v := ?_) (a' := ?_) (xB 5 3) rfl rfl (by kernel_rfl) (fun _ _ _ h => h) (Or.inl ⟨by rfl, ?_⟩) hHeld ?_ ?_
        rotate_left
        ·rintro w' ⟨s0, s1, s2, s3⟩
         go_simp
         with_reducible rfl
        rotate_left
        ·simp only [Act.put, List.setIfInBounds_toArray, List.set_cons_zero, List.set_cons_succ, zbP, zb8]
         rfl
        refine one_ (i := 2) (N := some 56) (xB 5 7) rfl rfl (by kernel_rfl) (by decide) (fun K hK => ?_)
        refine zbM Try.func9 (by kernel_rfl) rfl #[.agg #[.int .i64 a0_0, .slice A0_1 l0_1.length c0_1]] (by rfl) rfl rfl xm ?_
        with_reducible refine (zaX.calls kj24 a0_0 _ _ l0_1 t335 t336 _ ?side1 ?side2 A100.out).mono ?_
        (case side1 => exact xz HR0_1.out HB.out)
        (case side2 => exact HC0_1.out)
        rintro e w110 ⟨v337, rfl, ho0, hb⟩
        refine ⟨_, rfl, ?_⟩
        replace ho0 := Kd.zc3 ho0
        obtain ⟨N385_, ho0, hN385_⟩ := ho0
        replace HO_1003 := ax (Kd.zb4 (xV HO_1003.out) hN385_ (Kd.za9 ho0) hb); have HO338 := ax (Kd.zbS (Kd.zbk (Kd.zbk (Kd.zbk ho0 (Kd.S_lt (xS HO_1000.out))) (Kd.S_lt (xS HO_1002.out))) (Kd.S_lt (xS HO_1001.out))) (zaj (bh HB.out))); replace HO_1000 := ax (Kd.zaR (xS HO_1000.out) hN385_ (Kd.za9 ho0) hb); replace HO_1002 := ax (Kd.zaR (xS HO_1002.out) hN385_ (Kd.za9 ho0) hb); replace HO_1001 := ax (Kd.zaR (xS HO_1001.out) hN385_ (Kd.za9 ho0) hb); replace BK300 := ax (bb BK300.out hb); replace BK301 := ax (bb BK301.out hb); replace BK317 := ax (bb BK317.out hb); replace BK322 := ax (bb BK322.out hb); replace BK327 := ax (bb BK327.out hb); replace BK333 := ax (bb BK333.out hb); replace HB := ax (zas (bh HB.out) hb)
        (try clear hb)
        (try clear hk)
        (try clear ho0)
        (try clear hN385_)
        obtain ⟨Ao111, co111, eo111⟩ := Kd.zbB HO338.out
        (first | subst eo111 | (injection eo111 with f1_ f2_ f3_; have f4_ := f1_.symm; have f5_ := f3_.symm; clear f1_ f2_ f3_; subst f4_; subst f5_))
        refine hK.out _ _ ⟨(zai BK322.out 0).trans rfl, (zai BK322.out 1).trans rfl, (zai BK300.out 0).trans rfl, (zai BK300.out 1).trans rfl⟩ (fun hHeld => ?_)
        clear hK K
        refine nm ?_
        refine one_ (i := 3) (N := some 57) (xB 5 15) rfl rfl (by kernel_rfl) (by decide) (fun K hK => ?_)
        refine zbM Try.func11 (by kernel_rfl) rfl #[.agg #[.int .i64 t318, .slice Ao52 t319.length co52], .agg #[.int .i64 t335, .slice Ao111 t336.length co111]] (by rfl) rfl rfl xm ?_
        with_reducible refine (zbe.calls kj24 t318 _ _ t319 t335 _ _ t336 true _ ?side1 ?side2 ?side3 ?side4 A101.out).mono ?_
        (case side1 => exact xc (Kd.zaI HO_1000.out).2.2)
        (case side2 => exact (Kd.zaI HO_1000.out).2.1)
        (case side3 => exact xc (Kd.zaI HO338.out).2.2)
        (case side4 => exact (Kd.zaI HO338.out).2.1)
        rintro e w112 ⟨rfl, hb⟩
        refine ⟨_, rfl, ?_⟩
        replace HO_1003 := yV HO_1003 hb; replace HO_1000 := ax (Kd.zaF (xS HO_1000.out) hb); replace HO_1002 := ax (Kd.zaF (xS HO_1002.out) hb); replace HO_1001 := ax (Kd.zaF (xS HO_1001.out) hb); replace HO338 := ax (Kd.zaF (xS HO338.out) hb); replace BK300 := ax (bb BK300.out hb); replace BK301 := ax (bb BK301.out hb); replace BK317 := ax (bb BK317.out hb); replace BK322 := ax (bb BK322.out hb); replace BK327 := ax (bb BK327.out hb); replace BK333 := ax (bb BK333.out hb); replace HB := ax (zas (bh HB.out) hb)
        (try clear hb)
        (try clear hk)
        refine hK.out _ _ ⟨(zai BK322.out 0).trans rfl, (zai BK322.out 1).trans rfl, (zai BK300.out 0).trans rfl, (zai BK300.out 1).trans rfl⟩ (fun hHeld => ?_)
        clear hK K
        refine nm ?_
        refine zdD (i := 4) (N := some 58) (v := ?_) (a' := ?_) (xB 5 31) rfl rfl (by kernel_rfl) (fun _ _ _ h => h) (Or.inl ⟨by rfl, ?_⟩) ?_ ?_
        rotate_left
        ·intro w'
         go_simp
         with_reducible rfl
        rotate_left
        ·simp only [Act.put, List.setIfInBounds_toArray, List.set_cons_zero, List.set_cons_succ, zbP, zb8]
         rfl
        refine zb5 (by kernel_rfl) ?_
        try go_wp2
        replace HO_1003 := ax (Kd.zbs HO_1003.out); replace HO_1000 := ax (Kd.zaK HO_1000.out); replace HO_1002 := ax (Kd.zaK HO_1002.out); replace HO_1001 := ax (Kd.zaK HO_1001.out); replace HO338 := ax (Kd.zaK HO338.out); replace BK300 := ax (zad BK300.out); replace BK301 := ax (zad BK301.out); replace BK317 := ax (zad BK317.out); replace BK322 := ax (zad BK322.out); replace BK327 := ax (zad BK327.out); replace BK333 := ax (zad BK333.out); replace HB := ax (zaN HB.out)
        refine zbG (n := 5) (S := fun w' => w'.cell? ⟨gb327, 0, none⟩ = some (.int .i64 t323) ∧ w'.cell? ⟨gb327, 1, none⟩ = some (.slice Ao62 t324.length co62) ∧ w'.cell? ⟨gb301, 0, none⟩ = some (.int .i64 a1_0) ∧ w'.cell? ⟨gb301, 1, none⟩ = some (.slice A1_1 l1_1.length c1_1)) (ds := []) (xB 5 0) (by kernel_rfl) rfl (by kernel_rfl) ⟨(zai BK327.out 0).trans rfl, (zai BK327.out 1).trans rfl, (zai BK301.out 0).trans rfl, (zai BK301.out 1).trans rfl⟩ (fun hHeld => ?_)
        generalize w112.drew = w113 at HO_1003 HO_1000 HO_1002 HO_1001 HO338 BK300 BK301 BK317 BK322 BK327 BK333 HB hHeld ⊢
        refine zdB (i := 0) (N := some 59) (v := ?_) (a' := ?_) (xB 5 1) rfl rfl (by kernel_rfl) (fun _ _ _ h => h) (Or.inl ⟨by rfl, ?_⟩) hHeld ?_ ?_
        rotate_left
        ·rintro w' ⟨s0, s1, s2, s3⟩
         go_simp
         with_reducible rfl
        rotate_left
        ·simp only [Act.put, List.setIfInBounds_toArray, List.set_cons_zero, List.set_cons_succ, zbP, zb8]
         rfl
        refine zdB (i := 1) (N := some 60) (v := ?_) (a' := ?_) (xB 5 3) rfl rfl (by kernel_rfl) (fun _ _ _ h => h) (Or.inl ⟨by rfl, ?_⟩) hHeld ?_ ?_
        rotate_left
        ·rintro w' ⟨s0, s1, s2, s3⟩
         go_simp
         with_reducible rfl
        rotate_left
        ·simp only [Act.put, List.setIfInBounds_toArray, List.set_cons_zero, List.set_cons_succ, zbP, zb8]
         rfl
        refine one_ (i := 2) (N := some 61) (xB 5 7) rfl rfl (by kernel_rfl) (by decide) (fun K hK => ?_)
        refine zbM Try.func9 (by kernel_rfl) rfl #[.agg #[.int .i64 a1_0, .slice A1_1 l1_1.length c1_1]] (by rfl) rfl rfl xm ?_
        with_reducible refine (zaX.calls kj24 a1_0 _ _ l1_1 t340 t341 _ ?side1 ?side2 A103.out).mono ?_
        (case side1 => exact xz HR1_1.out HB.out)
        (case side2 => exact HC1_1.out)
        rintro e w114 ⟨v342, rfl, ho0, hb⟩
        refine ⟨_, rfl, ?_⟩
        replace ho0 := Kd.zc3 ho0
        obtain ⟨N387_, ho0, hN387_⟩ := ho0
        replace HO_1003 := ax (Kd.zb4 (xV HO_1003.out) hN387_ (Kd.za9 ho0) hb); have HO343 := ax (Kd.zbS (Kd.zbk (Kd.zbk (Kd.zbk (Kd.zbk ho0 (Kd.S_lt (xS HO_1000.out))) (Kd.S_lt (xS HO_1002.out))) (Kd.S_lt (xS HO_1001.out))) (Kd.S_lt (xS HO338.out))) (zaj (bh HB.out))); replace HO_1000 := ax (Kd.zaR (xS HO_1000.out) hN387_ (Kd.za9 ho0) hb); replace HO_1002 := ax (Kd.zaR (xS HO_1002.out) hN387_ (Kd.za9 ho0) hb); replace HO_1001 := ax (Kd.zaR (xS HO_1001.out) hN387_ (Kd.za9 ho0) hb); replace HO338 := ax (Kd.zaR (xS HO338.out) hN387_ (Kd.za9 ho0) hb); replace BK300 := ax (bb BK300.out hb); replace BK301 := ax (bb BK301.out hb); replace BK317 := ax (bb BK317.out hb); replace BK322 := ax (bb BK322.out hb); replace BK327 := ax (bb BK327.out hb); replace BK333 := ax (bb BK333.out hb); replace HB := ax (zas (bh HB.out) hb)
        (try clear hb)
        (try clear hk)
        (try clear ho0)
        (try clear hN387_)
        obtain ⟨Ao115, co115, eo115⟩ := Kd.zbB HO343.out
        (first | subst eo115 | (injection eo115 with f1_ f2_ f3_; have f4_ := f1_.symm; have f5_ := f3_.symm; clear f1_ f2_ f3_; subst f4_; subst f5_))
        refine hK.out _ _ ⟨(zai BK327.out 0).trans rfl, (zai BK327.out 1).trans rfl, (zai BK301.out 0).trans rfl, (zai BK301.out 1).trans rfl⟩ (fun hHeld => ?_)
        clear hK K
        refine nm ?_
        refine one_ (i := 3) (N := some 62) (xB 5 15) rfl rfl (by kernel_rfl) (by decide) (fun K hK => ?_)
        refine zbM Try.func11 (by kernel_rfl) rfl #[.agg #[.int .i64 t323, .slice Ao62 t324.length co62], .agg #[.int .i64 t340, .slice Ao115 t341.length co115]] (by rfl) rfl rfl xm ?_
        with_reducible refine (zbe.calls kj24 t323 _ _ t324 t340 _ _ t341 true _ ?side1 ?side2 ?side3 ?side4 A104.out).mono ?_
        (case side1 => exact xc (Kd.zaI HO_1002.out).2.2)
        (case side2 => exact (Kd.zaI HO_1002.out).2.1)
        (case side3 => exact xc (Kd.zaI HO343.out).2.2)
        (case side4 => exact (Kd.zaI HO343.out).2.1)
        rintro e w116 ⟨rfl, hb⟩
        refine ⟨_, rfl, ?_⟩
        replace HO_1003 := yV HO_1003 hb; replace HO_1000 := ax (Kd.zaF (xS HO_1000.out) hb); replace HO_1002 := ax (Kd.zaF (xS HO_1002.out) hb); replace HO_1001 := ax (Kd.zaF (xS HO_1001.out) hb); replace HO338 := ax (Kd.zaF (xS HO338.out) hb); replace HO343 := ax (Kd.zaF (xS HO343.out) hb); replace BK300 := ax (bb BK300.out hb); replace BK301 := ax (bb BK301.out hb); replace BK317 := ax (bb BK317.out hb); replace BK322 := ax (bb BK322.out hb); replace BK327 := ax (bb BK327.out hb); replace BK333 := ax (bb BK333.out hb); replace HB := ax (zas (bh HB.out) hb)
        (try clear hb)
        (try clear hk)
        refine hK.out _ _ ⟨(zai BK327.out 0).trans rfl, (zai BK327.out 1).trans rfl, (zai BK301.out 0).trans rfl, (zai BK301.out 1).trans rfl⟩ (fun hHeld => ?_)
        clear hK K
        refine nm ?_
        refine zdD (i := 4) (N := some 63) (v := ?_) (a' := ?_) (xB 5 31) rfl rfl (by kernel_rfl) (fun _ _ _ h => h) (Or.inl ⟨by rfl, ?_⟩) ?_ ?_
        rotate_left
        ·intro w'
         go_simp
         with_reducible rfl
        rotate_left
        ·simp only [Act.put, List.setIfInBounds_toArray, List.set_cons_zero, List.set_cons_succ, zbP, zb8]
         rfl
        refine zb5 (by kernel_rfl) ?_
        have hnb117 := NB322_300.out
        have hnc117 := NB300_322.out
        have hnb118 := NB322_301.out
        have hnc118 := NB301_322.out
        have hnb119 := NB322_317.out
        have hnc119 := NB317_322.out
        have hnb120 := NB322_327.out
        have hnc120 := NB327_322.out
        have hnb121 := NB322_333.out
        have hnc121 := NB333_322.out
        have hcz122_0 := bc0 BK322.out
        have hcz122_1 := bc1 BK322.out
        have hfz122_0 := zag BK322.out 0
        have hfz122_1 := zag BK322.out 1
        go_upto_region 21 with (first | ((with_reducible refine zat (f := 12) rfl ?_); refine za2 (some 66) rfl rfl Try.func12 (by kernel_rfl) rfl #[.agg #[.int .i64 t318, .slice Ao52 t319.length co52], .int .i64 1] rfl xm ?_; (with_reducible refine (zbm.calls kj24 t318 ?pp1_ (.slice Ao52 t319.length co52) t319 1 t345 t346 w _ ?side1 ?side2 A106.out).mono ?_); (case side1 => exact bh HB.out); (case side2 => first | exact Kd.zcF HO_1000.out | (refine Kd.zcF ?_; (with_reducible repeat (first | apply Kd.zaG | apply Kd.zaB | apply Kd.zaK)); exact HO_1000.out)); rintro e w123 ⟨rfl, hy0, hb, hkp⟩; refine ⟨_, rfl, ?_⟩; have n0_ := ax (Kd.za3 (ok' := fun k_ => some k_ ≠ (.slice Ao52 t319.length co52 : Value).ownBlock ∧ some k_ ≠ (.slice Ao62 t324.length co62 : Value).ownBlock ∧ some k_ ≠ (.slice Ao72 t329.length co72 : Value).ownBlock ∧ some k_ ≠ (.slice Ao111 t336.length co111 : Value).ownBlock ∧ some k_ ≠ (.slice Ao115 t341.length co115 : Value).ownBlock ∧ k_ ≠ gb300 ∧ k_ ≠ gb301 ∧ k_ ≠ gb317 ∧ k_ ≠ gb322 ∧ k_ ≠ gb327 ∧ k_ ≠ gb333 ∧ k_ ≠ dmO N379_ k_ ∧ k_ ≠ dmO N381_ k_ ∧ k_ ≠ dmO N383_ k_ ∧ k_ ≠ dmO N385_ k_ ∧ k_ ≠ dmO N387_ k_) (Kd.zdZ (HO_1003.out) hkp (fun k_ hk_ hs_ => dmNo hs_.1.1.1.1.1.2.2.1 hk_.1.1.1.1.2.2.2.2.2.2.2.2.2.1)) bq); have n1_ := ax (Kd.zaQ hy0 (fun k_ hk_ => hk_.1)); (first | have n2_ := ax (Kd.zaQ (ok' := fun k_ => some k_ ≠ (.slice Ao52 t319.length co52 : Value).ownBlock ∧ some k_ ≠ (.slice Ao72 t329.length co72 : Value).ownBlock ∧ some k_ ≠ (.slice Ao111 t336.length co111 : Value).ownBlock ∧ some k_ ≠ (.slice Ao115 t341.length co115 : Value).ownBlock ∧ k_ ≠ dmI N381_ k_ ∧ k_ ≠ dmO N383_ k_ ∧ k_ ≠ dmO N385_ k_ ∧ k_ ≠ dmO N387_ k_) (Kd.zbL (HO_1002.out) hkp (fun k_ hk_ hs_ => dmNo hk_.1.1.1.1.2.2.1 hs_.1.1.1.1.1.2.2.2.1)) bq) | have n2_ := ax (Kd.zaQ (ok' := fun k_ => some k_ ≠ (.slice Ao52 t319.length co52 : Value).ownBlock ∧ some k_ ≠ (.slice Ao72 t329.length co72 : Value).ownBlock ∧ some k_ ≠ (.slice Ao111 t336.length co111 : Value).ownBlock ∧ some k_ ≠ (.slice Ao115 t341.length co115 : Value).ownBlock ∧ k_ ≠ dmI N381_ k_ ∧ k_ ≠ dmO N383_ k_ ∧ k_ ≠ dmO N385_ k_ ∧ k_ ≠ dmO N387_ k_) (Kd.zbL (Kd.zaB HO_1002.out _) hkp (fun k_ hk_ hs_ => dmNo hk_.1.1.1.1.2.2.1 hs_.1.1.1.1.1.2.2.2.1)) bq)); (first | have n3_ := ax (Kd.zaQ (ok' := fun k_ => some k_ ≠ (.slice Ao52 t319.length co52 : Value).ownBlock ∧ some k_ ≠ (.slice Ao62 t324.length co62 : Value).ownBlock ∧ some k_ ≠ (.slice Ao111 t336.length co111 : Value).ownBlock ∧ some k_ ≠ (.slice Ao115 t341.length co115 : Value).ownBlock ∧ k_ ≠ dmI N383_ k_ ∧ k_ ≠ dmO N385_ k_ ∧ k_ ≠ dmO N387_ k_) (Kd.zbL (HO_1001.out) hkp (fun k_ hk_ hs_ => dmNo hk_.1.1.1.1.2.2 hs_.1.1.1.1.1.2.2.2.2)) bq) | have n3_ := ax (Kd.zaQ (ok' := fun k_ => some k_ ≠ (.slice Ao52 t319.length co52 : Value).ownBlock ∧ some k_ ≠ (.slice Ao62 t324.length co62 : Value).ownBlock ∧ some k_ ≠ (.slice Ao111 t336.length co111 : Value).ownBlock ∧ some k_ ≠ (.slice Ao115 t341.length co115 : Value).ownBlock ∧ k_ ≠ dmI N383_ k_ ∧ k_ ≠ dmO N385_ k_ ∧ k_ ≠ dmO N387_ k_) (Kd.zbL (Kd.zaB HO_1001.out _) hkp (fun k_ hk_ hs_ => dmNo hk_.1.1.1.1.2.2 hs_.1.1.1.1.1.2.2.2.2)) bq)); have n4_ := ax (zbo (xk BK300.out) hkp (fun hs_ => zcw BK300.out hs_.2 (by decide))); have n5_ := ax (zbo (xk BK301.out) hkp (fun hs_ => zcw BK301.out hs_.2 (by decide))); have n6_ := ax (zbo (xk BK317.out) hkp (fun hs_ => zcw BK317.out hs_.2 (by decide))); have n7_ := ax (zbo (xk BK322.out) hkp (fun hs_ => zcw BK322.out hs_.2 (by decide))); have n8_ := ax (zbo (xk BK327.out) hkp (fun hs_ => zcw BK327.out hs_.2 (by decide))); have n9_ := ax (zbo (xk BK333.out) hkp (fun hs_ => zcw BK333.out hs_.2 (by decide))); (first | have n10_ := ax (Kd.zaQ (ok' := fun k_ => some k_ ≠ (.slice Ao52 t319.length co52 : Value).ownBlock ∧ some k_ ≠ (.slice Ao62 t324.length co62 : Value).ownBlock ∧ some k_ ≠ (.slice Ao72 t329.length co72 : Value).ownBlock ∧ some k_ ≠ (.slice Ao115 t341.length co115 : Value).ownBlock ∧ k_ ≠ dmI N385_ k_ ∧ k_ ≠ dmO N387_ k_) (Kd.zbL (HO338.out) hkp (fun k_ hk_ hs_ => dmNo hk_.1.1.1.1.1 hs_.1.1.1.2)) bq) | have n10_ := ax (Kd.zaQ (ok' := fun k_ => some k_ ≠ (.slice Ao52 t319.length co52 : Value).ownBlock ∧ some k_ ≠ (.slice Ao62 t324.length co62 : Value).ownBlock ∧ some k_ ≠ (.slice Ao72 t329.length co72 : Value).ownBlock ∧ some k_ ≠ (.slice Ao115 t341.length co115 : Value).ownBlock ∧ k_ ≠ dmI N385_ k_ ∧ k_ ≠ dmO N387_ k_) (Kd.zbL (Kd.zaB HO338.out _) hkp (fun k_ hk_ hs_ => dmNo hk_.1.1.1.1.1 hs_.1.1.1.2)) bq)); (first | have n11_ := ax (Kd.zaQ (ok' := fun k_ => some k_ ≠ (.slice Ao52 t319.length co52 : Value).ownBlock ∧ some k_ ≠ (.slice Ao62 t324.length co62 : Value).ownBlock ∧ some k_ ≠ (.slice Ao72 t329.length co72 : Value).ownBlock ∧ some k_ ≠ (.slice Ao111 t336.length co111 : Value).ownBlock ∧ k_ ≠ dmI N387_ k_) (Kd.zbL (HO343.out) hkp (fun k_ hk_ hs_ => dmNo hk_.1.1.1.1 hs_.1.2)) (fun k_ hk_ => ⟨hk_.1.1.1.1.2, hk_.1.1.1.2, hk_.1.1.2, hk_.1.2, hk_.1.1.1.1.1⟩)) | have n11_ := ax (Kd.zaQ (ok' := fun k_ => some k_ ≠ (.slice Ao52 t319.length co52 : Value).ownBlock ∧ some k_ ≠ (.slice Ao62 t324.length co62 : Value).ownBlock ∧ some k_ ≠ (.slice Ao72 t329.length co72 : Value).ownBlock ∧ some k_ ≠ (.slice Ao111 t336.length co111 : Value).ownBlock ∧ k_ ≠ dmI N387_ k_) (Kd.zbL (Kd.zaB HO343.out _) hkp (fun k_ hk_ hs_ => dmNo hk_.1.1.1.1 hs_.1.2)) (fun k_ hk_ => ⟨hk_.1.1.1.1.2, hk_.1.1.1.2, hk_.1.1.2, hk_.1.2, hk_.1.1.1.1.1⟩))); have n12_ := ax (hb); clear HO_1003; clear HO_1000; clear HO_1002; clear HO_1001; clear BK300; clear BK301; clear BK317; clear BK322; clear BK327; clear BK333; clear HO338; clear HO343; clear HB; have HO_1003 := n0_; have HO_1000 := n1_; have HO_1002 := n2_; have HO_1001 := n3_; have BK300 := n4_; have BK301 := n5_; have BK317 := n6_; have BK322 := n7_; have BK327 := n8_; have BK333 := n9_; have HO338 := n10_; have HO343 := n11_; have HB := n12_; clear n0_ n1_ n2_ n3_ n4_ n5_ n6_ n7_ n8_ n9_ n10_ n11_ n12_; (try clear hb); (try clear hkp); (try clear hy0); have hnb124 := NB327_300.out; have hnc124 := NB300_327.out; have hnb125 := NB327_301.out; have hnc125 := NB301_327.out; have hnb126 := NB327_317.out; have hnc126 := NB317_327.out; have hnb127 := NB327_333.out; have hnc127 := NB333_327.out; have hcz128_0 := bc0 BK327.out; have hcz128_1 := bc1 BK327.out; have hfz128_0 := zag BK327.out 0; have hfz128_1 := zag BK327.out 1) | ((with_reducible refine zat (f := 12) rfl ?_); refine za2 (some 69) rfl rfl Try.func12 (by kernel_rfl) rfl #[.agg #[.int .i64 t323, .slice Ao62 t324.length co62], .int .i64 t345] rfl xm ?_; (with_reducible refine (zbm.calls kj24 t323 ?pp2_ (.slice Ao62 t324.length co62) t324 t345 t347 t348 w _ ?side1 ?side2 A107.out).mono ?_); (case side1 => exact bh HB.out); (case side2 => first | exact Kd.zcF HO_1002.out | (refine Kd.zcF ?_; (with_reducible repeat (first | apply Kd.zaG | apply Kd.zaB | apply Kd.zaK)); exact HO_1002.out)); rintro e w129 ⟨rfl, hy0, hb, hkp⟩; refine ⟨_, rfl, ?_⟩; have n0_ := ax (Kd.za3 (ok' := fun k_ => some k_ ≠ (.slice Ao52 t319.length co52 : Value).ownBlock ∧ some k_ ≠ (.slice Ao62 t324.length co62 : Value).ownBlock ∧ some k_ ≠ (.slice Ao72 t329.length co72 : Value).ownBlock ∧ some k_ ≠ (.slice Ao111 t336.length co111 : Value).ownBlock ∧ some k_ ≠ (.slice Ao115 t341.length co115 : Value).ownBlock ∧ k_ ≠ gb300 ∧ k_ ≠ gb301 ∧ k_ ≠ gb317 ∧ k_ ≠ gb322 ∧ k_ ≠ gb327 ∧ k_ ≠ gb333 ∧ k_ ≠ dmO N379_ k_ ∧ k_ ≠ dmO N381_ k_ ∧ k_ ≠ dmO N383_ k_ ∧ k_ ≠ dmO N385_ k_ ∧ k_ ≠ dmO N387_ k_) (Kd.zdZ (HO_1003.out) hkp (fun k_ hk_ hs_ => dmNo hs_.1.2.2.2.2.1 hk_.2.2.2.2.2.2.2.2.2.2.2.2.1)) bq); (first | have n1_ := ax (Kd.zaQ (ok' := fun k_ => some k_ ≠ (.slice Ao62 t324.length co62 : Value).ownBlock ∧ some k_ ≠ (.slice Ao72 t329.length co72 : Value).ownBlock ∧ some k_ ≠ (.slice Ao111 t336.length co111 : Value).ownBlock ∧ some k_ ≠ (.slice Ao115 t341.length co115 : Value).ownBlock ∧ k_ ≠ dmI N379_ k_ ∧ k_ ≠ dmO N381_ k_ ∧ k_ ≠ dmO N383_ k_ ∧ k_ ≠ dmO N385_ k_ ∧ k_ ≠ dmO N387_ k_) (Kd.zbL (HO_1000.out) hkp (fun k_ hk_ hs_ => dmNo hs_.1.2.2.2.2.1 hk_.1.1.1.1.2.2.2.1)) bq) | have n1_ := ax (Kd.zaQ (ok' := fun k_ => some k_ ≠ (.slice Ao62 t324.length co62 : Value).ownBlock ∧ some k_ ≠ (.slice Ao72 t329.length co72 : Value).ownBlock ∧ some k_ ≠ (.slice Ao111 t336.length co111 : Value).ownBlock ∧ some k_ ≠ (.slice Ao115 t341.length co115 : Value).ownBlock ∧ k_ ≠ dmI N379_ k_ ∧ k_ ≠ dmO N381_ k_ ∧ k_ ≠ dmO N383_ k_ ∧ k_ ≠ dmO N385_ k_ ∧ k_ ≠ dmO N387_ k_) (Kd.zbL (Kd.zaB HO_1000.out _) hkp (fun k_ hk_ hs_ => dmNo hs_.1.2.2.2.2.1 hk_.1.1.1.1.2.2.2.1)) bq)); have n2_ := ax (Kd.zaQ hy0 (fun k_ hk_ => hk_.1)); (first | have n3_ := ax (Kd.zaQ (ok' := fun k_ => some k_ ≠ (.slice Ao52 t319.length co52 : Value).ownBlock ∧ some k_ ≠ (.slice Ao62 t324.length co62 : Value).ownBlock ∧ some k_ ≠ (.slice Ao111 t336.length co111 : Value).ownBlock ∧ some k_ ≠ (.slice Ao115 t341.length co115 : Value).ownBlock ∧ k_ ≠ dmI N383_ k_ ∧ k_ ≠ dmO N385_ k_ ∧ k_ ≠ dmO N387_ k_) (Kd.zbL (HO_1001.out) hkp (fun k_ hk_ hs_ => dmNo hk_.2.2.2.2.1 hs_.1.2.2.2.2.2.1)) bq) | have n3_ := ax (Kd.zaQ (ok' := fun k_ => some k_ ≠ (.slice Ao52 t319.length co52 : Value).ownBlock ∧ some k_ ≠ (.slice Ao62 t324.length co62 : Value).ownBlock ∧ some k_ ≠ (.slice Ao111 t336.length co111 : Value).ownBlock ∧ some k_ ≠ (.slice Ao115 t341.length co115 : Value).ownBlock ∧ k_ ≠ dmI N383_ k_ ∧ k_ ≠ dmO N385_ k_ ∧ k_ ≠ dmO N387_ k_) (Kd.zbL (Kd.zaB HO_1001.out _) hkp (fun k_ hk_ hs_ => dmNo hk_.2.2.2.2.1 hs_.1.2.2.2.2.2.1)) bq)); have n4_ := ax (zbo (xk BK300.out) hkp (fun hs_ => zcw BK300.out hs_.2 (by decide))); have n5_ := ax (zbo (xk BK301.out) hkp (fun hs_ => zcw BK301.out hs_.2 (by decide))); have n6_ := ax (zbo (xk BK317.out) hkp (fun hs_ => zcw BK317.out hs_.2 (by decide))); have n7_ := ax (zbo (xk BK322.out) hkp (fun hs_ => zcw BK322.out hs_.2 (by decide))); have n8_ := ax (zbo (xk BK327.out) hkp (fun hs_ => zcw BK327.out hs_.2 (by decide))); have n9_ := ax (zbo (xk BK333.out) hkp (fun hs_ => zcw BK333.out hs_.2 (by decide))); (first | have n10_ := ax (Kd.zaQ (ok' := fun k_ => some k_ ≠ (.slice Ao52 t319.length co52 : Value).ownBlock ∧ some k_ ≠ (.slice Ao62 t324.length co62 : Value).ownBlock ∧ some k_ ≠ (.slice Ao72 t329.length co72 : Value).ownBlock ∧ some k_ ≠ (.slice Ao115 t341.length co115 : Value).ownBlock ∧ k_ ≠ dmI N385_ k_ ∧ k_ ≠ dmO N387_ k_) (Kd.zbL (HO338.out) hkp (fun k_ hk_ hs_ => dmNo hk_.2.2.2.2.1 hs_.1.2.2.2.2.2.2.1)) bq) | have n10_ := ax (Kd.zaQ (ok' := fun k_ => some k_ ≠ (.slice Ao52 t319.length co52 : Value).ownBlock ∧ some k_ ≠ (.slice Ao62 t324.length co62 : Value).ownBlock ∧ some k_ ≠ (.slice Ao72 t329.length co72 : Value).ownBlock ∧ some k_ ≠ (.slice Ao115 t341.length co115 : Value).ownBlock ∧ k_ ≠ dmI N385_ k_ ∧ k_ ≠ dmO N387_ k_) (Kd.zbL (Kd.zaB HO338.out _) hkp (fun k_ hk_ hs_ => dmNo hk_.2.2.2.2.1 hs_.1.2.2.2.2.2.2.1)) bq)); (first | have n11_ := ax (Kd.zaQ (ok' := fun k_ => some k_ ≠ (.slice Ao52 t319.length co52 : Value).ownBlock ∧ some k_ ≠ (.slice Ao62 t324.length co62 : Value).ownBlock ∧ some k_ ≠ (.slice Ao72 t329.length co72 : Value).ownBlock ∧ some k_ ≠ (.slice Ao111 t336.length co111 : Value).ownBlock ∧ k_ ≠ dmI N387_ k_) (Kd.zbL (HO343.out) hkp (fun k_ hk_ hs_ => dmNo hk_.2.2.2.2 hs_.1.2.2.2.2.2.2.2)) (fun k_ hk_ => ⟨hk_.1.1, hk_.1.2.1, hk_.1.2.2.1, hk_.1.2.2.2.1, hk_.1.2.2.2.2⟩)) | have n11_ := ax (Kd.zaQ (ok' := fun k_ => some k_ ≠ (.slice Ao52 t319.length co52 : Value).ownBlock ∧ some k_ ≠ (.slice Ao62 t324.length co62 : Value).ownBlock ∧ some k_ ≠ (.slice Ao72 t329.length co72 : Value).ownBlock ∧ some k_ ≠ (.slice Ao111 t336.length co111 : Value).ownBlock ∧ k_ ≠ dmI N387_ k_) (Kd.zbL (Kd.zaB HO343.out _) hkp (fun k_ hk_ hs_ => dmNo hk_.2.2.2.2 hs_.1.2.2.2.2.2.2.2)) (fun k_ hk_ => ⟨hk_.1.1, hk_.1.2.1, hk_.1.2.2.1, hk_.1.2.2.2.1, hk_.1.2.2.2.2⟩))); have n12_ := ax (hb); clear HO_1003; clear HO_1000; clear HO_1002; clear HO_1001; clear BK300; clear BK301; clear BK317; clear BK322; clear BK327; clear BK333; clear HO338; clear HO343; clear HB; have HO_1003 := n0_; have HO_1000 := n1_; have HO_1002 := n2_; have HO_1001 := n3_; have BK300 := n4_; have BK301 := n5_; have BK317 := n6_; have BK322 := n7_; have BK327 := n8_; have BK333 := n9_; have HO338 := n10_; have HO343 := n11_; have HB := n12_; clear n0_ n1_ n2_ n3_ n4_ n5_ n6_ n7_ n8_ n9_ n10_ n11_ n12_; (try clear hb); (try clear hkp); (try clear hy0)))
        (try simp only [Act.put, List.setIfInBounds_toArray, List.set_cons_zero, List.set_cons_succ])
        go_cut [82] (fun v82 wc => ∃ (kq : Nat) (x82_107 : Bool), v82 = .bool x82_107 ∧ zal (zak.j1 kq t316 x82_107 a0_0 l0_1 a1_0 l1_1 t312 t313 t328 t329 = some r) ∧ zal (kq ≤ kj24) ∧ zal (Kd.V k48 48 wc w.heap.size (fun k_ => some k_ ≠ ((.slice Ao52 t319.length co52) : Value).ownBlock ∧ some k_ ≠ ((.slice Ao62 t324.length co62) : Value).ownBlock ∧ some k_ ≠ ((.slice Ao72 t329.length co72) : Value).ownBlock ∧ k_ ≠ gb300 ∧ k_ ≠ gb301 ∧ k_ ≠ gb317 ∧ k_ ≠ gb322 ∧ k_ ≠ gb327 ∧ k_ ≠ gb333 ∧ k_ ≠ dmO N379_ k_ ∧ k_ ≠ dmO N381_ k_ ∧ k_ ≠ dmO N383_ k_ ∧ k_ ≠ dmO N385_ k_ ∧ k_ ≠ dmO N387_ k_) (.slice Ao42 t313.length co42) t313) ∧ zal (Kd.S k48 48 wc w.heap.size (fun k_ => some k_ ≠ ((.slice Ao62 t324.length co62) : Value).ownBlock ∧ some k_ ≠ ((.slice Ao72 t329.length co72) : Value).ownBlock ∧ k_ ≠ dmI N379_ k_ ∧ k_ ≠ dmO N381_ k_ ∧ k_ ≠ dmO N383_ k_ ∧ k_ ≠ dmO N385_ k_ ∧ k_ ≠ dmO N387_ k_) (.slice Ao52 t319.length co52) t346) ∧ zal (Kd.S k48 48 wc w.heap.size (fun k_ => some k_ ≠ ((.slice Ao52 t319.length co52) : Value).ownBlock ∧ some k_ ≠ ((.slice Ao72 t329.length co72) : Value).ownBlock ∧ k_ ≠ dmI N381_ k_ ∧ k_ ≠ dmO N383_ k_ ∧ k_ ≠ dmO N385_ k_ ∧ k_ ≠ dmO N387_ k_) (.slice Ao62 t324.length co62) t348) ∧ zal (Kd.S k48 48 wc w.heap.size (fun k_ => some k_ ≠ ((.slice Ao52 t319.length co52) : Value).ownBlock ∧ some k_ ≠ ((.slice Ao62 t324.length co62) : Value).ownBlock ∧ k_ ≠ dmI N383_ k_ ∧ k_ ≠ dmO N385_ k_ ∧ k_ ≠ dmO N387_ k_) (.slice Ao72 t329.length co72) t329) ∧ zal (wc.heap[gb300]? = some (.cells #[.int .i64 a0_0, (.slice A0_1 l0_1.length c0_1)] 24 (0, 0))) ∧ zal (wc.heap[gb301]? = some (.cells #[.int .i64 a1_0, (.slice A1_1 l1_1.length c1_1)] 24 (0, 0))) ∧ zal (wc.heap[gb317]? = some (.cells #[.int .i64 t312, (.slice Ao42 t313.length co42)] 28 (0, 0))) ∧ zal (wc.heap[gb322]? = some (.cells #[.int .i64 t318, (.slice Ao52 t319.length co52)] 28 (0, 0))) ∧ zal (wc.heap[gb327]? = some (.cells #[.int .i64 t323, (.slice Ao62 t324.length co62)] 28 (0, 0))) ∧ zal (wc.heap[gb333]? = some (.cells #[.int .i64 t328, (.slice Ao72 t329.length co72)] 28 (0, 0))) ∧ zal (Below w.heap.size w wc))
        case first =>
         have H := HC108.out
         clear HC108
         by_cases c130 : t347 < 0
         ·rw [if_pos c130] at H
          have c130b0 := decide_eq_true c130
          clear c130
          (first | rw [c130b0] | (simp only [zbP, zb8]; rw [c130b0]) | skip)
          have H' := ax H
          clear H
          go_wp2
          go_meet
          case rel => exact ⟨_, (true), xr, H', ⟨by have := HJ24.out; first | omega | exact Nat.le_refl _⟩, ⟨by (with_reducible repeat (first | apply Kd.zbv | apply Kd.zbu | apply Kd.zbs)); exact Kd.za3 HO_1003.out bq⟩, ⟨by (with_reducible repeat (first | apply Kd.zaG | apply Kd.zaB | apply Kd.zaK)); exact Kd.zaQ HO_1000.out bq⟩, ⟨by (with_reducible repeat (first | apply Kd.zaG | apply Kd.zaB | apply Kd.zaK)); exact Kd.zaQ HO_1002.out bq⟩, ⟨by (with_reducible repeat (first | apply Kd.zaG | apply Kd.zaB | apply Kd.zaK)); exact Kd.zaQ HO_1001.out (fun _ hk => ⟨hk.1, ⟨hk.2.1, ⟨hk.2.2.2.2.1, ⟨hk.2.2.2.2.2.1, hk.2.2.2.2.2.2⟩⟩⟩⟩)⟩, ⟨xk BK300.out⟩, ⟨xk BK301.out⟩, ⟨xk BK317.out⟩, ⟨xk BK322.out⟩, ⟨xk BK327.out⟩, ⟨xk BK333.out⟩, ⟨bh HB.out⟩⟩
         ·rw [if_neg c130] at H
          have c130b0 := decide_eq_false c130
          clear c130
          (first | rw [c130b0] | (simp only [zbP, zb8]; rw [c130b0]) | skip)
          obtain ⟨t349, A131, H⟩ := xI H
          by_cases c132 : t349 = true
          ·subst c132
           rw [if_pos rfl] at H
           have H' := ax H
           clear H
           have hnb133 := NB333_300.out
           have hnc133 := NB300_333.out
           have hnb134 := NB333_301.out
           have hnc134 := NB301_333.out
           have hnb135 := NB333_317.out
           have hnc135 := NB317_333.out
           have hnb136 := NB333_322.out
           have hnc136 := NB322_333.out
           have hnb137 := NB333_327.out
           have hnc137 := NB327_333.out
           have hcz138_0 := bc0 BK333.out
           have hcz138_1 := bc1 BK333.out
           have hfz138_0 := zag BK333.out 0
           have hfz138_1 := zag BK333.out 1
           have hnb139 := NB317_300.out
           have hnc139 := NB300_317.out
           have hnb140 := NB317_301.out
           have hnc140 := NB301_317.out
           have hnb141 := NB317_322.out
           have hnc141 := NB322_317.out
           have hnb142 := NB317_327.out
           have hnc142 := NB327_317.out
           have hcz143_0 := bc0 BK317.out
           have hcz143_1 := bc1 BK317.out
           have hfz143_0 := zag BK317.out 0
           have hfz143_1 := zag BK317.out 1
           go_wp2_with (first | (go_at_call 11; (with_reducible refine (zbe.calls kj24 t328 _ _ t329 t312 _ _ t313 true _ ?side1 ?side2 ?side3 ?side4 A131.out).mono ?_); (case side1 => exact xc (Kd.zaI HO_1001.out).2.2); (case side2 => exact (Kd.zaI HO_1001.out).2.1); (case side3 => exact xc (Kd.zbl HO_1003.out).2.2); (case side4 => exact (Kd.zbl HO_1003.out).2.1); rintro e w144 ⟨rfl, hb⟩; replace HO_1003 := yV HO_1003 hb; replace HO_1000 := ax (Kd.zaF (xS HO_1000.out) hb); replace HO_1002 := ax (Kd.zaF (xS HO_1002.out) hb); replace HO_1001 := ax (Kd.zaF (xS HO_1001.out) hb); replace HO338 := ax (Kd.zaF (xS HO338.out) hb); replace HO343 := ax (Kd.zaF (xS HO343.out) hb); replace BK300 := ax (bb BK300.out hb); replace BK301 := ax (bb BK301.out hb); replace BK317 := ax (bb BK317.out hb); replace BK322 := ax (bb BK322.out hb); replace BK327 := ax (bb BK327.out hb); replace BK333 := ax (bb BK333.out hb); replace HB := ax (zas (bh HB.out) hb); (try clear hb)))
           go_meet
           case rel => exact ⟨_, ((t332 != t316)), xr, H', ⟨by have := HJ24.out; first | omega | exact Nat.le_refl _⟩, ⟨by (with_reducible repeat (first | apply Kd.zbv | apply Kd.zbu | apply Kd.zbs)); exact Kd.za3 HO_1003.out bq⟩, ⟨by (with_reducible repeat (first | apply Kd.zaG | apply Kd.zaB | apply Kd.zaK)); exact Kd.zaQ HO_1000.out bq⟩, ⟨by (with_reducible repeat (first | apply Kd.zaG | apply Kd.zaB | apply Kd.zaK)); exact Kd.zaQ HO_1002.out bq⟩, ⟨by (with_reducible repeat (first | apply Kd.zaG | apply Kd.zaB | apply Kd.zaK)); exact Kd.zaQ HO_1001.out (fun _ hk => ⟨hk.1, ⟨hk.2.1, ⟨hk.2.2.2.2.1, ⟨hk.2.2.2.2.2.1, hk.2.2.2.2.2.2⟩⟩⟩⟩)⟩, ⟨xk BK300.out⟩, ⟨xk BK301.out⟩, ⟨xk BK317.out⟩, ⟨xk BK322.out⟩, ⟨xk BK327.out⟩, ⟨xk BK333.out⟩, ⟨bh HB.out⟩⟩
          ·replace c132 := Bool.eq_false_iff.mpr c132
           subst c132
           rw [if_neg (show ¬ (false = true) by decide)] at H
           have H' := ax H
           clear H
           have hnb145 := NB333_300.out
           have hnc145 := NB300_333.out
           have hnb146 := NB333_301.out
           have hnc146 := NB301_333.out
           have hnb147 := NB333_317.out
           have hnc147 := NB317_333.out
           have hnb148 := NB333_322.out
           have hnc148 := NB322_333.out
           have hnb149 := NB333_327.out
           have hnc149 := NB327_333.out
           have hcz150_0 := bc0 BK333.out
           have hcz150_1 := bc1 BK333.out
           have hfz150_0 := zag BK333.out 0
           have hfz150_1 := zag BK333.out 1
           have hnb151 := NB317_300.out
           have hnc151 := NB300_317.out
           have hnb152 := NB317_301.out
           have hnc152 := NB301_317.out
           have hnb153 := NB317_322.out
           have hnc153 := NB322_317.out
           have hnb154 := NB317_327.out
           have hnc154 := NB327_317.out
           have hcz155_0 := bc0 BK317.out
           have hcz155_1 := bc1 BK317.out
           have hfz155_0 := zag BK317.out 0
           have hfz155_1 := zag BK317.out 1
           go_wp2_with (first | (go_at_call 11; (with_reducible refine (zbe.calls kj24 t328 _ _ t329 t312 _ _ t313 false _ ?side1 ?side2 ?side3 ?side4 A131.out).mono ?_); (case side1 => exact xc (Kd.zaI HO_1001.out).2.2); (case side2 => exact (Kd.zaI HO_1001.out).2.1); (case side3 => exact xc (Kd.zbl HO_1003.out).2.2); (case side4 => exact (Kd.zbl HO_1003.out).2.1); rintro e w156 ⟨rfl, hb⟩; replace HO_1003 := yV HO_1003 hb; replace HO_1000 := ax (Kd.zaF (xS HO_1000.out) hb); replace HO_1002 := ax (Kd.zaF (xS HO_1002.out) hb); replace HO_1001 := ax (Kd.zaF (xS HO_1001.out) hb); replace HO338 := ax (Kd.zaF (xS HO338.out) hb); replace HO343 := ax (Kd.zaF (xS HO343.out) hb); replace BK300 := ax (bb BK300.out hb); replace BK301 := ax (bb BK301.out hb); replace BK317 := ax (bb BK317.out hb); replace BK322 := ax (bb BK322.out hb); replace BK327 := ax (bb BK327.out hb); replace BK333 := ax (bb BK333.out hb); replace HB := ax (zas (bh HB.out) hb); (try clear hb)))
           go_meet
           case rel => exact ⟨_, (true), xr, H', ⟨by have := HJ24.out; first | omega | exact Nat.le_refl _⟩, ⟨by (with_reducible repeat (first | apply Kd.zbv | apply Kd.zbu | apply Kd.zbs)); exact Kd.za3 HO_1003.out bq⟩, ⟨by (with_reducible repeat (first | apply Kd.zaG | apply Kd.zaB | apply Kd.zaK)); exact Kd.zaQ HO_1000.out bq⟩, ⟨by (with_reducible repeat (first | apply Kd.zaG | apply Kd.zaB | apply Kd.zaK)); exact Kd.zaQ HO_1002.out bq⟩, ⟨by (with_reducible repeat (first | apply Kd.zaG | apply Kd.zaB | apply Kd.zaK)); exact Kd.zaQ HO_1001.out (fun _ hk => ⟨hk.1, ⟨hk.2.1, ⟨hk.2.2.2.2.1, ⟨hk.2.2.2.2.2.1, hk.2.2.2.2.2.2⟩⟩⟩⟩)⟩, ⟨xk BK300.out⟩, ⟨xk BK301.out⟩, ⟨xk BK317.out⟩, ⟨xk BK322.out⟩, ⟨xk BK327.out⟩, ⟨xk BK333.out⟩, ⟨bh HB.out⟩⟩
        case rest =>
         clear HC108
         (try clear c11); (try clear c99); (try clear c102); (try clear c105); (try clear c130); (try clear c130b0); (try clear c132); (try clear hcz122_0); (try clear hcz122_1); (try clear hcz128_0); (try clear hcz128_1); (try clear hcz138_0); (try clear hcz138_1); (try clear hcz143_0); (try clear hcz143_1); (try clear hcz150_0); (try clear hcz150_1); (try clear hcz155_0); (try clear hcz155_1); (try clear hcz45_0); (try clear hcz45_1); (try clear hcz51_0); (try clear hcz51_1); (try clear hcz54_0); (try clear hcz54_1); (try clear hcz61_0); (try clear hcz61_1); (try clear hcz63_0); (try clear hcz63_1); (try clear hcz71_0); (try clear hcz71_1); (try clear hcz80_0); (try clear hcz80_1); (try clear hcz85_0); (try clear hcz85_1); (try clear hcz92_0); (try clear hcz92_1); (try clear hcz97_0); (try clear hcz97_1); (try clear hfz122_0); (try clear hfz122_1); (try clear hfz128_0); (try clear hfz128_1); (try clear hfz138_0); (try clear hfz138_1); (try clear hfz143_0); (try clear hfz143_1); (try clear hfz150_0); (try clear hfz150_1); (try clear hfz155_0); (try clear hfz155_1); (try clear hfz45_0); (try clear hfz45_1); (try clear hfz51_0); (try clear hfz51_1); (try clear hfz54_0); (try clear hfz54_1); (try clear hfz61_0); (try clear hfz61_1); (try clear hfz63_0); (try clear hfz63_1); (try clear hfz71_0); (try clear hfz71_1); (try clear hfz80_0); (try clear hfz80_1); (try clear hfz85_0); (try clear hfz85_1); (try clear hfz92_0); (try clear hfz92_1); (try clear hfz97_0); (try clear hfz97_1)
         obtain ⟨kq, x82_107, rfl, HA, HJ107, HO_1003, HO_1000, HO_1002, HO_1001, BK300, BK301, BK317, BK322, BK327, BK333, HB⟩ := hcut
         have hl1000_107 := (Kd.zaI HO_1000.out).1
         rw [hl1000_107] at HO_1000
         (try simp only [hl1000_107])
         (try simp only [hl1000_107] at BK300)
         (try simp only [hl1000_107] at BK301)
         (try simp only [hl1000_107] at BK317)
         (try simp only [hl1000_107] at BK322)
         (try simp only [hl1000_107] at BK327)
         (try simp only [hl1000_107] at BK333)
         (try simp only [hl1000_107] at HO_1003)
         (try simp only [hl1000_107] at HO_1002)
         (try simp only [hl1000_107] at HO_1001)
         have hl1002_107 := (Kd.zaI HO_1002.out).1
         rw [hl1002_107] at HO_1002
         (try simp only [hl1002_107])
         (try simp only [hl1002_107] at BK300)
         (try simp only [hl1002_107] at BK301)
         (try simp only [hl1002_107] at BK317)
         (try simp only [hl1002_107] at BK322)
         (try simp only [hl1002_107] at BK327)
         (try simp only [hl1002_107] at BK333)
         (try simp only [hl1002_107] at HO_1003)
         (try simp only [hl1002_107] at HO_1000)
         (try simp only [hl1002_107] at HO_1001)
         cases kq with
         | zero => exact absurd HA.out (by simp [zak.j1])
         | succ kj107 =>
          have H := HA.out
          clear HA
          simp only [zak.j1] at H
          by_cases c157 : x82_107 = true
          ·subst c157
           rw [if_pos rfl] at H
           obtain rfl := Option.some.inj H
           go_wp2
           go_ret
           exact ⟨xe, bh HB.out⟩
          ·replace c157 := Bool.eq_false_iff.mpr c157
           subst c157
           rw [if_neg (show ¬ (false = true) by decide)] at H
           obtain ⟨⟨t350, t351⟩, A158, H⟩ := xI H
           dsimp only at H
           obtain ⟨t352, A159, H⟩ := xI H
           by_cases c160 : t352 < 0
           ·rw [if_pos c160] at H
            have c160b0 := decide_eq_true c160
            clear c160
            obtain rfl := Option.some.inj H
            have hnb161 := NB333_300.out
            have hnc161 := NB300_333.out
            have hnb162 := NB333_301.out
            have hnc162 := NB301_333.out
            have hnb163 := NB333_317.out
            have hnc163 := NB317_333.out
            have hnb164 := NB333_322.out
            have hnc164 := NB322_333.out
            have hnb165 := NB333_327.out
            have hnc165 := NB327_333.out
            have hcz166_0 := bc0 BK333.out
            have hcz166_1 := bc1 BK333.out
            have hfz166_0 := zag BK333.out 0
            have hfz166_1 := zag BK333.out 1
            go_wp2_with (first | ((with_reducible refine zat (f := 12) rfl ?_); refine za2 (some 85) rfl rfl Try.func12 (by kernel_rfl) rfl #[.agg #[.int .i64 t328, .slice Ao72 t329.length co72], .int .i64 1] rfl xm ?_; (with_reducible refine (zbm.calls kj107 t328 ?pp3_ (.slice Ao72 t329.length co72) t329 1 t350 t351 w _ ?side1 ?side2 A158.out).mono ?_); (case side1 => exact bh HB.out); (case side2 => first | exact Kd.zcF HO_1001.out | (refine Kd.zcF ?_; (with_reducible repeat (first | apply Kd.zaG | apply Kd.zaB | apply Kd.zaK)); exact HO_1001.out)); rintro e w167 ⟨rfl, hy0, hb, hkp⟩; refine ⟨_, rfl, ?_⟩; have n0_ := ax (Kd.za3 (ok' := fun k_ => some k_ ≠ (.slice Ao52 t346.length co52 : Value).ownBlock ∧ some k_ ≠ (.slice Ao62 t348.length co62 : Value).ownBlock ∧ some k_ ≠ (.slice Ao72 t329.length co72 : Value).ownBlock ∧ k_ ≠ gb300 ∧ k_ ≠ gb301 ∧ k_ ≠ gb317 ∧ k_ ≠ gb322 ∧ k_ ≠ gb327 ∧ k_ ≠ gb333 ∧ k_ ≠ dmO N379_ k_ ∧ k_ ≠ dmO N381_ k_ ∧ k_ ≠ dmO N383_ k_ ∧ k_ ≠ dmO N385_ k_ ∧ k_ ≠ dmO N387_ k_) (Kd.zdZ (HO_1003.out) hkp (fun k_ hk_ hs_ => dmNo hs_.1.2.2.1 hk_.2.2.2.2.2.2.2.2.2.2.2.1)) bq); (first | have n1_ := ax (Kd.zaQ (ok' := fun k_ => some k_ ≠ (.slice Ao62 t348.length co62 : Value).ownBlock ∧ some k_ ≠ (.slice Ao72 t329.length co72 : Value).ownBlock ∧ k_ ≠ dmI N379_ k_ ∧ k_ ≠ dmO N381_ k_ ∧ k_ ≠ dmO N383_ k_ ∧ k_ ≠ dmO N385_ k_ ∧ k_ ≠ dmO N387_ k_) (Kd.zbL (HO_1000.out) hkp (fun k_ hk_ hs_ => dmNo hs_.1.2.2.1 hk_.2.2.2.2.1)) bq) | have n1_ := ax (Kd.zaQ (ok' := fun k_ => some k_ ≠ (.slice Ao62 t348.length co62 : Value).ownBlock ∧ some k_ ≠ (.slice Ao72 t329.length co72 : Value).ownBlock ∧ k_ ≠ dmI N379_ k_ ∧ k_ ≠ dmO N381_ k_ ∧ k_ ≠ dmO N383_ k_ ∧ k_ ≠ dmO N385_ k_ ∧ k_ ≠ dmO N387_ k_) (Kd.zbL (Kd.zaB HO_1000.out _) hkp (fun k_ hk_ hs_ => dmNo hs_.1.2.2.1 hk_.2.2.2.2.1)) bq)); (first | have n2_ := ax (Kd.zaQ (ok' := fun k_ => some k_ ≠ (.slice Ao52 t346.length co52 : Value).ownBlock ∧ some k_ ≠ (.slice Ao72 t329.length co72 : Value).ownBlock ∧ k_ ≠ dmI N381_ k_ ∧ k_ ≠ dmO N383_ k_ ∧ k_ ≠ dmO N385_ k_ ∧ k_ ≠ dmO N387_ k_) (Kd.zbL (HO_1002.out) hkp (fun k_ hk_ hs_ => dmNo hs_.1.2.2.1 hk_.2.2.2.1)) bq) | have n2_ := ax (Kd.zaQ (ok' := fun k_ => some k_ ≠ (.slice Ao52 t346.length co52 : Value).ownBlock ∧ some k_ ≠ (.slice Ao72 t329.length co72 : Value).ownBlock ∧ k_ ≠ dmI N381_ k_ ∧ k_ ≠ dmO N383_ k_ ∧ k_ ≠ dmO N385_ k_ ∧ k_ ≠ dmO N387_ k_) (Kd.zbL (Kd.zaB HO_1002.out _) hkp (fun k_ hk_ hs_ => dmNo hs_.1.2.2.1 hk_.2.2.2.1)) bq)); have n3_ := ax (Kd.zaQ hy0 (fun k_ hk_ => hk_.1)); have n4_ := ax (zbo (xk BK300.out) hkp (fun hs_ => zcw BK300.out hs_.2 (by decide))); have n5_ := ax (zbo (xk BK301.out) hkp (fun hs_ => zcw BK301.out hs_.2 (by decide))); have n6_ := ax (zbo (xk BK317.out) hkp (fun hs_ => zcw BK317.out hs_.2 (by decide))); have n7_ := ax (zbo (xk BK322.out) hkp (fun hs_ => zcw BK322.out hs_.2 (by decide))); have n8_ := ax (zbo (xk BK327.out) hkp (fun hs_ => zcw BK327.out hs_.2 (by decide))); have n9_ := ax (zbo (xk BK333.out) hkp (fun hs_ => zcw BK333.out hs_.2 (by decide))); have n10_ := ax (hb); clear HO_1003; clear HO_1000; clear HO_1002; clear HO_1001; clear BK300; clear BK301; clear BK317; clear BK322; clear BK327; clear BK333; clear HB; have HO_1003 := n0_; have HO_1000 := n1_; have HO_1002 := n2_; have HO_1001 := n3_; have BK300 := n4_; have BK301 := n5_; have BK317 := n6_; have BK322 := n7_; have BK327 := n8_; have BK333 := n9_; have HB := n10_; clear n0_ n1_ n2_ n3_ n4_ n5_ n6_ n7_ n8_ n9_ n10_; (try clear hb); (try clear hkp); (try clear hy0); have hcz168_0 := bc0 BK333.out; have hcz168_1 := bc1 BK333.out; have hfz168_0 := zag BK333.out 0; have hfz168_1 := zag BK333.out 1) | ((with_reducible refine zat (f := 13) rfl ?_); refine za2 (some 88) rfl rfl Try.func13 (by kernel_rfl) rfl #[.agg #[.int .i64 t328, .slice Ao72 t351.length co72], .int .i64 1] rfl (by (try simp only [List.map_toArray, List.map_cons, List.map_nil]); first | done | (rw [show t351.length = t329.length from (Kd.zaI HO_1001.out).1.symm] <;> rfl) | rfl | (simp only [List.length_drop, List.length_take]; rfl)) ?_; (with_reducible refine (zbn.calls kj107 t328 _ _ t351 1 t352 _ ?side1 ?side2 A159.out).mono ?_); (case side1 => exact xc (Kd.zaI HO_1001.out).2.2); (case side2 => rw [show t351.length = t329.length from (Kd.zaI HO_1001.out).1.symm]; exact (Kd.zaI HO_1001.out).2.1); rintro e w169 ⟨rfl, hb⟩; refine ⟨_, rfl, ?_⟩; replace HO_1003 := yV HO_1003 hb; replace HO_1000 := ax (Kd.zaF (xS HO_1000.out) hb); replace HO_1002 := ax (Kd.zaF (xS HO_1002.out) hb); replace HO_1001 := ax (Kd.zaF (xS HO_1001.out) hb); replace BK300 := ax (bb BK300.out hb); replace BK301 := ax (bb BK301.out hb); replace BK317 := ax (bb BK317.out hb); replace BK322 := ax (bb BK322.out hb); replace BK327 := ax (bb BK327.out hb); replace BK333 := ax (bb BK333.out hb); replace HB := ax (zas (bh HB.out) hb); (try clear hb)))
            go_ret
            exact ⟨xe, bh HB.out⟩
           ·rw [if_neg c160] at H
            have c160b0 := decide_eq_false c160
            clear c160
            by_cases c170 : t352 = t350
            ·rw [if_pos c170] at H
             have c170b0 : (t352 == t350) = true := beq_iff_eq.mpr c170
             have c170b1 : (t352 != t350) = false := bne_eq_false_iff_eq.mpr c170
             clear c170
             obtain ⟨⟨t353, t354⟩, A171, H⟩ := xI H
             dsimp only at H
             obtain ⟨⟨t357, t358⟩, A172, H⟩ := xI H
             dsimp only at H
             obtain ⟨⟨t361, t362, t365⟩, A173, H⟩ := xI H
             dsimp only at H
             have HC174 := ax H
             clear H
             have hnb175 := NB333_300.out
             have hnc175 := NB300_333.out
             have hnb176 := NB333_301.out
             have hnc176 := NB301_333.out
             have hnb177 := NB333_317.out
             have hnc177 := NB317_333.out
             have hnb178 := NB333_322.out
             have hnc178 := NB322_333.out
             have hnb179 := NB333_327.out
             have hnc179 := NB327_333.out
             have hcz180_0 := bc0 BK333.out
             have hcz180_1 := bc1 BK333.out
             have hfz180_0 := zag BK333.out 0
             have hfz180_1 := zag BK333.out 1
             try go_wp2_with (first | ((with_reducible refine zat (f := 12) rfl ?_); refine za2 (some 85) rfl rfl Try.func12 (by kernel_rfl) rfl #[.agg #[.int .i64 t328, .slice Ao72 t329.length co72], .int .i64 1] rfl xm ?_; (with_reducible refine (zbm.calls kj107 t328 ?pp4_ (.slice Ao72 t329.length co72) t329 1 t350 t351 w _ ?side1 ?side2 A158.out).mono ?_); (case side1 => exact bh HB.out); (case side2 => first | exact Kd.zcF HO_1001.out | (refine Kd.zcF ?_; (with_reducible repeat (first | apply Kd.zaG | apply Kd.zaB | apply Kd.zaK)); exact HO_1001.out)); rintro e w181 ⟨rfl, hy0, hb, hkp⟩; refine ⟨_, rfl, ?_⟩; have n0_ := ax (Kd.za3 (ok' := fun k_ => some k_ ≠ (.slice Ao52 t346.length co52 : Value).ownBlock ∧ some k_ ≠ (.slice Ao62 t348.length co62 : Value).ownBlock ∧ some k_ ≠ (.slice Ao72 t329.length co72 : Value).ownBlock ∧ k_ ≠ gb300 ∧ k_ ≠ gb301 ∧ k_ ≠ gb317 ∧ k_ ≠ gb322 ∧ k_ ≠ gb327 ∧ k_ ≠ gb333 ∧ k_ ≠ dmO N379_ k_ ∧ k_ ≠ dmO N381_ k_ ∧ k_ ≠ dmO N383_ k_ ∧ k_ ≠ dmO N385_ k_ ∧ k_ ≠ dmO N387_ k_) (Kd.zdZ (HO_1003.out) hkp (fun k_ hk_ hs_ => dmNo hs_.1.2.2.1 hk_.2.2.2.2.2.2.2.2.2.2.2.1)) bq); (first | have n1_ := ax (Kd.zaQ (ok' := fun k_ => some k_ ≠ (.slice Ao62 t348.length co62 : Value).ownBlock ∧ some k_ ≠ (.slice Ao72 t329.length co72 : Value).ownBlock ∧ k_ ≠ dmI N379_ k_ ∧ k_ ≠ dmO N381_ k_ ∧ k_ ≠ dmO N383_ k_ ∧ k_ ≠ dmO N385_ k_ ∧ k_ ≠ dmO N387_ k_) (Kd.zbL (HO_1000.out) hkp (fun k_ hk_ hs_ => dmNo hs_.1.2.2.1 hk_.2.2.2.2.1)) bq) | have n1_ := ax (Kd.zaQ (ok' := fun k_ => some k_ ≠ (.slice Ao62 t348.length co62 : Value).ownBlock ∧ some k_ ≠ (.slice Ao72 t329.length co72 : Value).ownBlock ∧ k_ ≠ dmI N379_ k_ ∧ k_ ≠ dmO N381_ k_ ∧ k_ ≠ dmO N383_ k_ ∧ k_ ≠ dmO N385_ k_ ∧ k_ ≠ dmO N387_ k_) (Kd.zbL (Kd.zaB HO_1000.out _) hkp (fun k_ hk_ hs_ => dmNo hs_.1.2.2.1 hk_.2.2.2.2.1)) bq)); (first | have n2_ := ax (Kd.zaQ (ok' := fun k_ => some k_ ≠ (.slice Ao52 t346.length co52 : Value).ownBlock ∧ some k_ ≠ (.slice Ao72 t329.length co72 : Value).ownBlock ∧ k_ ≠ dmI N381_ k_ ∧ k_ ≠ dmO N383_ k_ ∧ k_ ≠ dmO N385_ k_ ∧ k_ ≠ dmO N387_ k_) (Kd.zbL (HO_1002.out) hkp (fun k_ hk_ hs_ => dmNo hs_.1.2.2.1 hk_.2.2.2.1)) bq) | have n2_ := ax (Kd.zaQ (ok' := fun k_ => some k_ ≠ (.slice Ao52 t346.length co52 : Value).ownBlock ∧ some k_ ≠ (.slice Ao72 t329.length co72 : Value).ownBlock ∧ k_ ≠ dmI N381_ k_ ∧ k_ ≠ dmO N383_ k_ ∧ k_ ≠ dmO N385_ k_ ∧ k_ ≠ dmO N387_ k_) (Kd.zbL (Kd.zaB HO_1002.out _) hkp (fun k_ hk_ hs_ => dmNo hs_.1.2.2.1 hk_.2.2.2.1)) bq)); have n3_ := ax (Kd.zaQ hy0 (fun k_ hk_ => hk_.1)); have n4_ := ax (zbo (xk BK300.out) hkp (fun hs_ => zcw BK300.out hs_.2 (by decide))); have n5_ := ax (zbo (xk BK301.out) hkp (fun hs_ => zcw BK301.out hs_.2 (by decide))); have n6_ := ax (zbo (xk BK317.out) hkp (fun hs_ => zcw BK317.out hs_.2 (by decide))); have n7_ := ax (zbo (xk BK322.out) hkp (fun hs_ => zcw BK322.out hs_.2 (by decide))); have n8_ := ax (zbo (xk BK327.out) hkp (fun hs_ => zcw BK327.out hs_.2 (by decide))); have n9_ := ax (zbo (xk BK333.out) hkp (fun hs_ => zcw BK333.out hs_.2 (by decide))); have n10_ := ax (hb); clear HO_1003; clear HO_1000; clear HO_1002; clear HO_1001; clear BK300; clear BK301; clear BK317; clear BK322; clear BK327; clear BK333; clear HB; have HO_1003 := n0_; have HO_1000 := n1_; have HO_1002 := n2_; have HO_1001 := n3_; have BK300 := n4_; have BK301 := n5_; have BK317 := n6_; have BK322 := n7_; have BK327 := n8_; have BK333 := n9_; have HB := n10_; clear n0_ n1_ n2_ n3_ n4_ n5_ n6_ n7_ n8_ n9_ n10_; (try clear hb); (try clear hkp); (try clear hy0); have hcz182_0 := bc0 BK333.out; have hcz182_1 := bc1 BK333.out; have hfz182_0 := zag BK333.out 0; have hfz182_1 := zag BK333.out 1) | ((with_reducible refine zat (f := 13) rfl ?_); refine za2 (some 88) rfl rfl Try.func13 (by kernel_rfl) rfl #[.agg #[.int .i64 t328, .slice Ao72 t351.length co72], .int .i64 1] rfl (by (try simp only [List.map_toArray, List.map_cons, List.map_nil]); first | done | (rw [show t351.length = t329.length from (Kd.zaI HO_1001.out).1.symm] <;> rfl) | rfl | (simp only [List.length_drop, List.length_take]; rfl)) ?_; (with_reducible refine (zbn.calls kj107 t328 _ _ t351 1 t352 _ ?side1 ?side2 A159.out).mono ?_); (case side1 => exact xc (Kd.zaI HO_1001.out).2.2); (case side2 => rw [show t351.length = t329.length from (Kd.zaI HO_1001.out).1.symm]; exact (Kd.zaI HO_1001.out).2.1); rintro e w183 ⟨rfl, hb⟩; refine ⟨_, rfl, ?_⟩; replace HO_1003 := yV HO_1003 hb; replace HO_1000 := ax (Kd.zaF (xS HO_1000.out) hb); replace HO_1002 := ax (Kd.zaF (xS HO_1002.out) hb); replace HO_1001 := ax (Kd.zaF (xS HO_1001.out) hb); replace BK300 := ax (bb BK300.out hb); replace BK301 := ax (bb BK301.out hb); replace BK317 := ax (bb BK317.out hb); replace BK322 := ax (bb BK322.out hb); replace BK327 := ax (bb BK327.out hb); replace BK333 := ax (bb BK333.out hb); replace HB := ax (zas (bh HB.out) hb); (try clear hb)))
             replace HO_1003 := ax (Kd.zbs HO_1003.out); replace HO_1000 := ax (Kd.zaK HO_1000.out); replace HO_1002 := ax (Kd.zaK HO_1002.out); replace HO_1001 := ax (Kd.zaK HO_1001.out); replace BK300 := ax (zad BK300.out); replace BK301 := ax (zad BK301.out); replace BK317 := ax (zad BK317.out); replace BK322 := ax (zad BK322.out); replace BK327 := ax (zad BK327.out); replace BK333 := ax (zad BK333.out); replace HB := ax (zaN HB.out)
             refine zbG (n := 11) (S := fun w' => w'.cell? ⟨gb300, 0, none⟩ = some (.int .i64 a0_0) ∧ w'.cell? ⟨gb300, 1, none⟩ = some (.slice A0_1 l0_1.length c0_1) ∧ w'.cell? ⟨gb301, 0, none⟩ = some (.int .i64 a1_0) ∧ w'.cell? ⟨gb301, 1, none⟩ = some (.slice A1_1 l1_1.length c1_1)) (ds := []) (xB 11 0) (by kernel_rfl) rfl (by kernel_rfl) ⟨(zai BK300.out 0).trans rfl, (zai BK300.out 1).trans rfl, (zai BK301.out 0).trans rfl, (zai BK301.out 1).trans rfl⟩ (fun hHeld => ?_); refine zbf zak.zkc zak.zjI (fun HT_ HW_ => ?_)
             generalize w183.drew = w184 at HO_1003 HO_1000 HO_1002 HO_1001 BK300 BK301 BK317 BK322 BK327 BK333 HB hHeld ⊢
             refine tk (i := 0) (N := some 95) (xB 11 1) HT_.out HW_.out hHeld ?_
             refine tk (i := 2) (N := some 97) (xB 11 5) HT_.out HW_.out hHeld ?_
             refine zhk (σ := Value × Value × Value × Nat) 2 (xB 11 511) (fun s_ => [(96, .agg #[.int .i64 t353, s_.1]), (98, .agg #[.int .i64 t357, s_.2.1]), (99, .tuple #[.agg #[.int .i64 t361, s_.2.2.1], .bool t365]), (15, .pointer (some ⟨s_.2.2.2, 0, none⟩)), (94, .tuple #[.agg #[.int .i64 t361, s_.2.2.1], .bool t365]), (100, .agg #[.int .i64 t361, s_.2.2.1]), (101, .bool t365)]) (fun s_ w' => (w'.cell? ⟨gb300, 0, none⟩ = some (.int .i64 a0_0) ∧ w'.cell? ⟨gb300, 1, none⟩ = some (.slice A0_1 l0_1.length c0_1) ∧ w'.cell? ⟨gb301, 0, none⟩ = some (.int .i64 a1_0) ∧ w'.cell? ⟨gb301, 1, none⟩ = some (.slice A1_1 l1_1.length c1_1)) ∧ (∃ N413_ N415_ N417_ : Nat, (Kd.S k48 48 w' w.heap.size (fun k_ => some k_ ≠ (s_.2.1 : Value).ownBlock ∧ some k_ ≠ (s_.2.2.1 : Value).ownBlock ∧ some k_ ≠ (.slice Ao52 t346.length co52 : Value).ownBlock ∧ some k_ ≠ (.slice Ao62 t348.length co62 : Value).ownBlock ∧ some k_ ≠ (.slice Ao72 t329.length co72 : Value).ownBlock ∧ k_ ≠ dmI N413_ k_ ∧ k_ ≠ dmO N415_ k_ ∧ k_ ≠ dmO N417_ k_) s_.1 t354) ∧ (Kd.S k48 48 w' w.heap.size (fun k_ => some k_ ≠ (s_.1 : Value).ownBlock ∧ some k_ ≠ (s_.2.2.1 : Value).ownBlock ∧ some k_ ≠ (.slice Ao52 t346.length co52 : Value).ownBlock ∧ some k_ ≠ (.slice Ao62 t348.length co62 : Value).ownBlock ∧ some k_ ≠ (.slice Ao72 t329.length co72 : Value).ownBlock ∧ k_ ≠ dmI N415_ k_ ∧ k_ ≠ dmO N417_ k_) s_.2.1 t358) ∧ (Kd.S k48 48 w' w.heap.size (fun k_ => some k_ ≠ (s_.1 : Value).ownBlock ∧ some k_ ≠ (s_.2.1 : Value).ownBlock ∧ some k_ ≠ (.slice Ao52 t346.length co52 : Value).ownBlock ∧ some k_ ≠ (.slice Ao62 t348.length co62 : Value).ownBlock ∧ some k_ ≠ (.slice Ao72 t329.length co72 : Value).ownBlock ∧ k_ ≠ dmI N417_ k_) s_.2.2.1 t362) ∧ (Kd.V k48 48 w' w.heap.size (fun k_ => some k_ ≠ (s_.1 : Value).ownBlock ∧ some k_ ≠ (s_.2.1 : Value).ownBlock ∧ some k_ ≠ (s_.2.2.1 : Value).ownBlock ∧ some k_ ≠ (.slice Ao52 t346.length co52 : Value).ownBlock ∧ some k_ ≠ (.slice Ao62 t348.length co62 : Value).ownBlock ∧ some k_ ≠ (.slice Ao72 t329.length co72 : Value).ownBlock ∧ k_ ≠ gb300 ∧ k_ ≠ gb301 ∧ k_ ≠ gb317 ∧ k_ ≠ gb322 ∧ k_ ≠ gb327 ∧ k_ ≠ gb333 ∧ k_ ≠ s_.2.2.2 ∧ k_ ≠ dmO N379_ k_ ∧ k_ ≠ dmO N381_ k_ ∧ k_ ≠ dmO N383_ k_ ∧ k_ ≠ dmO N385_ k_ ∧ k_ ≠ dmO N387_ k_ ∧ k_ ≠ dmO N413_ k_ ∧ k_ ≠ dmO N415_ k_ ∧ k_ ≠ dmO N417_ k_) (.slice Ao42 t313.length co42) t313) ∧ (Kd.S k48 48 w' w.heap.size (fun k_ => some k_ ≠ (s_.1 : Value).ownBlock ∧ some k_ ≠ (s_.2.1 : Value).ownBlock ∧ some k_ ≠ (s_.2.2.1 : Value).ownBlock ∧ some k_ ≠ (.slice Ao62 t348.length co62 : Value).ownBlock ∧ some k_ ≠ (.slice Ao72 t329.length co72 : Value).ownBlock ∧ k_ ≠ dmI N379_ k_ ∧ k_ ≠ dmO N381_ k_ ∧ k_ ≠ dmO N383_ k_ ∧ k_ ≠ dmO N385_ k_ ∧ k_ ≠ dmO N387_ k_ ∧ k_ ≠ dmO N413_ k_ ∧ k_ ≠ dmO N415_ k_ ∧ k_ ≠ dmO N417_ k_) (.slice Ao52 t346.length co52) t346) ∧ (Kd.S k48 48 w' w.heap.size (fun k_ => some k_ ≠ (s_.1 : Value).ownBlock ∧ some k_ ≠ (s_.2.1 : Value).ownBlock ∧ some k_ ≠ (s_.2.2.1 : Value).ownBlock ∧ some k_ ≠ (.slice Ao52 t346.length co52 : Value).ownBlock ∧ some k_ ≠ (.slice Ao72 t329.length co72 : Value).ownBlock ∧ k_ ≠ dmI N381_ k_ ∧ k_ ≠ dmO N383_ k_ ∧ k_ ≠ dmO N385_ k_ ∧ k_ ≠ dmO N387_ k_ ∧ k_ ≠ dmO N413_ k_ ∧ k_ ≠ dmO N415_ k_ ∧ k_ ≠ dmO N417_ k_) (.slice Ao62 t348.length co62) t348) ∧ (Kd.S k48 48 w' w.heap.size (fun k_ => some k_ ≠ (s_.1 : Value).ownBlock ∧ some k_ ≠ (s_.2.1 : Value).ownBlock ∧ some k_ ≠ (s_.2.2.1 : Value).ownBlock ∧ some k_ ≠ (.slice Ao52 t346.length co52 : Value).ownBlock ∧ some k_ ≠ (.slice Ao62 t348.length co62 : Value).ownBlock ∧ k_ ≠ dmI N383_ k_ ∧ k_ ≠ dmO N385_ k_ ∧ k_ ≠ dmO N387_ k_ ∧ k_ ≠ dmO N413_ k_ ∧ k_ ≠ dmO N415_ k_ ∧ k_ ≠ dmO N417_ k_) (.slice Ao72 t329.length co72) t351)) ∧ (w'.heap[gb300]? = some (.cells #[.int .i64 a0_0, .slice A0_1 l0_1.length c0_1] 24 (0, 0))) ∧ (w'.heap[gb301]? = some (.cells #[.int .i64 a1_0, .slice A1_1 l1_1.length c1_1] 24 (0, 0))) ∧ (w'.heap[gb317]? = some (.cells #[.int .i64 t312, .slice Ao42 t313.length co42] 28 (0, 0))) ∧ (w'.heap[gb322]? = some (.cells #[.int .i64 t318, .slice Ao52 t346.length co52] 28 (0, 0))) ∧ (w'.heap[gb327]? = some (.cells #[.int .i64 t323, .slice Ao62 t348.length co62] 28 (0, 0))) ∧ (w'.heap[gb333]? = some (.cells #[.int .i64 t328, .slice Ao72 t329.length co72] 28 (0, 0))) ∧ (w'.heap[s_.2.2.2]? = some (.cells #[.int .i64 0, .slice none 0 0] 28 (0, 0))) ∧ (w.heap.size ≤ s_.2.2.2) ∧ (w.heap.size ≤ s_.2.2.2) ∧ (gb300 ≠ s_.2.2.2) ∧ (s_.2.2.2 ≠ gb300) ∧ (gb301 ≠ s_.2.2.2) ∧ (s_.2.2.2 ≠ gb301) ∧ (gb317 ≠ s_.2.2.2) ∧ (s_.2.2.2 ≠ gb317) ∧ (gb322 ≠ s_.2.2.2) ∧ (s_.2.2.2 ≠ gb322) ∧ (gb327 ≠ s_.2.2.2) ∧ (s_.2.2.2 ≠ gb327) ∧ (gb333 ≠ s_.2.2.2) ∧ (s_.2.2.2 ≠ gb333) ∧ (Below w.heap.size w w')) ?_ ?_
             rotate_left
             ·intro hCont
              refine two_ (i := 1) (j := 8) (Ni := some 96) (Nj := some 15) (xB 11 7) (xB 11 261) rfl rfl rfl rfl (zem HT_.out (by kernel_rfl)) (by decide) (by decide) (fun K hK => ?_) (fun K hK => ?_)
              ·skip
               refine zbM Try.func9 (by kernel_rfl) rfl #[.agg #[.int .i64 a0_0, .slice A0_1 l0_1.length c0_1]] (by rfl) rfl rfl xm ?_
               with_reducible refine (zaX.calls kj107 a0_0 _ _ l0_1 t353 t354 _ ?side1 ?side2 A171.out).mono ?_
               (case side1 => exact xz HR0_1.out HB.out)
               (case side2 => exact HC0_1.out)
               rintro e w185 ⟨v355, rfl, ho0, hb⟩
               refine ⟨_, rfl, ?_⟩
               replace ho0 := Kd.zc3 ho0
               obtain ⟨N389_, ho0, hN389_⟩ := ho0
               replace HO_1003 := ax (Kd.zb4 (xV HO_1003.out) hN389_ (Kd.za9 ho0) hb); have HO356 := ax (Kd.zbS (Kd.zbk (Kd.zbk (Kd.zbk ho0 (Kd.S_lt (xS HO_1000.out))) (Kd.S_lt (xS HO_1002.out))) (Kd.S_lt (xS HO_1001.out))) (zaj (bh HB.out))); replace HO_1000 := ax (Kd.zaR (xS HO_1000.out) hN389_ (Kd.za9 ho0) hb); replace HO_1002 := ax (Kd.zaR (xS HO_1002.out) hN389_ (Kd.za9 ho0) hb); replace HO_1001 := ax (Kd.zaR (xS HO_1001.out) hN389_ (Kd.za9 ho0) hb); replace BK300 := ax (bb BK300.out hb); replace BK301 := ax (bb BK301.out hb); replace BK317 := ax (bb BK317.out hb); replace BK322 := ax (bb BK322.out hb); replace BK327 := ax (bb BK327.out hb); replace BK333 := ax (bb BK333.out hb); replace HB := ax (zas (bh HB.out) hb)
               (try clear hb)
               (try clear hk)
               (try clear ho0)
               (try clear hN389_)
               refine hK.out _ _ ⟨(zai BK300.out 0).trans rfl, (zai BK300.out 1).trans rfl, (zai BK301.out 0).trans rfl, (zai BK301.out 1).trans rfl⟩ (fun hHeld => ?_)
               clear hK K
               refine nm ?_
               refine two_ (i := 3) (j := 8) (Ni := some 98) (Nj := some 15) (xB 11 15) (xB 11 263) rfl rfl rfl rfl (zem HT_.out (by kernel_rfl)) (by decide) (by decide) (fun K hK => ?_) (fun K hK => ?_)
               ·skip
                refine zbM Try.func9 (by kernel_rfl) rfl #[.agg #[.int .i64 a1_0, .slice A1_1 l1_1.length c1_1]] (by rfl) rfl rfl xm ?_
                with_reducible refine (zaX.calls kj107 a1_0 _ _ l1_1 t357 t358 _ ?side1 ?side2 A172.out).mono ?_
                (case side1 => exact xz HR1_1.out HB.out)
                (case side2 => exact HC1_1.out)
                rintro e w186 ⟨v359, rfl, ho0, hb⟩
                refine ⟨_, rfl, ?_⟩
                replace ho0 := Kd.zc3 ho0
                obtain ⟨N391_, ho0, hN391_⟩ := ho0
                replace HO_1003 := ax (Kd.zb4 (xV HO_1003.out) hN391_ (Kd.za9 ho0) hb); have HO360 := ax (Kd.zbS (Kd.zbk (Kd.zbk (Kd.zbk (Kd.zbk ho0 (Kd.S_lt (xS HO_1000.out))) (Kd.S_lt (xS HO_1002.out))) (Kd.S_lt (xS HO_1001.out))) (Kd.S_lt (xS HO356.out))) (zaj (bh HB.out))); replace HO_1000 := ax (Kd.zaR (xS HO_1000.out) hN391_ (Kd.za9 ho0) hb); replace HO_1002 := ax (Kd.zaR (xS HO_1002.out) hN391_ (Kd.za9 ho0) hb); replace HO_1001 := ax (Kd.zaR (xS HO_1001.out) hN391_ (Kd.za9 ho0) hb); replace HO356 := ax (Kd.zaR (xS HO356.out) hN391_ (Kd.za9 ho0) hb); replace BK300 := ax (bb BK300.out hb); replace BK301 := ax (bb BK301.out hb); replace BK317 := ax (bb BK317.out hb); replace BK322 := ax (bb BK322.out hb); replace BK327 := ax (bb BK327.out hb); replace BK333 := ax (bb BK333.out hb); replace HB := ax (zas (bh HB.out) hb)
                (try clear hb)
                (try clear hk)
                (try clear ho0)
                (try clear hN391_)
                obtain ⟨Ao187, co187, eo187⟩ := Kd.zbB HO356.out
                (first | subst eo187 | (injection eo187 with f1_ f2_ f3_; have f4_ := f1_.symm; have f5_ := f3_.symm; clear f1_ f2_ f3_; subst f4_; subst f5_))
                obtain ⟨Ao188, co188, eo188⟩ := Kd.zbB HO360.out
                (first | subst eo188 | (injection eo188 with f1_ f2_ f3_; have f4_ := f1_.symm; have f5_ := f3_.symm; clear f1_ f2_ f3_; subst f4_; subst f5_))
                refine hK.out _ _ ⟨(zai BK300.out 0).trans rfl, (zai BK300.out 1).trans rfl, (zai BK301.out 0).trans rfl, (zai BK301.out 1).trans rfl⟩ (fun hHeld => ?_)
                clear hK K
                refine nm ?_
                refine two_ (i := 4) (j := 8) (Ni := some 99) (Nj := some 15) (xB 11 31) (xB 11 271) rfl rfl rfl rfl (zem HT_.out (by kernel_rfl)) (by decide) (by decide) (fun K hK => ?_) (fun K hK => ?_)
                ·skip
                 refine zbM Try.func10 (by kernel_rfl) rfl #[.agg #[.int .i64 t353, .slice Ao187 t354.length co187], .agg #[.int .i64 t357, .slice Ao188 t358.length co188]] (by rfl) rfl rfl xm ?_
                 with_reducible refine (zap.calls kj107 t353 _ _ t354 t357 _ _ t358 t361 t362 t365 _ ?side1 ?side2 ?side3 ?side4 A173.out).mono ?_
                 (case side1 => exact xc (Kd.zaI HO356.out).2.2)
                 (case side2 => exact (Kd.zaI HO356.out).2.1)
                 (case side3 => exact xc (Kd.zaI HO360.out).2.2)
                 (case side4 => exact (Kd.zaI HO360.out).2.1)
                 rintro e w189 ⟨v363, rfl, ho0, hb⟩
                 refine ⟨_, rfl, ?_⟩
                 replace ho0 := Kd.zc3 ho0
                 obtain ⟨N393_, ho0, hN393_⟩ := ho0
                 replace HO_1003 := ax (Kd.zb4 (xV HO_1003.out) hN393_ (Kd.za9 ho0) hb); have HO364 := ax (Kd.zbS (Kd.zbk (Kd.zbk (Kd.zbk (Kd.zbk (Kd.zbk ho0 (Kd.S_lt (xS HO_1000.out))) (Kd.S_lt (xS HO_1002.out))) (Kd.S_lt (xS HO_1001.out))) (Kd.S_lt (xS HO356.out))) (Kd.S_lt (xS HO360.out))) (zaj (bh HB.out))); replace HO_1000 := ax (Kd.zaR (xS HO_1000.out) hN393_ (Kd.za9 ho0) hb); replace HO_1002 := ax (Kd.zaR (xS HO_1002.out) hN393_ (Kd.za9 ho0) hb); replace HO_1001 := ax (Kd.zaR (xS HO_1001.out) hN393_ (Kd.za9 ho0) hb); replace HO356 := ax (Kd.zaR (xS HO356.out) hN393_ (Kd.za9 ho0) hb); replace HO360 := ax (Kd.zaR (xS HO360.out) hN393_ (Kd.za9 ho0) hb); replace BK300 := ax (bb BK300.out hb); replace BK301 := ax (bb BK301.out hb); replace BK317 := ax (bb BK317.out hb); replace BK322 := ax (bb BK322.out hb); replace BK327 := ax (bb BK327.out hb); replace BK333 := ax (bb BK333.out hb); replace HB := ax (zas (bh HB.out) hb)
                 (try clear hb)
                 (try clear hk)
                 (try clear ho0)
                 (try clear hN393_)
                 refine hK.out _ _ ⟨(zai BK300.out 0).trans rfl, (zai BK300.out 1).trans rfl, (zai BK301.out 0).trans rfl, (zai BK301.out 1).trans rfl⟩ (fun hHeld => ?_)
                 clear hK K
                 refine nm ?_
                 refine pu (i := 5) (N := some 94) (xB 11 63) HT_.out ?_
                 refine pu (i := 6) (N := some 100) (xB 11 127) HT_.out ?_
                 refine pu (i := 7) (N := some 101) (xB 11 255) HT_.out ?_
                 refine one_ (i := 8) (N := some 15) (xB 11 511) rfl rfl (zbj HT_.out (by kernel_rfl)) (by decide) (fun K hK => ?_)
                 refine zce ?hg (N := 15) ?hd (cs := #[.int .i64 0, .slice none 0 0]) (t := 28) ?hr ?_; (case hd => rfl); (case hg => rfl); (case hr => first | (go_simp; done) | (go_simp; rfl))
                 intro gb366 hg w190 hbox hb
                 replace HO_1003 := ax (Kd.zbR (Kd.zbY (xV HO_1003.out) gb366 (Nat.le_of_eq hg.symm)) hb); replace HO_1000 := ax (Kd.zaF (xS HO_1000.out) hb); replace HO_1002 := ax (Kd.zaF (xS HO_1002.out) hb); replace HO_1001 := ax (Kd.zaF (xS HO_1001.out) hb); replace HO356 := ax (Kd.zaF (xS HO356.out) hb); replace HO360 := ax (Kd.zaF (xS HO360.out) hb); replace HO364 := ax (Kd.zaF (xS HO364.out) hb); have BK366 := ax (hbox); have GW366 := ax ((by rw [hg]; exact (zaj (bh HB.out)) : w.heap.size ≤ gb366)); have GE366 := ax ((by rw [hg]; exact (zaj (bh HB.out)) : w.heap.size ≤ gb366)); replace HB := ax (zas (bh HB.out) hb); have NB300_366 := ax (bn hg BK300.out); have NB366_300 := ax (bm hg BK300.out); replace BK300 := ax (bb BK300.out hb); have NB301_366 := ax (bn hg BK301.out); have NB366_301 := ax (bm hg BK301.out); replace BK301 := ax (bb BK301.out hb); have NB317_366 := ax (bn hg BK317.out); have NB366_317 := ax (bm hg BK317.out); replace BK317 := ax (bb BK317.out hb); have NB322_366 := ax (bn hg BK322.out); have NB366_322 := ax (bm hg BK322.out); replace BK322 := ax (bb BK322.out hb); have NB327_366 := ax (bn hg BK327.out); have NB366_327 := ax (bm hg BK327.out); replace BK327 := ax (bb BK327.out hb); have NB333_366 := ax (bn hg BK333.out); have NB366_333 := ax (bm hg BK333.out); replace BK333 := ax (bb BK333.out hb); clear hb hbox hg
                 refine hK.out _ _ ⟨(zai BK300.out 0).trans rfl, (zai BK300.out 1).trans rfl, (zai BK301.out 0).trans rfl, (zai BK301.out 1).trans rfl⟩ (fun hHeld => ?_)
                 clear hK K
                 refine nm ?_
                 exact zc6 (by simp only [zco, Act.put, List.setIfInBounds_toArray, List.set_cons_zero, List.set_cons_succ]) (hCont (.slice Ao187 t354.length co187, .slice Ao188 t358.length co188, v363, gb366) _ ⟨hHeld, ⟨N389_, N391_, N393_, (by (with_reducible repeat (first | apply Kd.zaG | apply Kd.zaB | apply Kd.zaK)); exact Kd.zaQ HO356.out bq), (by (with_reducible repeat (first | apply Kd.zaG | apply Kd.zaB | apply Kd.zaK)); exact Kd.zaQ HO360.out bq), (by (with_reducible repeat (first | apply Kd.zaG | apply Kd.zaB | apply Kd.zaK)); exact Kd.zaQ HO364.out bq), (by (with_reducible repeat (first | apply Kd.zbv | apply Kd.zbu | apply Kd.zbs)); exact Kd.za3 HO_1003.out bq), (by (with_reducible repeat (first | apply Kd.zaG | apply Kd.zaB | apply Kd.zaK)); exact Kd.zaQ HO_1000.out bq), (by (with_reducible repeat (first | apply Kd.zaG | apply Kd.zaB | apply Kd.zaK)); exact Kd.zaQ HO_1002.out bq), (by (with_reducible repeat (first | apply Kd.zaG | apply Kd.zaB | apply Kd.zaK)); exact Kd.zaQ HO_1001.out bq)⟩, (xk BK300.out), (xk BK301.out), (xk BK317.out), (xk BK322.out), (xk BK327.out), (xk BK333.out), (xk BK366.out), GW366.out, GE366.out, NB300_366.out, NB366_300.out, NB301_366.out, NB366_301.out, NB317_366.out, NB366_317.out, NB322_366.out, NB366_322.out, NB327_366.out, NB366_327.out, NB333_366.out, NB366_333.out, (bh HB.out)⟩)
                ·skip
                 refine zce ?hg (N := 15) ?hd (cs := #[.int .i64 0, .slice none 0 0]) (t := 28) ?hr ?_; (case hd => rfl); (case hg => rfl); (case hr => first | (go_simp; done) | (go_simp; rfl))
                 intro gb366 hg w187 hbox hb
                 replace HO_1003 := ax (Kd.zbR (Kd.zbY (xV HO_1003.out) gb366 (Nat.le_of_eq hg.symm)) hb); replace HO_1000 := ax (Kd.zaF (xS HO_1000.out) hb); replace HO_1002 := ax (Kd.zaF (xS HO_1002.out) hb); replace HO_1001 := ax (Kd.zaF (xS HO_1001.out) hb); replace HO356 := ax (Kd.zaF (xS HO356.out) hb); replace HO360 := ax (Kd.zaF (xS HO360.out) hb); have BK366 := ax (hbox); have GW366 := ax ((by rw [hg]; exact (zaj (bh HB.out)) : w.heap.size ≤ gb366)); have GE366 := ax ((by rw [hg]; exact (zaj (bh HB.out)) : w.heap.size ≤ gb366)); replace HB := ax (zas (bh HB.out) hb); have NB300_366 := ax (bn hg BK300.out); have NB366_300 := ax (bm hg BK300.out); replace BK300 := ax (bb BK300.out hb); have NB301_366 := ax (bn hg BK301.out); have NB366_301 := ax (bm hg BK301.out); replace BK301 := ax (bb BK301.out hb); have NB317_366 := ax (bn hg BK317.out); have NB366_317 := ax (bm hg BK317.out); replace BK317 := ax (bb BK317.out hb); have NB322_366 := ax (bn hg BK322.out); have NB366_322 := ax (bm hg BK322.out); replace BK322 := ax (bb BK322.out hb); have NB327_366 := ax (bn hg BK327.out); have NB366_327 := ax (bm hg BK327.out); replace BK327 := ax (bb BK327.out hb); have NB333_366 := ax (bn hg BK333.out); have NB366_333 := ax (bm hg BK333.out); replace BK333 := ax (bb BK333.out hb); clear hb hbox hg
                 obtain ⟨Ao188, co188, eo188⟩ := Kd.zbB HO356.out
                 (first | subst eo188 | (injection eo188 with f1_ f2_ f3_; have f4_ := f1_.symm; have f5_ := f3_.symm; clear f1_ f2_ f3_; subst f4_; subst f5_))
                 obtain ⟨Ao189, co189, eo189⟩ := Kd.zbB HO360.out
                 (first | subst eo189 | (injection eo189 with f1_ f2_ f3_; have f4_ := f1_.symm; have f5_ := f3_.symm; clear f1_ f2_ f3_; subst f4_; subst f5_))
                 refine hK.out _ _ ⟨(zai BK300.out 0).trans rfl, (zai BK300.out 1).trans rfl, (zai BK301.out 0).trans rfl, (zai BK301.out 1).trans rfl⟩ (fun hHeld => ?_)
                 clear hK K
                 refine nm ?_
                 refine one_ (i := 4) (N := some 99) (xB 11 287) rfl rfl (zbj HT_.out (by kernel_rfl)) (by decide) (fun K hK => ?_)
                 refine zbM Try.func10 (by kernel_rfl) rfl #[.agg #[.int .i64 t353, .slice Ao188 t354.length co188], .agg #[.int .i64 t357, .slice Ao189 t358.length co189]] (by rfl) rfl rfl xm ?_
                 with_reducible refine (zap.calls kj107 t353 _ _ t354 t357 _ _ t358 t361 t362 t365 _ ?side1 ?side2 ?side3 ?side4 A173.out).mono ?_
                 (case side1 => exact xc (Kd.zaI HO356.out).2.2)
                 (case side2 => exact (Kd.zaI HO356.out).2.1)
                 (case side3 => exact xc (Kd.zaI HO360.out).2.2)
                 (case side4 => exact (Kd.zaI HO360.out).2.1)
                 rintro e w190 ⟨v363, rfl, ho0, hb⟩
                 refine ⟨_, rfl, ?_⟩
                 replace ho0 := Kd.zc3 ho0
                 obtain ⟨N399_, ho0, hN399_⟩ := ho0
                 replace HO_1003 := ax (Kd.zb4 (xV HO_1003.out) hN399_ (Kd.za9 ho0) hb); have HO364 := ax (Kd.zbS (Kd.zbk (Kd.zbk (Kd.zbk (Kd.zbk (Kd.zbk ho0 (Kd.S_lt (xS HO_1000.out))) (Kd.S_lt (xS HO_1002.out))) (Kd.S_lt (xS HO_1001.out))) (Kd.S_lt (xS HO356.out))) (Kd.S_lt (xS HO360.out))) (zaj (bh HB.out))); replace HO_1000 := ax (Kd.zaR (xS HO_1000.out) hN399_ (Kd.za9 ho0) hb); replace HO_1002 := ax (Kd.zaR (xS HO_1002.out) hN399_ (Kd.za9 ho0) hb); replace HO_1001 := ax (Kd.zaR (xS HO_1001.out) hN399_ (Kd.za9 ho0) hb); replace HO356 := ax (Kd.zaR (xS HO356.out) hN399_ (Kd.za9 ho0) hb); replace HO360 := ax (Kd.zaR (xS HO360.out) hN399_ (Kd.za9 ho0) hb); replace BK300 := ax (bb BK300.out hb); replace BK301 := ax (bb BK301.out hb); replace BK317 := ax (bb BK317.out hb); replace BK322 := ax (bb BK322.out hb); replace BK327 := ax (bb BK327.out hb); replace BK333 := ax (bb BK333.out hb); replace BK366 := ax (bb BK366.out hb); replace HB := ax (zas (bh HB.out) hb)
                 (try clear hb)
                 (try clear hk)
                 (try clear ho0)
                 (try clear hN399_)
                 refine hK.out _ _ ⟨(zai BK300.out 0).trans rfl, (zai BK300.out 1).trans rfl, (zai BK301.out 0).trans rfl, (zai BK301.out 1).trans rfl⟩ (fun hHeld => ?_)
                 clear hK K
                 refine nm ?_
                 refine pu (i := 5) (N := some 94) (xB 11 319) HT_.out ?_
                 refine pu (i := 6) (N := some 100) (xB 11 383) HT_.out ?_
                 refine pu (i := 7) (N := some 101) (xB 11 511) HT_.out ?_
                 exact zc6 (by simp only [zco, Act.put, List.setIfInBounds_toArray, List.set_cons_zero, List.set_cons_succ]) (hCont (.slice Ao188 t354.length co188, .slice Ao189 t358.length co189, v363, gb366) _ ⟨hHeld, ⟨N389_, N391_, N399_, (by (with_reducible repeat (first | apply Kd.zaG | apply Kd.zaB | apply Kd.zaK)); exact Kd.zaQ HO356.out bq), (by (with_reducible repeat (first | apply Kd.zaG | apply Kd.zaB | apply Kd.zaK)); exact Kd.zaQ HO360.out bq), (by (with_reducible repeat (first | apply Kd.zaG | apply Kd.zaB | apply Kd.zaK)); exact Kd.zaQ HO364.out bq), (by (with_reducible repeat (first | apply Kd.zbv | apply Kd.zbu | apply Kd.zbs)); exact Kd.za3 HO_1003.out bq), (by (with_reducible repeat (first | apply Kd.zaG | apply Kd.zaB | apply Kd.zaK)); exact Kd.zaQ HO_1000.out bq), (by (with_reducible repeat (first | apply Kd.zaG | apply Kd.zaB | apply Kd.zaK)); exact Kd.zaQ HO_1002.out bq), (by (with_reducible repeat (first | apply Kd.zaG | apply Kd.zaB | apply Kd.zaK)); exact Kd.zaQ HO_1001.out bq)⟩, (xk BK300.out), (xk BK301.out), (xk BK317.out), (xk BK322.out), (xk BK327.out), (xk BK333.out), (xk BK366.out), GW366.out, GE366.out, NB300_366.out, NB366_300.out, NB301_366.out, NB366_301.out, NB317_366.out, NB366_317.out, NB322_366.out, NB366_322.out, NB327_366.out, NB366_327.out, NB333_366.out, NB366_333.out, (bh HB.out)⟩)
               ·skip
                refine zce ?hg (N := 15) ?hd (cs := #[.int .i64 0, .slice none 0 0]) (t := 28) ?hr ?_; (case hd => rfl); (case hg => rfl); (case hr => first | (go_simp; done) | (go_simp; rfl))
                intro gb366 hg w186 hbox hb
                replace HO_1003 := ax (Kd.zbR (Kd.zbY (xV HO_1003.out) gb366 (Nat.le_of_eq hg.symm)) hb); replace HO_1000 := ax (Kd.zaF (xS HO_1000.out) hb); replace HO_1002 := ax (Kd.zaF (xS HO_1002.out) hb); replace HO_1001 := ax (Kd.zaF (xS HO_1001.out) hb); replace HO356 := ax (Kd.zaF (xS HO356.out) hb); have BK366 := ax (hbox); have GW366 := ax ((by rw [hg]; exact (zaj (bh HB.out)) : w.heap.size ≤ gb366)); have GE366 := ax ((by rw [hg]; exact (zaj (bh HB.out)) : w.heap.size ≤ gb366)); replace HB := ax (zas (bh HB.out) hb); have NB300_366 := ax (bn hg BK300.out); have NB366_300 := ax (bm hg BK300.out); replace BK300 := ax (bb BK300.out hb); have NB301_366 := ax (bn hg BK301.out); have NB366_301 := ax (bm hg BK301.out); replace BK301 := ax (bb BK301.out hb); have NB317_366 := ax (bn hg BK317.out); have NB366_317 := ax (bm hg BK317.out); replace BK317 := ax (bb BK317.out hb); have NB322_366 := ax (bn hg BK322.out); have NB366_322 := ax (bm hg BK322.out); replace BK322 := ax (bb BK322.out hb); have NB327_366 := ax (bn hg BK327.out); have NB366_327 := ax (bm hg BK327.out); replace BK327 := ax (bb BK327.out hb); have NB333_366 := ax (bn hg BK333.out); have NB366_333 := ax (bm hg BK333.out); replace BK333 := ax (bb BK333.out hb); clear hb hbox hg
                refine hK.out _ _ ⟨(zai BK300.out 0).trans rfl, (zai BK300.out 1).trans rfl, (zai BK301.out 0).trans rfl, (zai BK301.out 1).trans rfl⟩ (fun hHeld => ?_)
                clear hK K
                refine nm ?_
                refine one_ (i := 3) (N := some 98) (xB 11 271) rfl rfl (zbj HT_.out (by kernel_rfl)) (by decide) (fun K hK => ?_)
                refine zbM Try.func9 (by kernel_rfl) rfl #[.agg #[.int .i64 a1_0, .slice A1_1 l1_1.length c1_1]] (by rfl) rfl rfl xm ?_
                with_reducible refine (zaX.calls kj107 a1_0 _ _ l1_1 t357 t358 _ ?side1 ?side2 A172.out).mono ?_
                (case side1 => exact xz HR1_1.out HB.out)
                (case side2 => exact HC1_1.out)
                rintro e w187 ⟨v359, rfl, ho0, hb⟩
                refine ⟨_, rfl, ?_⟩
                replace ho0 := Kd.zc3 ho0
                obtain ⟨N403_, ho0, hN403_⟩ := ho0
                replace HO_1003 := ax (Kd.zb4 (xV HO_1003.out) hN403_ (Kd.za9 ho0) hb); have HO360 := ax (Kd.zbS (Kd.zbk (Kd.zbk (Kd.zbk (Kd.zbk ho0 (Kd.S_lt (xS HO_1000.out))) (Kd.S_lt (xS HO_1002.out))) (Kd.S_lt (xS HO_1001.out))) (Kd.S_lt (xS HO356.out))) (zaj (bh HB.out))); replace HO_1000 := ax (Kd.zaR (xS HO_1000.out) hN403_ (Kd.za9 ho0) hb); replace HO_1002 := ax (Kd.zaR (xS HO_1002.out) hN403_ (Kd.za9 ho0) hb); replace HO_1001 := ax (Kd.zaR (xS HO_1001.out) hN403_ (Kd.za9 ho0) hb); replace HO356 := ax (Kd.zaR (xS HO356.out) hN403_ (Kd.za9 ho0) hb); replace BK300 := ax (bb BK300.out hb); replace BK301 := ax (bb BK301.out hb); replace BK317 := ax (bb BK317.out hb); replace BK322 := ax (bb BK322.out hb); replace BK327 := ax (bb BK327.out hb); replace BK333 := ax (bb BK333.out hb); replace BK366 := ax (bb BK366.out hb); replace HB := ax (zas (bh HB.out) hb)
                (try clear hb)
                (try clear hk)
                (try clear ho0)
                (try clear hN403_)
                obtain ⟨Ao188, co188, eo188⟩ := Kd.zbB HO356.out
                (first | subst eo188 | (injection eo188 with f1_ f2_ f3_; have f4_ := f1_.symm; have f5_ := f3_.symm; clear f1_ f2_ f3_; subst f4_; subst f5_))
                obtain ⟨Ao189, co189, eo189⟩ := Kd.zbB HO360.out
                (first | subst eo189 | (injection eo189 with f1_ f2_ f3_; have f4_ := f1_.symm; have f5_ := f3_.symm; clear f1_ f2_ f3_; subst f4_; subst f5_))
                refine hK.out _ _ ⟨(zai BK300.out 0).trans rfl, (zai BK300.out 1).trans rfl, (zai BK301.out 0).trans rfl, (zai BK301.out 1).trans rfl⟩ (fun hHeld => ?_)
                clear hK K
                refine nm ?_
                refine one_ (i := 4) (N := some 99) (xB 11 287) rfl rfl (zbj HT_.out (by kernel_rfl)) (by decide) (fun K hK => ?_)
                refine zbM Try.func10 (by kernel_rfl) rfl #[.agg #[.int .i64 t353, .slice Ao188 t354.length co188], .agg #[.int .i64 t357, .slice Ao189 t358.length co189]] (by rfl) rfl rfl xm ?_
                with_reducible refine (zap.calls kj107 t353 _ _ t354 t357 _ _ t358 t361 t362 t365 _ ?side1 ?side2 ?side3 ?side4 A173.out).mono ?_
                (case side1 => exact xc (Kd.zaI HO356.out).2.2)
                (case side2 => exact (Kd.zaI HO356.out).2.1)
                (case side3 => exact xc (Kd.zaI HO360.out).2.2)
                (case side4 => exact (Kd.zaI HO360.out).2.1)
                rintro e w190 ⟨v363, rfl, ho0, hb⟩
                refine ⟨_, rfl, ?_⟩
                replace ho0 := Kd.zc3 ho0
                obtain ⟨N405_, ho0, hN405_⟩ := ho0
                replace HO_1003 := ax (Kd.zb4 (xV HO_1003.out) hN405_ (Kd.za9 ho0) hb); have HO364 := ax (Kd.zbS (Kd.zbk (Kd.zbk (Kd.zbk (Kd.zbk (Kd.zbk ho0 (Kd.S_lt (xS HO_1000.out))) (Kd.S_lt (xS HO_1002.out))) (Kd.S_lt (xS HO_1001.out))) (Kd.S_lt (xS HO356.out))) (Kd.S_lt (xS HO360.out))) (zaj (bh HB.out))); replace HO_1000 := ax (Kd.zaR (xS HO_1000.out) hN405_ (Kd.za9 ho0) hb); replace HO_1002 := ax (Kd.zaR (xS HO_1002.out) hN405_ (Kd.za9 ho0) hb); replace HO_1001 := ax (Kd.zaR (xS HO_1001.out) hN405_ (Kd.za9 ho0) hb); replace HO356 := ax (Kd.zaR (xS HO356.out) hN405_ (Kd.za9 ho0) hb); replace HO360 := ax (Kd.zaR (xS HO360.out) hN405_ (Kd.za9 ho0) hb); replace BK300 := ax (bb BK300.out hb); replace BK301 := ax (bb BK301.out hb); replace BK317 := ax (bb BK317.out hb); replace BK322 := ax (bb BK322.out hb); replace BK327 := ax (bb BK327.out hb); replace BK333 := ax (bb BK333.out hb); replace BK366 := ax (bb BK366.out hb); replace HB := ax (zas (bh HB.out) hb)
                (try clear hb)
                (try clear hk)
                (try clear ho0)
                (try clear hN405_)
                refine hK.out _ _ ⟨(zai BK300.out 0).trans rfl, (zai BK300.out 1).trans rfl, (zai BK301.out 0).trans rfl, (zai BK301.out 1).trans rfl⟩ (fun hHeld => ?_)
                clear hK K
                refine nm ?_
                refine pu (i := 5) (N := some 94) (xB 11 319) HT_.out ?_
                refine pu (i := 6) (N := some 100) (xB 11 383) HT_.out ?_
                refine pu (i := 7) (N := some 101) (xB 11 511) HT_.out ?_
                exact zc6 (by simp only [zco, Act.put, List.setIfInBounds_toArray, List.set_cons_zero, List.set_cons_succ]) (hCont (.slice Ao188 t354.length co188, .slice Ao189 t358.length co189, v363, gb366) _ ⟨hHeld, ⟨N389_, N403_, N405_, (by (with_reducible repeat (first | apply Kd.zaG | apply Kd.zaB | apply Kd.zaK)); exact Kd.zaQ HO356.out bq), (by (with_reducible repeat (first | apply Kd.zaG | apply Kd.zaB | apply Kd.zaK)); exact Kd.zaQ HO360.out bq), (by (with_reducible repeat (first | apply Kd.zaG | apply Kd.zaB | apply Kd.zaK)); exact Kd.zaQ HO364.out bq), (by (with_reducible repeat (first | apply Kd.zbv | apply Kd.zbu | apply Kd.zbs)); exact Kd.za3 HO_1003.out bq), (by (with_reducible repeat (first | apply Kd.zaG | apply Kd.zaB | apply Kd.zaK)); exact Kd.zaQ HO_1000.out bq), (by (with_reducible repeat (first | apply Kd.zaG | apply Kd.zaB | apply Kd.zaK)); exact Kd.zaQ HO_1002.out bq), (by (with_reducible repeat (first | apply Kd.zaG | apply Kd.zaB | apply Kd.zaK)); exact Kd.zaQ HO_1001.out bq)⟩, (xk BK300.out), (xk BK301.out), (xk BK317.out), (xk BK322.out), (xk BK327.out), (xk BK333.out), (xk BK366.out), GW366.out, GE366.out, NB300_366.out, NB366_300.out, NB301_366.out, NB366_301.out, NB317_366.out, NB366_317.out, NB322_366.out, NB366_322.out, NB327_366.out, NB366_327.out, NB333_366.out, NB366_333.out, (bh HB.out)⟩)
              ·skip
               refine zce ?hg (N := 15) ?hd (cs := #[.int .i64 0, .slice none 0 0]) (t := 28) ?hr ?_; (case hd => rfl); (case hg => rfl); (case hr => first | (go_simp; done) | (go_simp; rfl))
               intro gb366 hg w185 hbox hb
               replace HO_1003 := ax (Kd.zbR (Kd.zbY (xV HO_1003.out) gb366 (Nat.le_of_eq hg.symm)) hb); replace HO_1000 := ax (Kd.zaF (xS HO_1000.out) hb); replace HO_1002 := ax (Kd.zaF (xS HO_1002.out) hb); replace HO_1001 := ax (Kd.zaF (xS HO_1001.out) hb); have BK366 := ax (hbox); have GW366 := ax ((by rw [hg]; exact (zaj (bh HB.out)) : w.heap.size ≤ gb366)); have GE366 := ax ((by rw [hg]; exact (zaj (bh HB.out)) : w.heap.size ≤ gb366)); replace HB := ax (zas (bh HB.out) hb); have NB300_366 := ax (bn hg BK300.out); have NB366_300 := ax (bm hg BK300.out); replace BK300 := ax (bb BK300.out hb); have NB301_366 := ax (bn hg BK301.out); have NB366_301 := ax (bm hg BK301.out); replace BK301 := ax (bb BK301.out hb); have NB317_366 := ax (bn hg BK317.out); have NB366_317 := ax (bm hg BK317.out); replace BK317 := ax (bb BK317.out hb); have NB322_366 := ax (bn hg BK322.out); have NB366_322 := ax (bm hg BK322.out); replace BK322 := ax (bb BK322.out hb); have NB327_366 := ax (bn hg BK327.out); have NB366_327 := ax (bm hg BK327.out); replace BK327 := ax (bb BK327.out hb); have NB333_366 := ax (bn hg BK333.out); have NB366_333 := ax (bm hg BK333.out); replace BK333 := ax (bb BK333.out hb); clear hb hbox hg
               refine hK.out _ _ ⟨(zai BK300.out 0).trans rfl, (zai BK300.out 1).trans rfl, (zai BK301.out 0).trans rfl, (zai BK301.out 1).trans rfl⟩ (fun hHeld => ?_)
               clear hK K
               refine nm ?_
               refine one_ (i := 1) (N := some 96) (xB 11 263) rfl rfl (zbj HT_.out (by kernel_rfl)) (by decide) (fun K hK => ?_)
               refine zbM Try.func9 (by kernel_rfl) rfl #[.agg #[.int .i64 a0_0, .slice A0_1 l0_1.length c0_1]] (by rfl) rfl rfl xm ?_
               with_reducible refine (zaX.calls kj107 a0_0 _ _ l0_1 t353 t354 _ ?side1 ?side2 A171.out).mono ?_
               (case side1 => exact xz HR0_1.out HB.out)
               (case side2 => exact HC0_1.out)
               rintro e w186 ⟨v355, rfl, ho0, hb⟩
               refine ⟨_, rfl, ?_⟩
               replace ho0 := Kd.zc3 ho0
               obtain ⟨N407_, ho0, hN407_⟩ := ho0
               replace HO_1003 := ax (Kd.zb4 (xV HO_1003.out) hN407_ (Kd.za9 ho0) hb); have HO356 := ax (Kd.zbS (Kd.zbk (Kd.zbk (Kd.zbk ho0 (Kd.S_lt (xS HO_1000.out))) (Kd.S_lt (xS HO_1002.out))) (Kd.S_lt (xS HO_1001.out))) (zaj (bh HB.out))); replace HO_1000 := ax (Kd.zaR (xS HO_1000.out) hN407_ (Kd.za9 ho0) hb); replace HO_1002 := ax (Kd.zaR (xS HO_1002.out) hN407_ (Kd.za9 ho0) hb); replace HO_1001 := ax (Kd.zaR (xS HO_1001.out) hN407_ (Kd.za9 ho0) hb); replace BK300 := ax (bb BK300.out hb); replace BK301 := ax (bb BK301.out hb); replace BK317 := ax (bb BK317.out hb); replace BK322 := ax (bb BK322.out hb); replace BK327 := ax (bb BK327.out hb); replace BK333 := ax (bb BK333.out hb); replace BK366 := ax (bb BK366.out hb); replace HB := ax (zas (bh HB.out) hb)
               (try clear hb)
               (try clear hk)
               (try clear ho0)
               (try clear hN407_)
               refine hK.out _ _ ⟨(zai BK300.out 0).trans rfl, (zai BK300.out 1).trans rfl, (zai BK301.out 0).trans rfl, (zai BK301.out 1).trans rfl⟩ (fun hHeld => ?_)
               clear hK K
               refine nm ?_
               refine one_ (i := 3) (N := some 98) (xB 11 271) rfl rfl (zbj HT_.out (by kernel_rfl)) (by decide) (fun K hK => ?_)
               refine zbM Try.func9 (by kernel_rfl) rfl #[.agg #[.int .i64 a1_0, .slice A1_1 l1_1.length c1_1]] (by rfl) rfl rfl xm ?_
               with_reducible refine (zaX.calls kj107 a1_0 _ _ l1_1 t357 t358 _ ?side1 ?side2 A172.out).mono ?_
               (case side1 => exact xz HR1_1.out HB.out)
               (case side2 => exact HC1_1.out)
               rintro e w187 ⟨v359, rfl, ho0, hb⟩
               refine ⟨_, rfl, ?_⟩
               replace ho0 := Kd.zc3 ho0
               obtain ⟨N409_, ho0, hN409_⟩ := ho0
               replace HO_1003 := ax (Kd.zb4 (xV HO_1003.out) hN409_ (Kd.za9 ho0) hb); have HO360 := ax (Kd.zbS (Kd.zbk (Kd.zbk (Kd.zbk (Kd.zbk ho0 (Kd.S_lt (xS HO_1000.out))) (Kd.S_lt (xS HO_1002.out))) (Kd.S_lt (xS HO_1001.out))) (Kd.S_lt (xS HO356.out))) (zaj (bh HB.out))); replace HO_1000 := ax (Kd.zaR (xS HO_1000.out) hN409_ (Kd.za9 ho0) hb); replace HO_1002 := ax (Kd.zaR (xS HO_1002.out) hN409_ (Kd.za9 ho0) hb); replace HO_1001 := ax (Kd.zaR (xS HO_1001.out) hN409_ (Kd.za9 ho0) hb); replace HO356 := ax (Kd.zaR (xS HO356.out) hN409_ (Kd.za9 ho0) hb); replace BK300 := ax (bb BK300.out hb); replace BK301 := ax (bb BK301.out hb); replace BK317 := ax (bb BK317.out hb); replace BK322 := ax (bb BK322.out hb); replace BK327 := ax (bb BK327.out hb); replace BK333 := ax (bb BK333.out hb); replace BK366 := ax (bb BK366.out hb); replace HB := ax (zas (bh HB.out) hb)
               (try clear hb)
               (try clear hk)
               (try clear ho0)
               (try clear hN409_)
               obtain ⟨Ao188, co188, eo188⟩ := Kd.zbB HO356.out
               (first | subst eo188 | (injection eo188 with f1_ f2_ f3_; have f4_ := f1_.symm; have f5_ := f3_.symm; clear f1_ f2_ f3_; subst f4_; subst f5_))
               obtain ⟨Ao189, co189, eo189⟩ := Kd.zbB HO360.out
               (first | subst eo189 | (injection eo189 with f1_ f2_ f3_; have f4_ := f1_.symm; have f5_ := f3_.symm; clear f1_ f2_ f3_; subst f4_; subst f5_))
               refine hK.out _ _ ⟨(zai BK300.out 0).trans rfl, (zai BK300.out 1).trans rfl, (zai BK301.out 0).trans rfl, (zai BK301.out 1).trans rfl⟩ (fun hHeld => ?_)
               clear hK K
               refine nm ?_
               refine one_ (i := 4) (N := some 99) (xB 11 287) rfl rfl (zbj HT_.out (by kernel_rfl)) (by decide) (fun K hK => ?_)
               refine zbM Try.func10 (by kernel_rfl) rfl #[.agg #[.int .i64 t353, .slice Ao188 t354.length co188], .agg #[.int .i64 t357, .slice Ao189 t358.length co189]] (by rfl) rfl rfl xm ?_
               with_reducible refine (zap.calls kj107 t353 _ _ t354 t357 _ _ t358 t361 t362 t365 _ ?side1 ?side2 ?side3 ?side4 A173.out).mono ?_
               (case side1 => exact xc (Kd.zaI HO356.out).2.2)
               (case side2 => exact (Kd.zaI HO356.out).2.1)
               (case side3 => exact xc (Kd.zaI HO360.out).2.2)
               (case side4 => exact (Kd.zaI HO360.out).2.1)
               rintro e w190 ⟨v363, rfl, ho0, hb⟩
               refine ⟨_, rfl, ?_⟩
               replace ho0 := Kd.zc3 ho0
               obtain ⟨N411_, ho0, hN411_⟩ := ho0
               replace HO_1003 := ax (Kd.zb4 (xV HO_1003.out) hN411_ (Kd.za9 ho0) hb); have HO364 := ax (Kd.zbS (Kd.zbk (Kd.zbk (Kd.zbk (Kd.zbk (Kd.zbk ho0 (Kd.S_lt (xS HO_1000.out))) (Kd.S_lt (xS HO_1002.out))) (Kd.S_lt (xS HO_1001.out))) (Kd.S_lt (xS HO356.out))) (Kd.S_lt (xS HO360.out))) (zaj (bh HB.out))); replace HO_1000 := ax (Kd.zaR (xS HO_1000.out) hN411_ (Kd.za9 ho0) hb); replace HO_1002 := ax (Kd.zaR (xS HO_1002.out) hN411_ (Kd.za9 ho0) hb); replace HO_1001 := ax (Kd.zaR (xS HO_1001.out) hN411_ (Kd.za9 ho0) hb); replace HO356 := ax (Kd.zaR (xS HO356.out) hN411_ (Kd.za9 ho0) hb); replace HO360 := ax (Kd.zaR (xS HO360.out) hN411_ (Kd.za9 ho0) hb); replace BK300 := ax (bb BK300.out hb); replace BK301 := ax (bb BK301.out hb); replace BK317 := ax (bb BK317.out hb); replace BK322 := ax (bb BK322.out hb); replace BK327 := ax (bb BK327.out hb); replace BK333 := ax (bb BK333.out hb); replace BK366 := ax (bb BK366.out hb); replace HB := ax (zas (bh HB.out) hb)
               (try clear hb)
               (try clear hk)
               (try clear ho0)
               (try clear hN411_)
               refine hK.out _ _ ⟨(zai BK300.out 0).trans rfl, (zai BK300.out 1).trans rfl, (zai BK301.out 0).trans rfl, (zai BK301.out 1).trans rfl⟩ (fun hHeld => ?_)
               clear hK K
               refine nm ?_
               refine pu (i := 5) (N := some 94) (xB 11 319) HT_.out ?_
               refine pu (i := 6) (N := some 100) (xB 11 383) HT_.out ?_
               refine pu (i := 7) (N := some 101) (xB 11 511) HT_.out ?_
               exact zc6 (by simp only [zco, Act.put, List.setIfInBounds_toArray, List.set_cons_zero, List.set_cons_succ]) (hCont (.slice Ao188 t354.length co188, .slice Ao189 t358.length co189, v363, gb366) _ ⟨hHeld, ⟨N407_, N409_, N411_, (by (with_reducible repeat (first | apply Kd.zaG | apply Kd.zaB | apply Kd.zaK)); exact Kd.zaQ HO356.out bq), (by (with_reducible repeat (first | apply Kd.zaG | apply Kd.zaB | apply Kd.zaK)); exact Kd.zaQ HO360.out bq), (by (with_reducible repeat (first | apply Kd.zaG | apply Kd.zaB | apply Kd.zaK)); exact Kd.zaQ HO364.out bq), (by (with_reducible repeat (first | apply Kd.zbv | apply Kd.zbu | apply Kd.zbs)); exact Kd.za3 HO_1003.out bq), (by (with_reducible repeat (first | apply Kd.zaG | apply Kd.zaB | apply Kd.zaK)); exact Kd.zaQ HO_1000.out bq), (by (with_reducible repeat (first | apply Kd.zaG | apply Kd.zaB | apply Kd.zaK)); exact Kd.zaQ HO_1002.out bq), (by (with_reducible repeat (first | apply Kd.zaG | apply Kd.zaB | apply Kd.zaK)); exact Kd.zaQ HO_1001.out bq)⟩, (xk BK300.out), (xk BK301.out), (xk BK317.out), (xk BK322.out), (xk BK327.out), (xk BK333.out), (xk BK366.out), GW366.out, GE366.out, NB300_366.out, NB366_300.out, NB301_366.out, NB366_301.out, NB317_366.out, NB366_317.out, NB322_366.out, NB366_322.out, NB327_366.out, NB366_327.out, NB333_366.out, NB366_333.out, (bh HB.out)⟩)
             rintro ⟨v355, v359, v363, gb366⟩ w191 ⟨hS_, ⟨N413_, N415_, N417_, h0_, h1_, h2_, h3_, h4_, h5_, h6_⟩, h7_, h8_, h9_, h10_, h11_, h12_, h13_, h14_, h15_, h16_, h17_, h18_, h19_, h20_, h21_, h22_, h23_, h24_, h25_, h26_, h27_, h28_⟩
             have n0_ : zal (Kd.S k48 48 w191 w.heap.size (fun k_ => some k_ ≠ (v359 : Value).ownBlock ∧ some k_ ≠ (v363 : Value).ownBlock ∧ some k_ ≠ (.slice Ao52 t346.length co52 : Value).ownBlock ∧ some k_ ≠ (.slice Ao62 t348.length co62 : Value).ownBlock ∧ some k_ ≠ (.slice Ao72 t329.length co72 : Value).ownBlock ∧ k_ ≠ dmI N413_ k_ ∧ k_ ≠ dmO N415_ k_ ∧ k_ ≠ dmO N417_ k_) v355 t354) := ⟨h0_⟩
             have n1_ : zal (Kd.S k48 48 w191 w.heap.size (fun k_ => some k_ ≠ (v355 : Value).ownBlock ∧ some k_ ≠ (v363 : Value).ownBlock ∧ some k_ ≠ (.slice Ao52 t346.length co52 : Value).ownBlock ∧ some k_ ≠ (.slice Ao62 t348.length co62 : Value).ownBlock ∧ some k_ ≠ (.slice Ao72 t329.length co72 : Value).ownBlock ∧ k_ ≠ dmI N415_ k_ ∧ k_ ≠ dmO N417_ k_) v359 t358) := ⟨h1_⟩
             have n2_ : zal (Kd.S k48 48 w191 w.heap.size (fun k_ => some k_ ≠ (v355 : Value).ownBlock ∧ some k_ ≠ (v359 : Value).ownBlock ∧ some k_ ≠ (.slice Ao52 t346.length co52 : Value).ownBlock ∧ some k_ ≠ (.slice Ao62 t348.length co62 : Value).ownBlock ∧ some k_ ≠ (.slice Ao72 t329.length co72 : Value).ownBlock ∧ k_ ≠ dmI N417_ k_) v363 t362) := ⟨h2_⟩
             have n3_ : zal (Kd.V k48 48 w191 w.heap.size (fun k_ => some k_ ≠ (v355 : Value).ownBlock ∧ some k_ ≠ (v359 : Value).ownBlock ∧ some k_ ≠ (v363 : Value).ownBlock ∧ some k_ ≠ (.slice Ao52 t346.length co52 : Value).ownBlock ∧ some k_ ≠ (.slice Ao62 t348.length co62 : Value).ownBlock ∧ some k_ ≠ (.slice Ao72 t329.length co72 : Value).ownBlock ∧ k_ ≠ gb300 ∧ k_ ≠ gb301 ∧ k_ ≠ gb317 ∧ k_ ≠ gb322 ∧ k_ ≠ gb327 ∧ k_ ≠ gb333 ∧ k_ ≠ gb366 ∧ k_ ≠ dmO N379_ k_ ∧ k_ ≠ dmO N381_ k_ ∧ k_ ≠ dmO N383_ k_ ∧ k_ ≠ dmO N385_ k_ ∧ k_ ≠ dmO N387_ k_ ∧ k_ ≠ dmO N413_ k_ ∧ k_ ≠ dmO N415_ k_ ∧ k_ ≠ dmO N417_ k_) (.slice Ao42 t313.length co42) t313) := ⟨h3_⟩
             have n4_ : zal (Kd.S k48 48 w191 w.heap.size (fun k_ => some k_ ≠ (v355 : Value).ownBlock ∧ some k_ ≠ (v359 : Value).ownBlock ∧ some k_ ≠ (v363 : Value).ownBlock ∧ some k_ ≠ (.slice Ao62 t348.length co62 : Value).ownBlock ∧ some k_ ≠ (.slice Ao72 t329.length co72 : Value).ownBlock ∧ k_ ≠ dmI N379_ k_ ∧ k_ ≠ dmO N381_ k_ ∧ k_ ≠ dmO N383_ k_ ∧ k_ ≠ dmO N385_ k_ ∧ k_ ≠ dmO N387_ k_ ∧ k_ ≠ dmO N413_ k_ ∧ k_ ≠ dmO N415_ k_ ∧ k_ ≠ dmO N417_ k_) (.slice Ao52 t346.length co52) t346) := ⟨h4_⟩
             have n5_ : zal (Kd.S k48 48 w191 w.heap.size (fun k_ => some k_ ≠ (v355 : Value).ownBlock ∧ some k_ ≠ (v359 : Value).ownBlock ∧ some k_ ≠ (v363 : Value).ownBlock ∧ some k_ ≠ (.slice Ao52 t346.length co52 : Value).ownBlock ∧ some k_ ≠ (.slice Ao72 t329.length co72 : Value).ownBlock ∧ k_ ≠ dmI N381_ k_ ∧ k_ ≠ dmO N383_ k_ ∧ k_ ≠ dmO N385_ k_ ∧ k_ ≠ dmO N387_ k_ ∧ k_ ≠ dmO N413_ k_ ∧ k_ ≠ dmO N415_ k_ ∧ k_ ≠ dmO N417_ k_) (.slice Ao62 t348.length co62) t348) := ⟨h5_⟩
             have n6_ : zal (Kd.S k48 48 w191 w.heap.size (fun k_ => some k_ ≠ (v355 : Value).ownBlock ∧ some k_ ≠ (v359 : Value).ownBlock ∧ some k_ ≠ (v363 : Value).ownBlock ∧ some k_ ≠ (.slice Ao52 t346.length co52 : Value).ownBlock ∧ some k_ ≠ (.slice Ao62 t348.length co62 : Value).ownBlock ∧ k_ ≠ dmI N383_ k_ ∧ k_ ≠ dmO N385_ k_ ∧ k_ ≠ dmO N387_ k_ ∧ k_ ≠ dmO N413_ k_ ∧ k_ ≠ dmO N415_ k_ ∧ k_ ≠ dmO N417_ k_) (.slice Ao72 t329.length co72) t351) := ⟨h6_⟩
             have n7_ : zal (w191.heap[gb300]? = some (.cells #[.int .i64 a0_0, .slice A0_1 l0_1.length c0_1] 24 (0, 0))) := ⟨h7_⟩
             have n8_ : zal (w191.heap[gb301]? = some (.cells #[.int .i64 a1_0, .slice A1_1 l1_1.length c1_1] 24 (0, 0))) := ⟨h8_⟩
             have n9_ : zal (w191.heap[gb317]? = some (.cells #[.int .i64 t312, .slice Ao42 t313.length co42] 28 (0, 0))) := ⟨h9_⟩
             have n10_ : zal (w191.heap[gb322]? = some (.cells #[.int .i64 t318, .slice Ao52 t346.length co52] 28 (0, 0))) := ⟨h10_⟩
             have n11_ : zal (w191.heap[gb327]? = some (.cells #[.int .i64 t323, .slice Ao62 t348.length co62] 28 (0, 0))) := ⟨h11_⟩
             have n12_ : zal (w191.heap[gb333]? = some (.cells #[.int .i64 t328, .slice Ao72 t329.length co72] 28 (0, 0))) := ⟨h12_⟩
             have n13_ : zal (w191.heap[gb366]? = some (.cells #[.int .i64 0, .slice none 0 0] 28 (0, 0))) := ⟨h13_⟩
             have n14_ : zal (w.heap.size ≤ gb366) := ⟨h14_⟩
             have n15_ : zal (w.heap.size ≤ gb366) := ⟨h15_⟩
             have n16_ : zal (gb300 ≠ gb366) := ⟨h16_⟩
             have n17_ : zal (gb366 ≠ gb300) := ⟨h17_⟩
             have n18_ : zal (gb301 ≠ gb366) := ⟨h18_⟩
             have n19_ : zal (gb366 ≠ gb301) := ⟨h19_⟩
             have n20_ : zal (gb317 ≠ gb366) := ⟨h20_⟩
             have n21_ : zal (gb366 ≠ gb317) := ⟨h21_⟩
             have n22_ : zal (gb322 ≠ gb366) := ⟨h22_⟩
             have n23_ : zal (gb366 ≠ gb322) := ⟨h23_⟩
             have n24_ : zal (gb327 ≠ gb366) := ⟨h24_⟩
             have n25_ : zal (gb366 ≠ gb327) := ⟨h25_⟩
             have n26_ : zal (gb333 ≠ gb366) := ⟨h26_⟩
             have n27_ : zal (gb366 ≠ gb333) := ⟨h27_⟩
             have n28_ : zal (Below w.heap.size w w191) := ⟨h28_⟩
             clear HO_1003 HO_1000 HO_1002 HO_1001 BK300 BK301 BK317 BK322 BK327 BK333 HB h0_ h1_ h2_ h3_ h4_ h5_ h6_ h7_ h8_ h9_ h10_ h11_ h12_ h13_ h14_ h15_ h16_ h17_ h18_ h19_ h20_ h21_ h22_ h23_ h24_ h25_ h26_ h27_ h28_
             have HO356 := n0_
             have HO360 := n1_
             have HO364 := n2_
             have HO_1003 := n3_
             have HO_1000 := n4_
             have HO_1002 := n5_
             have HO_1001 := n6_
             have BK300 := n7_
             have BK301 := n8_
             have BK317 := n9_
             have BK322 := n10_
             have BK327 := n11_
             have BK333 := n12_
             have BK366 := n13_
             have GW366 := n14_
             have GE366 := n15_
             have NB300_366 := n16_
             have NB366_300 := n17_
             have NB301_366 := n18_
             have NB366_301 := n19_
             have NB317_366 := n20_
             have NB366_317 := n21_
             have NB322_366 := n22_
             have NB366_322 := n23_
             have NB327_366 := n24_
             have NB366_327 := n25_
             have NB333_366 := n26_
             have NB366_333 := n27_
             have HB := n28_
             clear n0_ n1_ n2_ n3_ n4_ n5_ n6_ n7_ n8_ n9_ n10_ n11_ n12_ n13_ n14_ n15_ n16_ n17_ n18_ n19_ n20_ n21_ n22_ n23_ n24_ n25_ n26_ n27_ n28_
             have hHeld : w191.cell? ⟨gb300, 0, none⟩ = some (.int .i64 a0_0) ∧ w191.cell? ⟨gb300, 1, none⟩ = some (.slice A0_1 l0_1.length c0_1) ∧ w191.cell? ⟨gb301, 0, none⟩ = some (.int .i64 a1_0) ∧ w191.cell? ⟨gb301, 1, none⟩ = some (.slice A1_1 l1_1.length c1_1) := hS_
             obtain ⟨Ao193, co193, eo193⟩ := Kd.zbB HO364.out
             (first | subst eo193 | (injection eo193 with f1_ f2_ f3_; have f4_ := f1_.symm; have f5_ := f3_.symm; clear f1_ f2_ f3_; subst f4_; subst f5_))
             refine zc6 (a' := ?_) ?_ ?_
             rotate_left
             ·simp only [zco, Act.put, List.setIfInBounds_toArray, List.set_cons_zero, List.set_cons_succ]
              rfl
             refine one_ (i := 9) (N := none) (xB 11 1023) rfl rfl (zbj HT_.out (by kernel_rfl)) (by decide) (fun K hK => ?_)
             have hs192 : w191.cell? ⟨gb366, 0, none⟩ = some (.int .i64 0) := (zai BK366.out 0).trans rfl
             have hfs192 := zag BK366.out 0
             have hns192_0 := NB300_366.out
             have hns192_1 := NB301_366.out
             have hns192_2 := NB317_366.out
             have hns192_3 := NB322_366.out
             have hns192_4 := NB327_366.out
             have hns192_5 := NB333_366.out
             have hms192_0 := NB366_300.out
             have hms192_1 := NB366_301.out
             have hms192_2 := NB366_317.out
             have hms192_3 := NB366_322.out
             have hms192_4 := NB366_327.out
             have hms192_5 := NB366_333.out
             have hs194 : w191.cell? ⟨gb366, 1, none⟩ = some (.slice none 0 0) := (zai BK366.out 1).trans rfl
             have hfs194 := zag BK366.out 1
             have hns194_0 := NB300_366.out
             have hns194_1 := NB301_366.out
             have hns194_2 := NB317_366.out
             have hns194_3 := NB322_366.out
             have hns194_4 := NB327_366.out
             have hns194_5 := NB333_366.out
             have hms194_0 := NB366_300.out
             have hms194_1 := NB366_301.out
             have hms194_2 := NB366_317.out
             have hms194_3 := NB366_322.out
             have hms194_4 := NB366_327.out
             have hms194_5 := NB366_333.out
             refine zdz (w1 := ?_) (by rfl) rfl ?_ ?_
             rotate_left
             ·go_simp
              rfl
             refine hK.out _ _ ⟨((cell_far (p := ⟨gb366, _, none⟩) NB300_366.out _).trans (((cell_far (p := ⟨gb366, _, none⟩) NB300_366.out _).trans (hHeld.1)))), ((cell_far (p := ⟨gb366, _, none⟩) NB300_366.out _).trans (((cell_far (p := ⟨gb366, _, none⟩) NB300_366.out _).trans (hHeld.2.1)))), ((cell_far (p := ⟨gb366, _, none⟩) NB301_366.out _).trans (((cell_far (p := ⟨gb366, _, none⟩) NB301_366.out _).trans (hHeld.2.2.1)))), ((cell_far (p := ⟨gb366, _, none⟩) NB301_366.out _).trans (((cell_far (p := ⟨gb366, _, none⟩) NB301_366.out _).trans (hHeld.2.2.2))))⟩ (fun hHeld => ?_)
             clear hK K
             refine pu (i := 10) (N := some 16) (xB 11 2047) HT_.out ?_
             refine zb5 (zbA HT_.out (by kernel_rfl)) ?_
             go_upto_region 32 with (fail)
             go_cut [110] (fun v110 wc => ∃ (kq : Nat) (x110_173 : Bool), v110 = .bool x110_173 ∧ zal (zak.j2 kq t350 x110_173 t328 t351 = some r) ∧ zal (kq ≤ kj107) ∧ zal (Kd.V k48 48 wc w.heap.size (fun k_ => some k_ ≠ ((.slice Ao52 t346.length co52) : Value).ownBlock ∧ some k_ ≠ ((.slice Ao62 t348.length co62) : Value).ownBlock ∧ some k_ ≠ ((.slice Ao72 t329.length co72) : Value).ownBlock ∧ some k_ ≠ ((.slice Ao193 t362.length co193) : Value).ownBlock ∧ k_ ≠ gb300 ∧ k_ ≠ gb301 ∧ k_ ≠ gb317 ∧ k_ ≠ gb322 ∧ k_ ≠ gb327 ∧ k_ ≠ gb333 ∧ k_ ≠ gb366 ∧ k_ ≠ dmO N379_ k_ ∧ k_ ≠ dmO N381_ k_ ∧ k_ ≠ dmO N383_ k_ ∧ k_ ≠ dmO N385_ k_ ∧ k_ ≠ dmO N387_ k_ ∧ k_ ≠ dmO N413_ k_ ∧ k_ ≠ dmO N415_ k_ ∧ k_ ≠ dmO N417_ k_) (.slice Ao42 t313.length co42) t313) ∧ zal (Kd.S k48 48 wc w.heap.size (fun k_ => some k_ ≠ ((.slice Ao62 t348.length co62) : Value).ownBlock ∧ some k_ ≠ ((.slice Ao72 t329.length co72) : Value).ownBlock ∧ some k_ ≠ ((.slice Ao193 t362.length co193) : Value).ownBlock ∧ k_ ≠ dmI N379_ k_ ∧ k_ ≠ dmO N381_ k_ ∧ k_ ≠ dmO N383_ k_ ∧ k_ ≠ dmO N385_ k_ ∧ k_ ≠ dmO N387_ k_ ∧ k_ ≠ dmO N413_ k_ ∧ k_ ≠ dmO N415_ k_ ∧ k_ ≠ dmO N417_ k_) (.slice Ao52 t346.length co52) t346) ∧ zal (Kd.S k48 48 wc w.heap.size (fun k_ => some k_ ≠ ((.slice Ao52 t346.length co52) : Value).ownBlock ∧ some k_ ≠ ((.slice Ao72 t329.length co72) : Value).ownBlock ∧ some k_ ≠ ((.slice Ao193 t362.length co193) : Value).ownBlock ∧ k_ ≠ dmI N381_ k_ ∧ k_ ≠ dmO N383_ k_ ∧ k_ ≠ dmO N385_ k_ ∧ k_ ≠ dmO N387_ k_ ∧ k_ ≠ dmO N413_ k_ ∧ k_ ≠ dmO N415_ k_ ∧ k_ ≠ dmO N417_ k_) (.slice Ao62 t348.length co62) t348) ∧ zal (Kd.S k48 48 wc w.heap.size (fun k_ => some k_ ≠ ((.slice Ao52 t346.length co52) : Value).ownBlock ∧ some k_ ≠ ((.slice Ao62 t348.length co62) : Value).ownBlock ∧ some k_ ≠ ((.slice Ao193 t362.length co193) : Value).ownBlock ∧ k_ ≠ dmI N383_ k_ ∧ k_ ≠ dmO N385_ k_ ∧ k_ ≠ dmO N387_ k_ ∧ k_ ≠ dmO N413_ k_ ∧ k_ ≠ dmO N415_ k_ ∧ k_ ≠ dmO N417_ k_) (.slice Ao72 t329.length co72) t351) ∧ zal (Kd.S k48 48 wc w.heap.size (fun k_ => some k_ ≠ ((.slice Ao52 t346.length co52) : Value).ownBlock ∧ some k_ ≠ ((.slice Ao62 t348.length co62) : Value).ownBlock ∧ some k_ ≠ ((.slice Ao72 t329.length co72) : Value).ownBlock ∧ k_ ≠ dmI N417_ k_) (.slice Ao193 t362.length co193) t362) ∧ zal (wc.heap[gb300]? = some (.cells #[.int .i64 a0_0, (.slice A0_1 l0_1.length c0_1)] 24 (0, 0))) ∧ zal (wc.heap[gb301]? = some (.cells #[.int .i64 a1_0, (.slice A1_1 l1_1.length c1_1)] 24 (0, 0))) ∧ zal (wc.heap[gb317]? = some (.cells #[.int .i64 t312, (.slice Ao42 t313.length co42)] 28 (0, 0))) ∧ zal (wc.heap[gb322]? = some (.cells #[.int .i64 t318, (.slice Ao52 t346.length co52)] 28 (0, 0))) ∧ zal (wc.heap[gb327]? = some (.cells #[.int .i64 t323, (.slice Ao62 t348.length co62)] 28 (0, 0))) ∧ zal (wc.heap[gb333]? = some (.cells #[.int .i64 t328, (.slice Ao72 t329.length co72)] 28 (0, 0))) ∧ zal (wc.heap[gb366]? = some (.cells #[.int .i64 t361, (.slice Ao193 t362.length co193)] 28 (0, 0))) ∧ zal (Below w.heap.size w wc))
             case first =>
              have H := HC174.out
              clear HC174
              obtain ⟨t367, A195, H⟩ := xI H
              by_cases c196 : t367 = true
              ·subst c196
               rw [if_pos rfl] at H
               have H' := ax H
               clear H
               have hnb197 := NB366_300.out
               have hnc197 := NB300_366.out
               have hnb198 := NB366_301.out
               have hnc198 := NB301_366.out
               have hnb199 := NB366_317.out
               have hnc199 := NB317_366.out
               have hnb200 := NB366_322.out
               have hnc200 := NB322_366.out
               have hnb201 := NB366_327.out
               have hnc201 := NB327_366.out
               have hnb202 := NB366_333.out
               have hnc202 := NB333_366.out
               have hcz203_0 := bc0 BK366.out
               have hcz203_1 := bc1 BK366.out
               have hfz203_0 := zag BK366.out 0
               have hfz203_1 := zag BK366.out 1
               have hnb204 := NB317_300.out
               have hnc204 := NB300_317.out
               have hnb205 := NB317_301.out
               have hnc205 := NB301_317.out
               have hnb206 := NB317_322.out
               have hnc206 := NB322_317.out
               have hnb207 := NB317_327.out
               have hnc207 := NB327_317.out
               have hnb208 := NB317_333.out
               have hnc208 := NB333_317.out
               have hcz209_0 := bc0 BK317.out
               have hcz209_1 := bc1 BK317.out
               have hfz209_0 := zag BK317.out 0
               have hfz209_1 := zag BK317.out 1
               go_wp2_with (first | ((with_reducible refine zat (f := 11) rfl ?_); refine za2 (some 104) rfl rfl Try.func11 (by kernel_rfl) rfl #[.agg #[.int .i64 t361, .slice Ao193 t362.length co193], .agg #[.int .i64 t312, .slice Ao42 t313.length co42]] rfl xm ?_; (with_reducible refine (zbe.calls kj107 t361 _ _ t362 t312 _ _ t313 true _ ?side1 ?side2 ?side3 ?side4 A195.out).mono ?_); (case side1 => refine (Kd.zaI (e := 48) (base := w.heap.size) (ok := fun k_ => (some k_ ≠ (v355 : Value).ownBlock ∧ (some k_ ≠ (v359 : Value).ownBlock ∧ (some k_ ≠ (.slice Ao52 t346.length co52 : Value).ownBlock ∧ (some k_ ≠ (.slice Ao62 t348.length co62 : Value).ownBlock ∧ (some k_ ≠ (.slice Ao72 t329.length co72 : Value).ownBlock ∧ k_ ≠ dmI N417_ k_)))))) (n := t362.length) (c := co193) ?_).2.2; exact (by (with_reducible repeat (first | apply Kd.zaG | apply Kd.zaB | apply Kd.zaK)); exact (f2S HO364.out BK366.out (.int .i64 t361) (.slice Ao193 t362.length co193)))); (case side2 => exact (Kd.zaI HO364.out).2.1); (case side3 => refine (Kd.zbl (e := 48) (base := w.heap.size) (ok := fun k_ => (some k_ ≠ (v355 : Value).ownBlock ∧ (some k_ ≠ (v359 : Value).ownBlock ∧ (some k_ ≠ (.slice Ao193 t362.length co193 : Value).ownBlock ∧ (some k_ ≠ (.slice Ao52 t346.length co52 : Value).ownBlock ∧ (some k_ ≠ (.slice Ao62 t348.length co62 : Value).ownBlock ∧ (some k_ ≠ (.slice Ao72 t329.length co72 : Value).ownBlock ∧ (k_ ≠ gb300 ∧ (k_ ≠ gb301 ∧ (k_ ≠ gb317 ∧ (k_ ≠ gb322 ∧ (k_ ≠ gb327 ∧ (k_ ≠ gb333 ∧ (k_ ≠ gb366 ∧ (k_ ≠ dmO N379_ k_ ∧ (k_ ≠ dmO N381_ k_ ∧ (k_ ≠ dmO N383_ k_ ∧ (k_ ≠ dmO N385_ k_ ∧ (k_ ≠ dmO N387_ k_ ∧ (k_ ≠ dmO N413_ k_ ∧ (k_ ≠ dmO N415_ k_ ∧ k_ ≠ dmO N417_ k_))))))))))))))))))))) (n := t313.length) (c := co42) ?_).2.2; exact (by (with_reducible repeat (first | apply Kd.zbv | apply Kd.zbu | apply Kd.zbs)); exact (Kd.za3 (Kd.zb7 (p := ⟨gb366, 1, none⟩) (Kd.zb7 (p := ⟨gb366, 0, none⟩) (Kd.za3 HO_1003.out (fun k_ hk => (⟨hk, hk.2.2.2.2.2.2.2.2.2.2.2.2.1⟩ : _ ∧ k_ ≠ gb366))) (fun _ hk => hk.2) (.int .i64 t361)) (fun _ hk => hk.2) (.slice Ao193 t362.length co193)) (fun _ h_ => h_.1)))); (case side4 => exact (Kd.zbl HO_1003.out).2.1); rintro e w210 ⟨rfl, hb⟩; refine ⟨_, rfl, ?_⟩; replace HO_1003 := ax (Kd.zbR (by (with_reducible repeat (first | apply Kd.zbv | apply Kd.zbu | apply Kd.zbs)); exact (Kd.za3 (Kd.zb7 (p := ⟨gb366, 1, none⟩) (Kd.zb7 (p := ⟨gb366, 0, none⟩) (Kd.za3 HO_1003.out (fun k_ hk => (⟨hk, hk.2.2.2.2.2.2.2.2.2.2.2.2.1⟩ : _ ∧ k_ ≠ gb366))) (fun _ hk => hk.2) (.int .i64 t361)) (fun _ hk => hk.2) (.slice Ao193 t362.length co193)) (fun _ h_ => h_.1))) hb); replace HO_1000 := ax (Kd.zaF (by (with_reducible repeat (first | apply Kd.zaG | apply Kd.zaB | apply Kd.zaK)); exact (f2S HO_1000.out BK366.out (.int .i64 t361) (.slice Ao193 t362.length co193))) hb); replace HO_1002 := ax (Kd.zaF (by (with_reducible repeat (first | apply Kd.zaG | apply Kd.zaB | apply Kd.zaK)); exact (f2S HO_1002.out BK366.out (.int .i64 t361) (.slice Ao193 t362.length co193))) hb); replace HO_1001 := ax (Kd.zaF (by (with_reducible repeat (first | apply Kd.zaG | apply Kd.zaB | apply Kd.zaK)); exact (f2S HO_1001.out BK366.out (.int .i64 t361) (.slice Ao193 t362.length co193))) hb); replace HO356 := ax (Kd.zaF (by (with_reducible repeat (first | apply Kd.zaG | apply Kd.zaB | apply Kd.zaK)); exact (f2S HO356.out BK366.out (.int .i64 t361) (.slice Ao193 t362.length co193))) hb); replace HO360 := ax (Kd.zaF (by (with_reducible repeat (first | apply Kd.zaG | apply Kd.zaB | apply Kd.zaK)); exact (f2S HO360.out BK366.out (.int .i64 t361) (.slice Ao193 t362.length co193))) hb); replace HO364 := ax (Kd.zaF (by (with_reducible repeat (first | apply Kd.zaG | apply Kd.zaB | apply Kd.zaK)); exact (f2S HO364.out BK366.out (.int .i64 t361) (.slice Ao193 t362.length co193))) hb); replace BK300 := ax (zaZ (g := gb300) (o := .cells #[.int .i64 a0_0, .slice A0_1 l0_1.length c0_1] 24 (0, 0)) (by (with_reducible repeat (first | refine zah ?_ _ | refine zad ?_ | refine zae ?_ _)); refine zaD ?_ NB300_366.out _; (with_reducible repeat (first | refine zah ?_ _ | refine zad ?_ | refine zae ?_ _)); refine zaD ?_ NB300_366.out _; (with_reducible repeat (first | refine zah ?_ _ | refine zad ?_ | refine zae ?_ _)); exact BK300.out) hb); replace BK301 := ax (zaZ (g := gb301) (o := .cells #[.int .i64 a1_0, .slice A1_1 l1_1.length c1_1] 24 (0, 0)) (by (with_reducible repeat (first | refine zah ?_ _ | refine zad ?_ | refine zae ?_ _)); refine zaD ?_ NB301_366.out _; (with_reducible repeat (first | refine zah ?_ _ | refine zad ?_ | refine zae ?_ _)); refine zaD ?_ NB301_366.out _; (with_reducible repeat (first | refine zah ?_ _ | refine zad ?_ | refine zae ?_ _)); exact BK301.out) hb); replace BK317 := ax (zaZ (g := gb317) (o := .cells #[.int .i64 t312, .slice Ao42 t313.length co42] 28 (0, 0)) (by (with_reducible repeat (first | refine zah ?_ _ | refine zad ?_ | refine zae ?_ _)); refine zaD ?_ NB317_366.out _; (with_reducible repeat (first | refine zah ?_ _ | refine zad ?_ | refine zae ?_ _)); refine zaD ?_ NB317_366.out _; (with_reducible repeat (first | refine zah ?_ _ | refine zad ?_ | refine zae ?_ _)); exact BK317.out) hb); replace BK322 := ax (zaZ (g := gb322) (o := .cells #[.int .i64 t318, .slice Ao52 t346.length co52] 28 (0, 0)) (by (with_reducible repeat (first | refine zah ?_ _ | refine zad ?_ | refine zae ?_ _)); refine zaD ?_ NB322_366.out _; (with_reducible repeat (first | refine zah ?_ _ | refine zad ?_ | refine zae ?_ _)); refine zaD ?_ NB322_366.out _; (with_reducible repeat (first | refine zah ?_ _ | refine zad ?_ | refine zae ?_ _)); exact BK322.out) hb); replace BK327 := ax (zaZ (g := gb327) (o := .cells #[.int .i64 t323, .slice Ao62 t348.length co62] 28 (0, 0)) (by (with_reducible repeat (first | refine zah ?_ _ | refine zad ?_ | refine zae ?_ _)); refine zaD ?_ NB327_366.out _; (with_reducible repeat (first | refine zah ?_ _ | refine zad ?_ | refine zae ?_ _)); refine zaD ?_ NB327_366.out _; (with_reducible repeat (first | refine zah ?_ _ | refine zad ?_ | refine zae ?_ _)); exact BK327.out) hb); replace BK333 := ax (zaZ (g := gb333) (o := .cells #[.int .i64 t328, .slice Ao72 t329.length co72] 28 (0, 0)) (by (with_reducible repeat (first | refine zah ?_ _ | refine zad ?_ | refine zae ?_ _)); refine zaD ?_ NB333_366.out _; (with_reducible repeat (first | refine zah ?_ _ | refine zad ?_ | refine zae ?_ _)); refine zaD ?_ NB333_366.out _; (with_reducible repeat (first | refine zah ?_ _ | refine zad ?_ | refine zae ?_ _)); exact BK333.out) hb); replace BK366 := ax (zaZ (g := gb366) (o := .cells #[.int .i64 t361, .slice Ao193 t362.length co193] 28 (0, 0)) (by (with_reducible repeat (first | refine zah ?_ _ | refine zad ?_ | refine zae ?_ _)); refine zba (cs := #[.int .i64 t361, .slice none 0 0]) ?_ 1 _ rfl; (with_reducible repeat (first | refine zah ?_ _ | refine zad ?_ | refine zae ?_ _)); refine zba (cs := #[.int .i64 0, .slice none 0 0]) ?_ 0 _ rfl; (with_reducible repeat (first | refine zah ?_ _ | refine zad ?_ | refine zae ?_ _)); exact BK366.out) hb); replace HB := ax (zas (bh HB.out) hb); (try clear hb)))
               go_meet
               case rel => exact ⟨_, ((t365 != t316)), xr, H', ⟨by have := HJ24.out; have := HJ107.out; first | omega | exact Nat.le_refl _⟩, ⟨by (try simp only [hl1000_107]); (try simp only [hl1002_107]); (with_reducible repeat (first | apply Kd.zbv | apply Kd.zbu | apply Kd.zbs)); exact Kd.za3 HO_1003.out bq⟩, ⟨by (try simp only [hl1000_107]); (try simp only [hl1002_107]); (with_reducible repeat (first | apply Kd.zaG | apply Kd.zaB | apply Kd.zaK)); exact Kd.zaQ HO_1000.out bq⟩, ⟨by (try simp only [hl1000_107]); (try simp only [hl1002_107]); (with_reducible repeat (first | apply Kd.zaG | apply Kd.zaB | apply Kd.zaK)); exact Kd.zaQ HO_1002.out bq⟩, ⟨by (try simp only [hl1000_107]); (try simp only [hl1002_107]); (with_reducible repeat (first | apply Kd.zaG | apply Kd.zaB | apply Kd.zaK)); exact Kd.zaQ HO_1001.out bq⟩, ⟨by (try simp only [hl1000_107]); (try simp only [hl1002_107]); (with_reducible repeat (first | apply Kd.zaG | apply Kd.zaB | apply Kd.zaK)); exact Kd.zaQ HO364.out (fun _ hk => ⟨hk.2.2.1, ⟨hk.2.2.2.1, ⟨hk.2.2.2.2.1, hk.2.2.2.2.2⟩⟩⟩)⟩, ⟨by (try simp only [hl1000_107]); (try simp only [hl1002_107]); (with_reducible repeat (first | refine zah ?_ _ | refine zad ?_ | refine zae ?_ _)); exact BK300.out⟩, ⟨by (try simp only [hl1000_107]); (try simp only [hl1002_107]); (with_reducible repeat (first | refine zah ?_ _ | refine zad ?_ | refine zae ?_ _)); exact BK301.out⟩, ⟨by (try simp only [hl1000_107]); (try simp only [hl1002_107]); (with_reducible repeat (first | refine zah ?_ _ | refine zad ?_ | refine zae ?_ _)); exact BK317.out⟩, ⟨by (try simp only [hl1000_107]); (try simp only [hl1002_107]); (with_reducible repeat (first | refine zah ?_ _ | refine zad ?_ | refine zae ?_ _)); exact BK322.out⟩, ⟨by (try simp only [hl1000_107]); (try simp only [hl1002_107]); (with_reducible repeat (first | refine zah ?_ _ | refine zad ?_ | refine zae ?_ _)); exact BK327.out⟩, ⟨by (try simp only [hl1000_107]); (try simp only [hl1002_107]); (with_reducible repeat (first | refine zah ?_ _ | refine zad ?_ | refine zae ?_ _)); exact BK333.out⟩, ⟨by (try simp only [hl1000_107]); (try simp only [hl1002_107]); (with_reducible repeat (first | refine zah ?_ _ | refine zad ?_ | refine zae ?_ _)); exact BK366.out⟩, ⟨bh HB.out⟩⟩
              ·replace c196 := Bool.eq_false_iff.mpr c196
               subst c196
               rw [if_neg (show ¬ (false = true) by decide)] at H
               have H' := ax H
               clear H
               have hnb211 := NB366_300.out
               have hnc211 := NB300_366.out
               have hnb212 := NB366_301.out
               have hnc212 := NB301_366.out
               have hnb213 := NB366_317.out
               have hnc213 := NB317_366.out
               have hnb214 := NB366_322.out
               have hnc214 := NB322_366.out
               have hnb215 := NB366_327.out
               have hnc215 := NB327_366.out
               have hnb216 := NB366_333.out
               have hnc216 := NB333_366.out
               have hcz217_0 := bc0 BK366.out
               have hcz217_1 := bc1 BK366.out
               have hfz217_0 := zag BK366.out 0
               have hfz217_1 := zag BK366.out 1
               have hnb218 := NB317_300.out
               have hnc218 := NB300_317.out
               have hnb219 := NB317_301.out
               have hnc219 := NB301_317.out
               have hnb220 := NB317_322.out
               have hnc220 := NB322_317.out
               have hnb221 := NB317_327.out
               have hnc221 := NB327_317.out
               have hnb222 := NB317_333.out
               have hnc222 := NB333_317.out
               have hcz223_0 := bc0 BK317.out
               have hcz223_1 := bc1 BK317.out
               have hfz223_0 := zag BK317.out 0
               have hfz223_1 := zag BK317.out 1
               go_wp2_with (first | ((with_reducible refine zat (f := 11) rfl ?_); refine za2 (some 104) rfl rfl Try.func11 (by kernel_rfl) rfl #[.agg #[.int .i64 t361, .slice Ao193 t362.length co193], .agg #[.int .i64 t312, .slice Ao42 t313.length co42]] rfl xm ?_; (with_reducible refine (zbe.calls kj107 t361 _ _ t362 t312 _ _ t313 false _ ?side1 ?side2 ?side3 ?side4 A195.out).mono ?_); (case side1 => refine (Kd.zaI (e := 48) (base := w.heap.size) (ok := fun k_ => (some k_ ≠ (v355 : Value).ownBlock ∧ (some k_ ≠ (v359 : Value).ownBlock ∧ (some k_ ≠ (.slice Ao52 t346.length co52 : Value).ownBlock ∧ (some k_ ≠ (.slice Ao62 t348.length co62 : Value).ownBlock ∧ (some k_ ≠ (.slice Ao72 t329.length co72 : Value).ownBlock ∧ k_ ≠ dmI N417_ k_)))))) (n := t362.length) (c := co193) ?_).2.2; exact (by (with_reducible repeat (first | apply Kd.zaG | apply Kd.zaB | apply Kd.zaK)); exact (f2S HO364.out BK366.out (.int .i64 t361) (.slice Ao193 t362.length co193)))); (case side2 => exact (Kd.zaI HO364.out).2.1); (case side3 => refine (Kd.zbl (e := 48) (base := w.heap.size) (ok := fun k_ => (some k_ ≠ (v355 : Value).ownBlock ∧ (some k_ ≠ (v359 : Value).ownBlock ∧ (some k_ ≠ (.slice Ao193 t362.length co193 : Value).ownBlock ∧ (some k_ ≠ (.slice Ao52 t346.length co52 : Value).ownBlock ∧ (some k_ ≠ (.slice Ao62 t348.length co62 : Value).ownBlock ∧ (some k_ ≠ (.slice Ao72 t329.length co72 : Value).ownBlock ∧ (k_ ≠ gb300 ∧ (k_ ≠ gb301 ∧ (k_ ≠ gb317 ∧ (k_ ≠ gb322 ∧ (k_ ≠ gb327 ∧ (k_ ≠ gb333 ∧ (k_ ≠ gb366 ∧ (k_ ≠ dmO N379_ k_ ∧ (k_ ≠ dmO N381_ k_ ∧ (k_ ≠ dmO N383_ k_ ∧ (k_ ≠ dmO N385_ k_ ∧ (k_ ≠ dmO N387_ k_ ∧ (k_ ≠ dmO N413_ k_ ∧ (k_ ≠ dmO N415_ k_ ∧ k_ ≠ dmO N417_ k_))))))))))))))))))))) (n := t313.length) (c := co42) ?_).2.2; exact (by (with_reducible repeat (first | apply Kd.zbv | apply Kd.zbu | apply Kd.zbs)); exact (Kd.za3 (Kd.zb7 (p := ⟨gb366, 1, none⟩) (Kd.zb7 (p := ⟨gb366, 0, none⟩) (Kd.za3 HO_1003.out (fun k_ hk => (⟨hk, hk.2.2.2.2.2.2.2.2.2.2.2.2.1⟩ : _ ∧ k_ ≠ gb366))) (fun _ hk => hk.2) (.int .i64 t361)) (fun _ hk => hk.2) (.slice Ao193 t362.length co193)) (fun _ h_ => h_.1)))); (case side4 => exact (Kd.zbl HO_1003.out).2.1); rintro e w224 ⟨rfl, hb⟩; refine ⟨_, rfl, ?_⟩; replace HO_1003 := ax (Kd.zbR (by (with_reducible repeat (first | apply Kd.zbv | apply Kd.zbu | apply Kd.zbs)); exact (Kd.za3 (Kd.zb7 (p := ⟨gb366, 1, none⟩) (Kd.zb7 (p := ⟨gb366, 0, none⟩) (Kd.za3 HO_1003.out (fun k_ hk => (⟨hk, hk.2.2.2.2.2.2.2.2.2.2.2.2.1⟩ : _ ∧ k_ ≠ gb366))) (fun _ hk => hk.2) (.int .i64 t361)) (fun _ hk => hk.2) (.slice Ao193 t362.length co193)) (fun _ h_ => h_.1))) hb); replace HO_1000 := ax (Kd.zaF (by (with_reducible repeat (first | apply Kd.zaG | apply Kd.zaB | apply Kd.zaK)); exact (f2S HO_1000.out BK366.out (.int .i64 t361) (.slice Ao193 t362.length co193))) hb); replace HO_1002 := ax (Kd.zaF (by (with_reducible repeat (first | apply Kd.zaG | apply Kd.zaB | apply Kd.zaK)); exact (f2S HO_1002.out BK366.out (.int .i64 t361) (.slice Ao193 t362.length co193))) hb); replace HO_1001 := ax (Kd.zaF (by (with_reducible repeat (first | apply Kd.zaG | apply Kd.zaB | apply Kd.zaK)); exact (f2S HO_1001.out BK366.out (.int .i64 t361) (.slice Ao193 t362.length co193))) hb); replace HO356 := ax (Kd.zaF (by (with_reducible repeat (first | apply Kd.zaG | apply Kd.zaB | apply Kd.zaK)); exact (f2S HO356.out BK366.out (.int .i64 t361) (.slice Ao193 t362.length co193))) hb); replace HO360 := ax (Kd.zaF (by (with_reducible repeat (first | apply Kd.zaG | apply Kd.zaB | apply Kd.zaK)); exact (f2S HO360.out BK366.out (.int .i64 t361) (.slice Ao193 t362.length co193))) hb); replace HO364 := ax (Kd.zaF (by (with_reducible repeat (first | apply Kd.zaG | apply Kd.zaB | apply Kd.zaK)); exact (f2S HO364.out BK366.out (.int .i64 t361) (.slice Ao193 t362.length co193))) hb); replace BK300 := ax (zaZ (g := gb300) (o := .cells #[.int .i64 a0_0, .slice A0_1 l0_1.length c0_1] 24 (0, 0)) (by (with_reducible repeat (first | refine zah ?_ _ | refine zad ?_ | refine zae ?_ _)); refine zaD ?_ NB300_366.out _; (with_reducible repeat (first | refine zah ?_ _ | refine zad ?_ | refine zae ?_ _)); refine zaD ?_ NB300_366.out _; (with_reducible repeat (first | refine zah ?_ _ | refine zad ?_ | refine zae ?_ _)); exact BK300.out) hb); replace BK301 := ax (zaZ (g := gb301) (o := .cells #[.int .i64 a1_0, .slice A1_1 l1_1.length c1_1] 24 (0, 0)) (by (with_reducible repeat (first | refine zah ?_ _ | refine zad ?_ | refine zae ?_ _)); refine zaD ?_ NB301_366.out _; (with_reducible repeat (first | refine zah ?_ _ | refine zad ?_ | refine zae ?_ _)); refine zaD ?_ NB301_366.out _; (with_reducible repeat (first | refine zah ?_ _ | refine zad ?_ | refine zae ?_ _)); exact BK301.out) hb); replace BK317 := ax (zaZ (g := gb317) (o := .cells #[.int .i64 t312, .slice Ao42 t313.length co42] 28 (0, 0)) (by (with_reducible repeat (first | refine zah ?_ _ | refine zad ?_ | refine zae ?_ _)); refine zaD ?_ NB317_366.out _; (with_reducible repeat (first | refine zah ?_ _ | refine zad ?_ | refine zae ?_ _)); refine zaD ?_ NB317_366.out _; (with_reducible repeat (first | refine zah ?_ _ | refine zad ?_ | refine zae ?_ _)); exact BK317.out) hb); replace BK322 := ax (zaZ (g := gb322) (o := .cells #[.int .i64 t318, .slice Ao52 t346.length co52] 28 (0, 0)) (by (with_reducible repeat (first | refine zah ?_ _ | refine zad ?_ | refine zae ?_ _)); refine zaD ?_ NB322_366.out _; (with_reducible repeat (first | refine zah ?_ _ | refine zad ?_ | refine zae ?_ _)); refine zaD ?_ NB322_366.out _; (with_reducible repeat (first | refine zah ?_ _ | refine zad ?_ | refine zae ?_ _)); exact BK322.out) hb); replace BK327 := ax (zaZ (g := gb327) (o := .cells #[.int .i64 t323, .slice Ao62 t348.length co62] 28 (0, 0)) (by (with_reducible repeat (first | refine zah ?_ _ | refine zad ?_ | refine zae ?_ _)); refine zaD ?_ NB327_366.out _; (with_reducible repeat (first | refine zah ?_ _ | refine zad ?_ | refine zae ?_ _)); refine zaD ?_ NB327_366.out _; (with_reducible repeat (first | refine zah ?_ _ | refine zad ?_ | refine zae ?_ _)); exact BK327.out) hb); replace BK333 := ax (zaZ (g := gb333) (o := .cells #[.int .i64 t328, .slice Ao72 t329.length co72] 28 (0, 0)) (by (with_reducible repeat (first | refine zah ?_ _ | refine zad ?_ | refine zae ?_ _)); refine zaD ?_ NB333_366.out _; (with_reducible repeat (first | refine zah ?_ _ | refine zad ?_ | refine zae ?_ _)); refine zaD ?_ NB333_366.out _; (with_reducible repeat (first | refine zah ?_ _ | refine zad ?_ | refine zae ?_ _)); exact BK333.out) hb); replace BK366 := ax (zaZ (g := gb366) (o := .cells #[.int .i64 t361, .slice Ao193 t362.length co193] 28 (0, 0)) (by (with_reducible repeat (first | refine zah ?_ _ | refine zad ?_ | refine zae ?_ _)); refine zba (cs := #[.int .i64 t361, .slice none 0 0]) ?_ 1 _ rfl; (with_reducible repeat (first | refine zah ?_ _ | refine zad ?_ | refine zae ?_ _)); refine zba (cs := #[.int .i64 0, .slice none 0 0]) ?_ 0 _ rfl; (with_reducible repeat (first | refine zah ?_ _ | refine zad ?_ | refine zae ?_ _)); exact BK366.out) hb); replace HB := ax (zas (bh HB.out) hb); (try clear hb)))
               go_meet
               case rel => exact ⟨_, (true), xr, H', ⟨by have := HJ24.out; have := HJ107.out; first | omega | exact Nat.le_refl _⟩, ⟨by (try simp only [hl1000_107]); (try simp only [hl1002_107]); (with_reducible repeat (first | apply Kd.zbv | apply Kd.zbu | apply Kd.zbs)); exact Kd.za3 HO_1003.out bq⟩, ⟨by (try simp only [hl1000_107]); (try simp only [hl1002_107]); (with_reducible repeat (first | apply Kd.zaG | apply Kd.zaB | apply Kd.zaK)); exact Kd.zaQ HO_1000.out bq⟩, ⟨by (try simp only [hl1000_107]); (try simp only [hl1002_107]); (with_reducible repeat (first | apply Kd.zaG | apply Kd.zaB | apply Kd.zaK)); exact Kd.zaQ HO_1002.out bq⟩, ⟨by (try simp only [hl1000_107]); (try simp only [hl1002_107]); (with_reducible repeat (first | apply Kd.zaG | apply Kd.zaB | apply Kd.zaK)); exact Kd.zaQ HO_1001.out bq⟩, ⟨by (try simp only [hl1000_107]); (try simp only [hl1002_107]); (with_reducible repeat (first | apply Kd.zaG | apply Kd.zaB | apply Kd.zaK)); exact Kd.zaQ HO364.out (fun _ hk => ⟨hk.2.2.1, ⟨hk.2.2.2.1, ⟨hk.2.2.2.2.1, hk.2.2.2.2.2⟩⟩⟩)⟩, ⟨by (try simp only [hl1000_107]); (try simp only [hl1002_107]); (with_reducible repeat (first | refine zah ?_ _ | refine zad ?_ | refine zae ?_ _)); exact BK300.out⟩, ⟨by (try simp only [hl1000_107]); (try simp only [hl1002_107]); (with_reducible repeat (first | refine zah ?_ _ | refine zad ?_ | refine zae ?_ _)); exact BK301.out⟩, ⟨by (try simp only [hl1000_107]); (try simp only [hl1002_107]); (with_reducible repeat (first | refine zah ?_ _ | refine zad ?_ | refine zae ?_ _)); exact BK317.out⟩, ⟨by (try simp only [hl1000_107]); (try simp only [hl1002_107]); (with_reducible repeat (first | refine zah ?_ _ | refine zad ?_ | refine zae ?_ _)); exact BK322.out⟩, ⟨by (try simp only [hl1000_107]); (try simp only [hl1002_107]); (with_reducible repeat (first | refine zah ?_ _ | refine zad ?_ | refine zae ?_ _)); exact BK327.out⟩, ⟨by (try simp only [hl1000_107]); (try simp only [hl1002_107]); (with_reducible repeat (first | refine zah ?_ _ | refine zad ?_ | refine zae ?_ _)); exact BK333.out⟩, ⟨by (try simp only [hl1000_107]); (try simp only [hl1002_107]); (with_reducible repeat (first | refine zah ?_ _ | refine zad ?_ | refine zae ?_ _)); exact BK366.out⟩, ⟨bh HB.out⟩⟩
             case rest =>
              clear HC174
              (try clear c11); (try clear c196); (try clear hcz203_0); (try clear hcz203_1); (try clear hcz209_0); (try clear hcz209_1); (try clear hcz217_0); (try clear hcz217_1); (try clear hcz223_0); (try clear hcz223_1); (try clear hfz203_0); (try clear hfz203_1); (try clear hfz209_0); (try clear hfz209_1); (try clear hfz217_0); (try clear hfz217_1); (try clear hfz223_0); (try clear hfz223_1)
              obtain ⟨kq, x110_173, rfl, HA, HJ173, HO_1003, HO_1000, HO_1002, HO_1001, HO_1005, BK300, BK301, BK317, BK322, BK327, BK333, BK366, HB⟩ := hcut
              have hl1001_173 := (Kd.zaI HO_1001.out).1
              rw [hl1001_173] at HO_1001
              (try simp only [hl1001_173])
              (try simp only [hl1001_173] at BK300)
              (try simp only [hl1001_173] at BK301)
              (try simp only [hl1001_173] at BK317)
              (try simp only [hl1001_173] at BK322)
              (try simp only [hl1001_173] at BK327)
              (try simp only [hl1001_173] at BK333)
              (try simp only [hl1001_173] at BK366)
              (try simp only [hl1001_173] at HO_1003)
              (try simp only [hl1001_173] at HO_1000)
              (try simp only [hl1001_173] at HO_1002)
              (try simp only [hl1001_173] at HO_1005)
              cases kq with
              | zero => exact absurd HA.out (by simp [zak.j2])
              | succ kj173 =>
               have H := HA.out
               clear HA
               simp only [zak.j2] at H
               by_cases c225 : x110_173 = true
               ·subst c225
                rw [if_pos rfl] at H
                obtain rfl := Option.some.inj H
                go_wp2
                go_ret
                exact ⟨xe, bh HB.out⟩
               ·replace c225 := Bool.eq_false_iff.mpr c225
                subst c225
                rw [if_neg (show ¬ (false = true) by decide)] at H
                obtain ⟨t368, A226, H⟩ := xI H
                by_cases c227 : t368 < 0
                ·rw [if_pos c227] at H
                 have c227b0 := decide_eq_true c227
                 clear c227
                 obtain rfl := Option.some.inj H
                 have hnb228 := NB333_300.out
                 have hnc228 := NB300_333.out
                 have hnb229 := NB333_301.out
                 have hnc229 := NB301_333.out
                 have hnb230 := NB333_317.out
                 have hnc230 := NB317_333.out
                 have hnb231 := NB333_322.out
                 have hnc231 := NB322_333.out
                 have hnb232 := NB333_327.out
                 have hnc232 := NB327_333.out
                 have hnb233 := NB333_366.out
                 have hnc233 := NB366_333.out
                 have hcz234_0 := bc0 BK333.out
                 have hcz234_1 := bc1 BK333.out
                 have hfz234_0 := zag BK333.out 0
                 have hfz234_1 := zag BK333.out 1
                 go_wp2_with (first | ((with_reducible refine zat (f := 13) rfl ?_); refine za2 (some 113) rfl rfl Try.func13 (by kernel_rfl) rfl #[.agg #[.int .i64 t328, .slice Ao72 t351.length co72], .int .i64 1] rfl xm ?_; (with_reducible refine (zbn.calls kj173 t328 _ _ t351 1 t368 _ ?side1 ?side2 A226.out).mono ?_); (case side1 => exact xc (Kd.zaI HO_1001.out).2.2); (case side2 => exact (Kd.zaI HO_1001.out).2.1); rintro e w235 ⟨rfl, hb⟩; refine ⟨_, rfl, ?_⟩; replace HO_1003 := yV HO_1003 hb; replace HO_1000 := ax (Kd.zaF (xS HO_1000.out) hb); replace HO_1002 := ax (Kd.zaF (xS HO_1002.out) hb); replace HO_1001 := ax (Kd.zaF (xS HO_1001.out) hb); replace HO_1005 := ax (Kd.zaF (xS HO_1005.out) hb); replace BK300 := ax (bb BK300.out hb); replace BK301 := ax (bb BK301.out hb); replace BK317 := ax (bb BK317.out hb); replace BK322 := ax (bb BK322.out hb); replace BK327 := ax (bb BK327.out hb); replace BK333 := ax (bb BK333.out hb); replace BK366 := ax (bb BK366.out hb); replace HB := ax (zas (bh HB.out) hb); (try clear hb)))
                 go_ret
                 exact ⟨xe, bh HB.out⟩
                ·rw [if_neg c227] at H
                 have c227b0 := decide_eq_false c227
                 clear c227
                 by_cases c236 : t368 = t350
                 ·rw [if_pos c236] at H
                  have c236b0 : (t368 == t350) = true := beq_iff_eq.mpr c236
                  have c236b1 : (t368 != t350) = false := bne_eq_false_iff_eq.mpr c236
                  clear c236
                  obtain rfl := Option.some.inj H
                  have hnb237 := NB333_300.out
                  have hnc237 := NB300_333.out
                  have hnb238 := NB333_301.out
                  have hnc238 := NB301_333.out
                  have hnb239 := NB333_317.out
                  have hnc239 := NB317_333.out
                  have hnb240 := NB333_322.out
                  have hnc240 := NB322_333.out
                  have hnb241 := NB333_327.out
                  have hnc241 := NB327_333.out
                  have hnb242 := NB333_366.out
                  have hnc242 := NB366_333.out
                  have hcz243_0 := bc0 BK333.out
                  have hcz243_1 := bc1 BK333.out
                  have hfz243_0 := zag BK333.out 0
                  have hfz243_1 := zag BK333.out 1
                  go_wp2_with (first | ((with_reducible refine zat (f := 13) rfl ?_); refine za2 (some 113) rfl rfl Try.func13 (by kernel_rfl) rfl #[.agg #[.int .i64 t328, .slice Ao72 t351.length co72], .int .i64 1] rfl xm ?_; (with_reducible refine (zbn.calls kj173 t328 _ _ t351 1 t368 _ ?side1 ?side2 A226.out).mono ?_); (case side1 => exact xc (Kd.zaI HO_1001.out).2.2); (case side2 => exact (Kd.zaI HO_1001.out).2.1); rintro e w244 ⟨rfl, hb⟩; refine ⟨_, rfl, ?_⟩; replace HO_1003 := yV HO_1003 hb; replace HO_1000 := ax (Kd.zaF (xS HO_1000.out) hb); replace HO_1002 := ax (Kd.zaF (xS HO_1002.out) hb); replace HO_1001 := ax (Kd.zaF (xS HO_1001.out) hb); replace HO_1005 := ax (Kd.zaF (xS HO_1005.out) hb); replace BK300 := ax (bb BK300.out hb); replace BK301 := ax (bb BK301.out hb); replace BK317 := ax (bb BK317.out hb); replace BK322 := ax (bb BK322.out hb); replace BK327 := ax (bb BK327.out hb); replace BK333 := ax (bb BK333.out hb); replace BK366 := ax (bb BK366.out hb); replace HB := ax (zas (bh HB.out) hb); (try clear hb)))
                  go_ret
                  exact ⟨xe, bh HB.out⟩
                 ·rw [if_neg c236] at H
                  have c236b0 : (t368 == t350) = false := beq_eq_false_iff_ne.mpr c236
                  have c236b1 : (t368 != t350) = true := bne_iff_ne.mpr c236
                  obtain rfl := Option.some.inj H
                  have hnb245 := NB333_300.out
                  have hnc245 := NB300_333.out
                  have hnb246 := NB333_301.out
                  have hnc246 := NB301_333.out
                  have hnb247 := NB333_317.out
                  have hnc247 := NB317_333.out
                  have hnb248 := NB333_322.out
                  have hnc248 := NB322_333.out
                  have hnb249 := NB333_327.out
                  have hnc249 := NB327_333.out
                  have hnb250 := NB333_366.out
                  have hnc250 := NB366_333.out
                  have hcz251_0 := bc0 BK333.out
                  have hcz251_1 := bc1 BK333.out
                  have hfz251_0 := zag BK333.out 0
                  have hfz251_1 := zag BK333.out 1
                  go_wp2_with (first | ((with_reducible refine zat (f := 13) rfl ?_); refine za2 (some 113) rfl rfl Try.func13 (by kernel_rfl) rfl #[.agg #[.int .i64 t328, .slice Ao72 t351.length co72], .int .i64 1] rfl xm ?_; (with_reducible refine (zbn.calls kj173 t328 _ _ t351 1 t368 _ ?side1 ?side2 A226.out).mono ?_); (case side1 => exact xc (Kd.zaI HO_1001.out).2.2); (case side2 => exact (Kd.zaI HO_1001.out).2.1); rintro e w252 ⟨rfl, hb⟩; refine ⟨_, rfl, ?_⟩; replace HO_1003 := yV HO_1003 hb; replace HO_1000 := ax (Kd.zaF (xS HO_1000.out) hb); replace HO_1002 := ax (Kd.zaF (xS HO_1002.out) hb); replace HO_1001 := ax (Kd.zaF (xS HO_1001.out) hb); replace HO_1005 := ax (Kd.zaF (xS HO_1005.out) hb); replace BK300 := ax (bb BK300.out hb); replace BK301 := ax (bb BK301.out hb); replace BK317 := ax (bb BK317.out hb); replace BK322 := ax (bb BK322.out hb); replace BK327 := ax (bb BK327.out hb); replace BK333 := ax (bb BK333.out hb); replace BK366 := ax (bb BK366.out hb); replace HB := ax (zas (bh HB.out) hb); (try clear hb)))
                  go_ret
                  exact ⟨xe, bh HB.out⟩
            ·rw [if_neg c170] at H
             have c170b0 : (t352 == t350) = false := beq_eq_false_iff_ne.mpr c170
             have c170b1 : (t352 != t350) = true := bne_iff_ne.mpr c170
             obtain rfl := Option.some.inj H
             have hnb253 := NB333_300.out
             have hnc253 := NB300_333.out
             have hnb254 := NB333_301.out
             have hnc254 := NB301_333.out
             have hnb255 := NB333_317.out
             have hnc255 := NB317_333.out
             have hnb256 := NB333_322.out
             have hnc256 := NB322_333.out
             have hnb257 := NB333_327.out
             have hnc257 := NB327_333.out
             have hcz258_0 := bc0 BK333.out
             have hcz258_1 := bc1 BK333.out
             have hfz258_0 := zag BK333.out 0
             have hfz258_1 := zag BK333.out 1
             go_wp2_with (first | ((with_reducible refine zat (f := 12) rfl ?_); refine za2 (some 85) rfl rfl Try.func12 (by kernel_rfl) rfl #[.agg #[.int .i64 t328, .slice Ao72 t329.length co72], .int .i64 1] rfl xm ?_; (with_reducible refine (zbm.calls kj107 t328 ?pp5_ (.slice Ao72 t329.length co72) t329 1 t350 t351 w _ ?side1 ?side2 A158.out).mono ?_); (case side1 => exact bh HB.out); (case side2 => first | exact Kd.zcF HO_1001.out | (refine Kd.zcF ?_; (with_reducible repeat (first | apply Kd.zaG | apply Kd.zaB | apply Kd.zaK)); exact HO_1001.out)); rintro e w259 ⟨rfl, hy0, hb, hkp⟩; refine ⟨_, rfl, ?_⟩; have n0_ := ax (Kd.za3 (ok' := fun k_ => some k_ ≠ (.slice Ao52 t346.length co52 : Value).ownBlock ∧ some k_ ≠ (.slice Ao62 t348.length co62 : Value).ownBlock ∧ some k_ ≠ (.slice Ao72 t329.length co72 : Value).ownBlock ∧ k_ ≠ gb300 ∧ k_ ≠ gb301 ∧ k_ ≠ gb317 ∧ k_ ≠ gb322 ∧ k_ ≠ gb327 ∧ k_ ≠ gb333 ∧ k_ ≠ dmO N379_ k_ ∧ k_ ≠ dmO N381_ k_ ∧ k_ ≠ dmO N383_ k_ ∧ k_ ≠ dmO N385_ k_ ∧ k_ ≠ dmO N387_ k_) (Kd.zdZ (HO_1003.out) hkp (fun k_ hk_ hs_ => dmNo hs_.1.2.2.1 hk_.2.2.2.2.2.2.2.2.2.2.2.1)) bq); (first | have n1_ := ax (Kd.zaQ (ok' := fun k_ => some k_ ≠ (.slice Ao62 t348.length co62 : Value).ownBlock ∧ some k_ ≠ (.slice Ao72 t329.length co72 : Value).ownBlock ∧ k_ ≠ dmI N379_ k_ ∧ k_ ≠ dmO N381_ k_ ∧ k_ ≠ dmO N383_ k_ ∧ k_ ≠ dmO N385_ k_ ∧ k_ ≠ dmO N387_ k_) (Kd.zbL (HO_1000.out) hkp (fun k_ hk_ hs_ => dmNo hs_.1.2.2.1 hk_.2.2.2.2.1)) bq) | have n1_ := ax (Kd.zaQ (ok' := fun k_ => some k_ ≠ (.slice Ao62 t348.length co62 : Value).ownBlock ∧ some k_ ≠ (.slice Ao72 t329.length co72 : Value).ownBlock ∧ k_ ≠ dmI N379_ k_ ∧ k_ ≠ dmO N381_ k_ ∧ k_ ≠ dmO N383_ k_ ∧ k_ ≠ dmO N385_ k_ ∧ k_ ≠ dmO N387_ k_) (Kd.zbL (Kd.zaB HO_1000.out _) hkp (fun k_ hk_ hs_ => dmNo hs_.1.2.2.1 hk_.2.2.2.2.1)) bq)); (first | have n2_ := ax (Kd.zaQ (ok' := fun k_ => some k_ ≠ (.slice Ao52 t346.length co52 : Value).ownBlock ∧ some k_ ≠ (.slice Ao72 t329.length co72 : Value).ownBlock ∧ k_ ≠ dmI N381_ k_ ∧ k_ ≠ dmO N383_ k_ ∧ k_ ≠ dmO N385_ k_ ∧ k_ ≠ dmO N387_ k_) (Kd.zbL (HO_1002.out) hkp (fun k_ hk_ hs_ => dmNo hs_.1.2.2.1 hk_.2.2.2.1)) bq) | have n2_ := ax (Kd.zaQ (ok' := fun k_ => some k_ ≠ (.slice Ao52 t346.length co52 : Value).ownBlock ∧ some k_ ≠ (.slice Ao72 t329.length co72 : Value).ownBlock ∧ k_ ≠ dmI N381_ k_ ∧ k_ ≠ dmO N383_ k_ ∧ k_ ≠ dmO N385_ k_ ∧ k_ ≠ dmO N387_ k_) (Kd.zbL (Kd.zaB HO_1002.out _) hkp (fun k_ hk_ hs_ => dmNo hs_.1.2.2.1 hk_.2.2.2.1)) bq)); have n3_ := ax (Kd.zaQ hy0 (fun k_ hk_ => hk_.1)); have n4_ := ax (zbo (xk BK300.out) hkp (fun hs_ => zcw BK300.out hs_.2 (by decide))); have n5_ := ax (zbo (xk BK301.out) hkp (fun hs_ => zcw BK301.out hs_.2 (by decide))); have n6_ := ax (zbo (xk BK317.out) hkp (fun hs_ => zcw BK317.out hs_.2 (by decide))); have n7_ := ax (zbo (xk BK322.out) hkp (fun hs_ => zcw BK322.out hs_.2 (by decide))); have n8_ := ax (zbo (xk BK327.out) hkp (fun hs_ => zcw BK327.out hs_.2 (by decide))); have n9_ := ax (zbo (xk BK333.out) hkp (fun hs_ => zcw BK333.out hs_.2 (by decide))); have n10_ := ax (hb); clear HO_1003; clear HO_1000; clear HO_1002; clear HO_1001; clear BK300; clear BK301; clear BK317; clear BK322; clear BK327; clear BK333; clear HB; have HO_1003 := n0_; have HO_1000 := n1_; have HO_1002 := n2_; have HO_1001 := n3_; have BK300 := n4_; have BK301 := n5_; have BK317 := n6_; have BK322 := n7_; have BK327 := n8_; have BK333 := n9_; have HB := n10_; clear n0_ n1_ n2_ n3_ n4_ n5_ n6_ n7_ n8_ n9_ n10_; (try clear hb); (try clear hkp); (try clear hy0); have hcz260_0 := bc0 BK333.out; have hcz260_1 := bc1 BK333.out; have hfz260_0 := zag BK333.out 0; have hfz260_1 := zag BK333.out 1) | ((with_reducible refine zat (f := 13) rfl ?_); refine za2 (some 88) rfl rfl Try.func13 (by kernel_rfl) rfl #[.agg #[.int .i64 t328, .slice Ao72 t351.length co72], .int .i64 1] rfl (by (try simp only [List.map_toArray, List.map_cons, List.map_nil]); first | done | (rw [show t351.length = t329.length from (Kd.zaI HO_1001.out).1.symm] <;> rfl) | rfl | (simp only [List.length_drop, List.length_take]; rfl)) ?_; (with_reducible refine (zbn.calls kj107 t328 _ _ t351 1 t352 _ ?side1 ?side2 A159.out).mono ?_); (case side1 => exact xc (Kd.zaI HO_1001.out).2.2); (case side2 => rw [show t351.length = t329.length from (Kd.zaI HO_1001.out).1.symm]; exact (Kd.zaI HO_1001.out).2.1); rintro e w261 ⟨rfl, hb⟩; refine ⟨_, rfl, ?_⟩; replace HO_1003 := yV HO_1003 hb; replace HO_1000 := ax (Kd.zaF (xS HO_1000.out) hb); replace HO_1002 := ax (Kd.zaF (xS HO_1002.out) hb); replace HO_1001 := ax (Kd.zaF (xS HO_1001.out) hb); replace BK300 := ax (bb BK300.out hb); replace BK301 := ax (bb BK301.out hb); replace BK317 := ax (bb BK317.out hb); replace BK322 := ax (bb BK322.out hb); replace BK327 := ax (bb BK327.out hb); replace BK333 := ax (bb BK333.out hb); replace HB := ax (zas (bh HB.out) hb); (try clear hb)))
             go_ret
             exact ⟨xe, bh HB.out⟩
       ·replace c105 := Bool.eq_false_iff.mpr c105
        subst c105
        rw [if_neg (show ¬ (false = true) by decide)] at H
        obtain rfl := Option.some.inj H
        try go_wp2
        replace HO_1003 := ax (Kd.zbs HO_1003.out); replace HO_1000 := ax (Kd.zaK HO_1000.out); replace HO_1002 := ax (Kd.zaK HO_1002.out); replace HO_1001 := ax (Kd.zaK HO_1001.out); replace BK300 := ax (zad BK300.out); replace BK301 := ax (zad BK301.out); replace BK317 := ax (zad BK317.out); replace BK322 := ax (zad BK322.out); replace BK327 := ax (zad BK327.out); replace BK333 := ax (zad BK333.out); replace HB := ax (zaN HB.out)
        refine zbG (n := 5) (S := fun w' => w'.cell? ⟨gb322, 0, none⟩ = some (.int .i64 t318) ∧ w'.cell? ⟨gb322, 1, none⟩ = some (.slice Ao52 t319.length co52) ∧ w'.cell? ⟨gb300, 0, none⟩ = some (.int .i64 a0_0) ∧ w'.cell? ⟨gb300, 1, none⟩ = some (.slice A0_1 l0_1.length c0_1)) (ds := []) (xB 5 0) (by kernel_rfl) rfl (by kernel_rfl) ⟨(zai BK322.out 0).trans rfl, (zai BK322.out 1).trans rfl, (zai BK300.out 0).trans rfl, (zai BK300.out 1).trans rfl⟩ (fun hHeld => ?_)
        generalize wc.drew = w262 at HO_1003 HO_1000 HO_1002 HO_1001 BK300 BK301 BK317 BK322 BK327 BK333 HB hHeld ⊢
        refine zdB (i := 0) (N := some 54) (v := ?_) (a' := ?_) (xB 5 1) rfl rfl (by kernel_rfl) (fun _ _ _ h => h) (Or.inl ⟨by rfl, ?_⟩) hHeld ?_ ?_
        rotate_left
        ·rintro w' ⟨s0, s1, s2, s3⟩
         go_simp
         with_reducible rfl
        rotate_left
        ·simp only [Act.put, List.setIfInBounds_toArray, List.set_cons_zero, List.set_cons_succ, zbP, zb8]
         rfl
        refine zdB (i := 1) (N := some 55) (v := ?_) (a' := ?_) (xB 5 3) rfl rfl (by kernel_rfl) (fun _ _ _ h => h) (Or.inl ⟨by rfl, ?_⟩) hHeld ?_ ?_
        rotate_left
        ·rintro w' ⟨s0, s1, s2, s3⟩
         go_simp
         with_reducible rfl
        rotate_left
        ·simp only [Act.put, List.setIfInBounds_toArray, List.set_cons_zero, List.set_cons_succ, zbP, zb8]
         rfl
        refine one_ (i := 2) (N := some 56) (xB 5 7) rfl rfl (by kernel_rfl) (by decide) (fun K hK => ?_)
        refine zbM Try.func9 (by kernel_rfl) rfl #[.agg #[.int .i64 a0_0, .slice A0_1 l0_1.length c0_1]] (by rfl) rfl rfl xm ?_
        with_reducible refine (zaX.calls kj24 a0_0 _ _ l0_1 t335 t336 _ ?side1 ?side2 A100.out).mono ?_
        (case side1 => exact xz HR0_1.out HB.out)
        (case side2 => exact HC0_1.out)
        rintro e w263 ⟨v337, rfl, ho0, hb⟩
        refine ⟨_, rfl, ?_⟩
        replace ho0 := Kd.zc3 ho0
        obtain ⟨N419_, ho0, hN419_⟩ := ho0
        replace HO_1003 := ax (Kd.zb4 (xV HO_1003.out) hN419_ (Kd.za9 ho0) hb); have HO338 := ax (Kd.zbS (Kd.zbk (Kd.zbk (Kd.zbk ho0 (Kd.S_lt (xS HO_1000.out))) (Kd.S_lt (xS HO_1002.out))) (Kd.S_lt (xS HO_1001.out))) (zaj (bh HB.out))); replace HO_1000 := ax (Kd.zaR (xS HO_1000.out) hN419_ (Kd.za9 ho0) hb); replace HO_1002 := ax (Kd.zaR (xS HO_1002.out) hN419_ (Kd.za9 ho0) hb); replace HO_1001 := ax (Kd.zaR (xS HO_1001.out) hN419_ (Kd.za9 ho0) hb); replace BK300 := ax (bb BK300.out hb); replace BK301 := ax (bb BK301.out hb); replace BK317 := ax (bb BK317.out hb); replace BK322 := ax (bb BK322.out hb); replace BK327 := ax (bb BK327.out hb); replace BK333 := ax (bb BK333.out hb); replace HB := ax (zas (bh HB.out) hb)
        (try clear hb)
        (try clear hk)
        (try clear ho0)
        (try clear hN419_)
        obtain ⟨Ao264, co264, eo264⟩ := Kd.zbB HO338.out
        (first | subst eo264 | (injection eo264 with f1_ f2_ f3_; have f4_ := f1_.symm; have f5_ := f3_.symm; clear f1_ f2_ f3_; subst f4_; subst f5_))
        refine hK.out _ _ ⟨(zai BK322.out 0).trans rfl, (zai BK322.out 1).trans rfl, (zai BK300.out 0).trans rfl, (zai BK300.out 1).trans rfl⟩ (fun hHeld => ?_)
        clear hK K
        refine nm ?_
        refine one_ (i := 3) (N := some 57) (xB 5 15) rfl rfl (by kernel_rfl) (by decide) (fun K hK => ?_)
        refine zbM Try.func11 (by kernel_rfl) rfl #[.agg #[.int .i64 t318, .slice Ao52 t319.length co52], .agg #[.int .i64 t335, .slice Ao264 t336.length co264]] (by rfl) rfl rfl xm ?_
        with_reducible refine (zbe.calls kj24 t318 _ _ t319 t335 _ _ t336 true _ ?side1 ?side2 ?side3 ?side4 A101.out).mono ?_
        (case side1 => exact xc (Kd.zaI HO_1000.out).2.2)
        (case side2 => exact (Kd.zaI HO_1000.out).2.1)
        (case side3 => exact xc (Kd.zaI HO338.out).2.2)
        (case side4 => exact (Kd.zaI HO338.out).2.1)
        rintro e w265 ⟨rfl, hb⟩
        refine ⟨_, rfl, ?_⟩
        replace HO_1003 := yV HO_1003 hb; replace HO_1000 := ax (Kd.zaF (xS HO_1000.out) hb); replace HO_1002 := ax (Kd.zaF (xS HO_1002.out) hb); replace HO_1001 := ax (Kd.zaF (xS HO_1001.out) hb); replace HO338 := ax (Kd.zaF (xS HO338.out) hb); replace BK300 := ax (bb BK300.out hb); replace BK301 := ax (bb BK301.out hb); replace BK317 := ax (bb BK317.out hb); replace BK322 := ax (bb BK322.out hb); replace BK327 := ax (bb BK327.out hb); replace BK333 := ax (bb BK333.out hb); replace HB := ax (zas (bh HB.out) hb)
        (try clear hb)
        (try clear hk)
        refine hK.out _ _ ⟨(zai BK322.out 0).trans rfl, (zai BK322.out 1).trans rfl, (zai BK300.out 0).trans rfl, (zai BK300.out 1).trans rfl⟩ (fun hHeld => ?_)
        clear hK K
        refine nm ?_
        refine zdD (i := 4) (N := some 58) (v := ?_) (a' := ?_) (xB 5 31) rfl rfl (by kernel_rfl) (fun _ _ _ h => h) (Or.inl ⟨by rfl, ?_⟩) ?_ ?_
        rotate_left
        ·intro w'
         go_simp
         with_reducible rfl
        rotate_left
        ·simp only [Act.put, List.setIfInBounds_toArray, List.set_cons_zero, List.set_cons_succ, zbP, zb8]
         rfl
        refine zb5 (by kernel_rfl) ?_
        try go_wp2
        replace HO_1003 := ax (Kd.zbs HO_1003.out); replace HO_1000 := ax (Kd.zaK HO_1000.out); replace HO_1002 := ax (Kd.zaK HO_1002.out); replace HO_1001 := ax (Kd.zaK HO_1001.out); replace HO338 := ax (Kd.zaK HO338.out); replace BK300 := ax (zad BK300.out); replace BK301 := ax (zad BK301.out); replace BK317 := ax (zad BK317.out); replace BK322 := ax (zad BK322.out); replace BK327 := ax (zad BK327.out); replace BK333 := ax (zad BK333.out); replace HB := ax (zaN HB.out)
        refine zbG (n := 5) (S := fun w' => w'.cell? ⟨gb327, 0, none⟩ = some (.int .i64 t323) ∧ w'.cell? ⟨gb327, 1, none⟩ = some (.slice Ao62 t324.length co62) ∧ w'.cell? ⟨gb301, 0, none⟩ = some (.int .i64 a1_0) ∧ w'.cell? ⟨gb301, 1, none⟩ = some (.slice A1_1 l1_1.length c1_1)) (ds := []) (xB 5 0) (by kernel_rfl) rfl (by kernel_rfl) ⟨(zai BK327.out 0).trans rfl, (zai BK327.out 1).trans rfl, (zai BK301.out 0).trans rfl, (zai BK301.out 1).trans rfl⟩ (fun hHeld => ?_)
        generalize w265.drew = w266 at HO_1003 HO_1000 HO_1002 HO_1001 HO338 BK300 BK301 BK317 BK322 BK327 BK333 HB hHeld ⊢
        refine zdB (i := 0) (N := some 59) (v := ?_) (a' := ?_) (xB 5 1) rfl rfl (by kernel_rfl) (fun _ _ _ h => h) (Or.inl ⟨by rfl, ?_⟩) hHeld ?_ ?_
        rotate_left
        ·rintro w' ⟨s0, s1, s2, s3⟩
         go_simp
         with_reducible rfl
        rotate_left
        ·simp only [Act.put, List.setIfInBounds_toArray, List.set_cons_zero, List.set_cons_succ, zbP, zb8]
         rfl
        refine zdB (i := 1) (N := some 60) (v := ?_) (a' := ?_) (xB 5 3) rfl rfl (by kernel_rfl) (fun _ _ _ h => h) (Or.inl ⟨by rfl, ?_⟩) hHeld ?_ ?_
        rotate_left
        ·rintro w' ⟨s0, s1, s2, s3⟩
         go_simp
         with_reducible rfl
        rotate_left
        ·simp only [Act.put, List.setIfInBounds_toArray, List.set_cons_zero, List.set_cons_succ, zbP, zb8]
         rfl
        refine one_ (i := 2) (N := some 61) (xB 5 7) rfl rfl (by kernel_rfl) (by decide) (fun K hK => ?_)
        refine zbM Try.func9 (by kernel_rfl) rfl #[.agg #[.int .i64 a1_0, .slice A1_1 l1_1.length c1_1]] (by rfl) rfl rfl xm ?_
        with_reducible refine (zaX.calls kj24 a1_0 _ _ l1_1 t340 t341 _ ?side1 ?side2 A103.out).mono ?_
        (case side1 => exact xz HR1_1.out HB.out)
        (case side2 => exact HC1_1.out)
        rintro e w267 ⟨v342, rfl, ho0, hb⟩
        refine ⟨_, rfl, ?_⟩
        replace ho0 := Kd.zc3 ho0
        obtain ⟨N421_, ho0, hN421_⟩ := ho0
        replace HO_1003 := ax (Kd.zb4 (xV HO_1003.out) hN421_ (Kd.za9 ho0) hb); have HO343 := ax (Kd.zbS (Kd.zbk (Kd.zbk (Kd.zbk (Kd.zbk ho0 (Kd.S_lt (xS HO_1000.out))) (Kd.S_lt (xS HO_1002.out))) (Kd.S_lt (xS HO_1001.out))) (Kd.S_lt (xS HO338.out))) (zaj (bh HB.out))); replace HO_1000 := ax (Kd.zaR (xS HO_1000.out) hN421_ (Kd.za9 ho0) hb); replace HO_1002 := ax (Kd.zaR (xS HO_1002.out) hN421_ (Kd.za9 ho0) hb); replace HO_1001 := ax (Kd.zaR (xS HO_1001.out) hN421_ (Kd.za9 ho0) hb); replace HO338 := ax (Kd.zaR (xS HO338.out) hN421_ (Kd.za9 ho0) hb); replace BK300 := ax (bb BK300.out hb); replace BK301 := ax (bb BK301.out hb); replace BK317 := ax (bb BK317.out hb); replace BK322 := ax (bb BK322.out hb); replace BK327 := ax (bb BK327.out hb); replace BK333 := ax (bb BK333.out hb); replace HB := ax (zas (bh HB.out) hb)
        (try clear hb)
        (try clear hk)
        (try clear ho0)
        (try clear hN421_)
        obtain ⟨Ao268, co268, eo268⟩ := Kd.zbB HO343.out
        (first | subst eo268 | (injection eo268 with f1_ f2_ f3_; have f4_ := f1_.symm; have f5_ := f3_.symm; clear f1_ f2_ f3_; subst f4_; subst f5_))
        refine hK.out _ _ ⟨(zai BK327.out 0).trans rfl, (zai BK327.out 1).trans rfl, (zai BK301.out 0).trans rfl, (zai BK301.out 1).trans rfl⟩ (fun hHeld => ?_)
        clear hK K
        refine nm ?_
        refine one_ (i := 3) (N := some 62) (xB 5 15) rfl rfl (by kernel_rfl) (by decide) (fun K hK => ?_)
        refine zbM Try.func11 (by kernel_rfl) rfl #[.agg #[.int .i64 t323, .slice Ao62 t324.length co62], .agg #[.int .i64 t340, .slice Ao268 t341.length co268]] (by rfl) rfl rfl xm ?_
        with_reducible refine (zbe.calls kj24 t323 _ _ t324 t340 _ _ t341 false _ ?side1 ?side2 ?side3 ?side4 A104.out).mono ?_
        (case side1 => exact xc (Kd.zaI HO_1002.out).2.2)
        (case side2 => exact (Kd.zaI HO_1002.out).2.1)
        (case side3 => exact xc (Kd.zaI HO343.out).2.2)
        (case side4 => exact (Kd.zaI HO343.out).2.1)
        rintro e w269 ⟨rfl, hb⟩
        refine ⟨_, rfl, ?_⟩
        replace HO_1003 := yV HO_1003 hb; replace HO_1000 := ax (Kd.zaF (xS HO_1000.out) hb); replace HO_1002 := ax (Kd.zaF (xS HO_1002.out) hb); replace HO_1001 := ax (Kd.zaF (xS HO_1001.out) hb); replace HO338 := ax (Kd.zaF (xS HO338.out) hb); replace HO343 := ax (Kd.zaF (xS HO343.out) hb); replace BK300 := ax (bb BK300.out hb); replace BK301 := ax (bb BK301.out hb); replace BK317 := ax (bb BK317.out hb); replace BK322 := ax (bb BK322.out hb); replace BK327 := ax (bb BK327.out hb); replace BK333 := ax (bb BK333.out hb); replace HB := ax (zas (bh HB.out) hb)
        (try clear hb)
        (try clear hk)
        refine hK.out _ _ ⟨(zai BK327.out 0).trans rfl, (zai BK327.out 1).trans rfl, (zai BK301.out 0).trans rfl, (zai BK301.out 1).trans rfl⟩ (fun hHeld => ?_)
        clear hK K
        refine nm ?_
        refine zdD (i := 4) (N := some 63) (v := ?_) (a' := ?_) (xB 5 31) rfl rfl (by kernel_rfl) (fun _ _ _ h => h) (Or.inl ⟨by rfl, ?_⟩) ?_ ?_
        rotate_left
        ·intro w'
         go_simp
         with_reducible rfl
        rotate_left
        ·simp only [Act.put, List.setIfInBounds_toArray, List.set_cons_zero, List.set_cons_succ, zbP, zb8]
         rfl
        refine zb5 (by kernel_rfl) ?_
        try go_wp2
        go_ret
        exact ⟨xe, bh HB.out⟩
      ·replace c102 := Bool.eq_false_iff.mpr c102
       subst c102
       rw [if_neg (show ¬ (false = true) by decide)] at H
       obtain rfl := Option.some.inj H
       try go_wp2
       replace HO_1003 := ax (Kd.zbs HO_1003.out); replace HO_1000 := ax (Kd.zaK HO_1000.out); replace HO_1002 := ax (Kd.zaK HO_1002.out); replace HO_1001 := ax (Kd.zaK HO_1001.out); replace BK300 := ax (zad BK300.out); replace BK301 := ax (zad BK301.out); replace BK317 := ax (zad BK317.out); replace BK322 := ax (zad BK322.out); replace BK327 := ax (zad BK327.out); replace BK333 := ax (zad BK333.out); replace HB := ax (zaN HB.out)
       refine zbG (n := 5) (S := fun w' => w'.cell? ⟨gb322, 0, none⟩ = some (.int .i64 t318) ∧ w'.cell? ⟨gb322, 1, none⟩ = some (.slice Ao52 t319.length co52) ∧ w'.cell? ⟨gb300, 0, none⟩ = some (.int .i64 a0_0) ∧ w'.cell? ⟨gb300, 1, none⟩ = some (.slice A0_1 l0_1.length c0_1)) (ds := []) (xB 5 0) (by kernel_rfl) rfl (by kernel_rfl) ⟨(zai BK322.out 0).trans rfl, (zai BK322.out 1).trans rfl, (zai BK300.out 0).trans rfl, (zai BK300.out 1).trans rfl⟩ (fun hHeld => ?_)
       generalize wc.drew = w270 at HO_1003 HO_1000 HO_1002 HO_1001 BK300 BK301 BK317 BK322 BK327 BK333 HB hHeld ⊢
       refine zdB (i := 0) (N := some 54) (v := ?_) (a' := ?_) (xB 5 1) rfl rfl (by kernel_rfl) (fun _ _ _ h => h) (Or.inl ⟨by rfl, ?_⟩) hHeld ?_ ?_
       rotate_left
       ·rintro w' ⟨s0, s1, s2, s3⟩
        go_simp
        with_reducible rfl
       rotate_left
       ·simp only [Act.put, List.setIfInBounds_toArray, List.set_cons_zero, List.set_cons_succ, zbP, zb8]
        rfl
       refine zdB (i := 1) (N := some 55) (v := ?_) (a' := ?_) (xB 5 3) rfl rfl (by kernel_rfl) (fun _ _ _ h => h) (Or.inl ⟨by rfl, ?_⟩) hHeld ?_ ?_
       rotate_left
       ·rintro w' ⟨s0, s1, s2, s3⟩
        go_simp
        with_reducible rfl
       rotate_left
       ·simp only [Act.put, List.setIfInBounds_toArray, List.set_cons_zero, List.set_cons_succ, zbP, zb8]
        rfl
       refine one_ (i := 2) (N := some 56) (xB 5 7) rfl rfl (by kernel_rfl) (by decide) (fun K hK => ?_)
       refine zbM Try.func9 (by kernel_rfl) rfl #[.agg #[.int .i64 a0_0, .slice A0_1 l0_1.length c0_1]] (by rfl) rfl rfl xm ?_
       with_reducible refine (zaX.calls kj24 a0_0 _ _ l0_1 t335 t336 _ ?side1 ?side2 A100.out).mono ?_
       (case side1 => exact xz HR0_1.out HB.out)
       (case side2 => exact HC0_1.out)
       rintro e w271 ⟨v337, rfl, ho0, hb⟩
       refine ⟨_, rfl, ?_⟩
       replace ho0 := Kd.zc3 ho0
       obtain ⟨N423_, ho0, hN423_⟩ := ho0
       replace HO_1003 := ax (Kd.zb4 (xV HO_1003.out) hN423_ (Kd.za9 ho0) hb); have HO338 := ax (Kd.zbS (Kd.zbk (Kd.zbk (Kd.zbk ho0 (Kd.S_lt (xS HO_1000.out))) (Kd.S_lt (xS HO_1002.out))) (Kd.S_lt (xS HO_1001.out))) (zaj (bh HB.out))); replace HO_1000 := ax (Kd.zaR (xS HO_1000.out) hN423_ (Kd.za9 ho0) hb); replace HO_1002 := ax (Kd.zaR (xS HO_1002.out) hN423_ (Kd.za9 ho0) hb); replace HO_1001 := ax (Kd.zaR (xS HO_1001.out) hN423_ (Kd.za9 ho0) hb); replace BK300 := ax (bb BK300.out hb); replace BK301 := ax (bb BK301.out hb); replace BK317 := ax (bb BK317.out hb); replace BK322 := ax (bb BK322.out hb); replace BK327 := ax (bb BK327.out hb); replace BK333 := ax (bb BK333.out hb); replace HB := ax (zas (bh HB.out) hb)
       (try clear hb)
       (try clear hk)
       (try clear ho0)
       (try clear hN423_)
       obtain ⟨Ao272, co272, eo272⟩ := Kd.zbB HO338.out
       (first | subst eo272 | (injection eo272 with f1_ f2_ f3_; have f4_ := f1_.symm; have f5_ := f3_.symm; clear f1_ f2_ f3_; subst f4_; subst f5_))
       refine hK.out _ _ ⟨(zai BK322.out 0).trans rfl, (zai BK322.out 1).trans rfl, (zai BK300.out 0).trans rfl, (zai BK300.out 1).trans rfl⟩ (fun hHeld => ?_)
       clear hK K
       refine nm ?_
       refine one_ (i := 3) (N := some 57) (xB 5 15) rfl rfl (by kernel_rfl) (by decide) (fun K hK => ?_)
       refine zbM Try.func11 (by kernel_rfl) rfl #[.agg #[.int .i64 t318, .slice Ao52 t319.length co52], .agg #[.int .i64 t335, .slice Ao272 t336.length co272]] (by rfl) rfl rfl xm ?_
       with_reducible refine (zbe.calls kj24 t318 _ _ t319 t335 _ _ t336 false _ ?side1 ?side2 ?side3 ?side4 A101.out).mono ?_
       (case side1 => exact xc (Kd.zaI HO_1000.out).2.2)
       (case side2 => exact (Kd.zaI HO_1000.out).2.1)
       (case side3 => exact xc (Kd.zaI HO338.out).2.2)
       (case side4 => exact (Kd.zaI HO338.out).2.1)
       rintro e w273 ⟨rfl, hb⟩
       refine ⟨_, rfl, ?_⟩
       replace HO_1003 := yV HO_1003 hb; replace HO_1000 := ax (Kd.zaF (xS HO_1000.out) hb); replace HO_1002 := ax (Kd.zaF (xS HO_1002.out) hb); replace HO_1001 := ax (Kd.zaF (xS HO_1001.out) hb); replace HO338 := ax (Kd.zaF (xS HO338.out) hb); replace BK300 := ax (bb BK300.out hb); replace BK301 := ax (bb BK301.out hb); replace BK317 := ax (bb BK317.out hb); replace BK322 := ax (bb BK322.out hb); replace BK327 := ax (bb BK327.out hb); replace BK333 := ax (bb BK333.out hb); replace HB := ax (zas (bh HB.out) hb)
       (try clear hb)
       (try clear hk)
       refine hK.out _ _ ⟨(zai BK322.out 0).trans rfl, (zai BK322.out 1).trans rfl, (zai BK300.out 0).trans rfl, (zai BK300.out 1).trans rfl⟩ (fun hHeld => ?_)
       clear hK K
       refine nm ?_
       refine zdD (i := 4) (N := some 58) (v := ?_) (a' := ?_) (xB 5 31) rfl rfl (by kernel_rfl) (fun _ _ _ h => h) (Or.inl ⟨by rfl, ?_⟩) ?_ ?_
       rotate_left
       ·intro w'
        go_simp
        with_reducible rfl
       rotate_left
       ·simp only [Act.put, List.setIfInBounds_toArray, List.set_cons_zero, List.set_cons_succ, zbP, zb8]
        rfl
       refine zb5 (by kernel_rfl) ?_
       try go_wp2
       go_ret
       exact ⟨xe, bh HB.out⟩

/-- THE ONE PURE STATEMENT of zak: yours. -/
def zak.Pure : Prop := ∀ (a0_0 : Int) (l0_1 : List (S69)) (a1_0 : Int) (l1_1 : List (S69)), (Lit.int .i64 a0_0).wf = true → (l0_1.length ≤ maxLen ∧ ∀ y0_ ∈ l0_1, ((y0_.f0.length ≤ maxLen ∧ ∀ y1_ ∈ y0_.f0, (Lit.int .i64 y1_).wf = true) ∧ (Lit.int .i64 y0_.f1).wf = true)) → (Lit.int .i64 a1_0).wf = true → (l1_1.length ≤ maxLen ∧ ∀ y0_ ∈ l1_1, ((y0_.f0.length ≤ maxLen ∧ ∀ y1_ ∈ y0_.f0, (Lit.int .i64 y1_).wf = true) ∧ (Lit.int .i64 y0_.f1).wf = true)) → ∃ k, zak.f k a0_0 l0_1 a1_0 l1_1 = some true
theorem zak.walk (P : zak.Pure) (a0_0 : Int) (A0_1 : Option Addr) (c0_1 : Nat) (l0_1 : List (S69)) (a1_0 : Int) (A1_1 : Option Addr) (c1_1 : Nat) (l1_1 : List (S69)) (w : World) (hr0_1 : Kd.C k69 w A0_1 l0_1.length l0_1) (hc0_1 : l0_1.length ≤ c0_1) (hr1_1 : Kd.C k69 w A1_1 l1_1.length l1_1) (hc1_1 : l1_1.length ≤ c1_1) (hF0_0 : (Lit.int .i64 a0_0).wf = true) (hF0_1 : (l0_1.length ≤ maxLen ∧ ∀ y0_ ∈ l0_1, ((y0_.f0.length ≤ maxLen ∧ ∀ y1_ ∈ y0_.f0, (Lit.int .i64 y1_).wf = true) ∧ (Lit.int .i64 y0_.f1).wf = true))) (hF1_0 : (Lit.int .i64 a1_0).wf = true) (hF1_1 : (l1_1.length ≤ maxLen ∧ ∀ y0_ ∈ l1_1, ((y0_.f0.length ≤ maxLen ∧ ∀ y1_ ∈ y0_.f0, (Lit.int .i64 y1_).wf = true) ∧ (Lit.int .i64 y0_.f1).wf = true))) :
  Calls Try.prog 3 #[.agg #[.int .i64 a0_0, .slice A0_1 l0_1.length c0_1], .agg #[.int .i64 a1_0, .slice A1_1 l1_1.length c1_1]] w fun e w' => e = .returned (.bool true) ∧ Below w.heap.size w w' := by
 obtain ⟨k, h⟩ := P a0_0 l0_1 a1_0 l1_1 hF0_0 hF0_1 hF1_0 hF1_1
 refine (zak.calls k a0_0 A0_1 c0_1 l0_1 a1_0 A1_1 c1_1 l1_1 true w hr0_1 hc0_1 hr1_1 hc1_1 h).mono ?_
 rintro e w' ⟨rfl, hd⟩
 exact ⟨rfl, hd⟩

end Go.Proofs.Ytneipehcmmigeaa.PFnExactTimesPolys
