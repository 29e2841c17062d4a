import Derived.Test.YtneipehcmmigeaaPFnExactAddPolysx7
import Derived.Test.YtneipehcmmigeaaPFnExactAddPolysx16
namespace Go.Proofs.Ytneipehcmmigeaa.PFnExactAddPolys
open Go.RowKit Go.Proofs.YtneipehcmmigeaaW.PrintWords Go.Proofs.YtneipehcmmigeaaW.PrintLast Go.Proofs.YtneipehcmmigeaaW.PrintMore
set_option linter.unusedVariables false
set_option linter.unusedSimpArgs false
set_option maxHeartbeats 8000000
set_option maxRecDepth 100000
mutual
def zak.j0 : Nat → Bool → Bool → Bool → Int → List (S69) → Int → List (S69) → Int → List (S48) → Int → List (S48) → Int → List (S48) → Int → List (S48) → Option (Bool)
 | 0, _, _, _, _, _, _, _, _, _, _, _, _, _, _, _ => none
 | k + 1, x7, x11, x53, x1006, x1007, x1008, x1009, x1010, x1003, x1011, x1000, x1012, x1002, x1004, x1001 => if x53 = true then (some false) else ((zaY.f k x1006 x1007).bind fun bt323 => ((zbd.f k x1011 x1000 bt323.1 bt323.2).bind fun t327 => (if t327 = true then ((zaY.f k x1008 x1009).bind fun bt328 => ((zbd.f k x1012 x1002 bt328.1 bt328.2).bind fun t332 => (if t332 = true then ((zbn.f k x1011 x1000 1).bind fun bt333 => ((zbn.f k x1012 x1002 bt333.1).bind fun bt335 => (if bt335.1 < 0 then (zak.j1 k x7 true x1006 x1007 x1008 x1009 x1010 x1003 x1004 x1001) else ((zbd.f k x1004 x1001 x1010 x1003).bind fun t337 => (if t337 = true then (zak.j1 k x7 (x11 != x7) x1006 x1007 x1008 x1009 x1010 x1003 x1004 x1001) else (zak.j1 k x7 true x1006 x1007 x1008 x1009 x1010 x1003 x1004 x1001)))))) else (some false)))) else (some false))))
def zak.j1 : Nat → Bool → Bool → Int → List (S69) → Int → List (S69) → Int → List (S48) → Int → List (S48) → Option (Bool)
 | 0, _, _, _, _, _, _, _, _, _, _ => none
 | k + 1, x7, x82, x1006, x1007, x1008, x1009, x1010, x1003, x1004, x1001 => if x82 = true then (some false) else ((zbn.f k x1004 x1001 1).bind fun bt338 => ((zbo.f k x1004 bt338.2 1).bind fun t340 => (if t340 < 0 then (some false) else (if t340 = bt338.1 then ((zaY.f k x1006 x1007).bind fun bt341 => ((zaY.f k x1008 x1009).bind fun bt345 => ((zaC.f k bt341.1 bt341.2 bt345.1 bt345.2).bind fun bt349 => ((zbd.f k bt349.1 bt349.2.1 x1010 x1003).bind fun t355 => (if t355 = true then (zak.j2 k bt338.1 (bt349.2.2 != x7) x1004 bt338.2) else (zak.j2 k bt338.1 true x1004 bt338.2)))))) else (some false)))))
def zak.j2 : Nat → Int → Bool → Int → List (S48) → Option (Bool)
 | 0, _, _, _, _ => none
 | k + 1, x13, x110, x1004, x1001 => if x110 = true then (some false) else ((zbo.f k x1004 x1001 1).bind fun t356 => (if t356 < 0 then (some false) else (if t356 = x13 then (some true) else (some false))))
end
def zak.f (k : Nat) (a0_0 : Int) (l0_1 : List (S69)) (a1_0 : Int) (l1_1 : List (S69)) : Option (Bool) := (zbv.f k a0_0 l0_1 1048576).bind fun t290 => (if t290 < 0 then (some true) else ((zbv.f k a1_0 l1_1 t290).bind fun t291 => (if t291 < 0 then (some true) else ((zaY.f k a0_0 l0_1).bind fun bt292 => ((zaY.f k a1_0 l1_1).bind fun bt296 => ((zaq.f k bt292.1 bt292.2 bt296.1 bt296.2).bind fun bt300 => ((zaY.f k a0_0 l0_1).bind fun bt306 => ((zaY.f k a1_0 l1_1).bind fun bt311 => ((zaC.f k bt306.1 bt306.2 bt311.1 bt311.2).bind fun bt316 => ((zbd.f k bt316.1 bt316.2.1 bt300.1 bt300.2.1).bind fun t322 => (if t322 = true then (zak.j0 k bt300.2.2 bt316.2.2 (bt316.2.2 != bt300.2.2) a0_0 l0_1 a1_0 l1_1 bt300.1 bt300.2.1 bt306.1 bt306.2 bt311.1 bt311.2 bt316.1 bt316.2.1) else (zak.j0 k bt300.2.2 bt316.2.2 true a0_0 l0_1 a1_0 l1_1 bt300.1 bt300.2.1 bt306.1 bt306.2 bt311.1 bt311.2 bt316.1 bt316.2.1))))))))))))
theorem zak.za8 : ∀ k, (∀ y0 y1 y2 y3 y4 y5 y6 y7 y8 y9 y10 y11 y12 y13 y14, LeO (zak.j0 k y0 y1 y2 y3 y4 y5 y6 y7 y8 y9 y10 y11 y12 y13 y14) (zak.j0 (k + 1) y0 y1 y2 y3 y4 y5 y6 y7 y8 y9 y10 y11 y12 y13 y14)) ∧ (∀ y0 y1 y2 y3 y4 y5 y6 y7 y8 y9, LeO (zak.j1 k y0 y1 y2 y3 y4 y5 y6 y7 y8 y9) (zak.j1 (k + 1) y0 y1 y2 y3 y4 y5 y6 y7 y8 y9)) ∧ (∀ y0 y1 y2 y3, LeO (zak.j2 k y0 y1 y2 y3) (zak.j2 (k + 1) y0 y1 y2 y3))
 | 0 => ⟨fun _ _ _ _ _ _ _ _ _ _ _ _ _ _ _ r h => by simp [zak.j0] at h, fun _ _ _ _ _ _ _ _ _ _ r h => by simp [zak.j1] at h, fun _ _ _ _ r h => by simp [zak.j2] at h⟩
 | k + 1 => by
  obtain ⟨ih0, ih1, ih2⟩ := zak.za8 k
  refine ⟨?_, ?_, ?_⟩ <;> intros <;> (first | unfold zak.j0 | unfold zak.j1 | unfold zak.j2) <;> repeat' with_reducible first | exact ih0 _ _ _ _ _ _ _ _ _ _ _ _ _ _ _ | exact ih1 _ _ _ _ _ _ _ _ _ _ | exact ih2 _ _ _ _ | exact zaC.mono _ _ _ _ _ | exact zbd.mono _ _ _ _ _ | exact zbo.mono _ _ _ _ | exact zbn.mono _ _ _ _ | exact zbv.mono _ _ _ _ | exact zaY.mono _ _ _ | exact zaq.mono _ _ _ _ _ | exact xl | refine LeO.ite ?_ ?_ | refine LeO.bind ?_ fun _ => ?_
theorem zak.mono : ∀ a0 a1 a2 a3 k, LeO (zak.f k a0 a1 a2 a3) (zak.f (k + 1) a0 a1 a2 a3) := by
 intro a0 a1 a2 a3 k
 obtain ⟨ih0, ih1, ih2⟩ := zak.za8 k
 unfold zak.f
 repeat' with_reducible first | exact ih0 _ _ _ _ _ _ _ _ _ _ _ _ _ _ _ | exact ih1 _ _ _ _ _ _ _ _ _ _ | exact ih2 _ _ _ _ | exact zaC.mono _ _ _ _ _ | exact zbd.mono _ _ _ _ _ | exact zbo.mono _ _ _ _ | exact zbn.mono _ _ _ _ | exact zbv.mono _ _ _ _ | exact zaY.mono _ _ _ | exact zaq.mono _ _ _ _ _ | exact xl | refine LeO.ite ?_ ?_ | refine LeO.bind ?_ fun _ => ?_
def zak.T8 : Bool × List (List Nat × List Nat) := (true, [([], []), ([0], [0]), ([], []), ([2, 1], [2]), ([1, 3, 3], [1, 3]), ([4], [4]), ([5], [5]), ([5], [5]), ([], []), ([8, 6, 4, 0, 1, 2, 3, 4, 5, 6, 8], [6, 8]), ([7, 9, 0, 1, 2, 3, 4, 5, 6, 7, 8, 9], [7])])
def zak.B8 : List Nat := [0, 1, 0, 7, 15, 31, 63, 63, 0, 383, 1023]
theorem zak.tab8 : rtab .any (opsOf Try.f5 8) = zak.T8 := by kernel_rfl
theorem zak.zfU : zbS zak.T8.2 zak.B8 = true := by kernel_rfl
def zak.T31 : Bool × List (List Nat × List Nat) := (true, [([], []), ([0], [0]), ([], []), ([2, 1], [2]), ([1, 3, 3], [1, 3]), ([4], [4]), ([5], [5]), ([5], [5]), ([], []), ([8, 6, 4, 0, 1, 2, 3, 4, 5, 6, 8], [6, 8]), ([7, 9, 0, 1, 2, 3, 4, 5, 6, 7, 8, 9], [7])])
def zak.B31 : List Nat := [0, 1, 0, 7, 15, 31, 63, 63, 0, 383, 1023]
theorem zak.zkj : rtab .any (opsOf Try.f5 31) = zak.T31 := by kernel_rfl
theorem zak.zjQ : zbS zak.T31.2 zak.B31 = true := by kernel_rfl
theorem zak.calls (k : Nat) (a0_0 : Int) (A0_1 : Option Addr) (c0_1 : Nat) (l0_1 : List (S69)) (a1_0 : Int) (A1_1 : Option Addr) (c1_1 : Nat) (l1_1 : List (S69)) (r : Bool) (w : World) (hr0_1 : Kd.C k69 w A0_1 l0_1.length l0_1) (hc0_1 : l0_1.length ≤ c0_1) (hr1_1 : Kd.C k69 w A1_1 l1_1.length l1_1) (hc1_1 : l1_1.length ≤ c1_1) (h : zak.f k a0_0 l0_1 a1_0 l1_1 = some r) :
  Calls Try.prog 5 #[.agg #[.int .i64 a0_0, .slice A0_1 l0_1.length c0_1], .agg #[.int .i64 a1_0, .slice A1_1 l1_1.length c1_1]] w fun e w' => e = .returned (.bool r) ∧ Below w.heap.size w w' := by
 have hu24 := Try.underlying24
 have hu28 := Try.underlying28
 have HR0_1 := ax hr0_1
 have HC0_1 := ax hc0_1
 clear hr0_1 hc0_1
 have HR1_1 := ax hr1_1
 have HC1_1 := ax hc1_1
 clear hr1_1 hc1_1
 have HB := ax (Below.refl w.heap.size w)
 have H : ((zbv.f k a0_0 l0_1 1048576).bind fun t290 => (if t290 < 0 then (some true) else ((zbv.f k a1_0 l1_1 t290).bind fun t291 => (if t291 < 0 then (some true) else ((zaY.f k a0_0 l0_1).bind fun bt292 => ((zaY.f k a1_0 l1_1).bind fun bt296 => ((zaq.f k bt292.1 bt292.2 bt296.1 bt296.2).bind fun bt300 => ((zaY.f k a0_0 l0_1).bind fun bt306 => ((zaY.f k a1_0 l1_1).bind fun bt311 => ((zaC.f k bt306.1 bt306.2 bt311.1 bt311.2).bind fun bt316 => ((zbd.f k bt316.1 bt316.2.1 bt300.1 bt300.2.1).bind fun t322 => (if t322 = true then (zak.j0 k bt300.2.2 bt316.2.2 (bt316.2.2 != bt300.2.2) a0_0 l0_1 a1_0 l1_1 bt300.1 bt300.2.1 bt306.1 bt306.2 bt311.1 bt311.2 bt316.1 bt316.2.1) else (zak.j0 k bt300.2.2 bt316.2.2 true a0_0 l0_1 a1_0 l1_1 bt300.1 bt300.2.1 bt306.1 bt306.2 bt311.1 bt311.2 bt316.1 bt316.2.1))))))))))))) = some r := h
 clear h
 obtain ⟨t290, A3, H⟩ := xI H
 by_cases c4 : t290 < 0
 ·rw [if_pos c4] at H
  have c4b0 := decide_eq_true c4
  clear c4
  obtain rfl := Option.some.inj H
  go_enter Try.func5, Try.ntmps5
  go_wp2_with (first | ((with_reducible refine zaV (N := 2) rfl ?_); refine zaO ?hg (N := 2) ?hd (cs := #[.int .i64 a0_0, .slice A0_1 l0_1.length c0_1]) (t := 24) ?hr ?_; (case hd => rfl); (case hg => rfl); (case hr => first | (go_simp; done) | (go_simp; rfl)); intro gb288 hg w5 hbox hb; have BK288 := ax (hbox); have GW288 := ax ((by rw [hg]; exact (zah (xb HB.out)) : w.heap.size ≤ gb288)); have GE288 := ax ((by rw [hg]; exact (zah (xb HB.out)) : w.heap.size ≤ gb288)); replace HB := yB HB hb; clear hb hbox hg) | ((with_reducible refine zaV (N := 3) rfl ?_); refine zaO ?hg (N := 3) ?hd (cs := #[.int .i64 a1_0, .slice A1_1 l1_1.length c1_1]) (t := 24) ?hr ?_; (case hd => rfl); (case hg => rfl); (case hr => first | (go_simp; done) | (go_simp; rfl)); intro gb289 hg w6 hbox hb; have BK289 := ax (hbox); have GW289 := ax ((by rw [hg]; exact (zah (xs HB.out GE288.out)) : w.heap.size ≤ gb289)); have GE289 := ax ((by rw [hg]; exact (zah (xs HB.out GE288.out)) : w.heap.size ≤ gb289)); replace HB := ax (zar (xs HB.out GE288.out) hb); have NB288_289 := ax (bn hg BK288.out); have NB289_288 := ax (bm hg BK288.out); replace BK288 := ax (bb BK288.out hb); clear hb hbox hg; have hnb7 := NB288_289.out; have hnc7 := NB289_288.out; have hcz8_0 := bc0 BK288.out; have hcz8_1 := bc1 BK288.out; have hfz8_0 := zae BK288.out 0; have hfz8_1 := zae BK288.out 1) | ((with_reducible refine zas (f := 7) rfl ?_); refine za3 (some 19) rfl rfl Try.func7 (by kernel_rfl) rfl #[.agg #[.int .i64 a0_0, .slice A0_1 l0_1.length c0_1], .int .i64 1048576] rfl xm ?_; (with_reducible refine (zbv.calls k a0_0 _ _ l0_1 1048576 t290 _ ?side1 ?side2 A3.out).mono ?_); (case side1 => exact xz HR0_1.out HB.out); (case side2 => exact HC0_1.out); rintro e w9 ⟨rfl, hb⟩; refine ⟨_, rfl, ?_⟩; replace BK288 := ax (bb BK288.out hb); replace BK289 := ax (bb BK289.out hb); replace HB := ax (zar (bh HB.out) hb); (try clear hb)))
  go_ret
  exact ⟨xe, bh HB.out⟩
 ·rw [if_neg c4] at H
  have c4b0 := decide_eq_false c4
  clear c4
  obtain ⟨t291, A10, H⟩ := xI H
  by_cases c11 : t291 < 0
  ·rw [if_pos c11] at H
   have c11b0 := decide_eq_true c11
   clear c11
   obtain rfl := Option.some.inj H
   go_enter Try.func5, Try.ntmps5
   go_wp2_with (first | ((with_reducible refine zaV (N := 2) rfl ?_); refine zaO ?hg (N := 2) ?hd (cs := #[.int .i64 a0_0, .slice A0_1 l0_1.length c0_1]) (t := 24) ?hr ?_; (case hd => rfl); (case hg => rfl); (case hr => first | (go_simp; done) | (go_simp; rfl)); intro gb288 hg w12 hbox hb; have BK288 := ax (hbox); have GW288 := ax ((by rw [hg]; exact (zah (xb HB.out)) : w.heap.size ≤ gb288)); have GE288 := ax ((by rw [hg]; exact (zah (xb HB.out)) : w.heap.size ≤ gb288)); replace HB := yB HB hb; clear hb hbox hg) | ((with_reducible refine zaV (N := 3) rfl ?_); refine zaO ?hg (N := 3) ?hd (cs := #[.int .i64 a1_0, .slice A1_1 l1_1.length c1_1]) (t := 24) ?hr ?_; (case hd => rfl); (case hg => rfl); (case hr => first | (go_simp; done) | (go_simp; rfl)); intro gb289 hg w13 hbox hb; have BK289 := ax (hbox); have GW289 := ax ((by rw [hg]; exact (zah (xs HB.out GE288.out)) : w.heap.size ≤ gb289)); have GE289 := ax ((by rw [hg]; exact (zah (xs HB.out GE288.out)) : w.heap.size ≤ gb289)); replace HB := ax (zar (xs HB.out GE288.out) hb); have NB288_289 := ax (bn hg BK288.out); have NB289_288 := ax (bm hg BK288.out); replace BK288 := ax (bb BK288.out hb); clear hb hbox hg; have hnb14 := NB288_289.out; have hnc14 := NB289_288.out; have hcz15_0 := bc0 BK288.out; have hcz15_1 := bc1 BK288.out; have hfz15_0 := zae BK288.out 0; have hfz15_1 := zae BK288.out 1) | ((with_reducible refine zas (f := 7) rfl ?_); refine za3 (some 19) rfl rfl Try.func7 (by kernel_rfl) rfl #[.agg #[.int .i64 a0_0, .slice A0_1 l0_1.length c0_1], .int .i64 1048576] rfl xm ?_; (with_reducible refine (zbv.calls k a0_0 _ _ l0_1 1048576 t290 _ ?side1 ?side2 A3.out).mono ?_); (case side1 => exact xz HR0_1.out HB.out); (case side2 => exact HC0_1.out); rintro e w16 ⟨rfl, hb⟩; refine ⟨_, rfl, ?_⟩; replace BK288 := ax (bb BK288.out hb); replace BK289 := ax (bb BK289.out hb); replace HB := ax (zar (bh HB.out) hb); (try clear hb); have hcz17_0 := bc0 BK289.out; have hcz17_1 := bc1 BK289.out; have hfz17_0 := zae BK289.out 0; have hfz17_1 := zae BK289.out 1) | ((with_reducible refine zas (f := 7) rfl ?_); refine za3 (some 24) rfl rfl Try.func7 (by kernel_rfl) rfl #[.agg #[.int .i64 a1_0, .slice A1_1 l1_1.length c1_1], .int .i64 t290] rfl xm ?_; (with_reducible refine (zbv.calls k a1_0 _ _ l1_1 t290 t291 _ ?side1 ?side2 A10.out).mono ?_); (case side1 => exact xz HR1_1.out HB.out); (case side2 => exact HC1_1.out); rintro e w18 ⟨rfl, hb⟩; refine ⟨_, rfl, ?_⟩; replace BK288 := ax (bb BK288.out hb); replace BK289 := ax (bb BK289.out hb); replace HB := ax (zar (bh HB.out) hb); (try clear hb)))
   go_ret
   exact ⟨xe, bh HB.out⟩
  ·rw [if_neg c11] at H
   have c11b0 := decide_eq_false c11
   clear c11
   obtain ⟨⟨t292, t293⟩, A19, H⟩ := xI H
   dsimp only at H
   obtain ⟨⟨t296, t297⟩, A20, H⟩ := xI H
   dsimp only at H
   obtain ⟨⟨t300, t301, t304⟩, A21, H⟩ := xI H
   dsimp only at H
   obtain ⟨⟨t306, t307⟩, A22, H⟩ := xI H
   dsimp only at H
   obtain ⟨⟨t311, t312⟩, A23, H⟩ := xI H
   dsimp only at H
   obtain ⟨⟨t316, t317, t320⟩, A24, H⟩ := xI H
   dsimp only at H
   have HC25 := ax H
   clear H
   go_enter Try.func5, Try.ntmps5
   try go_wp2_with (first | ((with_reducible refine zaV (N := 2) rfl ?_); refine zaO ?hg (N := 2) ?hd (cs := #[.int .i64 a0_0, .slice A0_1 l0_1.length c0_1]) (t := 24) ?hr ?_; (case hd => rfl); (case hg => rfl); (case hr => first | (go_simp; done) | (go_simp; rfl)); intro gb288 hg w26 hbox hb; have BK288 := ax (hbox); have GW288 := ax ((by rw [hg]; exact (zah (xb HB.out)) : w.heap.size ≤ gb288)); have GE288 := ax ((by rw [hg]; exact (zah (xb HB.out)) : w.heap.size ≤ gb288)); replace HB := yB HB hb; clear hb hbox hg) | ((with_reducible refine zaV (N := 3) rfl ?_); refine zaO ?hg (N := 3) ?hd (cs := #[.int .i64 a1_0, .slice A1_1 l1_1.length c1_1]) (t := 24) ?hr ?_; (case hd => rfl); (case hg => rfl); (case hr => first | (go_simp; done) | (go_simp; rfl)); intro gb289 hg w27 hbox hb; have BK289 := ax (hbox); have GW289 := ax ((by rw [hg]; exact (zah (xs HB.out GE288.out)) : w.heap.size ≤ gb289)); have GE289 := ax ((by rw [hg]; exact (zah (xs HB.out GE288.out)) : w.heap.size ≤ gb289)); replace HB := ax (zar (xs HB.out GE288.out) hb); have NB288_289 := ax (bn hg BK288.out); have NB289_288 := ax (bm hg BK288.out); replace BK288 := ax (bb BK288.out hb); clear hb hbox hg; have hnb28 := NB288_289.out; have hnc28 := NB289_288.out; have hcz29_0 := bc0 BK288.out; have hcz29_1 := bc1 BK288.out; have hfz29_0 := zae BK288.out 0; have hfz29_1 := zae BK288.out 1) | ((with_reducible refine zas (f := 7) rfl ?_); refine za3 (some 19) rfl rfl Try.func7 (by kernel_rfl) rfl #[.agg #[.int .i64 a0_0, .slice A0_1 l0_1.length c0_1], .int .i64 1048576] rfl xm ?_; (with_reducible refine (zbv.calls k a0_0 _ _ l0_1 1048576 t290 _ ?side1 ?side2 A3.out).mono ?_); (case side1 => exact xz HR0_1.out HB.out); (case side2 => exact HC0_1.out); rintro e w30 ⟨rfl, hb⟩; refine ⟨_, rfl, ?_⟩; replace BK288 := ax (bb BK288.out hb); replace BK289 := ax (bb BK289.out hb); replace HB := ax (zar (bh HB.out) hb); (try clear hb); have hcz31_0 := bc0 BK289.out; have hcz31_1 := bc1 BK289.out; have hfz31_0 := zae BK289.out 0; have hfz31_1 := zae BK289.out 1) | ((with_reducible refine zas (f := 7) rfl ?_); refine za3 (some 24) rfl rfl Try.func7 (by kernel_rfl) rfl #[.agg #[.int .i64 a1_0, .slice A1_1 l1_1.length c1_1], .int .i64 t290] rfl xm ?_; (with_reducible refine (zbv.calls k a1_0 _ _ l1_1 t290 t291 _ ?side1 ?side2 A10.out).mono ?_); (case side1 => exact xz HR1_1.out HB.out); (case side2 => exact HC1_1.out); rintro e w32 ⟨rfl, hb⟩; refine ⟨_, rfl, ?_⟩; replace BK288 := ax (bb BK288.out hb); replace BK289 := ax (bb BK289.out hb); replace HB := ax (zar (bh HB.out) hb); (try clear hb)))
   replace BK288 := ax (zaf BK288.out); replace BK289 := ax (zaf BK289.out); replace HB := ax (zaN HB.out)
   refine zbJ (n := 11) (S := fun w' => w'.cell? ⟨gb288, 0, none⟩ = some (.int .i64 a0_0) ∧ w'.cell? ⟨gb288, 1, none⟩ = some (.slice A0_1 l0_1.length c0_1) ∧ w'.cell? ⟨gb289, 0, none⟩ = some (.int .i64 a1_0) ∧ w'.cell? ⟨gb289, 1, none⟩ = some (.slice A1_1 l1_1.length c1_1)) (ds := []) (xB 11 0) (by kernel_rfl) rfl (by kernel_rfl) ⟨(zag BK288.out 0).trans rfl, (zag BK288.out 1).trans rfl, (zag BK289.out 0).trans rfl, (zag BK289.out 1).trans rfl⟩ (fun hHeld => ?_); refine zbg zak.tab8 zak.zfU (fun HT_ HW_ => ?_)
   generalize w32.drew = w33 at BK288 BK289 HB hHeld ⊢
   refine tk (i := 0) (N := some 28) (xB 11 1) HT_.out HW_.out hHeld ?_
   refine tk (i := 2) (N := some 30) (xB 11 5) HT_.out HW_.out hHeld ?_
   refine zjM (σ := Value × Value × Value × Nat) 2 (xB 11 511) (fun s_ => [(29, .agg #[.int .i64 t292, s_.1]), (31, .agg #[.int .i64 t296, s_.2.1]), (32, .tuple #[.agg #[.int .i64 t300, s_.2.2.1], .bool t304]), (6, .pointer (some ⟨s_.2.2.2, 0, none⟩)), (27, .tuple #[.agg #[.int .i64 t300, s_.2.2.1], .bool t304]), (33, .agg #[.int .i64 t300, s_.2.2.1]), (34, .bool t304)]) (fun s_ w' => (w'.cell? ⟨gb288, 0, none⟩ = some (.int .i64 a0_0) ∧ w'.cell? ⟨gb288, 1, none⟩ = some (.slice A0_1 l0_1.length c0_1) ∧ w'.cell? ⟨gb289, 0, none⟩ = some (.int .i64 a1_0) ∧ w'.cell? ⟨gb289, 1, none⟩ = some (.slice A1_1 l1_1.length c1_1)) ∧ (∃ N365_ : Nat, (Kd.S k48 48 w' w.heap.size (fun k_ => some k_ ≠ (s_.2.1 : Value).ownBlock ∧ k_ ≠ dmO N365_ k_) s_.1 t293) ∧ (Kd.S k48 48 w' w.heap.size (fun k_ => some k_ ≠ (s_.1 : Value).ownBlock ∧ k_ ≠ dmI N365_ k_) s_.2.1 t297)) ∧ (Kd.V k48 48 w' w.heap.size (fun k_ => some k_ ≠ (s_.1 : Value).ownBlock ∧ some k_ ≠ (s_.2.1 : Value).ownBlock ∧ k_ ≠ gb288 ∧ k_ ≠ gb289 ∧ k_ ≠ s_.2.2.2) s_.2.2.1 t301) ∧ (w'.heap[gb288]? = some (.cells #[.int .i64 a0_0, .slice A0_1 l0_1.length c0_1] 24 (0, 0))) ∧ (w'.heap[gb289]? = some (.cells #[.int .i64 a1_0, .slice A1_1 l1_1.length c1_1] 24 (0, 0))) ∧ (w'.heap[s_.2.2.2]? = some (.cells #[.int .i64 0, .slice none 0 0] 28 (0, 0))) ∧ (w.heap.size ≤ s_.2.2.2) ∧ (w.heap.size ≤ s_.2.2.2) ∧ (gb288 ≠ s_.2.2.2) ∧ (s_.2.2.2 ≠ gb288) ∧ (gb289 ≠ s_.2.2.2) ∧ (s_.2.2.2 ≠ gb289) ∧ (Below w.heap.size w w')) ?_ ?_
   rotate_left
   ·intro hCont
    refine two_ (i := 1) (j := 8) (Ni := some 29) (Nj := some 6) (xB 11 7) (xB 11 261) rfl rfl rfl rfl (zeO HT_.out (by kernel_rfl)) (by decide) (by decide) (fun K hK => ?_) (fun K hK => ?_)
    ·skip
     refine zbQ Try.func9 (by kernel_rfl) rfl #[.agg #[.int .i64 a0_0, .slice A0_1 l0_1.length c0_1]] (by rfl) rfl rfl xm ?_
     with_reducible refine (zaY.calls k a0_0 _ _ l0_1 t292 t293 _ ?side1 ?side2 A19.out).mono ?_
     (case side1 => exact xz HR0_1.out HB.out)
     (case side2 => exact HC0_1.out)
     rintro e w34 ⟨v294, rfl, ho0, hb⟩
     refine ⟨_, rfl, ?_⟩
     have HO295 := ax (Kd.zbV ho0 (zah (bh HB.out))); replace BK288 := ax (bb BK288.out hb); replace BK289 := ax (bb BK289.out hb); replace HB := ax (zar (bh HB.out) hb)
     (try clear hb)
     (try clear hk)
     (try clear ho0)
     refine hK.out _ _ ⟨(zag BK288.out 0).trans rfl, (zag BK288.out 1).trans rfl, (zag BK289.out 0).trans rfl, (zag BK289.out 1).trans rfl⟩ (fun hHeld => ?_)
     clear hK K
     refine nm ?_
     refine two_ (i := 3) (j := 8) (Ni := some 31) (Nj := some 6) (xB 11 15) (xB 11 263) rfl rfl rfl rfl (zeO HT_.out (by kernel_rfl)) (by decide) (by decide) (fun K hK => ?_) (fun K hK => ?_)
     ·skip
      refine zbQ Try.func9 (by kernel_rfl) rfl #[.agg #[.int .i64 a1_0, .slice A1_1 l1_1.length c1_1]] (by rfl) rfl rfl xm ?_
      with_reducible refine (zaY.calls k a1_0 _ _ l1_1 t296 t297 _ ?side1 ?side2 A20.out).mono ?_
      (case side1 => exact xz HR1_1.out HB.out)
      (case side2 => exact HC1_1.out)
      rintro e w35 ⟨v298, rfl, ho0, hb⟩
      refine ⟨_, rfl, ?_⟩
      replace ho0 := Kd.zc7 ho0
      obtain ⟨N357_, ho0, hN357_⟩ := ho0
      have HO299 := ax (Kd.zbV (Kd.zbl ho0 (Kd.S_lt (xS HO295.out))) (zah (bh HB.out))); replace HO295 := ax (Kd.zaW (xS HO295.out) hN357_ (Kd.za6 ho0) hb); replace BK288 := ax (bb BK288.out hb); replace BK289 := ax (bb BK289.out hb); replace HB := ax (zar (bh HB.out) hb)
      (try clear hb)
      (try clear hk)
      (try clear ho0)
      (try clear hN357_)
      obtain ⟨Ao36, co36, eo36⟩ := Kd.zbC HO295.out
      (first | subst eo36 | (injection eo36 with f1_ f2_ f3_; have f4_ := f1_.symm; have f5_ := f3_.symm; clear f1_ f2_ f3_; subst f4_; subst f5_))
      obtain ⟨Ao37, co37, eo37⟩ := Kd.zbC HO299.out
      (first | subst eo37 | (injection eo37 with f1_ f2_ f3_; have f4_ := f1_.symm; have f5_ := f3_.symm; clear f1_ f2_ f3_; subst f4_; subst f5_))
      refine hK.out _ _ ⟨(zag BK288.out 0).trans rfl, (zag BK288.out 1).trans rfl, (zag BK289.out 0).trans rfl, (zag BK289.out 1).trans rfl⟩ (fun hHeld => ?_)
      clear hK K
      refine nm ?_
      refine two_ (i := 4) (j := 8) (Ni := some 32) (Nj := some 6) (xB 11 31) (xB 11 271) rfl rfl rfl rfl (zeO HT_.out (by kernel_rfl)) (by decide) (by decide) (fun K hK => ?_) (fun K hK => ?_)
      ·skip
       refine zbQ Try.func19 (by kernel_rfl) rfl #[.agg #[.int .i64 t292, .slice Ao36 t293.length co36], .agg #[.int .i64 t296, .slice Ao37 t297.length co37]] (by rfl) rfl rfl xm ?_
       with_reducible refine (zaq.calls k t292 _ _ t293 t296 _ _ t297 t300 t301 t304 _ ?side1 ?side2 ?side3 ?side4 A21.out).mono ?_
       (case side1 => exact xc (Kd.zaG HO295.out).2.2)
       (case side2 => exact (Kd.zaG HO295.out).2.1)
       (case side3 => exact xc (Kd.zaG HO299.out).2.2)
       (case side4 => exact (Kd.zaG HO299.out).2.1)
       rintro e w38 ⟨v302, rfl, ho0, hb⟩
       refine ⟨_, rfl, ?_⟩
       have HO303 := ax (Kd.zeB (Kd.zaP (ok' := fun k_ => some k_ ≠ (.slice Ao36 t293.length co36 : Value).ownBlock ∧ some k_ ≠ (.slice Ao37 t297.length co37 : Value).ownBlock ∧ k_ ≠ gb288 ∧ k_ ≠ gb289) ho0 (fun k_ hk_ => ⟨(Kd.fresh' (Kd.S_lt (xS HO295.out)) k_ hk_), (Kd.fresh' (Kd.S_lt (xS HO299.out)) k_ hk_), (Kd.zbN (g := gb288) (o := .cells #[.int .i64 a0_0, .slice A0_1 l0_1.length c0_1] 24 (0, 0)) (xk BK288.out) k_ hk_), (Kd.zbN (g := gb289) (o := .cells #[.int .i64 a1_0, .slice A1_1 l1_1.length c1_1] 24 (0, 0)) (xk BK289.out) k_ hk_)⟩)) (zah (bh HB.out))); replace HO295 := ax (Kd.zaF (xS HO295.out) hb); replace HO299 := ax (Kd.zaF (xS HO299.out) hb); replace BK288 := ax (bb BK288.out hb); replace BK289 := ax (bb BK289.out hb); replace HB := ax (zar (bh HB.out) hb)
       (try clear hb)
       (try clear hk)
       (try clear ho0)
       refine hK.out _ _ ⟨(zag BK288.out 0).trans rfl, (zag BK288.out 1).trans rfl, (zag BK289.out 0).trans rfl, (zag BK289.out 1).trans rfl⟩ (fun hHeld => ?_)
       clear hK K
       refine nm ?_
       refine pu (i := 5) (N := some 27) (xB 11 63) HT_.out ?_
       refine pu (i := 6) (N := some 33) (xB 11 127) HT_.out ?_
       refine pu (i := 7) (N := some 34) (xB 11 255) HT_.out ?_
       refine one_ (i := 8) (N := some 6) (xB 11 511) rfl rfl (zbj HT_.out (by kernel_rfl)) (by decide) (fun K hK => ?_)
       refine zc0 ?hg (N := 6) ?hd (cs := #[.int .i64 0, .slice none 0 0]) (t := 28) ?hr ?_; (case hd => rfl); (case hg => rfl); (case hr => first | (go_simp; done) | (go_simp; rfl))
       intro gb305 hg w39 hbox hb
       replace HO295 := ax (Kd.zaF (xS HO295.out) hb); replace HO299 := ax (Kd.zaF (xS HO299.out) hb); replace HO303 := ax (Kd.zbG (Kd.zbH (xV HO303.out) gb305 (Nat.le_of_eq hg.symm)) hb); have BK305 := ax (hbox); have GW305 := ax ((by rw [hg]; exact (zah (bh HB.out)) : w.heap.size ≤ gb305)); have GE305 := ax ((by rw [hg]; exact (zah (bh HB.out)) : w.heap.size ≤ gb305)); replace HB := ax (zar (bh HB.out) hb); have NB288_305 := ax (bn hg BK288.out); have NB305_288 := ax (bm hg BK288.out); replace BK288 := ax (bb BK288.out hb); have NB289_305 := ax (bn hg BK289.out); have NB305_289 := ax (bm hg BK289.out); replace BK289 := ax (bb BK289.out hb); clear hb hbox hg
       refine hK.out _ _ ⟨(zag BK288.out 0).trans rfl, (zag BK288.out 1).trans rfl, (zag BK289.out 0).trans rfl, (zag BK289.out 1).trans rfl⟩ (fun hHeld => ?_)
       clear hK K
       refine nm ?_
       exact zet (by simp only [zc4, Act.put, List.setIfInBounds_toArray, List.set_cons_zero, List.set_cons_succ]) (hCont (.slice Ao36 t293.length co36, .slice Ao37 t297.length co37, v302, gb305) _ ⟨hHeld, ⟨N357_, (by (with_reducible repeat (first | apply Kd.zaH | apply Kd.zaD | apply Kd.zaK)); exact Kd.zaZ HO295.out (fun _ hk => ⟨hk.1.2, hk.2⟩)), (by (with_reducible repeat (first | apply Kd.zaH | apply Kd.zaD | apply Kd.zaK)); exact Kd.zaZ HO299.out (fun _ hk => ⟨hk.2, hk.1⟩))⟩, (by (with_reducible repeat (first | apply Kd.zbr | apply Kd.zbq | apply Kd.zbm)); exact Kd.zaP HO303.out (fun _ hk => ⟨hk.1.1, ⟨hk.1.2.1, ⟨hk.1.2.2.1, ⟨hk.1.2.2.2, hk.2⟩⟩⟩⟩)), (xk BK288.out), (xk BK289.out), (xk BK305.out), GW305.out, GE305.out, NB288_305.out, NB305_288.out, NB289_305.out, NB305_289.out, (bh HB.out)⟩)
      ·skip
       refine zc0 ?hg (N := 6) ?hd (cs := #[.int .i64 0, .slice none 0 0]) (t := 28) ?hr ?_; (case hd => rfl); (case hg => rfl); (case hr => first | (go_simp; done) | (go_simp; rfl))
       intro gb305 hg w36 hbox hb
       replace HO295 := ax (Kd.zaF (xS HO295.out) hb); replace HO299 := ax (Kd.zaF (xS HO299.out) hb); have BK305 := ax (hbox); have GW305 := ax ((by rw [hg]; exact (zah (bh HB.out)) : w.heap.size ≤ gb305)); have GE305 := ax ((by rw [hg]; exact (zah (bh HB.out)) : w.heap.size ≤ gb305)); replace HB := ax (zar (bh HB.out) hb); have NB288_305 := ax (bn hg BK288.out); have NB305_288 := ax (bm hg BK288.out); replace BK288 := ax (bb BK288.out hb); have NB289_305 := ax (bn hg BK289.out); have NB305_289 := ax (bm hg BK289.out); replace BK289 := ax (bb BK289.out hb); clear hb hbox hg
       obtain ⟨Ao37, co37, eo37⟩ := Kd.zbC HO295.out
       (first | subst eo37 | (injection eo37 with f1_ f2_ f3_; have f4_ := f1_.symm; have f5_ := f3_.symm; clear f1_ f2_ f3_; subst f4_; subst f5_))
       obtain ⟨Ao38, co38, eo38⟩ := Kd.zbC HO299.out
       (first | subst eo38 | (injection eo38 with f1_ f2_ f3_; have f4_ := f1_.symm; have f5_ := f3_.symm; clear f1_ f2_ f3_; subst f4_; subst f5_))
       refine hK.out _ _ ⟨(zag BK288.out 0).trans rfl, (zag BK288.out 1).trans rfl, (zag BK289.out 0).trans rfl, (zag BK289.out 1).trans rfl⟩ (fun hHeld => ?_)
       clear hK K
       refine nm ?_
       refine one_ (i := 4) (N := some 32) (xB 11 287) rfl rfl (zbj HT_.out (by kernel_rfl)) (by decide) (fun K hK => ?_)
       refine zbQ Try.func19 (by kernel_rfl) rfl #[.agg #[.int .i64 t292, .slice Ao37 t293.length co37], .agg #[.int .i64 t296, .slice Ao38 t297.length co38]] (by rfl) rfl rfl xm ?_
       with_reducible refine (zaq.calls k t292 _ _ t293 t296 _ _ t297 t300 t301 t304 _ ?side1 ?side2 ?side3 ?side4 A21.out).mono ?_
       (case side1 => exact xc (Kd.zaG HO295.out).2.2)
       (case side2 => exact (Kd.zaG HO295.out).2.1)
       (case side3 => exact xc (Kd.zaG HO299.out).2.2)
       (case side4 => exact (Kd.zaG HO299.out).2.1)
       rintro e w39 ⟨v302, rfl, ho0, hb⟩
       refine ⟨_, rfl, ?_⟩
       have HO303 := ax (Kd.zeB (Kd.zaP (ok' := fun k_ => some k_ ≠ (.slice Ao37 t293.length co37 : Value).ownBlock ∧ some k_ ≠ (.slice Ao38 t297.length co38 : Value).ownBlock ∧ k_ ≠ gb288 ∧ k_ ≠ gb289 ∧ k_ ≠ gb305) ho0 (fun k_ hk_ => ⟨(Kd.fresh' (Kd.S_lt (xS HO295.out)) k_ hk_), (Kd.fresh' (Kd.S_lt (xS HO299.out)) k_ hk_), (Kd.zbN (g := gb288) (o := .cells #[.int .i64 a0_0, .slice A0_1 l0_1.length c0_1] 24 (0, 0)) (xk BK288.out) k_ hk_), (Kd.zbN (g := gb289) (o := .cells #[.int .i64 a1_0, .slice A1_1 l1_1.length c1_1] 24 (0, 0)) (xk BK289.out) k_ hk_), (Kd.zbN (g := gb305) (o := .cells #[.int .i64 0, .slice none 0 0] 28 (0, 0)) (xk BK305.out) k_ hk_)⟩)) (zah (bh HB.out))); replace HO295 := ax (Kd.zaF (xS HO295.out) hb); replace HO299 := ax (Kd.zaF (xS HO299.out) hb); replace BK288 := ax (bb BK288.out hb); replace BK289 := ax (bb BK289.out hb); replace BK305 := ax (bb BK305.out hb); replace HB := ax (zar (bh HB.out) hb)
       (try clear hb)
       (try clear hk)
       (try clear ho0)
       refine hK.out _ _ ⟨(zag BK288.out 0).trans rfl, (zag BK288.out 1).trans rfl, (zag BK289.out 0).trans rfl, (zag BK289.out 1).trans rfl⟩ (fun hHeld => ?_)
       clear hK K
       refine nm ?_
       refine pu (i := 5) (N := some 27) (xB 11 319) HT_.out ?_
       refine pu (i := 6) (N := some 33) (xB 11 383) HT_.out ?_
       refine pu (i := 7) (N := some 34) (xB 11 511) HT_.out ?_
       exact zet (by simp only [zc4, Act.put, List.setIfInBounds_toArray, List.set_cons_zero, List.set_cons_succ]) (hCont (.slice Ao37 t293.length co37, .slice Ao38 t297.length co38, v302, gb305) _ ⟨hHeld, ⟨N357_, (by (with_reducible repeat (first | apply Kd.zaH | apply Kd.zaD | apply Kd.zaK)); exact Kd.zaZ HO295.out (fun _ hk => ⟨hk.1.2, hk.2⟩)), (by (with_reducible repeat (first | apply Kd.zaH | apply Kd.zaD | apply Kd.zaK)); exact Kd.zaZ HO299.out (fun _ hk => ⟨hk.2, hk.1⟩))⟩, (xV HO303.out), (xk BK288.out), (xk BK289.out), (xk BK305.out), GW305.out, GE305.out, NB288_305.out, NB305_288.out, NB289_305.out, NB305_289.out, (bh HB.out)⟩)
     ·skip
      refine zc0 ?hg (N := 6) ?hd (cs := #[.int .i64 0, .slice none 0 0]) (t := 28) ?hr ?_; (case hd => rfl); (case hg => rfl); (case hr => first | (go_simp; done) | (go_simp; rfl))
      intro gb305 hg w35 hbox hb
      replace HO295 := ax (Kd.zaF (xS HO295.out) hb); have BK305 := ax (hbox); have GW305 := ax ((by rw [hg]; exact (zah (bh HB.out)) : w.heap.size ≤ gb305)); have GE305 := ax ((by rw [hg]; exact (zah (bh HB.out)) : w.heap.size ≤ gb305)); replace HB := ax (zar (bh HB.out) hb); have NB288_305 := ax (bn hg BK288.out); have NB305_288 := ax (bm hg BK288.out); replace BK288 := ax (bb BK288.out hb); have NB289_305 := ax (bn hg BK289.out); have NB305_289 := ax (bm hg BK289.out); replace BK289 := ax (bb BK289.out hb); clear hb hbox hg
      refine hK.out _ _ ⟨(zag BK288.out 0).trans rfl, (zag BK288.out 1).trans rfl, (zag BK289.out 0).trans rfl, (zag BK289.out 1).trans rfl⟩ (fun hHeld => ?_)
      clear hK K
      refine nm ?_
      refine one_ (i := 3) (N := some 31) (xB 11 271) rfl rfl (zbj HT_.out (by kernel_rfl)) (by decide) (fun K hK => ?_)
      refine zbQ Try.func9 (by kernel_rfl) rfl #[.agg #[.int .i64 a1_0, .slice A1_1 l1_1.length c1_1]] (by rfl) rfl rfl xm ?_
      with_reducible refine (zaY.calls k a1_0 _ _ l1_1 t296 t297 _ ?side1 ?side2 A20.out).mono ?_
      (case side1 => exact xz HR1_1.out HB.out)
      (case side2 => exact HC1_1.out)
      rintro e w36 ⟨v298, rfl, ho0, hb⟩
      refine ⟨_, rfl, ?_⟩
      replace ho0 := Kd.zc7 ho0
      obtain ⟨N361_, ho0, hN361_⟩ := ho0
      have HO299 := ax (Kd.zbV (Kd.zbl ho0 (Kd.S_lt (xS HO295.out))) (zah (bh HB.out))); replace HO295 := ax (Kd.zaW (xS HO295.out) hN361_ (Kd.za6 ho0) hb); replace BK288 := ax (bb BK288.out hb); replace BK289 := ax (bb BK289.out hb); replace BK305 := ax (bb BK305.out hb); replace HB := ax (zar (bh HB.out) hb)
      (try clear hb)
      (try clear hk)
      (try clear ho0)
      (try clear hN361_)
      obtain ⟨Ao37, co37, eo37⟩ := Kd.zbC HO295.out
      (first | subst eo37 | (injection eo37 with f1_ f2_ f3_; have f4_ := f1_.symm; have f5_ := f3_.symm; clear f1_ f2_ f3_; subst f4_; subst f5_))
      obtain ⟨Ao38, co38, eo38⟩ := Kd.zbC HO299.out
      (first | subst eo38 | (injection eo38 with f1_ f2_ f3_; have f4_ := f1_.symm; have f5_ := f3_.symm; clear f1_ f2_ f3_; subst f4_; subst f5_))
      refine hK.out _ _ ⟨(zag BK288.out 0).trans rfl, (zag BK288.out 1).trans rfl, (zag BK289.out 0).trans rfl, (zag BK289.out 1).trans rfl⟩ (fun hHeld => ?_)
      clear hK K
      refine nm ?_
      refine one_ (i := 4) (N := some 32) (xB 11 287) rfl rfl (zbj HT_.out (by kernel_rfl)) (by decide) (fun K hK => ?_)
      refine zbQ Try.func19 (by kernel_rfl) rfl #[.agg #[.int .i64 t292, .slice Ao37 t293.length co37], .agg #[.int .i64 t296, .slice Ao38 t297.length co38]] (by rfl) rfl rfl xm ?_
      with_reducible refine (zaq.calls k t292 _ _ t293 t296 _ _ t297 t300 t301 t304 _ ?side1 ?side2 ?side3 ?side4 A21.out).mono ?_
      (case side1 => exact xc (Kd.zaG HO295.out).2.2)
      (case side2 => exact (Kd.zaG HO295.out).2.1)
      (case side3 => exact xc (Kd.zaG HO299.out).2.2)
      (case side4 => exact (Kd.zaG HO299.out).2.1)
      rintro e w39 ⟨v302, rfl, ho0, hb⟩
      refine ⟨_, rfl, ?_⟩
      have HO303 := ax (Kd.zeB (Kd.zaP (ok' := fun k_ => some k_ ≠ (.slice Ao37 t293.length co37 : Value).ownBlock ∧ some k_ ≠ (.slice Ao38 t297.length co38 : Value).ownBlock ∧ k_ ≠ gb288 ∧ k_ ≠ gb289 ∧ k_ ≠ gb305) ho0 (fun k_ hk_ => ⟨(Kd.fresh' (Kd.S_lt (xS HO295.out)) k_ hk_), (Kd.fresh' (Kd.S_lt (xS HO299.out)) k_ hk_), (Kd.zbN (g := gb288) (o := .cells #[.int .i64 a0_0, .slice A0_1 l0_1.length c0_1] 24 (0, 0)) (xk BK288.out) k_ hk_), (Kd.zbN (g := gb289) (o := .cells #[.int .i64 a1_0, .slice A1_1 l1_1.length c1_1] 24 (0, 0)) (xk BK289.out) k_ hk_), (Kd.zbN (g := gb305) (o := .cells #[.int .i64 0, .slice none 0 0] 28 (0, 0)) (xk BK305.out) k_ hk_)⟩)) (zah (bh HB.out))); replace HO295 := ax (Kd.zaF (xS HO295.out) hb); replace HO299 := ax (Kd.zaF (xS HO299.out) hb); replace BK288 := ax (bb BK288.out hb); replace BK289 := ax (bb BK289.out hb); replace BK305 := ax (bb BK305.out hb); replace HB := ax (zar (bh HB.out) hb)
      (try clear hb)
      (try clear hk)
      (try clear ho0)
      refine hK.out _ _ ⟨(zag BK288.out 0).trans rfl, (zag BK288.out 1).trans rfl, (zag BK289.out 0).trans rfl, (zag BK289.out 1).trans rfl⟩ (fun hHeld => ?_)
      clear hK K
      refine nm ?_
      refine pu (i := 5) (N := some 27) (xB 11 319) HT_.out ?_
      refine pu (i := 6) (N := some 33) (xB 11 383) HT_.out ?_
      refine pu (i := 7) (N := some 34) (xB 11 511) HT_.out ?_
      exact zet (by simp only [zc4, Act.put, List.setIfInBounds_toArray, List.set_cons_zero, List.set_cons_succ]) (hCont (.slice Ao37 t293.length co37, .slice Ao38 t297.length co38, v302, gb305) _ ⟨hHeld, ⟨N361_, (by (with_reducible repeat (first | apply Kd.zaH | apply Kd.zaD | apply Kd.zaK)); exact Kd.zaZ HO295.out (fun _ hk => ⟨hk.1.2, hk.2⟩)), (by (with_reducible repeat (first | apply Kd.zaH | apply Kd.zaD | apply Kd.zaK)); exact Kd.zaZ HO299.out (fun _ hk => ⟨hk.2, hk.1⟩))⟩, (xV HO303.out), (xk BK288.out), (xk BK289.out), (xk BK305.out), GW305.out, GE305.out, NB288_305.out, NB305_288.out, NB289_305.out, NB305_289.out, (bh HB.out)⟩)
    ·skip
     refine zc0 ?hg (N := 6) ?hd (cs := #[.int .i64 0, .slice none 0 0]) (t := 28) ?hr ?_; (case hd => rfl); (case hg => rfl); (case hr => first | (go_simp; done) | (go_simp; rfl))
     intro gb305 hg w34 hbox hb
     have BK305 := ax (hbox); have GW305 := ax ((by rw [hg]; exact (zah (bh HB.out)) : w.heap.size ≤ gb305)); have GE305 := ax ((by rw [hg]; exact (zah (bh HB.out)) : w.heap.size ≤ gb305)); replace HB := ax (zar (bh HB.out) hb); have NB288_305 := ax (bn hg BK288.out); have NB305_288 := ax (bm hg BK288.out); replace BK288 := ax (bb BK288.out hb); have NB289_305 := ax (bn hg BK289.out); have NB305_289 := ax (bm hg BK289.out); replace BK289 := ax (bb BK289.out hb); clear hb hbox hg
     refine hK.out _ _ ⟨(zag BK288.out 0).trans rfl, (zag BK288.out 1).trans rfl, (zag BK289.out 0).trans rfl, (zag BK289.out 1).trans rfl⟩ (fun hHeld => ?_)
     clear hK K
     refine nm ?_
     refine one_ (i := 1) (N := some 29) (xB 11 263) rfl rfl (zbj HT_.out (by kernel_rfl)) (by decide) (fun K hK => ?_)
     refine zbQ Try.func9 (by kernel_rfl) rfl #[.agg #[.int .i64 a0_0, .slice A0_1 l0_1.length c0_1]] (by rfl) rfl rfl xm ?_
     with_reducible refine (zaY.calls k a0_0 _ _ l0_1 t292 t293 _ ?side1 ?side2 A19.out).mono ?_
     (case side1 => exact xz HR0_1.out HB.out)
     (case side2 => exact HC0_1.out)
     rintro e w35 ⟨v294, rfl, ho0, hb⟩
     refine ⟨_, rfl, ?_⟩
     have HO295 := ax (Kd.zbV ho0 (zah (bh HB.out))); replace BK288 := ax (bb BK288.out hb); replace BK289 := ax (bb BK289.out hb); replace BK305 := ax (bb BK305.out hb); replace HB := ax (zar (bh HB.out) hb)
     (try clear hb)
     (try clear hk)
     (try clear ho0)
     refine hK.out _ _ ⟨(zag BK288.out 0).trans rfl, (zag BK288.out 1).trans rfl, (zag BK289.out 0).trans rfl, (zag BK289.out 1).trans rfl⟩ (fun hHeld => ?_)
     clear hK K
     refine nm ?_
     refine one_ (i := 3) (N := some 31) (xB 11 271) rfl rfl (zbj HT_.out (by kernel_rfl)) (by decide) (fun K hK => ?_)
     refine zbQ Try.func9 (by kernel_rfl) rfl #[.agg #[.int .i64 a1_0, .slice A1_1 l1_1.length c1_1]] (by rfl) rfl rfl xm ?_
     with_reducible refine (zaY.calls k a1_0 _ _ l1_1 t296 t297 _ ?side1 ?side2 A20.out).mono ?_
     (case side1 => exact xz HR1_1.out HB.out)
     (case side2 => exact HC1_1.out)
     rintro e w36 ⟨v298, rfl, ho0, hb⟩
     refine ⟨_, rfl, ?_⟩
     replace ho0 := Kd.zc7 ho0
     obtain ⟨N363_, ho0, hN363_⟩ := ho0
     have HO299 := ax (Kd.zbV (Kd.zbl ho0 (Kd.S_lt (xS HO295.out))) (zah (bh HB.out))); replace HO295 := ax (Kd.zaW (xS HO295.out) hN363_ (Kd.za6 ho0) hb); replace BK288 := ax (bb BK288.out hb); replace BK289 := ax (bb BK289.out hb); replace BK305 := ax (bb BK305.out hb); replace HB := ax (zar (bh HB.out) hb)
     (try clear hb)
     (try clear hk)
     (try clear ho0)
     (try clear hN363_)
     obtain ⟨Ao37, co37, eo37⟩ := Kd.zbC HO295.out
     (first | subst eo37 | (injection eo37 with f1_ f2_ f3_; have f4_ := f1_.symm; have f5_ := f3_.symm; clear f1_ f2_ f3_; subst f4_; subst f5_))
     obtain ⟨Ao38, co38, eo38⟩ := Kd.zbC HO299.out
     (first | subst eo38 | (injection eo38 with f1_ f2_ f3_; have f4_ := f1_.symm; have f5_ := f3_.symm; clear f1_ f2_ f3_; subst f4_; subst f5_))
     refine hK.out _ _ ⟨(zag BK288.out 0).trans rfl, (zag BK288.out 1).trans rfl, (zag BK289.out 0).trans rfl, (zag BK289.out 1).trans rfl⟩ (fun hHeld => ?_)
     clear hK K
     refine nm ?_
     refine one_ (i := 4) (N := some 32) (xB 11 287) rfl rfl (zbj HT_.out (by kernel_rfl)) (by decide) (fun K hK => ?_)
     refine zbQ Try.func19 (by kernel_rfl) rfl #[.agg #[.int .i64 t292, .slice Ao37 t293.length co37], .agg #[.int .i64 t296, .slice Ao38 t297.length co38]] (by rfl) rfl rfl xm ?_
     with_reducible refine (zaq.calls k t292 _ _ t293 t296 _ _ t297 t300 t301 t304 _ ?side1 ?side2 ?side3 ?side4 A21.out).mono ?_
     (case side1 => exact xc (Kd.zaG HO295.out).2.2)
     (case side2 => exact (Kd.zaG HO295.out).2.1)
     (case side3 => exact xc (Kd.zaG HO299.out).2.2)
     (case side4 => exact (Kd.zaG HO299.out).2.1)
     rintro e w39 ⟨v302, rfl, ho0, hb⟩
     refine ⟨_, rfl, ?_⟩
     have HO303 := ax (Kd.zeB (Kd.zaP (ok' := fun k_ => some k_ ≠ (.slice Ao37 t293.length co37 : Value).ownBlock ∧ some k_ ≠ (.slice Ao38 t297.length co38 : Value).ownBlock ∧ k_ ≠ gb288 ∧ k_ ≠ gb289 ∧ k_ ≠ gb305) ho0 (fun k_ hk_ => ⟨(Kd.fresh' (Kd.S_lt (xS HO295.out)) k_ hk_), (Kd.fresh' (Kd.S_lt (xS HO299.out)) k_ hk_), (Kd.zbN (g := gb288) (o := .cells #[.int .i64 a0_0, .slice A0_1 l0_1.length c0_1] 24 (0, 0)) (xk BK288.out) k_ hk_), (Kd.zbN (g := gb289) (o := .cells #[.int .i64 a1_0, .slice A1_1 l1_1.length c1_1] 24 (0, 0)) (xk BK289.out) k_ hk_), (Kd.zbN (g := gb305) (o := .cells #[.int .i64 0, .slice none 0 0] 28 (0, 0)) (xk BK305.out) k_ hk_)⟩)) (zah (bh HB.out))); replace HO295 := ax (Kd.zaF (xS HO295.out) hb); replace HO299 := ax (Kd.zaF (xS HO299.out) hb); replace BK288 := ax (bb BK288.out hb); replace BK289 := ax (bb BK289.out hb); replace BK305 := ax (bb BK305.out hb); replace HB := ax (zar (bh HB.out) hb)
     (try clear hb)
     (try clear hk)
     (try clear ho0)
     refine hK.out _ _ ⟨(zag BK288.out 0).trans rfl, (zag BK288.out 1).trans rfl, (zag BK289.out 0).trans rfl, (zag BK289.out 1).trans rfl⟩ (fun hHeld => ?_)
     clear hK K
     refine nm ?_
     refine pu (i := 5) (N := some 27) (xB 11 319) HT_.out ?_
     refine pu (i := 6) (N := some 33) (xB 11 383) HT_.out ?_
     refine pu (i := 7) (N := some 34) (xB 11 511) HT_.out ?_
     exact zet (by simp only [zc4, Act.put, List.setIfInBounds_toArray, List.set_cons_zero, List.set_cons_succ]) (hCont (.slice Ao37 t293.length co37, .slice Ao38 t297.length co38, v302, gb305) _ ⟨hHeld, ⟨N363_, (by (with_reducible repeat (first | apply Kd.zaH | apply Kd.zaD | apply Kd.zaK)); exact Kd.zaZ HO295.out (fun _ hk => ⟨hk.1.2, hk.2⟩)), (by (with_reducible repeat (first | apply Kd.zaH | apply Kd.zaD | apply Kd.zaK)); exact Kd.zaZ HO299.out (fun _ hk => ⟨hk.2, hk.1⟩))⟩, (xV HO303.out), (xk BK288.out), (xk BK289.out), (xk BK305.out), GW305.out, GE305.out, NB288_305.out, NB305_288.out, NB289_305.out, NB305_289.out, (bh HB.out)⟩)
   rintro ⟨v294, v298, v302, gb305⟩ w40 ⟨hS_, ⟨N365_, h0_, h1_⟩, h2_, h3_, h4_, h5_, h6_, h7_, h8_, h9_, h10_, h11_, h12_⟩
   have n0_ : zap (Kd.S k48 48 w40 w.heap.size (fun k_ => some k_ ≠ (v298 : Value).ownBlock ∧ k_ ≠ dmO N365_ k_) v294 t293) := ⟨h0_⟩
   have n1_ : zap (Kd.S k48 48 w40 w.heap.size (fun k_ => some k_ ≠ (v294 : Value).ownBlock ∧ k_ ≠ dmI N365_ k_) v298 t297) := ⟨h1_⟩
   have n2_ : zap (Kd.V k48 48 w40 w.heap.size (fun k_ => some k_ ≠ (v294 : Value).ownBlock ∧ some k_ ≠ (v298 : Value).ownBlock ∧ k_ ≠ gb288 ∧ k_ ≠ gb289 ∧ k_ ≠ gb305) v302 t301) := ⟨h2_⟩
   have n3_ : zap (w40.heap[gb288]? = some (.cells #[.int .i64 a0_0, .slice A0_1 l0_1.length c0_1] 24 (0, 0))) := ⟨h3_⟩
   have n4_ : zap (w40.heap[gb289]? = some (.cells #[.int .i64 a1_0, .slice A1_1 l1_1.length c1_1] 24 (0, 0))) := ⟨h4_⟩
   have n5_ : zap (w40.heap[gb305]? = some (.cells #[.int .i64 0, .slice none 0 0] 28 (0, 0))) := ⟨h5_⟩
   have n6_ : zap (w.heap.size ≤ gb305) := ⟨h6_⟩
   have n7_ : zap (w.heap.size ≤ gb305) := ⟨h7_⟩
   have n8_ : zap (gb288 ≠ gb305) := ⟨h8_⟩
   have n9_ : zap (gb305 ≠ gb288) := ⟨h9_⟩
   have n10_ : zap (gb289 ≠ gb305) := ⟨h10_⟩
   have n11_ : zap (gb305 ≠ gb289) := ⟨h11_⟩
   have n12_ : zap (Below w.heap.size w w40) := ⟨h12_⟩
   clear BK288 BK289 HB h0_ h1_ h2_ h3_ h4_ h5_ h6_ h7_ h8_ h9_ h10_ h11_ h12_
   have HO295 := n0_
   have HO299 := n1_
   have HO303 := n2_
   have BK288 := n3_
   have BK289 := n4_
   have BK305 := n5_
   have GW305 := n6_
   have GE305 := n7_
   have NB288_305 := n8_
   have NB305_288 := n9_
   have NB289_305 := n10_
   have NB305_289 := n11_
   have HB := n12_
   clear n0_ n1_ n2_ n3_ n4_ n5_ n6_ n7_ n8_ n9_ n10_ n11_ n12_
   have hHeld : w40.cell? ⟨gb288, 0, none⟩ = some (.int .i64 a0_0) ∧ w40.cell? ⟨gb288, 1, none⟩ = some (.slice A0_1 l0_1.length c0_1) ∧ w40.cell? ⟨gb289, 0, none⟩ = some (.int .i64 a1_0) ∧ w40.cell? ⟨gb289, 1, none⟩ = some (.slice A1_1 l1_1.length c1_1) := hS_
   obtain ⟨Ao42, co42, eo42⟩ := Kd.zhO HO303.out
   (first | subst eo42 | (injection eo42 with f1_ f2_ f3_; have f4_ := f1_.symm; have f5_ := f3_.symm; clear f1_ f2_ f3_; subst f4_; subst f5_))
   refine zet (a' := ?_) ?_ ?_
   rotate_left
   ·simp only [zc4, Act.put, List.setIfInBounds_toArray, List.set_cons_zero, List.set_cons_succ]
    rfl
   refine one_ (i := 9) (N := none) (xB 11 1023) rfl rfl (zbj HT_.out (by kernel_rfl)) (by decide) (fun K hK => ?_)
   have hs41 : w40.cell? ⟨gb305, 0, none⟩ = some (.int .i64 0) := (zag BK305.out 0).trans rfl
   have hfs41 := zae BK305.out 0
   have hns41_0 := NB288_305.out
   have hns41_1 := NB289_305.out
   have hms41_0 := NB305_288.out
   have hms41_1 := NB305_289.out
   have hs43 : w40.cell? ⟨gb305, 1, none⟩ = some (.slice none 0 0) := (zag BK305.out 1).trans rfl
   have hfs43 := zae BK305.out 1
   have hns43_0 := NB288_305.out
   have hns43_1 := NB289_305.out
   have hms43_0 := NB305_288.out
   have hms43_1 := NB305_289.out
   refine zdF (w1 := ?_) (by rfl) rfl ?_ ?_
   rotate_left
   ·go_simp
    rfl
   refine hK.out _ _ ⟨((cell_far (p := ⟨gb305, _, none⟩) NB288_305.out _).trans (((cell_far (p := ⟨gb305, _, none⟩) NB288_305.out _).trans (hHeld.1)))), ((cell_far (p := ⟨gb305, _, none⟩) NB288_305.out _).trans (((cell_far (p := ⟨gb305, _, none⟩) NB288_305.out _).trans (hHeld.2.1)))), ((cell_far (p := ⟨gb305, _, none⟩) NB289_305.out _).trans (((cell_far (p := ⟨gb305, _, none⟩) NB289_305.out _).trans (hHeld.2.2.1)))), ((cell_far (p := ⟨gb305, _, none⟩) NB289_305.out _).trans (((cell_far (p := ⟨gb305, _, none⟩) NB289_305.out _).trans (hHeld.2.2.2))))⟩ (fun hHeld => ?_)
   clear hK K
   refine pu (i := 10) (N := some 7) (xB 11 2047) HT_.out ?_
   refine zb6 (zbB HT_.out (by kernel_rfl)) ?_
   have hnb44 := NB288_305.out
   have hnc44 := NB305_288.out
   have hcz45_0 := bc0 BK288.out
   have hcz45_1 := bc1 BK288.out
   have hfz45_0 := zae BK288.out 0
   have hfz45_1 := zae BK288.out 1
   go_upto_region 12 with (first | ((with_reducible refine zas (f := 9) rfl ?_); refine za3 (some 36) rfl rfl Try.func9 (by kernel_rfl) rfl #[.agg #[.int .i64 a0_0, .slice A0_1 l0_1.length c0_1]] rfl xm ?_; (with_reducible refine (zaY.calls k a0_0 _ _ l0_1 t306 t307 _ ?side1 ?side2 A22.out).mono ?_); (case side1 => exact Kd.zbE HR0_1.out (bh HB.out)); (case side2 => exact HC0_1.out); rintro e w46 ⟨v308, rfl, ho0, hb⟩; refine ⟨_, rfl, ?_⟩; replace ho0 := Kd.zc7 ho0; obtain ⟨N367_, ho0, hN367_⟩ := ho0; replace HO303 := ax (Kd.zb3 (by (with_reducible repeat (first | apply Kd.zbr | apply Kd.zbq | apply Kd.zbm)); exact (Kd.zaP (Kd.zb7 (p := ⟨gb305, 1, none⟩) (Kd.zb7 (p := ⟨gb305, 0, none⟩) (Kd.zaP HO303.out (fun k_ hk => (⟨hk, hk.2.2.2.2⟩ : _ ∧ k_ ≠ gb305))) (fun _ hk => hk.2) (.int .i64 t300)) (fun _ hk => hk.2) (.slice Ao42 t301.length co42)) (fun _ h_ => h_.1))) hN367_ (Kd.za6 ho0) hb); have HO309 := ax (Kd.zbV (Kd.zbl (Kd.zbl ho0 (Kd.S_lt (by (with_reducible repeat (first | apply Kd.zaH | apply Kd.zaD | apply Kd.zaK)); exact (f2S HO295.out BK305.out (.int .i64 t300) (.slice Ao42 t301.length co42))))) (Kd.S_lt (by (with_reducible repeat (first | apply Kd.zaH | apply Kd.zaD | apply Kd.zaK)); exact (f2S HO299.out BK305.out (.int .i64 t300) (.slice Ao42 t301.length co42))))) (zah (bh HB.out))); replace HO295 := ax (Kd.zaW (by (with_reducible repeat (first | apply Kd.zaH | apply Kd.zaD | apply Kd.zaK)); exact (f2S HO295.out BK305.out (.int .i64 t300) (.slice Ao42 t301.length co42))) hN367_ (Kd.za6 ho0) hb); replace HO299 := ax (Kd.zaW (by (with_reducible repeat (first | apply Kd.zaH | apply Kd.zaD | apply Kd.zaK)); exact (f2S HO299.out BK305.out (.int .i64 t300) (.slice Ao42 t301.length co42))) hN367_ (Kd.za6 ho0) hb); replace BK288 := ax (zba (g := gb288) (o := .cells #[.int .i64 a0_0, .slice A0_1 l0_1.length c0_1] 24 (0, 0)) (by (with_reducible repeat (first | refine zaj ?_ _ | refine zaf ?_ | refine zai ?_ _)); refine zaL ?_ NB288_305.out _; (with_reducible repeat (first | refine zaj ?_ _ | refine zaf ?_ | refine zai ?_ _)); refine zaL ?_ NB288_305.out _; (with_reducible repeat (first | refine zaj ?_ _ | refine zaf ?_ | refine zai ?_ _)); exact BK288.out) hb); replace BK289 := ax (zba (g := gb289) (o := .cells #[.int .i64 a1_0, .slice A1_1 l1_1.length c1_1] 24 (0, 0)) (by (with_reducible repeat (first | refine zaj ?_ _ | refine zaf ?_ | refine zai ?_ _)); refine zaL ?_ NB289_305.out _; (with_reducible repeat (first | refine zaj ?_ _ | refine zaf ?_ | refine zai ?_ _)); refine zaL ?_ NB289_305.out _; (with_reducible repeat (first | refine zaj ?_ _ | refine zaf ?_ | refine zai ?_ _)); exact BK289.out) hb); replace BK305 := ax (zba (g := gb305) (o := .cells #[.int .i64 t300, .slice Ao42 t301.length co42] 28 (0, 0)) (by (with_reducible repeat (first | refine zaj ?_ _ | refine zaf ?_ | refine zai ?_ _)); refine zbf (cs := #[.int .i64 t300, .slice none 0 0]) ?_ 1 _ rfl; (with_reducible repeat (first | refine zaj ?_ _ | refine zaf ?_ | refine zai ?_ _)); refine zbf (cs := #[.int .i64 0, .slice none 0 0]) ?_ 0 _ rfl; (with_reducible repeat (first | refine zaj ?_ _ | refine zaf ?_ | refine zai ?_ _)); exact BK305.out) hb); replace HB := ax (zar (bh HB.out) hb); (try clear hb); (try clear ho0); (try clear hN367_)) | ((with_reducible refine zaV (N := 8) rfl ?_); refine zaO ?hg (N := 8) ?hd (cs := #[.int .i64 0, .slice none 0 0]) (t := 28) ?hr ?_; (case hd => rfl); (case hg => rfl); (case hr => first | (go_simp; done) | (go_simp; rfl)); intro gb310 hg w47 hbox hb; replace HO295 := ax (Kd.zaF (xS HO295.out) hb); replace HO299 := ax (Kd.zaF (xS HO299.out) hb); replace HO303 := ax (Kd.zbG (Kd.zbH (xV HO303.out) gb310 (Nat.le_of_eq hg.symm)) hb); replace HO309 := ax (Kd.zaF (xS HO309.out) hb); have BK310 := ax (hbox); have GW310 := ax ((by rw [hg]; exact (zah (bh HB.out)) : w.heap.size ≤ gb310)); have GE310 := ax ((by rw [hg]; exact (zah (bh HB.out)) : w.heap.size ≤ gb310)); replace HB := ax (zar (bh HB.out) hb); have NB288_310 := ax (bn hg BK288.out); have NB310_288 := ax (bm hg BK288.out); replace BK288 := ax (bb BK288.out hb); have NB289_310 := ax (bn hg BK289.out); have NB310_289 := ax (bm hg BK289.out); replace BK289 := ax (bb BK289.out hb); have NB305_310 := ax (bn hg BK305.out); have NB310_305 := ax (bm hg BK305.out); replace BK305 := ax (bb BK305.out hb); clear hb hbox hg; have hnb48 := NB310_288.out; have hnc48 := NB288_310.out; have hnb49 := NB310_289.out; have hnc49 := NB289_310.out; have hnb50 := NB310_305.out; have hnc50 := NB305_310.out; have hcz51_0 := bc0 BK310.out; have hcz51_1 := bc1 BK310.out; have hfz51_0 := zae BK310.out 0; have hfz51_1 := zae BK310.out 1; obtain ⟨Ao52, co52, eo52⟩ := Kd.zbC HO309.out; subst eo52; have hnb53 := NB289_305.out; have hnc53 := NB305_289.out; have hcz54_0 := bc0 BK289.out; have hcz54_1 := bc1 BK289.out; have hfz54_0 := zae BK289.out 0; have hfz54_1 := zae BK289.out 1) | ((with_reducible refine zas (f := 9) rfl ?_); refine za3 (some 38) rfl rfl Try.func9 (by kernel_rfl) rfl #[.agg #[.int .i64 a1_0, .slice A1_1 l1_1.length c1_1]] rfl xm ?_; (with_reducible refine (zaY.calls k a1_0 _ _ l1_1 t311 t312 _ ?side1 ?side2 A23.out).mono ?_); (case side1 => exact Kd.zbE HR1_1.out (bh HB.out)); (case side2 => exact HC1_1.out); rintro e w55 ⟨v313, rfl, ho0, hb⟩; refine ⟨_, rfl, ?_⟩; replace ho0 := Kd.zc7 ho0; obtain ⟨N369_, ho0, hN369_⟩ := ho0; replace HO303 := ax (Kd.zb3 (by (with_reducible repeat (first | apply Kd.zbr | apply Kd.zbq | apply Kd.zbm)); exact (Kd.zaP (Kd.zb7 (p := ⟨gb310, 1, none⟩) (Kd.zb7 (p := ⟨gb310, 0, none⟩) (Kd.zaP HO303.out (fun k_ hk => (⟨hk, hk.2⟩ : _ ∧ k_ ≠ gb310))) (fun _ hk => hk.2) (.int .i64 t306)) (fun _ hk => hk.2) (.slice Ao52 t307.length co52)) (fun _ h_ => h_.1))) hN369_ (Kd.za6 ho0) hb); have HO314 := ax (Kd.zbV (Kd.zbl (Kd.zbl (Kd.zbl ho0 (Kd.S_lt (by (with_reducible repeat (first | apply Kd.zaH | apply Kd.zaD | apply Kd.zaK)); exact (f2S HO295.out BK310.out (.int .i64 t306) (.slice Ao52 t307.length co52))))) (Kd.S_lt (by (with_reducible repeat (first | apply Kd.zaH | apply Kd.zaD | apply Kd.zaK)); exact (f2S HO299.out BK310.out (.int .i64 t306) (.slice Ao52 t307.length co52))))) (Kd.S_lt (by (with_reducible repeat (first | apply Kd.zaH | apply Kd.zaD | apply Kd.zaK)); exact (f2S HO309.out BK310.out (.int .i64 t306) (.slice Ao52 t307.length co52))))) (zah (bh HB.out))); replace HO295 := ax (Kd.zaW (by (with_reducible repeat (first | apply Kd.zaH | apply Kd.zaD | apply Kd.zaK)); exact (f2S HO295.out BK310.out (.int .i64 t306) (.slice Ao52 t307.length co52))) hN369_ (Kd.za6 ho0) hb); replace HO299 := ax (Kd.zaW (by (with_reducible repeat (first | apply Kd.zaH | apply Kd.zaD | apply Kd.zaK)); exact (f2S HO299.out BK310.out (.int .i64 t306) (.slice Ao52 t307.length co52))) hN369_ (Kd.za6 ho0) hb); replace HO309 := ax (Kd.zaW (by (with_reducible repeat (first | apply Kd.zaH | apply Kd.zaD | apply Kd.zaK)); exact (f2S HO309.out BK310.out (.int .i64 t306) (.slice Ao52 t307.length co52))) hN369_ (Kd.za6 ho0) hb); replace BK288 := ax (zba (g := gb288) (o := .cells #[.int .i64 a0_0, .slice A0_1 l0_1.length c0_1] 24 (0, 0)) (by (with_reducible repeat (first | refine zaj ?_ _ | refine zaf ?_ | refine zai ?_ _)); refine zaL ?_ NB288_310.out _; (with_reducible repeat (first | refine zaj ?_ _ | refine zaf ?_ | refine zai ?_ _)); refine zaL ?_ NB288_310.out _; (with_reducible repeat (first | refine zaj ?_ _ | refine zaf ?_ | refine zai ?_ _)); exact BK288.out) hb); replace BK289 := ax (zba (g := gb289) (o := .cells #[.int .i64 a1_0, .slice A1_1 l1_1.length c1_1] 24 (0, 0)) (by (with_reducible repeat (first | refine zaj ?_ _ | refine zaf ?_ | refine zai ?_ _)); refine zaL ?_ NB289_310.out _; (with_reducible repeat (first | refine zaj ?_ _ | refine zaf ?_ | refine zai ?_ _)); refine zaL ?_ NB289_310.out _; (with_reducible repeat (first | refine zaj ?_ _ | refine zaf ?_ | refine zai ?_ _)); exact BK289.out) hb); replace BK305 := ax (zba (g := gb305) (o := .cells #[.int .i64 t300, .slice Ao42 t301.length co42] 28 (0, 0)) (by (with_reducible repeat (first | refine zaj ?_ _ | refine zaf ?_ | refine zai ?_ _)); refine zaL ?_ NB305_310.out _; (with_reducible repeat (first | refine zaj ?_ _ | refine zaf ?_ | refine zai ?_ _)); refine zaL ?_ NB305_310.out _; (with_reducible repeat (first | refine zaj ?_ _ | refine zaf ?_ | refine zai ?_ _)); exact BK305.out) hb); replace BK310 := ax (zba (g := gb310) (o := .cells #[.int .i64 t306, .slice Ao52 t307.length co52] 28 (0, 0)) (by (with_reducible repeat (first | refine zaj ?_ _ | refine zaf ?_ | refine zai ?_ _)); refine zbf (cs := #[.int .i64 t306, .slice none 0 0]) ?_ 1 _ rfl; (with_reducible repeat (first | refine zaj ?_ _ | refine zaf ?_ | refine zai ?_ _)); refine zbf (cs := #[.int .i64 0, .slice none 0 0]) ?_ 0 _ rfl; (with_reducible repeat (first | refine zaj ?_ _ | refine zaf ?_ | refine zai ?_ _)); exact BK310.out) hb); replace HB := ax (zar (bh HB.out) hb); (try clear hb); (try clear ho0); (try clear hN369_)) | ((with_reducible refine zaV (N := 9) rfl ?_); refine zaO ?hg (N := 9) ?hd (cs := #[.int .i64 0, .slice none 0 0]) (t := 28) ?hr ?_; (case hd => rfl); (case hg => rfl); (case hr => first | (go_simp; done) | (go_simp; rfl)); intro gb315 hg w56 hbox hb; replace HO295 := ax (Kd.zaF (xS HO295.out) hb); replace HO299 := ax (Kd.zaF (xS HO299.out) hb); replace HO303 := ax (Kd.zbG (Kd.zbH (xV HO303.out) gb315 (Nat.le_of_eq hg.symm)) hb); replace HO309 := ax (Kd.zaF (xS HO309.out) hb); replace HO314 := ax (Kd.zaF (xS HO314.out) hb); have BK315 := ax (hbox); have GW315 := ax ((by rw [hg]; exact (zah (bh HB.out)) : w.heap.size ≤ gb315)); have GE315 := ax ((by rw [hg]; exact (zah (bh HB.out)) : w.heap.size ≤ gb315)); replace HB := ax (zar (bh HB.out) hb); have NB288_315 := ax (bn hg BK288.out); have NB315_288 := ax (bm hg BK288.out); replace BK288 := ax (bb BK288.out hb); have NB289_315 := ax (bn hg BK289.out); have NB315_289 := ax (bm hg BK289.out); replace BK289 := ax (bb BK289.out hb); have NB305_315 := ax (bn hg BK305.out); have NB315_305 := ax (bm hg BK305.out); replace BK305 := ax (bb BK305.out hb); have NB310_315 := ax (bn hg BK310.out); have NB315_310 := ax (bm hg BK310.out); replace BK310 := ax (bb BK310.out hb); clear hb hbox hg; have hnb57 := NB315_288.out; have hnc57 := NB288_315.out; have hnb58 := NB315_289.out; have hnc58 := NB289_315.out; have hnb59 := NB315_305.out; have hnc59 := NB305_315.out; have hnb60 := NB315_310.out; have hnc60 := NB310_315.out; have hcz61_0 := bc0 BK315.out; have hcz61_1 := bc1 BK315.out; have hfz61_0 := zae BK315.out 0; have hfz61_1 := zae BK315.out 1; obtain ⟨Ao62, co62, eo62⟩ := Kd.zbC HO314.out; subst eo62; have hcz63_0 := bc0 BK310.out; have hcz63_1 := bc1 BK310.out; have hfz63_0 := zae BK310.out 0; have hfz63_1 := zae BK310.out 1) | ((with_reducible refine zas (f := 20) rfl ?_); refine za3 (some 42) rfl rfl Try.func20 (by kernel_rfl) rfl #[.agg #[.int .i64 t306, .slice Ao52 t307.length co52], .agg #[.int .i64 t311, .slice Ao62 t312.length co62]] rfl xm ?_; (with_reducible refine (zaC.calls k t306 _ _ t307 t311 _ _ t312 t316 t317 t320 _ ?side1 ?side2 ?side3 ?side4 A24.out).mono ?_); (case side1 => refine (Kd.zaG (e := 48) (base := w.heap.size) (ok := fun k_ => ((((k_ ≠ dmI N367_ k_ ∧ some k_ ≠ (v294 : Value).ownBlock) ∧ some k_ ≠ (v298 : Value).ownBlock) ∧ some k_ ≠ (.slice Ao62 t312.length co62 : Value).ownBlock) ∧ k_ ≠ dmO N369_ k_)) (n := t307.length) (c := co52) ?_).2.2; exact (by (with_reducible repeat (first | apply Kd.zaH | apply Kd.zaD | apply Kd.zaK)); exact (f2S HO309.out BK315.out (.int .i64 t311) (.slice Ao62 t312.length co62)))); (case side2 => exact (Kd.zaG HO309.out).2.1); (case side3 => refine (Kd.zaG (e := 48) (base := w.heap.size) (ok := fun k_ => (((k_ ≠ dmI N369_ k_ ∧ some k_ ≠ (v294 : Value).ownBlock) ∧ some k_ ≠ (v298 : Value).ownBlock) ∧ some k_ ≠ (.slice Ao52 t307.length co52 : Value).ownBlock)) (n := t312.length) (c := co62) ?_).2.2; exact (by (with_reducible repeat (first | apply Kd.zaH | apply Kd.zaD | apply Kd.zaK)); exact (f2S HO314.out BK315.out (.int .i64 t311) (.slice Ao62 t312.length co62)))); (case side4 => exact (Kd.zaG HO314.out).2.1); rintro e w64 ⟨v318, rfl, ho0, hb⟩; refine ⟨_, rfl, ?_⟩; replace ho0 := Kd.zc7 ho0; obtain ⟨N371_, ho0, hN371_⟩ := ho0; replace HO303 := ax (Kd.zb3 (by (with_reducible repeat (first | apply Kd.zbr | apply Kd.zbq | apply Kd.zbm)); exact (Kd.zaP (Kd.zb7 (p := ⟨gb315, 1, none⟩) (Kd.zb7 (p := ⟨gb315, 0, none⟩) (Kd.zaP HO303.out (fun k_ hk => (⟨hk, hk.2⟩ : _ ∧ k_ ≠ gb315))) (fun _ hk => hk.2) (.int .i64 t311)) (fun _ hk => hk.2) (.slice Ao62 t312.length co62)) (fun _ h_ => h_.1))) hN371_ (Kd.za6 ho0) hb); have HO319 := ax (Kd.zbV (Kd.zbl (Kd.zbl (Kd.zbl (Kd.zbl ho0 (Kd.S_lt (by (with_reducible repeat (first | apply Kd.zaH | apply Kd.zaD | apply Kd.zaK)); exact (f2S HO295.out BK315.out (.int .i64 t311) (.slice Ao62 t312.length co62))))) (Kd.S_lt (by (with_reducible repeat (first | apply Kd.zaH | apply Kd.zaD | apply Kd.zaK)); exact (f2S HO299.out BK315.out (.int .i64 t311) (.slice Ao62 t312.length co62))))) (Kd.S_lt (by (with_reducible repeat (first | apply Kd.zaH | apply Kd.zaD | apply Kd.zaK)); exact (f2S HO309.out BK315.out (.int .i64 t311) (.slice Ao62 t312.length co62))))) (Kd.S_lt (by (with_reducible repeat (first | apply Kd.zaH | apply Kd.zaD | apply Kd.zaK)); exact (f2S HO314.out BK315.out (.int .i64 t311) (.slice Ao62 t312.length co62))))) (zah (bh HB.out))); replace HO295 := ax (Kd.zaW (by (with_reducible repeat (first | apply Kd.zaH | apply Kd.zaD | apply Kd.zaK)); exact (f2S HO295.out BK315.out (.int .i64 t311) (.slice Ao62 t312.length co62))) hN371_ (Kd.za6 ho0) hb); replace HO299 := ax (Kd.zaW (by (with_reducible repeat (first | apply Kd.zaH | apply Kd.zaD | apply Kd.zaK)); exact (f2S HO299.out BK315.out (.int .i64 t311) (.slice Ao62 t312.length co62))) hN371_ (Kd.za6 ho0) hb); replace HO309 := ax (Kd.zaW (by (with_reducible repeat (first | apply Kd.zaH | apply Kd.zaD | apply Kd.zaK)); exact (f2S HO309.out BK315.out (.int .i64 t311) (.slice Ao62 t312.length co62))) hN371_ (Kd.za6 ho0) hb); replace HO314 := ax (Kd.zaW (by (with_reducible repeat (first | apply Kd.zaH | apply Kd.zaD | apply Kd.zaK)); exact (f2S HO314.out BK315.out (.int .i64 t311) (.slice Ao62 t312.length co62))) hN371_ (Kd.za6 ho0) hb); replace BK288 := ax (zba (g := gb288) (o := .cells #[.int .i64 a0_0, .slice A0_1 l0_1.length c0_1] 24 (0, 0)) (by (with_reducible repeat (first | refine zaj ?_ _ | refine zaf ?_ | refine zai ?_ _)); refine zaL ?_ NB288_315.out _; (with_reducible repeat (first | refine zaj ?_ _ | refine zaf ?_ | refine zai ?_ _)); refine zaL ?_ NB288_315.out _; (with_reducible repeat (first | refine zaj ?_ _ | refine zaf ?_ | refine zai ?_ _)); exact BK288.out) hb); replace BK289 := ax (zba (g := gb289) (o := .cells #[.int .i64 a1_0, .slice A1_1 l1_1.length c1_1] 24 (0, 0)) (by (with_reducible repeat (first | refine zaj ?_ _ | refine zaf ?_ | refine zai ?_ _)); refine zaL ?_ NB289_315.out _; (with_reducible repeat (first | refine zaj ?_ _ | refine zaf ?_ | refine zai ?_ _)); refine zaL ?_ NB289_315.out _; (with_reducible repeat (first | refine zaj ?_ _ | refine zaf ?_ | refine zai ?_ _)); exact BK289.out) hb); replace BK305 := ax (zba (g := gb305) (o := .cells #[.int .i64 t300, .slice Ao42 t301.length co42] 28 (0, 0)) (by (with_reducible repeat (first | refine zaj ?_ _ | refine zaf ?_ | refine zai ?_ _)); refine zaL ?_ NB305_315.out _; (with_reducible repeat (first | refine zaj ?_ _ | refine zaf ?_ | refine zai ?_ _)); refine zaL ?_ NB305_315.out _; (with_reducible repeat (first | refine zaj ?_ _ | refine zaf ?_ | refine zai ?_ _)); exact BK305.out) hb); replace BK310 := ax (zba (g := gb310) (o := .cells #[.int .i64 t306, .slice Ao52 t307.length co52] 28 (0, 0)) (by (with_reducible repeat (first | refine zaj ?_ _ | refine zaf ?_ | refine zai ?_ _)); refine zaL ?_ NB310_315.out _; (with_reducible repeat (first | refine zaj ?_ _ | refine zaf ?_ | refine zai ?_ _)); refine zaL ?_ NB310_315.out _; (with_reducible repeat (first | refine zaj ?_ _ | refine zaf ?_ | refine zai ?_ _)); exact BK310.out) hb); replace BK315 := ax (zba (g := gb315) (o := .cells #[.int .i64 t311, .slice Ao62 t312.length co62] 28 (0, 0)) (by (with_reducible repeat (first | refine zaj ?_ _ | refine zaf ?_ | refine zai ?_ _)); refine zbf (cs := #[.int .i64 t311, .slice none 0 0]) ?_ 1 _ rfl; (with_reducible repeat (first | refine zaj ?_ _ | refine zaf ?_ | refine zai ?_ _)); refine zbf (cs := #[.int .i64 0, .slice none 0 0]) ?_ 0 _ rfl; (with_reducible repeat (first | refine zaj ?_ _ | refine zaf ?_ | refine zai ?_ _)); exact BK315.out) hb); replace HB := ax (zar (bh HB.out) hb); (try clear hb); (try clear ho0); (try clear hN371_)) | ((with_reducible refine zaV (N := 10) rfl ?_); refine zaO ?hg (N := 10) ?hd (cs := #[.int .i64 0, .slice none 0 0]) (t := 28) ?hr ?_; (case hd => rfl); (case hg => rfl); (case hr => first | (go_simp; done) | (go_simp; rfl)); intro gb321 hg w65 hbox hb; replace HO295 := ax (Kd.zaF (xS HO295.out) hb); replace HO299 := ax (Kd.zaF (xS HO299.out) hb); replace HO303 := ax (Kd.zbG (Kd.zbH (xV HO303.out) gb321 (Nat.le_of_eq hg.symm)) hb); replace HO309 := ax (Kd.zaF (xS HO309.out) hb); replace HO314 := ax (Kd.zaF (xS HO314.out) hb); replace HO319 := ax (Kd.zaF (xS HO319.out) hb); have BK321 := ax (hbox); have GW321 := ax ((by rw [hg]; exact (zah (bh HB.out)) : w.heap.size ≤ gb321)); have GE321 := ax ((by rw [hg]; exact (zah (bh HB.out)) : w.heap.size ≤ gb321)); replace HB := ax (zar (bh HB.out) hb); have NB288_321 := ax (bn hg BK288.out); have NB321_288 := ax (bm hg BK288.out); replace BK288 := ax (bb BK288.out hb); have NB289_321 := ax (bn hg BK289.out); have NB321_289 := ax (bm hg BK289.out); replace BK289 := ax (bb BK289.out hb); have NB305_321 := ax (bn hg BK305.out); have NB321_305 := ax (bm hg BK305.out); replace BK305 := ax (bb BK305.out hb); have NB310_321 := ax (bn hg BK310.out); have NB321_310 := ax (bm hg BK310.out); replace BK310 := ax (bb BK310.out hb); have NB315_321 := ax (bn hg BK315.out); have NB321_315 := ax (bm hg BK315.out); replace BK315 := ax (bb BK315.out hb); clear hb hbox hg; have hnb66 := NB321_288.out; have hnc66 := NB288_321.out; have hnb67 := NB321_289.out; have hnc67 := NB289_321.out; have hnb68 := NB321_305.out; have hnc68 := NB305_321.out; have hnb69 := NB321_310.out; have hnc69 := NB310_321.out; have hnb70 := NB321_315.out; have hnc70 := NB315_321.out; have hcz71_0 := bc0 BK321.out; have hcz71_1 := bc1 BK321.out; have hfz71_0 := zae BK321.out 0; have hfz71_1 := zae BK321.out 1; obtain ⟨Ao72, co72, eo72⟩ := Kd.zbC HO319.out; subst eo72))
   (try simp only [Act.put, List.setIfInBounds_toArray, List.set_cons_zero, List.set_cons_succ])
   go_cut [53] (fun v53 wc => ∃ (kq : Nat) (x53_24 : Bool), v53 = .bool x53_24 ∧ zap (zak.j0 kq t304 t320 x53_24 a0_0 l0_1 a1_0 l1_1 t300 t301 t306 t307 t311 t312 t316 t317 = some r) ∧ zap (kq ≤ k) ∧ zap (Kd.V k48 48 wc w.heap.size (fun k_ => some k_ ≠ ((.slice Ao52 t307.length co52) : Value).ownBlock ∧ some k_ ≠ ((.slice Ao62 t312.length co62) : Value).ownBlock ∧ some k_ ≠ ((.slice Ao72 t317.length co72) : Value).ownBlock ∧ k_ ≠ gb288 ∧ k_ ≠ gb289 ∧ k_ ≠ gb305 ∧ k_ ≠ gb310 ∧ k_ ≠ gb315 ∧ k_ ≠ gb321 ∧ k_ ≠ dmO N367_ k_ ∧ k_ ≠ dmO N369_ k_ ∧ k_ ≠ dmO N371_ k_) (.slice Ao42 t301.length co42) t301) ∧ zap (Kd.S k48 48 wc w.heap.size (fun k_ => some k_ ≠ ((.slice Ao62 t312.length co62) : Value).ownBlock ∧ some k_ ≠ ((.slice Ao72 t317.length co72) : Value).ownBlock ∧ k_ ≠ dmI N367_ k_ ∧ k_ ≠ dmO N369_ k_ ∧ k_ ≠ dmO N371_ k_) (.slice Ao52 t307.length co52) t307) ∧ zap (Kd.S k48 48 wc w.heap.size (fun k_ => some k_ ≠ ((.slice Ao52 t307.length co52) : Value).ownBlock ∧ some k_ ≠ ((.slice Ao72 t317.length co72) : Value).ownBlock ∧ k_ ≠ dmI N369_ k_ ∧ k_ ≠ dmO N371_ k_) (.slice Ao62 t312.length co62) t312) ∧ zap (Kd.S k48 48 wc w.heap.size (fun k_ => some k_ ≠ ((.slice Ao52 t307.length co52) : Value).ownBlock ∧ some k_ ≠ ((.slice Ao62 t312.length co62) : Value).ownBlock ∧ k_ ≠ dmI N371_ k_) (.slice Ao72 t317.length co72) t317) ∧ zap (wc.heap[gb288]? = some (.cells #[.int .i64 a0_0, (.slice A0_1 l0_1.length c0_1)] 24 (0, 0))) ∧ zap (wc.heap[gb289]? = some (.cells #[.int .i64 a1_0, (.slice A1_1 l1_1.length c1_1)] 24 (0, 0))) ∧ zap (wc.heap[gb305]? = some (.cells #[.int .i64 t300, (.slice Ao42 t301.length co42)] 28 (0, 0))) ∧ zap (wc.heap[gb310]? = some (.cells #[.int .i64 t306, (.slice Ao52 t307.length co52)] 28 (0, 0))) ∧ zap (wc.heap[gb315]? = some (.cells #[.int .i64 t311, (.slice Ao62 t312.length co62)] 28 (0, 0))) ∧ zap (wc.heap[gb321]? = some (.cells #[.int .i64 t316, (.slice Ao72 t317.length co72)] 28 (0, 0))) ∧ zap (Below w.heap.size w wc))
   case first =>
    have H := HC25.out
    clear HC25
    obtain ⟨t322, A73, H⟩ := xI H
    by_cases c74 : t322 = true
    ·subst c74
     rw [if_pos rfl] at H
     have H' := ax H
     clear H
     have hnb75 := NB321_288.out
     have hnc75 := NB288_321.out
     have hnb76 := NB321_289.out
     have hnc76 := NB289_321.out
     have hnb77 := NB321_305.out
     have hnc77 := NB305_321.out
     have hnb78 := NB321_310.out
     have hnc78 := NB310_321.out
     have hnb79 := NB321_315.out
     have hnc79 := NB315_321.out
     have hcz80_0 := bc0 BK321.out
     have hcz80_1 := bc1 BK321.out
     have hfz80_0 := zae BK321.out 0
     have hfz80_1 := zae BK321.out 1
     have hnb81 := NB305_288.out
     have hnc81 := NB288_305.out
     have hnb82 := NB305_289.out
     have hnc82 := NB289_305.out
     have hnb83 := NB305_310.out
     have hnc83 := NB310_305.out
     have hnb84 := NB305_315.out
     have hnc84 := NB315_305.out
     have hcz85_0 := bc0 BK305.out
     have hcz85_1 := bc1 BK305.out
     have hfz85_0 := zae BK305.out 0
     have hfz85_1 := zae BK305.out 1
     go_wp2_with (first | ((with_reducible refine zas (f := 11) rfl ?_); refine za3 (some 47) rfl rfl Try.func11 (by kernel_rfl) rfl #[.agg #[.int .i64 t316, .slice Ao72 t317.length co72], .agg #[.int .i64 t300, .slice Ao42 t301.length co42]] rfl xm ?_; (with_reducible refine (zbd.calls k t316 _ _ t317 t300 _ _ t301 true _ ?side1 ?side2 ?side3 ?side4 A73.out).mono ?_); (case side1 => refine (Kd.zaG (e := 48) (base := w.heap.size) (ok := fun k_ => ((((k_ ≠ dmI N371_ k_ ∧ some k_ ≠ (v294 : Value).ownBlock) ∧ some k_ ≠ (v298 : Value).ownBlock) ∧ some k_ ≠ (.slice Ao52 t307.length co52 : Value).ownBlock) ∧ some k_ ≠ (.slice Ao62 t312.length co62 : Value).ownBlock)) (n := t317.length) (c := co72) ?_).2.2; exact (by (with_reducible repeat (first | apply Kd.zaH | apply Kd.zaD | apply Kd.zaK)); exact (f2S HO319.out BK321.out (.int .i64 t316) (.slice Ao72 t317.length co72)))); (case side2 => exact (Kd.zaG HO319.out).2.1); (case side3 => refine (Kd.za2 (e := 48) (base := w.heap.size) (ok := fun k_ => ((((((((((some k_ ≠ (v294 : Value).ownBlock ∧ (some k_ ≠ (v298 : Value).ownBlock ∧ (k_ ≠ gb288 ∧ (k_ ≠ gb289 ∧ k_ ≠ gb305)))) ∧ some k_ ≠ (.slice Ao52 t307.length co52 : Value).ownBlock) ∧ k_ ≠ dmO N367_ k_) ∧ k_ ≠ gb310) ∧ some k_ ≠ (.slice Ao62 t312.length co62 : Value).ownBlock) ∧ k_ ≠ dmO N369_ k_) ∧ k_ ≠ gb315) ∧ some k_ ≠ (.slice Ao72 t317.length co72 : Value).ownBlock) ∧ k_ ≠ dmO N371_ k_) ∧ k_ ≠ gb321)) (n := t301.length) (c := co42) ?_).2.2; exact (by (with_reducible repeat (first | apply Kd.zbr | apply Kd.zbq | apply Kd.zbm)); exact (Kd.zaP (Kd.zb7 (p := ⟨gb321, 1, none⟩) (Kd.zb7 (p := ⟨gb321, 0, none⟩) (Kd.zaP HO303.out (fun k_ hk => (⟨hk, hk.2⟩ : _ ∧ k_ ≠ gb321))) (fun _ hk => hk.2) (.int .i64 t316)) (fun _ hk => hk.2) (.slice Ao72 t317.length co72)) (fun _ h_ => h_.1)))); (case side4 => exact (Kd.za2 HO303.out).2.1); rintro e w86 ⟨rfl, hb⟩; refine ⟨_, rfl, ?_⟩; replace HO295 := ax (Kd.zaF (by (with_reducible repeat (first | apply Kd.zaH | apply Kd.zaD | apply Kd.zaK)); exact (f2S HO295.out BK321.out (.int .i64 t316) (.slice Ao72 t317.length co72))) hb); replace HO299 := ax (Kd.zaF (by (with_reducible repeat (first | apply Kd.zaH | apply Kd.zaD | apply Kd.zaK)); exact (f2S HO299.out BK321.out (.int .i64 t316) (.slice Ao72 t317.length co72))) hb); replace HO303 := ax (Kd.zbG (by (with_reducible repeat (first | apply Kd.zbr | apply Kd.zbq | apply Kd.zbm)); exact (Kd.zaP (Kd.zb7 (p := ⟨gb321, 1, none⟩) (Kd.zb7 (p := ⟨gb321, 0, none⟩) (Kd.zaP HO303.out (fun k_ hk => (⟨hk, hk.2⟩ : _ ∧ k_ ≠ gb321))) (fun _ hk => hk.2) (.int .i64 t316)) (fun _ hk => hk.2) (.slice Ao72 t317.length co72)) (fun _ h_ => h_.1))) hb); replace HO309 := ax (Kd.zaF (by (with_reducible repeat (first | apply Kd.zaH | apply Kd.zaD | apply Kd.zaK)); exact (f2S HO309.out BK321.out (.int .i64 t316) (.slice Ao72 t317.length co72))) hb); replace HO314 := ax (Kd.zaF (by (with_reducible repeat (first | apply Kd.zaH | apply Kd.zaD | apply Kd.zaK)); exact (f2S HO314.out BK321.out (.int .i64 t316) (.slice Ao72 t317.length co72))) hb); replace HO319 := ax (Kd.zaF (by (with_reducible repeat (first | apply Kd.zaH | apply Kd.zaD | apply Kd.zaK)); exact (f2S HO319.out BK321.out (.int .i64 t316) (.slice Ao72 t317.length co72))) hb); replace BK288 := ax (zba (g := gb288) (o := .cells #[.int .i64 a0_0, .slice A0_1 l0_1.length c0_1] 24 (0, 0)) (by (with_reducible repeat (first | refine zaj ?_ _ | refine zaf ?_ | refine zai ?_ _)); refine zaL ?_ NB288_321.out _; (with_reducible repeat (first | refine zaj ?_ _ | refine zaf ?_ | refine zai ?_ _)); refine zaL ?_ NB288_321.out _; (with_reducible repeat (first | refine zaj ?_ _ | refine zaf ?_ | refine zai ?_ _)); exact BK288.out) hb); replace BK289 := ax (zba (g := gb289) (o := .cells #[.int .i64 a1_0, .slice A1_1 l1_1.length c1_1] 24 (0, 0)) (by (with_reducible repeat (first | refine zaj ?_ _ | refine zaf ?_ | refine zai ?_ _)); refine zaL ?_ NB289_321.out _; (with_reducible repeat (first | refine zaj ?_ _ | refine zaf ?_ | refine zai ?_ _)); refine zaL ?_ NB289_321.out _; (with_reducible repeat (first | refine zaj ?_ _ | refine zaf ?_ | refine zai ?_ _)); exact BK289.out) hb); replace BK305 := ax (zba (g := gb305) (o := .cells #[.int .i64 t300, .slice Ao42 t301.length co42] 28 (0, 0)) (by (with_reducible repeat (first | refine zaj ?_ _ | refine zaf ?_ | refine zai ?_ _)); refine zaL ?_ NB305_321.out _; (with_reducible repeat (first | refine zaj ?_ _ | refine zaf ?_ | refine zai ?_ _)); refine zaL ?_ NB305_321.out _; (with_reducible repeat (first | refine zaj ?_ _ | refine zaf ?_ | refine zai ?_ _)); exact BK305.out) hb); replace BK310 := ax (zba (g := gb310) (o := .cells #[.int .i64 t306, .slice Ao52 t307.length co52] 28 (0, 0)) (by (with_reducible repeat (first | refine zaj ?_ _ | refine zaf ?_ | refine zai ?_ _)); refine zaL ?_ NB310_321.out _; (with_reducible repeat (first | refine zaj ?_ _ | refine zaf ?_ | refine zai ?_ _)); refine zaL ?_ NB310_321.out _; (with_reducible repeat (first | refine zaj ?_ _ | refine zaf ?_ | refine zai ?_ _)); exact BK310.out) hb); replace BK315 := ax (zba (g := gb315) (o := .cells #[.int .i64 t311, .slice Ao62 t312.length co62] 28 (0, 0)) (by (with_reducible repeat (first | refine zaj ?_ _ | refine zaf ?_ | refine zai ?_ _)); refine zaL ?_ NB315_321.out _; (with_reducible repeat (first | refine zaj ?_ _ | refine zaf ?_ | refine zai ?_ _)); refine zaL ?_ NB315_321.out _; (with_reducible repeat (first | refine zaj ?_ _ | refine zaf ?_ | refine zai ?_ _)); exact BK315.out) hb); replace BK321 := ax (zba (g := gb321) (o := .cells #[.int .i64 t316, .slice Ao72 t317.length co72] 28 (0, 0)) (by (with_reducible repeat (first | refine zaj ?_ _ | refine zaf ?_ | refine zai ?_ _)); refine zbf (cs := #[.int .i64 t316, .slice none 0 0]) ?_ 1 _ rfl; (with_reducible repeat (first | refine zaj ?_ _ | refine zaf ?_ | refine zai ?_ _)); refine zbf (cs := #[.int .i64 0, .slice none 0 0]) ?_ 0 _ rfl; (with_reducible repeat (first | refine zaj ?_ _ | refine zaf ?_ | refine zai ?_ _)); exact BK321.out) hb); replace HB := ax (zar (bh HB.out) hb); (try clear hb)))
     go_meet
     case rel => exact ⟨_, ((t320 != t304)), xr, H', ⟨by first | omega | exact Nat.le_refl _⟩, ⟨by (with_reducible repeat (first | apply Kd.zbr | apply Kd.zbq | apply Kd.zbm)); exact Kd.zaP HO303.out bq⟩, ⟨by (with_reducible repeat (first | apply Kd.zaH | apply Kd.zaD | apply Kd.zaK)); exact Kd.zaZ HO309.out (fun _ hk => ⟨hk.1.1.1.2, ⟨hk.1.2, ⟨hk.1.1.1.1.1.1, ⟨hk.1.1.2, hk.2⟩⟩⟩⟩)⟩, ⟨by (with_reducible repeat (first | apply Kd.zaH | apply Kd.zaD | apply Kd.zaK)); exact Kd.zaZ HO314.out (fun _ hk => ⟨hk.1.1.2, ⟨hk.1.2, ⟨hk.1.1.1.1.1, hk.2⟩⟩⟩)⟩, ⟨by (with_reducible repeat (first | apply Kd.zaH | apply Kd.zaD | apply Kd.zaK)); exact Kd.zaZ HO319.out (fun _ hk => ⟨hk.1.2, ⟨hk.2, hk.1.1.1.1⟩⟩)⟩, ⟨xk BK288.out⟩, ⟨xk BK289.out⟩, ⟨xk BK305.out⟩, ⟨xk BK310.out⟩, ⟨xk BK315.out⟩, ⟨xk BK321.out⟩, ⟨bh HB.out⟩⟩
    ·replace c74 := Bool.eq_false_iff.mpr c74
     subst c74
     rw [if_neg (show ¬ (false = true) by decide)] at H
     have H' := ax H
     clear H
     have hnb87 := NB321_288.out
     have hnc87 := NB288_321.out
     have hnb88 := NB321_289.out
     have hnc88 := NB289_321.out
     have hnb89 := NB321_305.out
     have hnc89 := NB305_321.out
     have hnb90 := NB321_310.out
     have hnc90 := NB310_321.out
     have hnb91 := NB321_315.out
     have hnc91 := NB315_321.out
     have hcz92_0 := bc0 BK321.out
     have hcz92_1 := bc1 BK321.out
     have hfz92_0 := zae BK321.out 0
     have hfz92_1 := zae BK321.out 1
     have hnb93 := NB305_288.out
     have hnc93 := NB288_305.out
     have hnb94 := NB305_289.out
     have hnc94 := NB289_305.out
     have hnb95 := NB305_310.out
     have hnc95 := NB310_305.out
     have hnb96 := NB305_315.out
     have hnc96 := NB315_305.out
     have hcz97_0 := bc0 BK305.out
     have hcz97_1 := bc1 BK305.out
     have hfz97_0 := zae BK305.out 0
     have hfz97_1 := zae BK305.out 1
     go_wp2_with (first | ((with_reducible refine zas (f := 11) rfl ?_); refine za3 (some 47) rfl rfl Try.func11 (by kernel_rfl) rfl #[.agg #[.int .i64 t316, .slice Ao72 t317.length co72], .agg #[.int .i64 t300, .slice Ao42 t301.length co42]] rfl xm ?_; (with_reducible refine (zbd.calls k t316 _ _ t317 t300 _ _ t301 false _ ?side1 ?side2 ?side3 ?side4 A73.out).mono ?_); (case side1 => refine (Kd.zaG (e := 48) (base := w.heap.size) (ok := fun k_ => ((((k_ ≠ dmI N371_ k_ ∧ some k_ ≠ (v294 : Value).ownBlock) ∧ some k_ ≠ (v298 : Value).ownBlock) ∧ some k_ ≠ (.slice Ao52 t307.length co52 : Value).ownBlock) ∧ some k_ ≠ (.slice Ao62 t312.length co62 : Value).ownBlock)) (n := t317.length) (c := co72) ?_).2.2; exact (by (with_reducible repeat (first | apply Kd.zaH | apply Kd.zaD | apply Kd.zaK)); exact (f2S HO319.out BK321.out (.int .i64 t316) (.slice Ao72 t317.length co72)))); (case side2 => exact (Kd.zaG HO319.out).2.1); (case side3 => refine (Kd.za2 (e := 48) (base := w.heap.size) (ok := fun k_ => ((((((((((some k_ ≠ (v294 : Value).ownBlock ∧ (some k_ ≠ (v298 : Value).ownBlock ∧ (k_ ≠ gb288 ∧ (k_ ≠ gb289 ∧ k_ ≠ gb305)))) ∧ some k_ ≠ (.slice Ao52 t307.length co52 : Value).ownBlock) ∧ k_ ≠ dmO N367_ k_) ∧ k_ ≠ gb310) ∧ some k_ ≠ (.slice Ao62 t312.length co62 : Value).ownBlock) ∧ k_ ≠ dmO N369_ k_) ∧ k_ ≠ gb315) ∧ some k_ ≠ (.slice Ao72 t317.length co72 : Value).ownBlock) ∧ k_ ≠ dmO N371_ k_) ∧ k_ ≠ gb321)) (n := t301.length) (c := co42) ?_).2.2; exact (by (with_reducible repeat (first | apply Kd.zbr | apply Kd.zbq | apply Kd.zbm)); exact (Kd.zaP (Kd.zb7 (p := ⟨gb321, 1, none⟩) (Kd.zb7 (p := ⟨gb321, 0, none⟩) (Kd.zaP HO303.out (fun k_ hk => (⟨hk, hk.2⟩ : _ ∧ k_ ≠ gb321))) (fun _ hk => hk.2) (.int .i64 t316)) (fun _ hk => hk.2) (.slice Ao72 t317.length co72)) (fun _ h_ => h_.1)))); (case side4 => exact (Kd.za2 HO303.out).2.1); rintro e w98 ⟨rfl, hb⟩; refine ⟨_, rfl, ?_⟩; replace HO295 := ax (Kd.zaF (by (with_reducible repeat (first | apply Kd.zaH | apply Kd.zaD | apply Kd.zaK)); exact (f2S HO295.out BK321.out (.int .i64 t316) (.slice Ao72 t317.length co72))) hb); replace HO299 := ax (Kd.zaF (by (with_reducible repeat (first | apply Kd.zaH | apply Kd.zaD | apply Kd.zaK)); exact (f2S HO299.out BK321.out (.int .i64 t316) (.slice Ao72 t317.length co72))) hb); replace HO303 := ax (Kd.zbG (by (with_reducible repeat (first | apply Kd.zbr | apply Kd.zbq | apply Kd.zbm)); exact (Kd.zaP (Kd.zb7 (p := ⟨gb321, 1, none⟩) (Kd.zb7 (p := ⟨gb321, 0, none⟩) (Kd.zaP HO303.out (fun k_ hk => (⟨hk, hk.2⟩ : _ ∧ k_ ≠ gb321))) (fun _ hk => hk.2) (.int .i64 t316)) (fun _ hk => hk.2) (.slice Ao72 t317.length co72)) (fun _ h_ => h_.1))) hb); replace HO309 := ax (Kd.zaF (by (with_reducible repeat (first | apply Kd.zaH | apply Kd.zaD | apply Kd.zaK)); exact (f2S HO309.out BK321.out (.int .i64 t316) (.slice Ao72 t317.length co72))) hb); replace HO314 := ax (Kd.zaF (by (with_reducible repeat (first | apply Kd.zaH | apply Kd.zaD | apply Kd.zaK)); exact (f2S HO314.out BK321.out (.int .i64 t316) (.slice Ao72 t317.length co72))) hb); replace HO319 := ax (Kd.zaF (by (with_reducible repeat (first | apply Kd.zaH | apply Kd.zaD | apply Kd.zaK)); exact (f2S HO319.out BK321.out (.int .i64 t316) (.slice Ao72 t317.length co72))) hb); replace BK288 := ax (zba (g := gb288) (o := .cells #[.int .i64 a0_0, .slice A0_1 l0_1.length c0_1] 24 (0, 0)) (by (with_reducible repeat (first | refine zaj ?_ _ | refine zaf ?_ | refine zai ?_ _)); refine zaL ?_ NB288_321.out _; (with_reducible repeat (first | refine zaj ?_ _ | refine zaf ?_ | refine zai ?_ _)); refine zaL ?_ NB288_321.out _; (with_reducible repeat (first | refine zaj ?_ _ | refine zaf ?_ | refine zai ?_ _)); exact BK288.out) hb); replace BK289 := ax (zba (g := gb289) (o := .cells #[.int .i64 a1_0, .slice A1_1 l1_1.length c1_1] 24 (0, 0)) (by (with_reducible repeat (first | refine zaj ?_ _ | refine zaf ?_ | refine zai ?_ _)); refine zaL ?_ NB289_321.out _; (with_reducible repeat (first | refine zaj ?_ _ | refine zaf ?_ | refine zai ?_ _)); refine zaL ?_ NB289_321.out _; (with_reducible repeat (first | refine zaj ?_ _ | refine zaf ?_ | refine zai ?_ _)); exact BK289.out) hb); replace BK305 := ax (zba (g := gb305) (o := .cells #[.int .i64 t300, .slice Ao42 t301.length co42] 28 (0, 0)) (by (with_reducible repeat (first | refine zaj ?_ _ | refine zaf ?_ | refine zai ?_ _)); refine zaL ?_ NB305_321.out _; (with_reducible repeat (first | refine zaj ?_ _ | refine zaf ?_ | refine zai ?_ _)); refine zaL ?_ NB305_321.out _; (with_reducible repeat (first | refine zaj ?_ _ | refine zaf ?_ | refine zai ?_ _)); exact BK305.out) hb); replace BK310 := ax (zba (g := gb310) (o := .cells #[.int .i64 t306, .slice Ao52 t307.length co52] 28 (0, 0)) (by (with_reducible repeat (first | refine zaj ?_ _ | refine zaf ?_ | refine zai ?_ _)); refine zaL ?_ NB310_321.out _; (with_reducible repeat (first | refine zaj ?_ _ | refine zaf ?_ | refine zai ?_ _)); refine zaL ?_ NB310_321.out _; (with_reducible repeat (first | refine zaj ?_ _ | refine zaf ?_ | refine zai ?_ _)); exact BK310.out) hb); replace BK315 := ax (zba (g := gb315) (o := .cells #[.int .i64 t311, .slice Ao62 t312.length co62] 28 (0, 0)) (by (with_reducible repeat (first | refine zaj ?_ _ | refine zaf ?_ | refine zai ?_ _)); refine zaL ?_ NB315_321.out _; (with_reducible repeat (first | refine zaj ?_ _ | refine zaf ?_ | refine zai ?_ _)); refine zaL ?_ NB315_321.out _; (with_reducible repeat (first | refine zaj ?_ _ | refine zaf ?_ | refine zai ?_ _)); exact BK315.out) hb); replace BK321 := ax (zba (g := gb321) (o := .cells #[.int .i64 t316, .slice Ao72 t317.length co72] 28 (0, 0)) (by (with_reducible repeat (first | refine zaj ?_ _ | refine zaf ?_ | refine zai ?_ _)); refine zbf (cs := #[.int .i64 t316, .slice none 0 0]) ?_ 1 _ rfl; (with_reducible repeat (first | refine zaj ?_ _ | refine zaf ?_ | refine zai ?_ _)); refine zbf (cs := #[.int .i64 0, .slice none 0 0]) ?_ 0 _ rfl; (with_reducible repeat (first | refine zaj ?_ _ | refine zaf ?_ | refine zai ?_ _)); exact BK321.out) hb); replace HB := ax (zar (bh HB.out) hb); (try clear hb)))
     go_meet
     case rel => exact ⟨_, (true), xr, H', ⟨by first | omega | exact Nat.le_refl _⟩, ⟨by (with_reducible repeat (first | apply Kd.zbr | apply Kd.zbq | apply Kd.zbm)); exact Kd.zaP HO303.out bq⟩, ⟨by (with_reducible repeat (first | apply Kd.zaH | apply Kd.zaD | apply Kd.zaK)); exact Kd.zaZ HO309.out (fun _ hk => ⟨hk.1.1.1.2, ⟨hk.1.2, ⟨hk.1.1.1.1.1.1, ⟨hk.1.1.2, hk.2⟩⟩⟩⟩)⟩, ⟨by (with_reducible repeat (first | apply Kd.zaH | apply Kd.zaD | apply Kd.zaK)); exact Kd.zaZ HO314.out (fun _ hk => ⟨hk.1.1.2, ⟨hk.1.2, ⟨hk.1.1.1.1.1, hk.2⟩⟩⟩)⟩, ⟨by (with_reducible repeat (first | apply Kd.zaH | apply Kd.zaD | apply Kd.zaK)); exact Kd.zaZ HO319.out (fun _ hk => ⟨hk.1.2, ⟨hk.2, hk.1.1.1.1⟩⟩)⟩, ⟨xk BK288.out⟩, ⟨xk BK289.out⟩, ⟨xk BK305.out⟩, ⟨xk BK310.out⟩, ⟨xk BK315.out⟩, ⟨xk BK321.out⟩, ⟨bh HB.out⟩⟩
   case rest =>
    clear HC25
    (try clear c4); (try clear c11); (try clear c74); (try clear hcz45_0); (try clear hcz45_1); (try clear hcz51_0); (try clear hcz51_1); (try clear hcz54_0); (try clear hcz54_1); (try clear hcz61_0); (try clear hcz61_1); (try clear hcz63_0); (try clear hcz63_1); (try clear hcz71_0); (try clear hcz71_1); (try clear hcz80_0); (try clear hcz80_1); (try clear hcz85_0); (try clear hcz85_1); (try clear hcz92_0); (try clear hcz92_1); (try clear hcz97_0); (try clear hcz97_1); (try clear hfz45_0); (try clear hfz45_1); (try clear hfz51_0); (try clear hfz51_1); (try clear hfz54_0); (try clear hfz54_1); (try clear hfz61_0); (try clear hfz61_1); (try clear hfz63_0); (try clear hfz63_1); (try clear hfz71_0); (try clear hfz71_1); (try clear hfz80_0); (try clear hfz80_1); (try clear hfz85_0); (try clear hfz85_1); (try clear hfz92_0); (try clear hfz92_1); (try clear hfz97_0); (try clear hfz97_1)
    obtain ⟨kq, x53_24, rfl, HA, HJ24, HO_1003, HO_1000, HO_1002, HO_1001, BK288, BK289, BK305, BK310, BK315, BK321, HB⟩ := hcut
    cases kq with
    | zero => exact absurd HA.out (by simp [zak.j0])
    | succ kj24 =>
     have H := HA.out
     clear HA
     simp only [zak.j0] at H
     by_cases c99 : x53_24 = true
     ·subst c99
      rw [if_pos rfl] at H
      obtain rfl := Option.some.inj H
      go_wp2
      go_ret
      exact ⟨xe, bh HB.out⟩
     ·replace c99 := Bool.eq_false_iff.mpr c99
      subst c99
      rw [if_neg (show ¬ (false = true) by decide)] at H
      obtain ⟨⟨t323, t324⟩, A100, H⟩ := xI H
      dsimp only at H
      obtain ⟨t327, A101, H⟩ := xI H
      by_cases c102 : t327 = true
      ·subst c102
       rw [if_pos rfl] at H
       obtain ⟨⟨t328, t329⟩, A103, H⟩ := xI H
       dsimp only at H
       obtain ⟨t332, A104, H⟩ := xI H
       by_cases c105 : t332 = true
       ·subst c105
        rw [if_pos rfl] at H
        obtain ⟨⟨t333, t334⟩, A106, H⟩ := xI H
        dsimp only at H
        obtain ⟨⟨t335, t336⟩, A107, H⟩ := xI H
        dsimp only at H
        have HC108 := ax H
        clear H
        try go_wp2
        replace HO_1003 := ax (Kd.zbm HO_1003.out); replace HO_1000 := ax (Kd.zaK HO_1000.out); replace HO_1002 := ax (Kd.zaK HO_1002.out); replace HO_1001 := ax (Kd.zaK HO_1001.out); replace BK288 := ax (zaf BK288.out); replace BK289 := ax (zaf BK289.out); replace BK305 := ax (zaf BK305.out); replace BK310 := ax (zaf BK310.out); replace BK315 := ax (zaf BK315.out); replace BK321 := ax (zaf BK321.out); replace HB := ax (zaN HB.out)
        refine zbJ (n := 5) (S := fun w' => w'.cell? ⟨gb310, 0, none⟩ = some (.int .i64 t306) ∧ w'.cell? ⟨gb310, 1, none⟩ = some (.slice Ao52 t307.length co52) ∧ w'.cell? ⟨gb288, 0, none⟩ = some (.int .i64 a0_0) ∧ w'.cell? ⟨gb288, 1, none⟩ = some (.slice A0_1 l0_1.length c0_1)) (ds := []) (xB 5 0) (by kernel_rfl) rfl (by kernel_rfl) ⟨(zag BK310.out 0).trans rfl, (zag BK310.out 1).trans rfl, (zag BK288.out 0).trans rfl, (zag BK288.out 1).trans rfl⟩ (fun hHeld => ?_)
        generalize wc.drew = w109 at HO_1003 HO_1000 HO_1002 HO_1001 BK288 BK289 BK305 BK310 BK315 BK321 HB hHeld ⊢
        refine zdQ (i := 0) (N := some 54) (v := ?_) (a' := ?_) (xB 5 1) rfl rfl (by kernel_rfl) (fun _ _ _ h => h) (Or.inl ⟨by rfl, ?_⟩) hHeld ?_ ?_
        rotate_left
        ·rintro w' ⟨s0, s1, s2, s3⟩
         go_simp
         with_reducible rfl
        rotate_left
        ·simp only [Act.put, List.setIfInBounds_toArray, List.set_cons_zero, List.set_cons_succ, zbZ, zcd]
         rfl
        refine zdQ (i := 1) (N := some 55) (v := ?_) (a' := ?_) (xB 5 3) rfl rfl (by kernel_rfl) (fun _ _ _ h => h) (Or.inl ⟨by rfl, ?_⟩) hHeld ?_ ?_
        rotate_left
        ·rintro w' ⟨s0, s1, s2, s3⟩
         go_simp
         with_reducible rfl
        rotate_left
        ·simp only [Act.put, List.setIfInBounds_toArray, List.set_cons_zero, List.set_cons_succ, zbZ, zcd]
         rfl
        refine one_ (i := 2) (N := some 56) (xB 5 7) rfl rfl (by kernel_rfl) (by decide) (fun K hK => ?_)
        refine zbQ Try.func9 (by kernel_rfl) rfl #[.agg #[.int .i64 a0_0, .slice A0_1 l0_1.length c0_1]] (by rfl) rfl rfl xm ?_
        with_reducible refine (zaY.calls kj24 a0_0 _ _ l0_1 t323 t324 _ ?side1 ?side2 A100.out).mono ?_
        (case side1 => exact xz HR0_1.out HB.out)
        (case side2 => exact HC0_1.out)
        rintro e w110 ⟨v325, rfl, ho0, hb⟩
        refine ⟨_, rfl, ?_⟩
        replace ho0 := Kd.zc7 ho0
        obtain ⟨N373_, ho0, hN373_⟩ := ho0
        replace HO_1003 := ax (Kd.zb3 (xV HO_1003.out) hN373_ (Kd.za6 ho0) hb); have HO326 := ax (Kd.zbV (Kd.zbl (Kd.zbl (Kd.zbl ho0 (Kd.S_lt (xS HO_1000.out))) (Kd.S_lt (xS HO_1002.out))) (Kd.S_lt (xS HO_1001.out))) (zah (bh HB.out))); replace HO_1000 := ax (Kd.zaW (xS HO_1000.out) hN373_ (Kd.za6 ho0) hb); replace HO_1002 := ax (Kd.zaW (xS HO_1002.out) hN373_ (Kd.za6 ho0) hb); replace HO_1001 := ax (Kd.zaW (xS HO_1001.out) hN373_ (Kd.za6 ho0) hb); replace BK288 := ax (bb BK288.out hb); replace BK289 := ax (bb BK289.out hb); replace BK305 := ax (bb BK305.out hb); replace BK310 := ax (bb BK310.out hb); replace BK315 := ax (bb BK315.out hb); replace BK321 := ax (bb BK321.out hb); replace HB := ax (zar (bh HB.out) hb)
        (try clear hb)
        (try clear hk)
        (try clear ho0)
        (try clear hN373_)
        obtain ⟨Ao111, co111, eo111⟩ := Kd.zbC HO326.out
        (first | subst eo111 | (injection eo111 with f1_ f2_ f3_; have f4_ := f1_.symm; have f5_ := f3_.symm; clear f1_ f2_ f3_; subst f4_; subst f5_))
        refine hK.out _ _ ⟨(zag BK310.out 0).trans rfl, (zag BK310.out 1).trans rfl, (zag BK288.out 0).trans rfl, (zag BK288.out 1).trans rfl⟩ (fun hHeld => ?_)
        clear hK K
        refine nm ?_
        refine one_ (i := 3) (N := some 57) (xB 5 15) rfl rfl (by kernel_rfl) (by decide) (fun K hK => ?_)
        refine zbQ Try.func11 (by kernel_rfl) rfl #[.agg #[.int .i64 t306, .slice Ao52 t307.length co52], .agg #[.int .i64 t323, .slice Ao111 t324.length co111]] (by rfl) rfl rfl xm ?_
        with_reducible refine (zbd.calls kj24 t306 _ _ t307 t323 _ _ t324 true _ ?side1 ?side2 ?side3 ?side4 A101.out).mono ?_
        (case side1 => exact xc (Kd.zaG HO_1000.out).2.2)
        (case side2 => exact (Kd.zaG HO_1000.out).2.1)
        (case side3 => exact xc (Kd.zaG HO326.out).2.2)
        (case side4 => exact (Kd.zaG HO326.out).2.1)
        rintro e w112 ⟨rfl, hb⟩
        refine ⟨_, rfl, ?_⟩
        replace HO_1003 := yV HO_1003 hb; replace HO_1000 := ax (Kd.zaF (xS HO_1000.out) hb); replace HO_1002 := ax (Kd.zaF (xS HO_1002.out) hb); replace HO_1001 := ax (Kd.zaF (xS HO_1001.out) hb); replace HO326 := ax (Kd.zaF (xS HO326.out) hb); replace BK288 := ax (bb BK288.out hb); replace BK289 := ax (bb BK289.out hb); replace BK305 := ax (bb BK305.out hb); replace BK310 := ax (bb BK310.out hb); replace BK315 := ax (bb BK315.out hb); replace BK321 := ax (bb BK321.out hb); replace HB := ax (zar (bh HB.out) hb)
        (try clear hb)
        (try clear hk)
        refine hK.out _ _ ⟨(zag BK310.out 0).trans rfl, (zag BK310.out 1).trans rfl, (zag BK288.out 0).trans rfl, (zag BK288.out 1).trans rfl⟩ (fun hHeld => ?_)
        clear hK K
        refine nm ?_
        refine zer (i := 4) (N := some 58) (v := ?_) (a' := ?_) (xB 5 31) rfl rfl (by kernel_rfl) (fun _ _ _ h => h) (Or.inl ⟨by rfl, ?_⟩) ?_ ?_
        rotate_left
        ·intro w'
         go_simp
         with_reducible rfl
        rotate_left
        ·simp only [Act.put, List.setIfInBounds_toArray, List.set_cons_zero, List.set_cons_succ, zbZ, zcd]
         rfl
        refine zb6 (by kernel_rfl) ?_
        try go_wp2
        replace HO_1003 := ax (Kd.zbm HO_1003.out); replace HO_1000 := ax (Kd.zaK HO_1000.out); replace HO_1002 := ax (Kd.zaK HO_1002.out); replace HO_1001 := ax (Kd.zaK HO_1001.out); replace HO326 := ax (Kd.zaK HO326.out); replace BK288 := ax (zaf BK288.out); replace BK289 := ax (zaf BK289.out); replace BK305 := ax (zaf BK305.out); replace BK310 := ax (zaf BK310.out); replace BK315 := ax (zaf BK315.out); replace BK321 := ax (zaf BK321.out); replace HB := ax (zaN HB.out)
        refine zbJ (n := 5) (S := fun w' => w'.cell? ⟨gb315, 0, none⟩ = some (.int .i64 t311) ∧ w'.cell? ⟨gb315, 1, none⟩ = some (.slice Ao62 t312.length co62) ∧ w'.cell? ⟨gb289, 0, none⟩ = some (.int .i64 a1_0) ∧ w'.cell? ⟨gb289, 1, none⟩ = some (.slice A1_1 l1_1.length c1_1)) (ds := []) (xB 5 0) (by kernel_rfl) rfl (by kernel_rfl) ⟨(zag BK315.out 0).trans rfl, (zag BK315.out 1).trans rfl, (zag BK289.out 0).trans rfl, (zag BK289.out 1).trans rfl⟩ (fun hHeld => ?_)
        generalize w112.drew = w113 at HO_1003 HO_1000 HO_1002 HO_1001 HO326 BK288 BK289 BK305 BK310 BK315 BK321 HB hHeld ⊢
        refine zdQ (i := 0) (N := some 59) (v := ?_) (a' := ?_) (xB 5 1) rfl rfl (by kernel_rfl) (fun _ _ _ h => h) (Or.inl ⟨by rfl, ?_⟩) hHeld ?_ ?_
        rotate_left
        ·rintro w' ⟨s0, s1, s2, s3⟩
         go_simp
         with_reducible rfl
        rotate_left
        ·simp only [Act.put, List.setIfInBounds_toArray, List.set_cons_zero, List.set_cons_succ, zbZ, zcd]
         rfl
        refine zdQ (i := 1) (N := some 60) (v := ?_) (a' := ?_) (xB 5 3) rfl rfl (by kernel_rfl) (fun _ _ _ h => h) (Or.inl ⟨by rfl, ?_⟩) hHeld ?_ ?_
        rotate_left
        ·rintro w' ⟨s0, s1, s2, s3⟩
         go_simp
         with_reducible rfl
        rotate_left
        ·simp only [Act.put, List.setIfInBounds_toArray, List.set_cons_zero, List.set_cons_succ, zbZ, zcd]
         rfl
        refine one_ (i := 2) (N := some 61) (xB 5 7) rfl rfl (by kernel_rfl) (by decide) (fun K hK => ?_)
        refine zbQ Try.func9 (by kernel_rfl) rfl #[.agg #[.int .i64 a1_0, .slice A1_1 l1_1.length c1_1]] (by rfl) rfl rfl xm ?_
        with_reducible refine (zaY.calls kj24 a1_0 _ _ l1_1 t328 t329 _ ?side1 ?side2 A103.out).mono ?_
        (case side1 => exact xz HR1_1.out HB.out)
        (case side2 => exact HC1_1.out)
        rintro e w114 ⟨v330, rfl, ho0, hb⟩
        refine ⟨_, rfl, ?_⟩
        replace ho0 := Kd.zc7 ho0
        obtain ⟨N375_, ho0, hN375_⟩ := ho0
        replace HO_1003 := ax (Kd.zb3 (xV HO_1003.out) hN375_ (Kd.za6 ho0) hb); have HO331 := ax (Kd.zbV (Kd.zbl (Kd.zbl (Kd.zbl (Kd.zbl ho0 (Kd.S_lt (xS HO_1000.out))) (Kd.S_lt (xS HO_1002.out))) (Kd.S_lt (xS HO_1001.out))) (Kd.S_lt (xS HO326.out))) (zah (bh HB.out))); replace HO_1000 := ax (Kd.zaW (xS HO_1000.out) hN375_ (Kd.za6 ho0) hb); replace HO_1002 := ax (Kd.zaW (xS HO_1002.out) hN375_ (Kd.za6 ho0) hb); replace HO_1001 := ax (Kd.zaW (xS HO_1001.out) hN375_ (Kd.za6 ho0) hb); replace HO326 := ax (Kd.zaW (xS HO326.out) hN375_ (Kd.za6 ho0) hb); replace BK288 := ax (bb BK288.out hb); replace BK289 := ax (bb BK289.out hb); replace BK305 := ax (bb BK305.out hb); replace BK310 := ax (bb BK310.out hb); replace BK315 := ax (bb BK315.out hb); replace BK321 := ax (bb BK321.out hb); replace HB := ax (zar (bh HB.out) hb)
        (try clear hb)
        (try clear hk)
        (try clear ho0)
        (try clear hN375_)
        obtain ⟨Ao115, co115, eo115⟩ := Kd.zbC HO331.out
        (first | subst eo115 | (injection eo115 with f1_ f2_ f3_; have f4_ := f1_.symm; have f5_ := f3_.symm; clear f1_ f2_ f3_; subst f4_; subst f5_))
        refine hK.out _ _ ⟨(zag BK315.out 0).trans rfl, (zag BK315.out 1).trans rfl, (zag BK289.out 0).trans rfl, (zag BK289.out 1).trans rfl⟩ (fun hHeld => ?_)
        clear hK K
        refine nm ?_
        refine one_ (i := 3) (N := some 62) (xB 5 15) rfl rfl (by kernel_rfl) (by decide) (fun K hK => ?_)
        refine zbQ Try.func11 (by kernel_rfl) rfl #[.agg #[.int .i64 t311, .slice Ao62 t312.length co62], .agg #[.int .i64 t328, .slice Ao115 t329.length co115]] (by rfl) rfl rfl xm ?_
        with_reducible refine (zbd.calls kj24 t311 _ _ t312 t328 _ _ t329 true _ ?side1 ?side2 ?side3 ?side4 A104.out).mono ?_
        (case side1 => exact xc (Kd.zaG HO_1002.out).2.2)
        (case side2 => exact (Kd.zaG HO_1002.out).2.1)
        (case side3 => exact xc (Kd.zaG HO331.out).2.2)
        (case side4 => exact (Kd.zaG HO331.out).2.1)
        rintro e w116 ⟨rfl, hb⟩
        refine ⟨_, rfl, ?_⟩
        replace HO_1003 := yV HO_1003 hb; replace HO_1000 := ax (Kd.zaF (xS HO_1000.out) hb); replace HO_1002 := ax (Kd.zaF (xS HO_1002.out) hb); replace HO_1001 := ax (Kd.zaF (xS HO_1001.out) hb); replace HO326 := ax (Kd.zaF (xS HO326.out) hb); replace HO331 := ax (Kd.zaF (xS HO331.out) hb); replace BK288 := ax (bb BK288.out hb); replace BK289 := ax (bb BK289.out hb); replace BK305 := ax (bb BK305.out hb); replace BK310 := ax (bb BK310.out hb); replace BK315 := ax (bb BK315.out hb); replace BK321 := ax (bb BK321.out hb); replace HB := ax (zar (bh HB.out) hb)
        (try clear hb)
        (try clear hk)
        refine hK.out _ _ ⟨(zag BK315.out 0).trans rfl, (zag BK315.out 1).trans rfl, (zag BK289.out 0).trans rfl, (zag BK289.out 1).trans rfl⟩ (fun hHeld => ?_)
        clear hK K
        refine nm ?_
        refine zer (i := 4) (N := some 63) (v := ?_) (a' := ?_) (xB 5 31) rfl rfl (by kernel_rfl) (fun _ _ _ h => h) (Or.inl ⟨by rfl, ?_⟩) ?_ ?_
        rotate_left
        ·intro w'
         go_simp
         with_reducible rfl
        rotate_left
        ·simp only [Act.put, List.setIfInBounds_toArray, List.set_cons_zero, List.set_cons_succ, zbZ, zcd]
         rfl
        refine zb6 (by kernel_rfl) ?_
        have hnb117 := NB310_288.out
        have hnc117 := NB288_310.out
        have hnb118 := NB310_289.out
        have hnc118 := NB289_310.out
        have hnb119 := NB310_305.out
        have hnc119 := NB305_310.out
        have hnb120 := NB310_315.out
        have hnc120 := NB315_310.out
        have hnb121 := NB310_321.out
        have hnc121 := NB321_310.out
        have hcz122_0 := bc0 BK310.out
        have hcz122_1 := bc1 BK310.out
        have hfz122_0 := zae BK310.out 0
        have hfz122_1 := zae BK310.out 1
        go_upto_region 21 with (first | ((with_reducible refine zas (f := 12) rfl ?_); refine za3 (some 66) rfl rfl Try.func12 (by kernel_rfl) rfl #[.agg #[.int .i64 t306, .slice Ao52 t307.length co52], .int .i64 1] rfl xm ?_; (with_reducible refine (zbn.calls kj24 t306 ?pp1_ (.slice Ao52 t307.length co52) t307 1 t333 t334 w _ ?side1 ?side2 A106.out).mono ?_); (case side1 => exact bh HB.out); (case side2 => first | exact Kd.zcC HO_1000.out | (refine Kd.zcC ?_; (with_reducible repeat (first | apply Kd.zaH | apply Kd.zaD | apply Kd.zaK)); exact HO_1000.out)); rintro e w123 ⟨rfl, hy0, hb, hkp⟩; refine ⟨_, rfl, ?_⟩; have n0_ := ax (Kd.zaP (ok' := fun k_ => some k_ ≠ (.slice Ao52 t307.length co52 : Value).ownBlock ∧ some k_ ≠ (.slice Ao62 t312.length co62 : Value).ownBlock ∧ some k_ ≠ (.slice Ao72 t317.length co72 : Value).ownBlock ∧ some k_ ≠ (.slice Ao111 t324.length co111 : Value).ownBlock ∧ some k_ ≠ (.slice Ao115 t329.length co115 : Value).ownBlock ∧ k_ ≠ gb288 ∧ k_ ≠ gb289 ∧ k_ ≠ gb305 ∧ k_ ≠ gb310 ∧ k_ ≠ gb315 ∧ k_ ≠ gb321 ∧ k_ ≠ dmO N367_ k_ ∧ k_ ≠ dmO N369_ k_ ∧ k_ ≠ dmO N371_ k_ ∧ k_ ≠ dmO N373_ k_ ∧ k_ ≠ dmO N375_ k_) (Kd.zd4 (HO_1003.out) hkp (fun k_ hk_ hs_ => dmNo hs_.1.1.1.1.1.2.2.1 hk_.1.1.1.1.2.2.2.2.2.2.2.2.2.1)) bq); have n1_ := ax (Kd.zaZ hy0 (fun k_ hk_ => hk_.1)); (first | have n2_ := ax (Kd.zaZ (ok' := fun k_ => some k_ ≠ (.slice Ao52 t307.length co52 : Value).ownBlock ∧ some k_ ≠ (.slice Ao72 t317.length co72 : Value).ownBlock ∧ some k_ ≠ (.slice Ao111 t324.length co111 : Value).ownBlock ∧ some k_ ≠ (.slice Ao115 t329.length co115 : Value).ownBlock ∧ k_ ≠ dmI N369_ k_ ∧ k_ ≠ dmO N371_ k_ ∧ k_ ≠ dmO N373_ k_ ∧ k_ ≠ dmO N375_ k_) (Kd.zbO (HO_1002.out) hkp (fun k_ hk_ hs_ => dmNo hk_.1.1.1.1.2.2.1 hs_.1.1.1.1.1.2.2.2.1)) bq) | have n2_ := ax (Kd.zaZ (ok' := fun k_ => some k_ ≠ (.slice Ao52 t307.length co52 : Value).ownBlock ∧ some k_ ≠ (.slice Ao72 t317.length co72 : Value).ownBlock ∧ some k_ ≠ (.slice Ao111 t324.length co111 : Value).ownBlock ∧ some k_ ≠ (.slice Ao115 t329.length co115 : Value).ownBlock ∧ k_ ≠ dmI N369_ k_ ∧ k_ ≠ dmO N371_ k_ ∧ k_ ≠ dmO N373_ k_ ∧ k_ ≠ dmO N375_ k_) (Kd.zbO (Kd.zaD HO_1002.out _) hkp (fun k_ hk_ hs_ => dmNo hk_.1.1.1.1.2.2.1 hs_.1.1.1.1.1.2.2.2.1)) bq)); (first | have n3_ := ax (Kd.zaZ (ok' := fun k_ => some k_ ≠ (.slice Ao52 t307.length co52 : Value).ownBlock ∧ some k_ ≠ (.slice Ao62 t312.length co62 : Value).ownBlock ∧ some k_ ≠ (.slice Ao111 t324.length co111 : Value).ownBlock ∧ some k_ ≠ (.slice Ao115 t329.length co115 : Value).ownBlock ∧ k_ ≠ dmI N371_ k_ ∧ k_ ≠ dmO N373_ k_ ∧ k_ ≠ dmO N375_ k_) (Kd.zbO (HO_1001.out) hkp (fun k_ hk_ hs_ => dmNo hk_.1.1.1.1.2.2 hs_.1.1.1.1.1.2.2.2.2)) bq) | have n3_ := ax (Kd.zaZ (ok' := fun k_ => some k_ ≠ (.slice Ao52 t307.length co52 : Value).ownBlock ∧ some k_ ≠ (.slice Ao62 t312.length co62 : Value).ownBlock ∧ some k_ ≠ (.slice Ao111 t324.length co111 : Value).ownBlock ∧ some k_ ≠ (.slice Ao115 t329.length co115 : Value).ownBlock ∧ k_ ≠ dmI N371_ k_ ∧ k_ ≠ dmO N373_ k_ ∧ k_ ≠ dmO N375_ k_) (Kd.zbO (Kd.zaD HO_1001.out _) hkp (fun k_ hk_ hs_ => dmNo hk_.1.1.1.1.2.2 hs_.1.1.1.1.1.2.2.2.2)) bq)); have n4_ := ax (zbh (xk BK288.out) hkp (fun hs_ => zcu BK288.out hs_.2 (by decide))); have n5_ := ax (zbh (xk BK289.out) hkp (fun hs_ => zcu BK289.out hs_.2 (by decide))); have n6_ := ax (zbh (xk BK305.out) hkp (fun hs_ => zcu BK305.out hs_.2 (by decide))); have n7_ := ax (zbh (xk BK310.out) hkp (fun hs_ => zcu BK310.out hs_.2 (by decide))); have n8_ := ax (zbh (xk BK315.out) hkp (fun hs_ => zcu BK315.out hs_.2 (by decide))); have n9_ := ax (zbh (xk BK321.out) hkp (fun hs_ => zcu BK321.out hs_.2 (by decide))); (first | have n10_ := ax (Kd.zaZ (ok' := fun k_ => some k_ ≠ (.slice Ao52 t307.length co52 : Value).ownBlock ∧ some k_ ≠ (.slice Ao62 t312.length co62 : Value).ownBlock ∧ some k_ ≠ (.slice Ao72 t317.length co72 : Value).ownBlock ∧ some k_ ≠ (.slice Ao115 t329.length co115 : Value).ownBlock ∧ k_ ≠ dmI N373_ k_ ∧ k_ ≠ dmO N375_ k_) (Kd.zbO (HO326.out) hkp (fun k_ hk_ hs_ => dmNo hk_.1.1.1.1.1 hs_.1.1.1.2)) bq) | have n10_ := ax (Kd.zaZ (ok' := fun k_ => some k_ ≠ (.slice Ao52 t307.length co52 : Value).ownBlock ∧ some k_ ≠ (.slice Ao62 t312.length co62 : Value).ownBlock ∧ some k_ ≠ (.slice Ao72 t317.length co72 : Value).ownBlock ∧ some k_ ≠ (.slice Ao115 t329.length co115 : Value).ownBlock ∧ k_ ≠ dmI N373_ k_ ∧ k_ ≠ dmO N375_ k_) (Kd.zbO (Kd.zaD HO326.out _) hkp (fun k_ hk_ hs_ => dmNo hk_.1.1.1.1.1 hs_.1.1.1.2)) bq)); (first | have n11_ := ax (Kd.zaZ (ok' := fun k_ => some k_ ≠ (.slice Ao52 t307.length co52 : Value).ownBlock ∧ some k_ ≠ (.slice Ao62 t312.length co62 : Value).ownBlock ∧ some k_ ≠ (.slice Ao72 t317.length co72 : Value).ownBlock ∧ some k_ ≠ (.slice Ao111 t324.length co111 : Value).ownBlock ∧ k_ ≠ dmI N375_ k_) (Kd.zbO (HO331.out) hkp (fun k_ hk_ hs_ => dmNo hk_.1.1.1.1 hs_.1.2)) (fun k_ hk_ => ⟨hk_.1.1.1.1.2, hk_.1.1.1.2, hk_.1.1.2, hk_.1.2, hk_.1.1.1.1.1⟩)) | have n11_ := ax (Kd.zaZ (ok' := fun k_ => some k_ ≠ (.slice Ao52 t307.length co52 : Value).ownBlock ∧ some k_ ≠ (.slice Ao62 t312.length co62 : Value).ownBlock ∧ some k_ ≠ (.slice Ao72 t317.length co72 : Value).ownBlock ∧ some k_ ≠ (.slice Ao111 t324.length co111 : Value).ownBlock ∧ k_ ≠ dmI N375_ k_) (Kd.zbO (Kd.zaD HO331.out _) hkp (fun k_ hk_ hs_ => dmNo hk_.1.1.1.1 hs_.1.2)) (fun k_ hk_ => ⟨hk_.1.1.1.1.2, hk_.1.1.1.2, hk_.1.1.2, hk_.1.2, hk_.1.1.1.1.1⟩))); have n12_ := ax (hb); clear HO_1003; clear HO_1000; clear HO_1002; clear HO_1001; clear BK288; clear BK289; clear BK305; clear BK310; clear BK315; clear BK321; clear HO326; clear HO331; clear HB; have HO_1003 := n0_; have HO_1000 := n1_; have HO_1002 := n2_; have HO_1001 := n3_; have BK288 := n4_; have BK289 := n5_; have BK305 := n6_; have BK310 := n7_; have BK315 := n8_; have BK321 := n9_; have HO326 := n10_; have HO331 := n11_; have HB := n12_; clear n0_ n1_ n2_ n3_ n4_ n5_ n6_ n7_ n8_ n9_ n10_ n11_ n12_; (try clear hb); (try clear hkp); (try clear hy0); have hnb124 := NB315_288.out; have hnc124 := NB288_315.out; have hnb125 := NB315_289.out; have hnc125 := NB289_315.out; have hnb126 := NB315_305.out; have hnc126 := NB305_315.out; have hnb127 := NB315_321.out; have hnc127 := NB321_315.out; have hcz128_0 := bc0 BK315.out; have hcz128_1 := bc1 BK315.out; have hfz128_0 := zae BK315.out 0; have hfz128_1 := zae BK315.out 1) | ((with_reducible refine zas (f := 12) rfl ?_); refine za3 (some 69) rfl rfl Try.func12 (by kernel_rfl) rfl #[.agg #[.int .i64 t311, .slice Ao62 t312.length co62], .int .i64 t333] rfl xm ?_; (with_reducible refine (zbn.calls kj24 t311 ?pp2_ (.slice Ao62 t312.length co62) t312 t333 t335 t336 w _ ?side1 ?side2 A107.out).mono ?_); (case side1 => exact bh HB.out); (case side2 => first | exact Kd.zcC HO_1002.out | (refine Kd.zcC ?_; (with_reducible repeat (first | apply Kd.zaH | apply Kd.zaD | apply Kd.zaK)); exact HO_1002.out)); rintro e w129 ⟨rfl, hy0, hb, hkp⟩; refine ⟨_, rfl, ?_⟩; have n0_ := ax (Kd.zaP (ok' := fun k_ => some k_ ≠ (.slice Ao52 t307.length co52 : Value).ownBlock ∧ some k_ ≠ (.slice Ao62 t312.length co62 : Value).ownBlock ∧ some k_ ≠ (.slice Ao72 t317.length co72 : Value).ownBlock ∧ some k_ ≠ (.slice Ao111 t324.length co111 : Value).ownBlock ∧ some k_ ≠ (.slice Ao115 t329.length co115 : Value).ownBlock ∧ k_ ≠ gb288 ∧ k_ ≠ gb289 ∧ k_ ≠ gb305 ∧ k_ ≠ gb310 ∧ k_ ≠ gb315 ∧ k_ ≠ gb321 ∧ k_ ≠ dmO N367_ k_ ∧ k_ ≠ dmO N369_ k_ ∧ k_ ≠ dmO N371_ k_ ∧ k_ ≠ dmO N373_ k_ ∧ k_ ≠ dmO N375_ k_) (Kd.zd4 (HO_1003.out) hkp (fun k_ hk_ hs_ => dmNo hs_.1.2.2.2.2.1 hk_.2.2.2.2.2.2.2.2.2.2.2.2.1)) bq); (first | have n1_ := ax (Kd.zaZ (ok' := fun k_ => some k_ ≠ (.slice Ao62 t312.length co62 : Value).ownBlock ∧ some k_ ≠ (.slice Ao72 t317.length co72 : Value).ownBlock ∧ some k_ ≠ (.slice Ao111 t324.length co111 : Value).ownBlock ∧ some k_ ≠ (.slice Ao115 t329.length co115 : Value).ownBlock ∧ k_ ≠ dmI N367_ k_ ∧ k_ ≠ dmO N369_ k_ ∧ k_ ≠ dmO N371_ k_ ∧ k_ ≠ dmO N373_ k_ ∧ k_ ≠ dmO N375_ k_) (Kd.zbO (HO_1000.out) hkp (fun k_ hk_ hs_ => dmNo hs_.1.2.2.2.2.1 hk_.1.1.1.1.2.2.2.1)) bq) | have n1_ := ax (Kd.zaZ (ok' := fun k_ => some k_ ≠ (.slice Ao62 t312.length co62 : Value).ownBlock ∧ some k_ ≠ (.slice Ao72 t317.length co72 : Value).ownBlock ∧ some k_ ≠ (.slice Ao111 t324.length co111 : Value).ownBlock ∧ some k_ ≠ (.slice Ao115 t329.length co115 : Value).ownBlock ∧ k_ ≠ dmI N367_ k_ ∧ k_ ≠ dmO N369_ k_ ∧ k_ ≠ dmO N371_ k_ ∧ k_ ≠ dmO N373_ k_ ∧ k_ ≠ dmO N375_ k_) (Kd.zbO (Kd.zaD HO_1000.out _) hkp (fun k_ hk_ hs_ => dmNo hs_.1.2.2.2.2.1 hk_.1.1.1.1.2.2.2.1)) bq)); have n2_ := ax (Kd.zaZ hy0 (fun k_ hk_ => hk_.1)); (first | have n3_ := ax (Kd.zaZ (ok' := fun k_ => some k_ ≠ (.slice Ao52 t307.length co52 : Value).ownBlock ∧ some k_ ≠ (.slice Ao62 t312.length co62 : Value).ownBlock ∧ some k_ ≠ (.slice Ao111 t324.length co111 : Value).ownBlock ∧ some k_ ≠ (.slice Ao115 t329.length co115 : Value).ownBlock ∧ k_ ≠ dmI N371_ k_ ∧ k_ ≠ dmO N373_ k_ ∧ k_ ≠ dmO N375_ k_) (Kd.zbO (HO_1001.out) hkp (fun k_ hk_ hs_ => dmNo hk_.2.2.2.2.1 hs_.1.2.2.2.2.2.1)) bq) | have n3_ := ax (Kd.zaZ (ok' := fun k_ => some k_ ≠ (.slice Ao52 t307.length co52 : Value).ownBlock ∧ some k_ ≠ (.slice Ao62 t312.length co62 : Value).ownBlock ∧ some k_ ≠ (.slice Ao111 t324.length co111 : Value).ownBlock ∧ some k_ ≠ (.slice Ao115 t329.length co115 : Value).ownBlock ∧ k_ ≠ dmI N371_ k_ ∧ k_ ≠ dmO N373_ k_ ∧ k_ ≠ dmO N375_ k_) (Kd.zbO (Kd.zaD HO_1001.out _) hkp (fun k_ hk_ hs_ => dmNo hk_.2.2.2.2.1 hs_.1.2.2.2.2.2.1)) bq)); have n4_ := ax (zbh (xk BK288.out) hkp (fun hs_ => zcu BK288.out hs_.2 (by decide))); have n5_ := ax (zbh (xk BK289.out) hkp (fun hs_ => zcu BK289.out hs_.2 (by decide))); have n6_ := ax (zbh (xk BK305.out) hkp (fun hs_ => zcu BK305.out hs_.2 (by decide))); have n7_ := ax (zbh (xk BK310.out) hkp (fun hs_ => zcu BK310.out hs_.2 (by decide))); have n8_ := ax (zbh (xk BK315.out) hkp (fun hs_ => zcu BK315.out hs_.2 (by decide))); have n9_ := ax (zbh (xk BK321.out) hkp (fun hs_ => zcu BK321.out hs_.2 (by decide))); (first | have n10_ := ax (Kd.zaZ (ok' := fun k_ => some k_ ≠ (.slice Ao52 t307.length co52 : Value).ownBlock ∧ some k_ ≠ (.slice Ao62 t312.length co62 : Value).ownBlock ∧ some k_ ≠ (.slice Ao72 t317.length co72 : Value).ownBlock ∧ some k_ ≠ (.slice Ao115 t329.length co115 : Value).ownBlock ∧ k_ ≠ dmI N373_ k_ ∧ k_ ≠ dmO N375_ k_) (Kd.zbO (HO326.out) hkp (fun k_ hk_ hs_ => dmNo hk_.2.2.2.2.1 hs_.1.2.2.2.2.2.2.1)) bq) | have n10_ := ax (Kd.zaZ (ok' := fun k_ => some k_ ≠ (.slice Ao52 t307.length co52 : Value).ownBlock ∧ some k_ ≠ (.slice Ao62 t312.length co62 : Value).ownBlock ∧ some k_ ≠ (.slice Ao72 t317.length co72 : Value).ownBlock ∧ some k_ ≠ (.slice Ao115 t329.length co115 : Value).ownBlock ∧ k_ ≠ dmI N373_ k_ ∧ k_ ≠ dmO N375_ k_) (Kd.zbO (Kd.zaD HO326.out _) hkp (fun k_ hk_ hs_ => dmNo hk_.2.2.2.2.1 hs_.1.2.2.2.2.2.2.1)) bq)); (first | have n11_ := ax (Kd.zaZ (ok' := fun k_ => some k_ ≠ (.slice Ao52 t307.length co52 : Value).ownBlock ∧ some k_ ≠ (.slice Ao62 t312.length co62 : Value).ownBlock ∧ some k_ ≠ (.slice Ao72 t317.length co72 : Value).ownBlock ∧ some k_ ≠ (.slice Ao111 t324.length co111 : Value).ownBlock ∧ k_ ≠ dmI N375_ k_) (Kd.zbO (HO331.out) hkp (fun k_ hk_ hs_ => dmNo hk_.2.2.2.2 hs_.1.2.2.2.2.2.2.2)) (fun k_ hk_ => ⟨hk_.1.1, hk_.1.2.1, hk_.1.2.2.1, hk_.1.2.2.2.1, hk_.1.2.2.2.2⟩)) | have n11_ := ax (Kd.zaZ (ok' := fun k_ => some k_ ≠ (.slice Ao52 t307.length co52 : Value).ownBlock ∧ some k_ ≠ (.slice Ao62 t312.length co62 : Value).ownBlock ∧ some k_ ≠ (.slice Ao72 t317.length co72 : Value).ownBlock ∧ some k_ ≠ (.slice Ao111 t324.length co111 : Value).ownBlock ∧ k_ ≠ dmI N375_ k_) (Kd.zbO (Kd.zaD HO331.out _) hkp (fun k_ hk_ hs_ => dmNo hk_.2.2.2.2 hs_.1.2.2.2.2.2.2.2)) (fun k_ hk_ => ⟨hk_.1.1, hk_.1.2.1, hk_.1.2.2.1, hk_.1.2.2.2.1, hk_.1.2.2.2.2⟩))); have n12_ := ax (hb); clear HO_1003; clear HO_1000; clear HO_1002; clear HO_1001; clear BK288; clear BK289; clear BK305; clear BK310; clear BK315; clear BK321; clear HO326; clear HO331; clear HB; have HO_1003 := n0_; have HO_1000 := n1_; have HO_1002 := n2_; have HO_1001 := n3_; have BK288 := n4_; have BK289 := n5_; have BK305 := n6_; have BK310 := n7_; have BK315 := n8_; have BK321 := n9_; have HO326 := n10_; have HO331 := n11_; have HB := n12_; clear n0_ n1_ n2_ n3_ n4_ n5_ n6_ n7_ n8_ n9_ n10_ n11_ n12_; (try clear hb); (try clear hkp); (try clear hy0)))
        (try simp only [Act.put, List.setIfInBounds_toArray, List.set_cons_zero, List.set_cons_succ])
        go_cut [82] (fun v82 wc => ∃ (kq : Nat) (x82_107 : Bool), v82 = .bool x82_107 ∧ zap (zak.j1 kq t304 x82_107 a0_0 l0_1 a1_0 l1_1 t300 t301 t316 t317 = some r) ∧ zap (kq ≤ kj24) ∧ zap (Kd.V k48 48 wc w.heap.size (fun k_ => some k_ ≠ ((.slice Ao52 t307.length co52) : Value).ownBlock ∧ some k_ ≠ ((.slice Ao62 t312.length co62) : Value).ownBlock ∧ some k_ ≠ ((.slice Ao72 t317.length co72) : Value).ownBlock ∧ k_ ≠ gb288 ∧ k_ ≠ gb289 ∧ k_ ≠ gb305 ∧ k_ ≠ gb310 ∧ k_ ≠ gb315 ∧ k_ ≠ gb321 ∧ k_ ≠ dmO N367_ k_ ∧ k_ ≠ dmO N369_ k_ ∧ k_ ≠ dmO N371_ k_ ∧ k_ ≠ dmO N373_ k_ ∧ k_ ≠ dmO N375_ k_) (.slice Ao42 t301.length co42) t301) ∧ zap (Kd.S k48 48 wc w.heap.size (fun k_ => some k_ ≠ ((.slice Ao62 t312.length co62) : Value).ownBlock ∧ some k_ ≠ ((.slice Ao72 t317.length co72) : Value).ownBlock ∧ k_ ≠ dmI N367_ k_ ∧ k_ ≠ dmO N369_ k_ ∧ k_ ≠ dmO N371_ k_ ∧ k_ ≠ dmO N373_ k_ ∧ k_ ≠ dmO N375_ k_) (.slice Ao52 t307.length co52) t334) ∧ zap (Kd.S k48 48 wc w.heap.size (fun k_ => some k_ ≠ ((.slice Ao52 t307.length co52) : Value).ownBlock ∧ some k_ ≠ ((.slice Ao72 t317.length co72) : Value).ownBlock ∧ k_ ≠ dmI N369_ k_ ∧ k_ ≠ dmO N371_ k_ ∧ k_ ≠ dmO N373_ k_ ∧ k_ ≠ dmO N375_ k_) (.slice Ao62 t312.length co62) t336) ∧ zap (Kd.S k48 48 wc w.heap.size (fun k_ => some k_ ≠ ((.slice Ao52 t307.length co52) : Value).ownBlock ∧ some k_ ≠ ((.slice Ao62 t312.length co62) : Value).ownBlock ∧ k_ ≠ dmI N371_ k_ ∧ k_ ≠ dmO N373_ k_ ∧ k_ ≠ dmO N375_ k_) (.slice Ao72 t317.length co72) t317) ∧ zap (wc.heap[gb288]? = some (.cells #[.int .i64 a0_0, (.slice A0_1 l0_1.length c0_1)] 24 (0, 0))) ∧ zap (wc.heap[gb289]? = some (.cells #[.int .i64 a1_0, (.slice A1_1 l1_1.length c1_1)] 24 (0, 0))) ∧ zap (wc.heap[gb305]? = some (.cells #[.int .i64 t300, (.slice Ao42 t301.length co42)] 28 (0, 0))) ∧ zap (wc.heap[gb310]? = some (.cells #[.int .i64 t306, (.slice Ao52 t307.length co52)] 28 (0, 0))) ∧ zap (wc.heap[gb315]? = some (.cells #[.int .i64 t311, (.slice Ao62 t312.length co62)] 28 (0, 0))) ∧ zap (wc.heap[gb321]? = some (.cells #[.int .i64 t316, (.slice Ao72 t317.length co72)] 28 (0, 0))) ∧ zap (Below w.heap.size w wc))
        case first =>
         have H := HC108.out
         clear HC108
         by_cases c130 : t335 < 0
         ·rw [if_pos c130] at H
          have c130b0 := decide_eq_true c130
          clear c130
          (first | rw [c130b0] | (simp only [zbZ, zcd]; rw [c130b0]) | skip)
          have H' := ax H
          clear H
          go_wp2
          go_meet
          case rel => exact ⟨_, (true), xr, H', ⟨by have := HJ24.out; first | omega | exact Nat.le_refl _⟩, ⟨by (with_reducible repeat (first | apply Kd.zbr | apply Kd.zbq | apply Kd.zbm)); exact Kd.zaP HO_1003.out bq⟩, ⟨by (with_reducible repeat (first | apply Kd.zaH | apply Kd.zaD | apply Kd.zaK)); exact Kd.zaZ HO_1000.out bq⟩, ⟨by (with_reducible repeat (first | apply Kd.zaH | apply Kd.zaD | apply Kd.zaK)); exact Kd.zaZ HO_1002.out bq⟩, ⟨by (with_reducible repeat (first | apply Kd.zaH | apply Kd.zaD | apply Kd.zaK)); exact Kd.zaZ HO_1001.out (fun _ hk => ⟨hk.1, ⟨hk.2.1, ⟨hk.2.2.2.2.1, ⟨hk.2.2.2.2.2.1, hk.2.2.2.2.2.2⟩⟩⟩⟩)⟩, ⟨xk BK288.out⟩, ⟨xk BK289.out⟩, ⟨xk BK305.out⟩, ⟨xk BK310.out⟩, ⟨xk BK315.out⟩, ⟨xk BK321.out⟩, ⟨bh HB.out⟩⟩
         ·rw [if_neg c130] at H
          have c130b0 := decide_eq_false c130
          clear c130
          (first | rw [c130b0] | (simp only [zbZ, zcd]; rw [c130b0]) | skip)
          obtain ⟨t337, A131, H⟩ := xI H
          by_cases c132 : t337 = true
          ·subst c132
           rw [if_pos rfl] at H
           have H' := ax H
           clear H
           have hnb133 := NB321_288.out
           have hnc133 := NB288_321.out
           have hnb134 := NB321_289.out
           have hnc134 := NB289_321.out
           have hnb135 := NB321_305.out
           have hnc135 := NB305_321.out
           have hnb136 := NB321_310.out
           have hnc136 := NB310_321.out
           have hnb137 := NB321_315.out
           have hnc137 := NB315_321.out
           have hcz138_0 := bc0 BK321.out
           have hcz138_1 := bc1 BK321.out
           have hfz138_0 := zae BK321.out 0
           have hfz138_1 := zae BK321.out 1
           have hnb139 := NB305_288.out
           have hnc139 := NB288_305.out
           have hnb140 := NB305_289.out
           have hnc140 := NB289_305.out
           have hnb141 := NB305_310.out
           have hnc141 := NB310_305.out
           have hnb142 := NB305_315.out
           have hnc142 := NB315_305.out
           have hcz143_0 := bc0 BK305.out
           have hcz143_1 := bc1 BK305.out
           have hfz143_0 := zae BK305.out 0
           have hfz143_1 := zae BK305.out 1
           go_wp2_with (first | (go_at_call 11; (with_reducible refine (zbd.calls kj24 t316 _ _ t317 t300 _ _ t301 true _ ?side1 ?side2 ?side3 ?side4 A131.out).mono ?_); (case side1 => exact xc (Kd.zaG HO_1001.out).2.2); (case side2 => exact (Kd.zaG HO_1001.out).2.1); (case side3 => exact xc (Kd.za2 HO_1003.out).2.2); (case side4 => exact (Kd.za2 HO_1003.out).2.1); rintro e w144 ⟨rfl, hb⟩; replace HO_1003 := yV HO_1003 hb; replace HO_1000 := ax (Kd.zaF (xS HO_1000.out) hb); replace HO_1002 := ax (Kd.zaF (xS HO_1002.out) hb); replace HO_1001 := ax (Kd.zaF (xS HO_1001.out) hb); replace HO326 := ax (Kd.zaF (xS HO326.out) hb); replace HO331 := ax (Kd.zaF (xS HO331.out) hb); replace BK288 := ax (bb BK288.out hb); replace BK289 := ax (bb BK289.out hb); replace BK305 := ax (bb BK305.out hb); replace BK310 := ax (bb BK310.out hb); replace BK315 := ax (bb BK315.out hb); replace BK321 := ax (bb BK321.out hb); replace HB := ax (zar (bh HB.out) hb); (try clear hb)))
           go_meet
           case rel => exact ⟨_, ((t320 != t304)), xr, H', ⟨by have := HJ24.out; first | omega | exact Nat.le_refl _⟩, ⟨by (with_reducible repeat (first | apply Kd.zbr | apply Kd.zbq | apply Kd.zbm)); exact Kd.zaP HO_1003.out bq⟩, ⟨by (with_reducible repeat (first | apply Kd.zaH | apply Kd.zaD | apply Kd.zaK)); exact Kd.zaZ HO_1000.out bq⟩, ⟨by (with_reducible repeat (first | apply Kd.zaH | apply Kd.zaD | apply Kd.zaK)); exact Kd.zaZ HO_1002.out bq⟩, ⟨by (with_reducible repeat (first | apply Kd.zaH | apply Kd.zaD | apply Kd.zaK)); exact Kd.zaZ HO_1001.out (fun _ hk => ⟨hk.1, ⟨hk.2.1, ⟨hk.2.2.2.2.1, ⟨hk.2.2.2.2.2.1, hk.2.2.2.2.2.2⟩⟩⟩⟩)⟩, ⟨xk BK288.out⟩, ⟨xk BK289.out⟩, ⟨xk BK305.out⟩, ⟨xk BK310.out⟩, ⟨xk BK315.out⟩, ⟨xk BK321.out⟩, ⟨bh HB.out⟩⟩
          ·replace c132 := Bool.eq_false_iff.mpr c132
           subst c132
           rw [if_neg (show ¬ (false = true) by decide)] at H
           have H' := ax H
           clear H
           have hnb145 := NB321_288.out
           have hnc145 := NB288_321.out
           have hnb146 := NB321_289.out
           have hnc146 := NB289_321.out
           have hnb147 := NB321_305.out
           have hnc147 := NB305_321.out
           have hnb148 := NB321_310.out
           have hnc148 := NB310_321.out
           have hnb149 := NB321_315.out
           have hnc149 := NB315_321.out
           have hcz150_0 := bc0 BK321.out
           have hcz150_1 := bc1 BK321.out
           have hfz150_0 := zae BK321.out 0
           have hfz150_1 := zae BK321.out 1
           have hnb151 := NB305_288.out
           have hnc151 := NB288_305.out
           have hnb152 := NB305_289.out
           have hnc152 := NB289_305.out
           have hnb153 := NB305_310.out
           have hnc153 := NB310_305.out
           have hnb154 := NB305_315.out
           have hnc154 := NB315_305.out
           have hcz155_0 := bc0 BK305.out
           have hcz155_1 := bc1 BK305.out
           have hfz155_0 := zae BK305.out 0
           have hfz155_1 := zae BK305.out 1
           go_wp2_with (first | (go_at_call 11; (with_reducible refine (zbd.calls kj24 t316 _ _ t317 t300 _ _ t301 false _ ?side1 ?side2 ?side3 ?side4 A131.out).mono ?_); (case side1 => exact xc (Kd.zaG HO_1001.out).2.2); (case side2 => exact (Kd.zaG HO_1001.out).2.1); (case side3 => exact xc (Kd.za2 HO_1003.out).2.2); (case side4 => exact (Kd.za2 HO_1003.out).2.1); rintro e w156 ⟨rfl, hb⟩; replace HO_1003 := yV HO_1003 hb; replace HO_1000 := ax (Kd.zaF (xS HO_1000.out) hb); replace HO_1002 := ax (Kd.zaF (xS HO_1002.out) hb); replace HO_1001 := ax (Kd.zaF (xS HO_1001.out) hb); replace HO326 := ax (Kd.zaF (xS HO326.out) hb); replace HO331 := ax (Kd.zaF (xS HO331.out) hb); replace BK288 := ax (bb BK288.out hb); replace BK289 := ax (bb BK289.out hb); replace BK305 := ax (bb BK305.out hb); replace BK310 := ax (bb BK310.out hb); replace BK315 := ax (bb BK315.out hb); replace BK321 := ax (bb BK321.out hb); replace HB := ax (zar (bh HB.out) hb); (try clear hb)))
           go_meet
           case rel => exact ⟨_, (true), xr, H', ⟨by have := HJ24.out; first | omega | exact Nat.le_refl _⟩, ⟨by (with_reducible repeat (first | apply Kd.zbr | apply Kd.zbq | apply Kd.zbm)); exact Kd.zaP HO_1003.out bq⟩, ⟨by (with_reducible repeat (first | apply Kd.zaH | apply Kd.zaD | apply Kd.zaK)); exact Kd.zaZ HO_1000.out bq⟩, ⟨by (with_reducible repeat (first | apply Kd.zaH | apply Kd.zaD | apply Kd.zaK)); exact Kd.zaZ HO_1002.out bq⟩, ⟨by (with_reducible repeat (first | apply Kd.zaH | apply Kd.zaD | apply Kd.zaK)); exact Kd.zaZ HO_1001.out (fun _ hk => ⟨hk.1, ⟨hk.2.1, ⟨hk.2.2.2.2.1, ⟨hk.2.2.2.2.2.1, hk.2.2.2.2.2.2⟩⟩⟩⟩)⟩, ⟨xk BK288.out⟩, ⟨xk BK289.out⟩, ⟨xk BK305.out⟩, ⟨xk BK310.out⟩, ⟨xk BK315.out⟩, ⟨xk BK321.out⟩, ⟨bh HB.out⟩⟩
        case rest =>
         clear HC108
         (try clear c11); (try clear c99); (try clear c102); (try clear c105); (try clear c130); (try clear c130b0); (try clear c132); (try clear hcz122_0); (try clear hcz122_1); (try clear hcz128_0); (try clear hcz128_1); (try clear hcz138_0); (try clear hcz138_1); (try clear hcz143_0); (try clear hcz143_1); (try clear hcz150_0); (try clear hcz150_1); (try clear hcz155_0); (try clear hcz155_1); (try clear hcz45_0); (try clear hcz45_1); (try clear hcz51_0); (try clear hcz51_1); (try clear hcz54_0); (try clear hcz54_1); (try clear hcz61_0); (try clear hcz61_1); (try clear hcz63_0); (try clear hcz63_1); (try clear hcz71_0); (try clear hcz71_1); (try clear hcz80_0); (try clear hcz80_1); (try clear hcz85_0); (try clear hcz85_1); (try clear hcz92_0); (try clear hcz92_1); (try clear hcz97_0); (try clear hcz97_1); (try clear hfz122_0); (try clear hfz122_1); (try clear hfz128_0); (try clear hfz128_1); (try clear hfz138_0); (try clear hfz138_1); (try clear hfz143_0); (try clear hfz143_1); (try clear hfz150_0); (try clear hfz150_1); (try clear hfz155_0); (try clear hfz155_1); (try clear hfz45_0); (try clear hfz45_1); (try clear hfz51_0); (try clear hfz51_1); (try clear hfz54_0); (try clear hfz54_1); (try clear hfz61_0); (try clear hfz61_1); (try clear hfz63_0); (try clear hfz63_1); (try clear hfz71_0); (try clear hfz71_1); (try clear hfz80_0); (try clear hfz80_1); (try clear hfz85_0); (try clear hfz85_1); (try clear hfz92_0); (try clear hfz92_1); (try clear hfz97_0); (try clear hfz97_1)
         obtain ⟨kq, x82_107, rfl, HA, HJ107, HO_1003, HO_1000, HO_1002, HO_1001, BK288, BK289, BK305, BK310, BK315, BK321, HB⟩ := hcut
         have hl1000_107 := (Kd.zaG HO_1000.out).1
         rw [hl1000_107] at HO_1000
         (try simp only [hl1000_107])
         (try simp only [hl1000_107] at BK288)
         (try simp only [hl1000_107] at BK289)
         (try simp only [hl1000_107] at BK305)
         (try simp only [hl1000_107] at BK310)
         (try simp only [hl1000_107] at BK315)
         (try simp only [hl1000_107] at BK321)
         (try simp only [hl1000_107] at HO_1003)
         (try simp only [hl1000_107] at HO_1002)
         (try simp only [hl1000_107] at HO_1001)
         have hl1002_107 := (Kd.zaG HO_1002.out).1
         rw [hl1002_107] at HO_1002
         (try simp only [hl1002_107])
         (try simp only [hl1002_107] at BK288)
         (try simp only [hl1002_107] at BK289)
         (try simp only [hl1002_107] at BK305)
         (try simp only [hl1002_107] at BK310)
         (try simp only [hl1002_107] at BK315)
         (try simp only [hl1002_107] at BK321)
         (try simp only [hl1002_107] at HO_1003)
         (try simp only [hl1002_107] at HO_1000)
         (try simp only [hl1002_107] at HO_1001)
         cases kq with
         | zero => exact absurd HA.out (by simp [zak.j1])
         | succ kj107 =>
          have H := HA.out
          clear HA
          simp only [zak.j1] at H
          by_cases c157 : x82_107 = true
          ·subst c157
           rw [if_pos rfl] at H
           obtain rfl := Option.some.inj H
           go_wp2
           go_ret
           exact ⟨xe, bh HB.out⟩
          ·replace c157 := Bool.eq_false_iff.mpr c157
           subst c157
           rw [if_neg (show ¬ (false = true) by decide)] at H
           obtain ⟨⟨t338, t339⟩, A158, H⟩ := xI H
           dsimp only at H
           obtain ⟨t340, A159, H⟩ := xI H
           by_cases c160 : t340 < 0
           ·rw [if_pos c160] at H
            have c160b0 := decide_eq_true c160
            clear c160
            obtain rfl := Option.some.inj H
            have hnb161 := NB321_288.out
            have hnc161 := NB288_321.out
            have hnb162 := NB321_289.out
            have hnc162 := NB289_321.out
            have hnb163 := NB321_305.out
            have hnc163 := NB305_321.out
            have hnb164 := NB321_310.out
            have hnc164 := NB310_321.out
            have hnb165 := NB321_315.out
            have hnc165 := NB315_321.out
            have hcz166_0 := bc0 BK321.out
            have hcz166_1 := bc1 BK321.out
            have hfz166_0 := zae BK321.out 0
            have hfz166_1 := zae BK321.out 1
            go_wp2_with (first | ((with_reducible refine zas (f := 12) rfl ?_); refine za3 (some 85) rfl rfl Try.func12 (by kernel_rfl) rfl #[.agg #[.int .i64 t316, .slice Ao72 t317.length co72], .int .i64 1] rfl xm ?_; (with_reducible refine (zbn.calls kj107 t316 ?pp3_ (.slice Ao72 t317.length co72) t317 1 t338 t339 w _ ?side1 ?side2 A158.out).mono ?_); (case side1 => exact bh HB.out); (case side2 => first | exact Kd.zcC HO_1001.out | (refine Kd.zcC ?_; (with_reducible repeat (first | apply Kd.zaH | apply Kd.zaD | apply Kd.zaK)); exact HO_1001.out)); rintro e w167 ⟨rfl, hy0, hb, hkp⟩; refine ⟨_, rfl, ?_⟩; have n0_ := ax (Kd.zaP (ok' := fun k_ => some k_ ≠ (.slice Ao52 t334.length co52 : Value).ownBlock ∧ some k_ ≠ (.slice Ao62 t336.length co62 : Value).ownBlock ∧ some k_ ≠ (.slice Ao72 t317.length co72 : Value).ownBlock ∧ k_ ≠ gb288 ∧ k_ ≠ gb289 ∧ k_ ≠ gb305 ∧ k_ ≠ gb310 ∧ k_ ≠ gb315 ∧ k_ ≠ gb321 ∧ k_ ≠ dmO N367_ k_ ∧ k_ ≠ dmO N369_ k_ ∧ k_ ≠ dmO N371_ k_ ∧ k_ ≠ dmO N373_ k_ ∧ k_ ≠ dmO N375_ k_) (Kd.zd4 (HO_1003.out) hkp (fun k_ hk_ hs_ => dmNo hs_.1.2.2.1 hk_.2.2.2.2.2.2.2.2.2.2.2.1)) bq); (first | have n1_ := ax (Kd.zaZ (ok' := fun k_ => some k_ ≠ (.slice Ao62 t336.length co62 : Value).ownBlock ∧ some k_ ≠ (.slice Ao72 t317.length co72 : Value).ownBlock ∧ k_ ≠ dmI N367_ k_ ∧ k_ ≠ dmO N369_ k_ ∧ k_ ≠ dmO N371_ k_ ∧ k_ ≠ dmO N373_ k_ ∧ k_ ≠ dmO N375_ k_) (Kd.zbO (HO_1000.out) hkp (fun k_ hk_ hs_ => dmNo hs_.1.2.2.1 hk_.2.2.2.2.1)) bq) | have n1_ := ax (Kd.zaZ (ok' := fun k_ => some k_ ≠ (.slice Ao62 t336.length co62 : Value).ownBlock ∧ some k_ ≠ (.slice Ao72 t317.length co72 : Value).ownBlock ∧ k_ ≠ dmI N367_ k_ ∧ k_ ≠ dmO N369_ k_ ∧ k_ ≠ dmO N371_ k_ ∧ k_ ≠ dmO N373_ k_ ∧ k_ ≠ dmO N375_ k_) (Kd.zbO (Kd.zaD HO_1000.out _) hkp (fun k_ hk_ hs_ => dmNo hs_.1.2.2.1 hk_.2.2.2.2.1)) bq)); (first | have n2_ := ax (Kd.zaZ (ok' := fun k_ => some k_ ≠ (.slice Ao52 t334.length co52 : Value).ownBlock ∧ some k_ ≠ (.slice Ao72 t317.length co72 : Value).ownBlock ∧ k_ ≠ dmI N369_ k_ ∧ k_ ≠ dmO N371_ k_ ∧ k_ ≠ dmO N373_ k_ ∧ k_ ≠ dmO N375_ k_) (Kd.zbO (HO_1002.out) hkp (fun k_ hk_ hs_ => dmNo hs_.1.2.2.1 hk_.2.2.2.1)) bq) | have n2_ := ax (Kd.zaZ (ok' := fun k_ => some k_ ≠ (.slice Ao52 t334.length co52 : Value).ownBlock ∧ some k_ ≠ (.slice Ao72 t317.length co72 : Value).ownBlock ∧ k_ ≠ dmI N369_ k_ ∧ k_ ≠ dmO N371_ k_ ∧ k_ ≠ dmO N373_ k_ ∧ k_ ≠ dmO N375_ k_) (Kd.zbO (Kd.zaD HO_1002.out _) hkp (fun k_ hk_ hs_ => dmNo hs_.1.2.2.1 hk_.2.2.2.1)) bq)); have n3_ := ax (Kd.zaZ hy0 (fun k_ hk_ => hk_.1)); have n4_ := ax (zbh (xk BK288.out) hkp (fun hs_ => zcu BK288.out hs_.2 (by decide))); have n5_ := ax (zbh (xk BK289.out) hkp (fun hs_ => zcu BK289.out hs_.2 (by decide))); have n6_ := ax (zbh (xk BK305.out) hkp (fun hs_ => zcu BK305.out hs_.2 (by decide))); have n7_ := ax (zbh (xk BK310.out) hkp (fun hs_ => zcu BK310.out hs_.2 (by decide))); have n8_ := ax (zbh (xk BK315.out) hkp (fun hs_ => zcu BK315.out hs_.2 (by decide))); have n9_ := ax (zbh (xk BK321.out) hkp (fun hs_ => zcu BK321.out hs_.2 (by decide))); have n10_ := ax (hb); clear HO_1003; clear HO_1000; clear HO_1002; clear HO_1001; clear BK288; clear BK289; clear BK305; clear BK310; clear BK315; clear BK321; clear HB; have HO_1003 := n0_; have HO_1000 := n1_; have HO_1002 := n2_; have HO_1001 := n3_; have BK288 := n4_; have BK289 := n5_; have BK305 := n6_; have BK310 := n7_; have BK315 := n8_; have BK321 := n9_; have HB := n10_; clear n0_ n1_ n2_ n3_ n4_ n5_ n6_ n7_ n8_ n9_ n10_; (try clear hb); (try clear hkp); (try clear hy0); have hcz168_0 := bc0 BK321.out; have hcz168_1 := bc1 BK321.out; have hfz168_0 := zae BK321.out 0; have hfz168_1 := zae BK321.out 1) | ((with_reducible refine zas (f := 13) rfl ?_); refine za3 (some 88) rfl rfl Try.func13 (by kernel_rfl) rfl #[.agg #[.int .i64 t316, .slice Ao72 t339.length co72], .int .i64 1] rfl (by (try simp only [List.map_toArray, List.map_cons, List.map_nil]); first | done | (rw [show t339.length = t317.length from (Kd.zaG HO_1001.out).1.symm] <;> rfl) | rfl | (simp only [List.length_drop, List.length_take]; rfl)) ?_; (with_reducible refine (zbo.calls kj107 t316 _ _ t339 1 t340 _ ?side1 ?side2 A159.out).mono ?_); (case side1 => exact xc (Kd.zaG HO_1001.out).2.2); (case side2 => rw [show t339.length = t317.length from (Kd.zaG HO_1001.out).1.symm]; exact (Kd.zaG HO_1001.out).2.1); rintro e w169 ⟨rfl, hb⟩; refine ⟨_, rfl, ?_⟩; replace HO_1003 := yV HO_1003 hb; replace HO_1000 := ax (Kd.zaF (xS HO_1000.out) hb); replace HO_1002 := ax (Kd.zaF (xS HO_1002.out) hb); replace HO_1001 := ax (Kd.zaF (xS HO_1001.out) hb); replace BK288 := ax (bb BK288.out hb); replace BK289 := ax (bb BK289.out hb); replace BK305 := ax (bb BK305.out hb); replace BK310 := ax (bb BK310.out hb); replace BK315 := ax (bb BK315.out hb); replace BK321 := ax (bb BK321.out hb); replace HB := ax (zar (bh HB.out) hb); (try clear hb)))
            go_ret
            exact ⟨xe, bh HB.out⟩
           ·rw [if_neg c160] at H
            have c160b0 := decide_eq_false c160
            clear c160
            by_cases c170 : t340 = t338
            ·rw [if_pos c170] at H
             have c170b0 : (t340 == t338) = true := beq_iff_eq.mpr c170
             have c170b1 : (t340 != t338) = false := bne_eq_false_iff_eq.mpr c170
             clear c170
             obtain ⟨⟨t341, t342⟩, A171, H⟩ := xI H
             dsimp only at H
             obtain ⟨⟨t345, t346⟩, A172, H⟩ := xI H
             dsimp only at H
             obtain ⟨⟨t349, t350, t353⟩, A173, H⟩ := xI H
             dsimp only at H
             have HC174 := ax H
             clear H
             have hnb175 := NB321_288.out
             have hnc175 := NB288_321.out
             have hnb176 := NB321_289.out
             have hnc176 := NB289_321.out
             have hnb177 := NB321_305.out
             have hnc177 := NB305_321.out
             have hnb178 := NB321_310.out
             have hnc178 := NB310_321.out
             have hnb179 := NB321_315.out
             have hnc179 := NB315_321.out
             have hcz180_0 := bc0 BK321.out
             have hcz180_1 := bc1 BK321.out
             have hfz180_0 := zae BK321.out 0
             have hfz180_1 := zae BK321.out 1
             try go_wp2_with (first | ((with_reducible refine zas (f := 12) rfl ?_); refine za3 (some 85) rfl rfl Try.func12 (by kernel_rfl) rfl #[.agg #[.int .i64 t316, .slice Ao72 t317.length co72], .int .i64 1] rfl xm ?_; (with_reducible refine (zbn.calls kj107 t316 ?pp4_ (.slice Ao72 t317.length co72) t317 1 t338 t339 w _ ?side1 ?side2 A158.out).mono ?_); (case side1 => exact bh HB.out); (case side2 => first | exact Kd.zcC HO_1001.out | (refine Kd.zcC ?_; (with_reducible repeat (first | apply Kd.zaH | apply Kd.zaD | apply Kd.zaK)); exact HO_1001.out)); rintro e w181 ⟨rfl, hy0, hb, hkp⟩; refine ⟨_, rfl, ?_⟩; have n0_ := ax (Kd.zaP (ok' := fun k_ => some k_ ≠ (.slice Ao52 t334.length co52 : Value).ownBlock ∧ some k_ ≠ (.slice Ao62 t336.length co62 : Value).ownBlock ∧ some k_ ≠ (.slice Ao72 t317.length co72 : Value).ownBlock ∧ k_ ≠ gb288 ∧ k_ ≠ gb289 ∧ k_ ≠ gb305 ∧ k_ ≠ gb310 ∧ k_ ≠ gb315 ∧ k_ ≠ gb321 ∧ k_ ≠ dmO N367_ k_ ∧ k_ ≠ dmO N369_ k_ ∧ k_ ≠ dmO N371_ k_ ∧ k_ ≠ dmO N373_ k_ ∧ k_ ≠ dmO N375_ k_) (Kd.zd4 (HO_1003.out) hkp (fun k_ hk_ hs_ => dmNo hs_.1.2.2.1 hk_.2.2.2.2.2.2.2.2.2.2.2.1)) bq); (first | have n1_ := ax (Kd.zaZ (ok' := fun k_ => some k_ ≠ (.slice Ao62 t336.length co62 : Value).ownBlock ∧ some k_ ≠ (.slice Ao72 t317.length co72 : Value).ownBlock ∧ k_ ≠ dmI N367_ k_ ∧ k_ ≠ dmO N369_ k_ ∧ k_ ≠ dmO N371_ k_ ∧ k_ ≠ dmO N373_ k_ ∧ k_ ≠ dmO N375_ k_) (Kd.zbO (HO_1000.out) hkp (fun k_ hk_ hs_ => dmNo hs_.1.2.2.1 hk_.2.2.2.2.1)) bq) | have n1_ := ax (Kd.zaZ (ok' := fun k_ => some k_ ≠ (.slice Ao62 t336.length co62 : Value).ownBlock ∧ some k_ ≠ (.slice Ao72 t317.length co72 : Value).ownBlock ∧ k_ ≠ dmI N367_ k_ ∧ k_ ≠ dmO N369_ k_ ∧ k_ ≠ dmO N371_ k_ ∧ k_ ≠ dmO N373_ k_ ∧ k_ ≠ dmO N375_ k_) (Kd.zbO (Kd.zaD HO_1000.out _) hkp (fun k_ hk_ hs_ => dmNo hs_.1.2.2.1 hk_.2.2.2.2.1)) bq)); (first | have n2_ := ax (Kd.zaZ (ok' := fun k_ => some k_ ≠ (.slice Ao52 t334.length co52 : Value).ownBlock ∧ some k_ ≠ (.slice Ao72 t317.length co72 : Value).ownBlock ∧ k_ ≠ dmI N369_ k_ ∧ k_ ≠ dmO N371_ k_ ∧ k_ ≠ dmO N373_ k_ ∧ k_ ≠ dmO N375_ k_) (Kd.zbO (HO_1002.out) hkp (fun k_ hk_ hs_ => dmNo hs_.1.2.2.1 hk_.2.2.2.1)) bq) | have n2_ := ax (Kd.zaZ (ok' := fun k_ => some k_ ≠ (.slice Ao52 t334.length co52 : Value).ownBlock ∧ some k_ ≠ (.slice Ao72 t317.length co72 : Value).ownBlock ∧ k_ ≠ dmI N369_ k_ ∧ k_ ≠ dmO N371_ k_ ∧ k_ ≠ dmO N373_ k_ ∧ k_ ≠ dmO N375_ k_) (Kd.zbO (Kd.zaD HO_1002.out _) hkp (fun k_ hk_ hs_ => dmNo hs_.1.2.2.1 hk_.2.2.2.1)) bq)); have n3_ := ax (Kd.zaZ hy0 (fun k_ hk_ => hk_.1)); have n4_ := ax (zbh (xk BK288.out) hkp (fun hs_ => zcu BK288.out hs_.2 (by decide))); have n5_ := ax (zbh (xk BK289.out) hkp (fun hs_ => zcu BK289.out hs_.2 (by decide))); have n6_ := ax (zbh (xk BK305.out) hkp (fun hs_ => zcu BK305.out hs_.2 (by decide))); have n7_ := ax (zbh (xk BK310.out) hkp (fun hs_ => zcu BK310.out hs_.2 (by decide))); have n8_ := ax (zbh (xk BK315.out) hkp (fun hs_ => zcu BK315.out hs_.2 (by decide))); have n9_ := ax (zbh (xk BK321.out) hkp (fun hs_ => zcu BK321.out hs_.2 (by decide))); have n10_ := ax (hb); clear HO_1003; clear HO_1000; clear HO_1002; clear HO_1001; clear BK288; clear BK289; clear BK305; clear BK310; clear BK315; clear BK321; clear HB; have HO_1003 := n0_; have HO_1000 := n1_; have HO_1002 := n2_; have HO_1001 := n3_; have BK288 := n4_; have BK289 := n5_; have BK305 := n6_; have BK310 := n7_; have BK315 := n8_; have BK321 := n9_; have HB := n10_; clear n0_ n1_ n2_ n3_ n4_ n5_ n6_ n7_ n8_ n9_ n10_; (try clear hb); (try clear hkp); (try clear hy0); have hcz182_0 := bc0 BK321.out; have hcz182_1 := bc1 BK321.out; have hfz182_0 := zae BK321.out 0; have hfz182_1 := zae BK321.out 1) | ((with_reducible refine zas (f := 13) rfl ?_); refine za3 (some 88) rfl rfl Try.func13 (by kernel_rfl) rfl #[.agg #[.int .i64 t316, .slice Ao72 t339.length co72], .int .i64 1] rfl (by (try simp only [List.map_toArray, List.map_cons, List.map_nil]); first | done | (rw [show t339.length = t317.length from (Kd.zaG HO_1001.out).1.symm] <;> rfl) | rfl | (simp only [List.length_drop, List.length_take]; rfl)) ?_; (with_reducible refine (zbo.calls kj107 t316 _ _ t339 1 t340 _ ?side1 ?side2 A159.out).mono ?_); (case side1 => exact xc (Kd.zaG HO_1001.out).2.2); (case side2 => rw [show t339.length = t317.length from (Kd.zaG HO_1001.out).1.symm]; exact (Kd.zaG HO_1001.out).2.1); rintro e w183 ⟨rfl, hb⟩; refine ⟨_, rfl, ?_⟩; replace HO_1003 := yV HO_1003 hb; replace HO_1000 := ax (Kd.zaF (xS HO_1000.out) hb); replace HO_1002 := ax (Kd.zaF (xS HO_1002.out) hb); replace HO_1001 := ax (Kd.zaF (xS HO_1001.out) hb); replace BK288 := ax (bb BK288.out hb); replace BK289 := ax (bb BK289.out hb); replace BK305 := ax (bb BK305.out hb); replace BK310 := ax (bb BK310.out hb); replace BK315 := ax (bb BK315.out hb); replace BK321 := ax (bb BK321.out hb); replace HB := ax (zar (bh HB.out) hb); (try clear hb)))
             replace HO_1003 := ax (Kd.zbm HO_1003.out); replace HO_1000 := ax (Kd.zaK HO_1000.out); replace HO_1002 := ax (Kd.zaK HO_1002.out); replace HO_1001 := ax (Kd.zaK HO_1001.out); replace BK288 := ax (zaf BK288.out); replace BK289 := ax (zaf BK289.out); replace BK305 := ax (zaf BK305.out); replace BK310 := ax (zaf BK310.out); replace BK315 := ax (zaf BK315.out); replace BK321 := ax (zaf BK321.out); replace HB := ax (zaN HB.out)
             refine zbJ (n := 11) (S := fun w' => w'.cell? ⟨gb288, 0, none⟩ = some (.int .i64 a0_0) ∧ w'.cell? ⟨gb288, 1, none⟩ = some (.slice A0_1 l0_1.length c0_1) ∧ w'.cell? ⟨gb289, 0, none⟩ = some (.int .i64 a1_0) ∧ w'.cell? ⟨gb289, 1, none⟩ = some (.slice A1_1 l1_1.length c1_1)) (ds := []) (xB 11 0) (by kernel_rfl) rfl (by kernel_rfl) ⟨(zag BK288.out 0).trans rfl, (zag BK288.out 1).trans rfl, (zag BK289.out 0).trans rfl, (zag BK289.out 1).trans rfl⟩ (fun hHeld => ?_); refine zbg zak.zkj zak.zjQ (fun HT_ HW_ => ?_)
             generalize w183.drew = w184 at HO_1003 HO_1000 HO_1002 HO_1001 BK288 BK289 BK305 BK310 BK315 BK321 HB hHeld ⊢
             refine tk (i := 0) (N := some 95) (xB 11 1) HT_.out HW_.out hHeld ?_
             refine tk (i := 2) (N := some 97) (xB 11 5) HT_.out HW_.out hHeld ?_
             refine zjM (σ := Value × Value × Value × Nat) 2 (xB 11 511) (fun s_ => [(96, .agg #[.int .i64 t341, s_.1]), (98, .agg #[.int .i64 t345, s_.2.1]), (99, .tuple #[.agg #[.int .i64 t349, s_.2.2.1], .bool t353]), (15, .pointer (some ⟨s_.2.2.2, 0, none⟩)), (94, .tuple #[.agg #[.int .i64 t349, s_.2.2.1], .bool t353]), (100, .agg #[.int .i64 t349, s_.2.2.1]), (101, .bool t353)]) (fun s_ w' => (w'.cell? ⟨gb288, 0, none⟩ = some (.int .i64 a0_0) ∧ w'.cell? ⟨gb288, 1, none⟩ = some (.slice A0_1 l0_1.length c0_1) ∧ w'.cell? ⟨gb289, 0, none⟩ = some (.int .i64 a1_0) ∧ w'.cell? ⟨gb289, 1, none⟩ = some (.slice A1_1 l1_1.length c1_1)) ∧ (∃ N401_ N403_ N405_ : Nat, (Kd.S k48 48 w' w.heap.size (fun k_ => some k_ ≠ (s_.2.1 : Value).ownBlock ∧ some k_ ≠ (s_.2.2.1 : Value).ownBlock ∧ some k_ ≠ (.slice Ao52 t334.length co52 : Value).ownBlock ∧ some k_ ≠ (.slice Ao62 t336.length co62 : Value).ownBlock ∧ some k_ ≠ (.slice Ao72 t317.length co72 : Value).ownBlock ∧ k_ ≠ dmI N401_ k_ ∧ k_ ≠ dmO N403_ k_ ∧ k_ ≠ dmO N405_ k_) s_.1 t342) ∧ (Kd.S k48 48 w' w.heap.size (fun k_ => some k_ ≠ (s_.1 : Value).ownBlock ∧ some k_ ≠ (s_.2.2.1 : Value).ownBlock ∧ some k_ ≠ (.slice Ao52 t334.length co52 : Value).ownBlock ∧ some k_ ≠ (.slice Ao62 t336.length co62 : Value).ownBlock ∧ some k_ ≠ (.slice Ao72 t317.length co72 : Value).ownBlock ∧ k_ ≠ dmI N403_ k_ ∧ k_ ≠ dmO N405_ k_) s_.2.1 t346) ∧ (Kd.S k48 48 w' w.heap.size (fun k_ => some k_ ≠ (s_.1 : Value).ownBlock ∧ some k_ ≠ (s_.2.1 : Value).ownBlock ∧ some k_ ≠ (.slice Ao52 t334.length co52 : Value).ownBlock ∧ some k_ ≠ (.slice Ao62 t336.length co62 : Value).ownBlock ∧ some k_ ≠ (.slice Ao72 t317.length co72 : Value).ownBlock ∧ k_ ≠ dmI N405_ k_) s_.2.2.1 t350) ∧ (Kd.V k48 48 w' w.heap.size (fun k_ => some k_ ≠ (s_.1 : Value).ownBlock ∧ some k_ ≠ (s_.2.1 : Value).ownBlock ∧ some k_ ≠ (s_.2.2.1 : Value).ownBlock ∧ some k_ ≠ (.slice Ao52 t334.length co52 : Value).ownBlock ∧ some k_ ≠ (.slice Ao62 t336.length co62 : Value).ownBlock ∧ some k_ ≠ (.slice Ao72 t317.length co72 : Value).ownBlock ∧ k_ ≠ gb288 ∧ k_ ≠ gb289 ∧ k_ ≠ gb305 ∧ k_ ≠ gb310 ∧ k_ ≠ gb315 ∧ k_ ≠ gb321 ∧ k_ ≠ s_.2.2.2 ∧ k_ ≠ dmO N367_ k_ ∧ k_ ≠ dmO N369_ k_ ∧ k_ ≠ dmO N371_ k_ ∧ k_ ≠ dmO N373_ k_ ∧ k_ ≠ dmO N375_ k_ ∧ k_ ≠ dmO N401_ k_ ∧ k_ ≠ dmO N403_ k_ ∧ k_ ≠ dmO N405_ k_) (.slice Ao42 t301.length co42) t301) ∧ (Kd.S k48 48 w' w.heap.size (fun k_ => some k_ ≠ (s_.1 : Value).ownBlock ∧ some k_ ≠ (s_.2.1 : Value).ownBlock ∧ some k_ ≠ (s_.2.2.1 : Value).ownBlock ∧ some k_ ≠ (.slice Ao62 t336.length co62 : Value).ownBlock ∧ some k_ ≠ (.slice Ao72 t317.length co72 : Value).ownBlock ∧ k_ ≠ dmI N367_ k_ ∧ k_ ≠ dmO N369_ k_ ∧ k_ ≠ dmO N371_ k_ ∧ k_ ≠ dmO N373_ k_ ∧ k_ ≠ dmO N375_ k_ ∧ k_ ≠ dmO N401_ k_ ∧ k_ ≠ dmO N403_ k_ ∧ k_ ≠ dmO N405_ k_) (.slice Ao52 t334.length co52) t334) ∧ (Kd.S k48 48 w' w.heap.size (fun k_ => some k_ ≠ (s_.1 : Value).ownBlock ∧ some k_ ≠ (s_.2.1 : Value).ownBlock ∧ some k_ ≠ (s_.2.2.1 : Value).ownBlock ∧ some k_ ≠ (.slice Ao52 t334.length co52 : Value).ownBlock ∧ some k_ ≠ (.slice Ao72 t317.length co72 : Value).ownBlock ∧ k_ ≠ dmI N369_ k_ ∧ k_ ≠ dmO N371_ k_ ∧ k_ ≠ dmO N373_ k_ ∧ k_ ≠ dmO N375_ k_ ∧ k_ ≠ dmO N401_ k_ ∧ k_ ≠ dmO N403_ k_ ∧ k_ ≠ dmO N405_ k_) (.slice Ao62 t336.length co62) t336) ∧ (Kd.S k48 48 w' w.heap.size (fun k_ => some k_ ≠ (s_.1 : Value).ownBlock ∧ some k_ ≠ (s_.2.1 : Value).ownBlock ∧ some k_ ≠ (s_.2.2.1 : Value).ownBlock ∧ some k_ ≠ (.slice Ao52 t334.length co52 : Value).ownBlock ∧ some k_ ≠ (.slice Ao62 t336.length co62 : Value).ownBlock ∧ k_ ≠ dmI N371_ k_ ∧ k_ ≠ dmO N373_ k_ ∧ k_ ≠ dmO N375_ k_ ∧ k_ ≠ dmO N401_ k_ ∧ k_ ≠ dmO N403_ k_ ∧ k_ ≠ dmO N405_ k_) (.slice Ao72 t317.length co72) t339)) ∧ (w'.heap[gb288]? = some (.cells #[.int .i64 a0_0, .slice A0_1 l0_1.length c0_1] 24 (0, 0))) ∧ (w'.heap[gb289]? = some (.cells #[.int .i64 a1_0, .slice A1_1 l1_1.length c1_1] 24 (0, 0))) ∧ (w'.heap[gb305]? = some (.cells #[.int .i64 t300, .slice Ao42 t301.length co42] 28 (0, 0))) ∧ (w'.heap[gb310]? = some (.cells #[.int .i64 t306, .slice Ao52 t334.length co52] 28 (0, 0))) ∧ (w'.heap[gb315]? = some (.cells #[.int .i64 t311, .slice Ao62 t336.length co62] 28 (0, 0))) ∧ (w'.heap[gb321]? = some (.cells #[.int .i64 t316, .slice Ao72 t317.length co72] 28 (0, 0))) ∧ (w'.heap[s_.2.2.2]? = some (.cells #[.int .i64 0, .slice none 0 0] 28 (0, 0))) ∧ (w.heap.size ≤ s_.2.2.2) ∧ (w.heap.size ≤ s_.2.2.2) ∧ (gb288 ≠ s_.2.2.2) ∧ (s_.2.2.2 ≠ gb288) ∧ (gb289 ≠ s_.2.2.2) ∧ (s_.2.2.2 ≠ gb289) ∧ (gb305 ≠ s_.2.2.2) ∧ (s_.2.2.2 ≠ gb305) ∧ (gb310 ≠ s_.2.2.2) ∧ (s_.2.2.2 ≠ gb310) ∧ (gb315 ≠ s_.2.2.2) ∧ (s_.2.2.2 ≠ gb315) ∧ (gb321 ≠ s_.2.2.2) ∧ (s_.2.2.2 ≠ gb321) ∧ (Below w.heap.size w w')) ?_ ?_
             rotate_left
             ·intro hCont
              refine two_ (i := 1) (j := 8) (Ni := some 96) (Nj := some 15) (xB 11 7) (xB 11 261) rfl rfl rfl rfl (zeO HT_.out (by kernel_rfl)) (by decide) (by decide) (fun K hK => ?_) (fun K hK => ?_)
              ·skip
               refine zbQ Try.func9 (by kernel_rfl) rfl #[.agg #[.int .i64 a0_0, .slice A0_1 l0_1.length c0_1]] (by rfl) rfl rfl xm ?_
               with_reducible refine (zaY.calls kj107 a0_0 _ _ l0_1 t341 t342 _ ?side1 ?side2 A171.out).mono ?_
               (case side1 => exact xz HR0_1.out HB.out)
               (case side2 => exact HC0_1.out)
               rintro e w185 ⟨v343, rfl, ho0, hb⟩
               refine ⟨_, rfl, ?_⟩
               replace ho0 := Kd.zc7 ho0
               obtain ⟨N377_, ho0, hN377_⟩ := ho0
               replace HO_1003 := ax (Kd.zb3 (xV HO_1003.out) hN377_ (Kd.za6 ho0) hb); have HO344 := ax (Kd.zbV (Kd.zbl (Kd.zbl (Kd.zbl ho0 (Kd.S_lt (xS HO_1000.out))) (Kd.S_lt (xS HO_1002.out))) (Kd.S_lt (xS HO_1001.out))) (zah (bh HB.out))); replace HO_1000 := ax (Kd.zaW (xS HO_1000.out) hN377_ (Kd.za6 ho0) hb); replace HO_1002 := ax (Kd.zaW (xS HO_1002.out) hN377_ (Kd.za6 ho0) hb); replace HO_1001 := ax (Kd.zaW (xS HO_1001.out) hN377_ (Kd.za6 ho0) hb); replace BK288 := ax (bb BK288.out hb); replace BK289 := ax (bb BK289.out hb); replace BK305 := ax (bb BK305.out hb); replace BK310 := ax (bb BK310.out hb); replace BK315 := ax (bb BK315.out hb); replace BK321 := ax (bb BK321.out hb); replace HB := ax (zar (bh HB.out) hb)
               (try clear hb)
               (try clear hk)
               (try clear ho0)
               (try clear hN377_)
               refine hK.out _ _ ⟨(zag BK288.out 0).trans rfl, (zag BK288.out 1).trans rfl, (zag BK289.out 0).trans rfl, (zag BK289.out 1).trans rfl⟩ (fun hHeld => ?_)
               clear hK K
               refine nm ?_
               refine two_ (i := 3) (j := 8) (Ni := some 98) (Nj := some 15) (xB 11 15) (xB 11 263) rfl rfl rfl rfl (zeO HT_.out (by kernel_rfl)) (by decide) (by decide) (fun K hK => ?_) (fun K hK => ?_)
               ·skip
                refine zbQ Try.func9 (by kernel_rfl) rfl #[.agg #[.int .i64 a1_0, .slice A1_1 l1_1.length c1_1]] (by rfl) rfl rfl xm ?_
                with_reducible refine (zaY.calls kj107 a1_0 _ _ l1_1 t345 t346 _ ?side1 ?side2 A172.out).mono ?_
                (case side1 => exact xz HR1_1.out HB.out)
                (case side2 => exact HC1_1.out)
                rintro e w186 ⟨v347, rfl, ho0, hb⟩
                refine ⟨_, rfl, ?_⟩
                replace ho0 := Kd.zc7 ho0
                obtain ⟨N379_, ho0, hN379_⟩ := ho0
                replace HO_1003 := ax (Kd.zb3 (xV HO_1003.out) hN379_ (Kd.za6 ho0) hb); have HO348 := ax (Kd.zbV (Kd.zbl (Kd.zbl (Kd.zbl (Kd.zbl ho0 (Kd.S_lt (xS HO_1000.out))) (Kd.S_lt (xS HO_1002.out))) (Kd.S_lt (xS HO_1001.out))) (Kd.S_lt (xS HO344.out))) (zah (bh HB.out))); replace HO_1000 := ax (Kd.zaW (xS HO_1000.out) hN379_ (Kd.za6 ho0) hb); replace HO_1002 := ax (Kd.zaW (xS HO_1002.out) hN379_ (Kd.za6 ho0) hb); replace HO_1001 := ax (Kd.zaW (xS HO_1001.out) hN379_ (Kd.za6 ho0) hb); replace HO344 := ax (Kd.zaW (xS HO344.out) hN379_ (Kd.za6 ho0) hb); replace BK288 := ax (bb BK288.out hb); replace BK289 := ax (bb BK289.out hb); replace BK305 := ax (bb BK305.out hb); replace BK310 := ax (bb BK310.out hb); replace BK315 := ax (bb BK315.out hb); replace BK321 := ax (bb BK321.out hb); replace HB := ax (zar (bh HB.out) hb)
                (try clear hb)
                (try clear hk)
                (try clear ho0)
                (try clear hN379_)
                obtain ⟨Ao187, co187, eo187⟩ := Kd.zbC HO344.out
                (first | subst eo187 | (injection eo187 with f1_ f2_ f3_; have f4_ := f1_.symm; have f5_ := f3_.symm; clear f1_ f2_ f3_; subst f4_; subst f5_))
                obtain ⟨Ao188, co188, eo188⟩ := Kd.zbC HO348.out
                (first | subst eo188 | (injection eo188 with f1_ f2_ f3_; have f4_ := f1_.symm; have f5_ := f3_.symm; clear f1_ f2_ f3_; subst f4_; subst f5_))
                refine hK.out _ _ ⟨(zag BK288.out 0).trans rfl, (zag BK288.out 1).trans rfl, (zag BK289.out 0).trans rfl, (zag BK289.out 1).trans rfl⟩ (fun hHeld => ?_)
                clear hK K
                refine nm ?_
                refine two_ (i := 4) (j := 8) (Ni := some 99) (Nj := some 15) (xB 11 31) (xB 11 271) rfl rfl rfl rfl (zeO HT_.out (by kernel_rfl)) (by decide) (by decide) (fun K hK => ?_) (fun K hK => ?_)
                ·skip
                 refine zbQ Try.func20 (by kernel_rfl) rfl #[.agg #[.int .i64 t341, .slice Ao187 t342.length co187], .agg #[.int .i64 t345, .slice Ao188 t346.length co188]] (by rfl) rfl rfl xm ?_
                 with_reducible refine (zaC.calls kj107 t341 _ _ t342 t345 _ _ t346 t349 t350 t353 _ ?side1 ?side2 ?side3 ?side4 A173.out).mono ?_
                 (case side1 => exact xc (Kd.zaG HO344.out).2.2)
                 (case side2 => exact (Kd.zaG HO344.out).2.1)
                 (case side3 => exact xc (Kd.zaG HO348.out).2.2)
                 (case side4 => exact (Kd.zaG HO348.out).2.1)
                 rintro e w189 ⟨v351, rfl, ho0, hb⟩
                 refine ⟨_, rfl, ?_⟩
                 replace ho0 := Kd.zc7 ho0
                 obtain ⟨N381_, ho0, hN381_⟩ := ho0
                 replace HO_1003 := ax (Kd.zb3 (xV HO_1003.out) hN381_ (Kd.za6 ho0) hb); have HO352 := ax (Kd.zbV (Kd.zbl (Kd.zbl (Kd.zbl (Kd.zbl (Kd.zbl ho0 (Kd.S_lt (xS HO_1000.out))) (Kd.S_lt (xS HO_1002.out))) (Kd.S_lt (xS HO_1001.out))) (Kd.S_lt (xS HO344.out))) (Kd.S_lt (xS HO348.out))) (zah (bh HB.out))); replace HO_1000 := ax (Kd.zaW (xS HO_1000.out) hN381_ (Kd.za6 ho0) hb); replace HO_1002 := ax (Kd.zaW (xS HO_1002.out) hN381_ (Kd.za6 ho0) hb); replace HO_1001 := ax (Kd.zaW (xS HO_1001.out) hN381_ (Kd.za6 ho0) hb); replace HO344 := ax (Kd.zaW (xS HO344.out) hN381_ (Kd.za6 ho0) hb); replace HO348 := ax (Kd.zaW (xS HO348.out) hN381_ (Kd.za6 ho0) hb); replace BK288 := ax (bb BK288.out hb); replace BK289 := ax (bb BK289.out hb); replace BK305 := ax (bb BK305.out hb); replace BK310 := ax (bb BK310.out hb); replace BK315 := ax (bb BK315.out hb); replace BK321 := ax (bb BK321.out hb); replace HB := ax (zar (bh HB.out) hb)
                 (try clear hb)
                 (try clear hk)
                 (try clear ho0)
                 (try clear hN381_)
                 refine hK.out _ _ ⟨(zag BK288.out 0).trans rfl, (zag BK288.out 1).trans rfl, (zag BK289.out 0).trans rfl, (zag BK289.out 1).trans rfl⟩ (fun hHeld => ?_)
                 clear hK K
                 refine nm ?_
                 refine pu (i := 5) (N := some 94) (xB 11 63) HT_.out ?_
                 refine pu (i := 6) (N := some 100) (xB 11 127) HT_.out ?_
                 refine pu (i := 7) (N := some 101) (xB 11 255) HT_.out ?_
                 refine one_ (i := 8) (N := some 15) (xB 11 511) rfl rfl (zbj HT_.out (by kernel_rfl)) (by decide) (fun K hK => ?_)
                 refine zc0 ?hg (N := 15) ?hd (cs := #[.int .i64 0, .slice none 0 0]) (t := 28) ?hr ?_; (case hd => rfl); (case hg => rfl); (case hr => first | (go_simp; done) | (go_simp; rfl))
                 intro gb354 hg w190 hbox hb
                 replace HO_1003 := ax (Kd.zbG (Kd.zbH (xV HO_1003.out) gb354 (Nat.le_of_eq hg.symm)) hb); replace HO_1000 := ax (Kd.zaF (xS HO_1000.out) hb); replace HO_1002 := ax (Kd.zaF (xS HO_1002.out) hb); replace HO_1001 := ax (Kd.zaF (xS HO_1001.out) hb); replace HO344 := ax (Kd.zaF (xS HO344.out) hb); replace HO348 := ax (Kd.zaF (xS HO348.out) hb); replace HO352 := ax (Kd.zaF (xS HO352.out) hb); have BK354 := ax (hbox); have GW354 := ax ((by rw [hg]; exact (zah (bh HB.out)) : w.heap.size ≤ gb354)); have GE354 := ax ((by rw [hg]; exact (zah (bh HB.out)) : w.heap.size ≤ gb354)); replace HB := ax (zar (bh HB.out) hb); have NB288_354 := ax (bn hg BK288.out); have NB354_288 := ax (bm hg BK288.out); replace BK288 := ax (bb BK288.out hb); have NB289_354 := ax (bn hg BK289.out); have NB354_289 := ax (bm hg BK289.out); replace BK289 := ax (bb BK289.out hb); have NB305_354 := ax (bn hg BK305.out); have NB354_305 := ax (bm hg BK305.out); replace BK305 := ax (bb BK305.out hb); have NB310_354 := ax (bn hg BK310.out); have NB354_310 := ax (bm hg BK310.out); replace BK310 := ax (bb BK310.out hb); have NB315_354 := ax (bn hg BK315.out); have NB354_315 := ax (bm hg BK315.out); replace BK315 := ax (bb BK315.out hb); have NB321_354 := ax (bn hg BK321.out); have NB354_321 := ax (bm hg BK321.out); replace BK321 := ax (bb BK321.out hb); clear hb hbox hg
                 refine hK.out _ _ ⟨(zag BK288.out 0).trans rfl, (zag BK288.out 1).trans rfl, (zag BK289.out 0).trans rfl, (zag BK289.out 1).trans rfl⟩ (fun hHeld => ?_)
                 clear hK K
                 refine nm ?_
                 exact zet (by simp only [zc4, Act.put, List.setIfInBounds_toArray, List.set_cons_zero, List.set_cons_succ]) (hCont (.slice Ao187 t342.length co187, .slice Ao188 t346.length co188, v351, gb354) _ ⟨hHeld, ⟨N377_, N379_, N381_, (by (with_reducible repeat (first | apply Kd.zaH | apply Kd.zaD | apply Kd.zaK)); exact Kd.zaZ HO344.out bq), (by (with_reducible repeat (first | apply Kd.zaH | apply Kd.zaD | apply Kd.zaK)); exact Kd.zaZ HO348.out bq), (by (with_reducible repeat (first | apply Kd.zaH | apply Kd.zaD | apply Kd.zaK)); exact Kd.zaZ HO352.out bq), (by (with_reducible repeat (first | apply Kd.zbr | apply Kd.zbq | apply Kd.zbm)); exact Kd.zaP HO_1003.out bq), (by (with_reducible repeat (first | apply Kd.zaH | apply Kd.zaD | apply Kd.zaK)); exact Kd.zaZ HO_1000.out bq), (by (with_reducible repeat (first | apply Kd.zaH | apply Kd.zaD | apply Kd.zaK)); exact Kd.zaZ HO_1002.out bq), (by (with_reducible repeat (first | apply Kd.zaH | apply Kd.zaD | apply Kd.zaK)); exact Kd.zaZ HO_1001.out bq)⟩, (xk BK288.out), (xk BK289.out), (xk BK305.out), (xk BK310.out), (xk BK315.out), (xk BK321.out), (xk BK354.out), GW354.out, GE354.out, NB288_354.out, NB354_288.out, NB289_354.out, NB354_289.out, NB305_354.out, NB354_305.out, NB310_354.out, NB354_310.out, NB315_354.out, NB354_315.out, NB321_354.out, NB354_321.out, (bh HB.out)⟩)
                ·skip
                 refine zc0 ?hg (N := 15) ?hd (cs := #[.int .i64 0, .slice none 0 0]) (t := 28) ?hr ?_; (case hd => rfl); (case hg => rfl); (case hr => first | (go_simp; done) | (go_simp; rfl))
                 intro gb354 hg w187 hbox hb
                 replace HO_1003 := ax (Kd.zbG (Kd.zbH (xV HO_1003.out) gb354 (Nat.le_of_eq hg.symm)) hb); replace HO_1000 := ax (Kd.zaF (xS HO_1000.out) hb); replace HO_1002 := ax (Kd.zaF (xS HO_1002.out) hb); replace HO_1001 := ax (Kd.zaF (xS HO_1001.out) hb); replace HO344 := ax (Kd.zaF (xS HO344.out) hb); replace HO348 := ax (Kd.zaF (xS HO348.out) hb); have BK354 := ax (hbox); have GW354 := ax ((by rw [hg]; exact (zah (bh HB.out)) : w.heap.size ≤ gb354)); have GE354 := ax ((by rw [hg]; exact (zah (bh HB.out)) : w.heap.size ≤ gb354)); replace HB := ax (zar (bh HB.out) hb); have NB288_354 := ax (bn hg BK288.out); have NB354_288 := ax (bm hg BK288.out); replace BK288 := ax (bb BK288.out hb); have NB289_354 := ax (bn hg BK289.out); have NB354_289 := ax (bm hg BK289.out); replace BK289 := ax (bb BK289.out hb); have NB305_354 := ax (bn hg BK305.out); have NB354_305 := ax (bm hg BK305.out); replace BK305 := ax (bb BK305.out hb); have NB310_354 := ax (bn hg BK310.out); have NB354_310 := ax (bm hg BK310.out); replace BK310 := ax (bb BK310.out hb); have NB315_354 := ax (bn hg BK315.out); have NB354_315 := ax (bm hg BK315.out); replace BK315 := ax (bb BK315.out hb); have NB321_354 := ax (bn hg BK321.out); have NB354_321 := ax (bm hg BK321.out); replace BK321 := ax (bb BK321.out hb); clear hb hbox hg
                 obtain ⟨Ao188, co188, eo188⟩ := Kd.zbC HO344.out
                 (first | subst eo188 | (injection eo188 with f1_ f2_ f3_; have f4_ := f1_.symm; have f5_ := f3_.symm; clear f1_ f2_ f3_; subst f4_; subst f5_))
                 obtain ⟨Ao189, co189, eo189⟩ := Kd.zbC HO348.out
                 (first | subst eo189 | (injection eo189 with f1_ f2_ f3_; have f4_ := f1_.symm; have f5_ := f3_.symm; clear f1_ f2_ f3_; subst f4_; subst f5_))
                 refine hK.out _ _ ⟨(zag BK288.out 0).trans rfl, (zag BK288.out 1).trans rfl, (zag BK289.out 0).trans rfl, (zag BK289.out 1).trans rfl⟩ (fun hHeld => ?_)
                 clear hK K
                 refine nm ?_
                 refine one_ (i := 4) (N := some 99) (xB 11 287) rfl rfl (zbj HT_.out (by kernel_rfl)) (by decide) (fun K hK => ?_)
                 refine zbQ Try.func20 (by kernel_rfl) rfl #[.agg #[.int .i64 t341, .slice Ao188 t342.length co188], .agg #[.int .i64 t345, .slice Ao189 t346.length co189]] (by rfl) rfl rfl xm ?_
                 with_reducible refine (zaC.calls kj107 t341 _ _ t342 t345 _ _ t346 t349 t350 t353 _ ?side1 ?side2 ?side3 ?side4 A173.out).mono ?_
                 (case side1 => exact xc (Kd.zaG HO344.out).2.2)
                 (case side2 => exact (Kd.zaG HO344.out).2.1)
                 (case side3 => exact xc (Kd.zaG HO348.out).2.2)
                 (case side4 => exact (Kd.zaG HO348.out).2.1)
                 rintro e w190 ⟨v351, rfl, ho0, hb⟩
                 refine ⟨_, rfl, ?_⟩
                 replace ho0 := Kd.zc7 ho0
                 obtain ⟨N387_, ho0, hN387_⟩ := ho0
                 replace HO_1003 := ax (Kd.zb3 (xV HO_1003.out) hN387_ (Kd.za6 ho0) hb); have HO352 := ax (Kd.zbV (Kd.zbl (Kd.zbl (Kd.zbl (Kd.zbl (Kd.zbl ho0 (Kd.S_lt (xS HO_1000.out))) (Kd.S_lt (xS HO_1002.out))) (Kd.S_lt (xS HO_1001.out))) (Kd.S_lt (xS HO344.out))) (Kd.S_lt (xS HO348.out))) (zah (bh HB.out))); replace HO_1000 := ax (Kd.zaW (xS HO_1000.out) hN387_ (Kd.za6 ho0) hb); replace HO_1002 := ax (Kd.zaW (xS HO_1002.out) hN387_ (Kd.za6 ho0) hb); replace HO_1001 := ax (Kd.zaW (xS HO_1001.out) hN387_ (Kd.za6 ho0) hb); replace HO344 := ax (Kd.zaW (xS HO344.out) hN387_ (Kd.za6 ho0) hb); replace HO348 := ax (Kd.zaW (xS HO348.out) hN387_ (Kd.za6 ho0) hb); replace BK288 := ax (bb BK288.out hb); replace BK289 := ax (bb BK289.out hb); replace BK305 := ax (bb BK305.out hb); replace BK310 := ax (bb BK310.out hb); replace BK315 := ax (bb BK315.out hb); replace BK321 := ax (bb BK321.out hb); replace BK354 := ax (bb BK354.out hb); replace HB := ax (zar (bh HB.out) hb)
                 (try clear hb)
                 (try clear hk)
                 (try clear ho0)
                 (try clear hN387_)
                 refine hK.out _ _ ⟨(zag BK288.out 0).trans rfl, (zag BK288.out 1).trans rfl, (zag BK289.out 0).trans rfl, (zag BK289.out 1).trans rfl⟩ (fun hHeld => ?_)
                 clear hK K
                 refine nm ?_
                 refine pu (i := 5) (N := some 94) (xB 11 319) HT_.out ?_
                 refine pu (i := 6) (N := some 100) (xB 11 383) HT_.out ?_
                 refine pu (i := 7) (N := some 101) (xB 11 511) HT_.out ?_
                 exact zet (by simp only [zc4, Act.put, List.setIfInBounds_toArray, List.set_cons_zero, List.set_cons_succ]) (hCont (.slice Ao188 t342.length co188, .slice Ao189 t346.length co189, v351, gb354) _ ⟨hHeld, ⟨N377_, N379_, N387_, (by (with_reducible repeat (first | apply Kd.zaH | apply Kd.zaD | apply Kd.zaK)); exact Kd.zaZ HO344.out bq), (by (with_reducible repeat (first | apply Kd.zaH | apply Kd.zaD | apply Kd.zaK)); exact Kd.zaZ HO348.out bq), (by (with_reducible repeat (first | apply Kd.zaH | apply Kd.zaD | apply Kd.zaK)); exact Kd.zaZ HO352.out bq), (by (with_reducible repeat (first | apply Kd.zbr | apply Kd.zbq | apply Kd.zbm)); exact Kd.zaP HO_1003.out bq), (by (with_reducible repeat (first | apply Kd.zaH | apply Kd.zaD | apply Kd.zaK)); exact Kd.zaZ HO_1000.out bq), (by (with_reducible repeat (first | apply Kd.zaH | apply Kd.zaD | apply Kd.zaK)); exact Kd.zaZ HO_1002.out bq), (by (with_reducible repeat (first | apply Kd.zaH | apply Kd.zaD | apply Kd.zaK)); exact Kd.zaZ HO_1001.out bq)⟩, (xk BK288.out), (xk BK289.out), (xk BK305.out), (xk BK310.out), (xk BK315.out), (xk BK321.out), (xk BK354.out), GW354.out, GE354.out, NB288_354.out, NB354_288.out, NB289_354.out, NB354_289.out, NB305_354.out, NB354_305.out, NB310_354.out, NB354_310.out, NB315_354.out, NB354_315.out, NB321_354.out, NB354_321.out, (bh HB.out)⟩)
               ·skip
                refine zc0 ?hg (N := 15) ?hd (cs := #[.int .i64 0, .slice none 0 0]) (t := 28) ?hr ?_; (case hd => rfl); (case hg => rfl); (case hr => first | (go_simp; done) | (go_simp; rfl))
                intro gb354 hg w186 hbox hb
                replace HO_1003 := ax (Kd.zbG (Kd.zbH (xV HO_1003.out) gb354 (Nat.le_of_eq hg.symm)) hb); replace HO_1000 := ax (Kd.zaF (xS HO_1000.out) hb); replace HO_1002 := ax (Kd.zaF (xS HO_1002.out) hb); replace HO_1001 := ax (Kd.zaF (xS HO_1001.out) hb); replace HO344 := ax (Kd.zaF (xS HO344.out) hb); have BK354 := ax (hbox); have GW354 := ax ((by rw [hg]; exact (zah (bh HB.out)) : w.heap.size ≤ gb354)); have GE354 := ax ((by rw [hg]; exact (zah (bh HB.out)) : w.heap.size ≤ gb354)); replace HB := ax (zar (bh HB.out) hb); have NB288_354 := ax (bn hg BK288.out); have NB354_288 := ax (bm hg BK288.out); replace BK288 := ax (bb BK288.out hb); have NB289_354 := ax (bn hg BK289.out); have NB354_289 := ax (bm hg BK289.out); replace BK289 := ax (bb BK289.out hb); have NB305_354 := ax (bn hg BK305.out); have NB354_305 := ax (bm hg BK305.out); replace BK305 := ax (bb BK305.out hb); have NB310_354 := ax (bn hg BK310.out); have NB354_310 := ax (bm hg BK310.out); replace BK310 := ax (bb BK310.out hb); have NB315_354 := ax (bn hg BK315.out); have NB354_315 := ax (bm hg BK315.out); replace BK315 := ax (bb BK315.out hb); have NB321_354 := ax (bn hg BK321.out); have NB354_321 := ax (bm hg BK321.out); replace BK321 := ax (bb BK321.out hb); clear hb hbox hg
                refine hK.out _ _ ⟨(zag BK288.out 0).trans rfl, (zag BK288.out 1).trans rfl, (zag BK289.out 0).trans rfl, (zag BK289.out 1).trans rfl⟩ (fun hHeld => ?_)
                clear hK K
                refine nm ?_
                refine one_ (i := 3) (N := some 98) (xB 11 271) rfl rfl (zbj HT_.out (by kernel_rfl)) (by decide) (fun K hK => ?_)
                refine zbQ Try.func9 (by kernel_rfl) rfl #[.agg #[.int .i64 a1_0, .slice A1_1 l1_1.length c1_1]] (by rfl) rfl rfl xm ?_
                with_reducible refine (zaY.calls kj107 a1_0 _ _ l1_1 t345 t346 _ ?side1 ?side2 A172.out).mono ?_
                (case side1 => exact xz HR1_1.out HB.out)
                (case side2 => exact HC1_1.out)
                rintro e w187 ⟨v347, rfl, ho0, hb⟩
                refine ⟨_, rfl, ?_⟩
                replace ho0 := Kd.zc7 ho0
                obtain ⟨N391_, ho0, hN391_⟩ := ho0
                replace HO_1003 := ax (Kd.zb3 (xV HO_1003.out) hN391_ (Kd.za6 ho0) hb); have HO348 := ax (Kd.zbV (Kd.zbl (Kd.zbl (Kd.zbl (Kd.zbl ho0 (Kd.S_lt (xS HO_1000.out))) (Kd.S_lt (xS HO_1002.out))) (Kd.S_lt (xS HO_1001.out))) (Kd.S_lt (xS HO344.out))) (zah (bh HB.out))); replace HO_1000 := ax (Kd.zaW (xS HO_1000.out) hN391_ (Kd.za6 ho0) hb); replace HO_1002 := ax (Kd.zaW (xS HO_1002.out) hN391_ (Kd.za6 ho0) hb); replace HO_1001 := ax (Kd.zaW (xS HO_1001.out) hN391_ (Kd.za6 ho0) hb); replace HO344 := ax (Kd.zaW (xS HO344.out) hN391_ (Kd.za6 ho0) hb); replace BK288 := ax (bb BK288.out hb); replace BK289 := ax (bb BK289.out hb); replace BK305 := ax (bb BK305.out hb); replace BK310 := ax (bb BK310.out hb); replace BK315 := ax (bb BK315.out hb); replace BK321 := ax (bb BK321.out hb); replace BK354 := ax (bb BK354.out hb); replace HB := ax (zar (bh HB.out) hb)
                (try clear hb)
                (try clear hk)
                (try clear ho0)
                (try clear hN391_)
                obtain ⟨Ao188, co188, eo188⟩ := Kd.zbC HO344.out
                (first | subst eo188 | (injection eo188 with f1_ f2_ f3_; have f4_ := f1_.symm; have f5_ := f3_.symm; clear f1_ f2_ f3_; subst f4_; subst f5_))
                obtain ⟨Ao189, co189, eo189⟩ := Kd.zbC HO348.out
                (first | subst eo189 | (injection eo189 with f1_ f2_ f3_; have f4_ := f1_.symm; have f5_ := f3_.symm; clear f1_ f2_ f3_; subst f4_; subst f5_))
                refine hK.out _ _ ⟨(zag BK288.out 0).trans rfl, (zag BK288.out 1).trans rfl, (zag BK289.out 0).trans rfl, (zag BK289.out 1).trans rfl⟩ (fun hHeld => ?_)
                clear hK K
                refine nm ?_
                refine one_ (i := 4) (N := some 99) (xB 11 287) rfl rfl (zbj HT_.out (by kernel_rfl)) (by decide) (fun K hK => ?_)
                refine zbQ Try.func20 (by kernel_rfl) rfl #[.agg #[.int .i64 t341, .slice Ao188 t342.length co188], .agg #[.int .i64 t345, .slice Ao189 t346.length co189]] (by rfl) rfl rfl xm ?_
                with_reducible refine (zaC.calls kj107 t341 _ _ t342 t345 _ _ t346 t349 t350 t353 _ ?side1 ?side2 ?side3 ?side4 A173.out).mono ?_
                (case side1 => exact xc (Kd.zaG HO344.out).2.2)
                (case side2 => exact (Kd.zaG HO344.out).2.1)
                (case side3 => exact xc (Kd.zaG HO348.out).2.2)
                (case side4 => exact (Kd.zaG HO348.out).2.1)
                rintro e w190 ⟨v351, rfl, ho0, hb⟩
                refine ⟨_, rfl, ?_⟩
                replace ho0 := Kd.zc7 ho0
                obtain ⟨N393_, ho0, hN393_⟩ := ho0
                replace HO_1003 := ax (Kd.zb3 (xV HO_1003.out) hN393_ (Kd.za6 ho0) hb); have HO352 := ax (Kd.zbV (Kd.zbl (Kd.zbl (Kd.zbl (Kd.zbl (Kd.zbl ho0 (Kd.S_lt (xS HO_1000.out))) (Kd.S_lt (xS HO_1002.out))) (Kd.S_lt (xS HO_1001.out))) (Kd.S_lt (xS HO344.out))) (Kd.S_lt (xS HO348.out))) (zah (bh HB.out))); replace HO_1000 := ax (Kd.zaW (xS HO_1000.out) hN393_ (Kd.za6 ho0) hb); replace HO_1002 := ax (Kd.zaW (xS HO_1002.out) hN393_ (Kd.za6 ho0) hb); replace HO_1001 := ax (Kd.zaW (xS HO_1001.out) hN393_ (Kd.za6 ho0) hb); replace HO344 := ax (Kd.zaW (xS HO344.out) hN393_ (Kd.za6 ho0) hb); replace HO348 := ax (Kd.zaW (xS HO348.out) hN393_ (Kd.za6 ho0) hb); replace BK288 := ax (bb BK288.out hb); replace BK289 := ax (bb BK289.out hb); replace BK305 := ax (bb BK305.out hb); replace BK310 := ax (bb BK310.out hb); replace BK315 := ax (bb BK315.out hb); replace BK321 := ax (bb BK321.out hb); replace BK354 := ax (bb BK354.out hb); replace HB := ax (zar (bh HB.out) hb)
                (try clear hb)
                (try clear hk)
                (try clear ho0)
                (try clear hN393_)
                refine hK.out _ _ ⟨(zag BK288.out 0).trans rfl, (zag BK288.out 1).trans rfl, (zag BK289.out 0).trans rfl, (zag BK289.out 1).trans rfl⟩ (fun hHeld => ?_)
                clear hK K
                refine nm ?_
                refine pu (i := 5) (N := some 94) (xB 11 319) HT_.out ?_
                refine pu (i := 6) (N := some 100) (xB 11 383) HT_.out ?_
                refine pu (i := 7) (N := some 101) (xB 11 511) HT_.out ?_
                exact zet (by simp only [zc4, Act.put, List.setIfInBounds_toArray, List.set_cons_zero, List.set_cons_succ]) (hCont (.slice Ao188 t342.length co188, .slice Ao189 t346.length co189, v351, gb354) _ ⟨hHeld, ⟨N377_, N391_, N393_, (by (with_reducible repeat (first | apply Kd.zaH | apply Kd.zaD | apply Kd.zaK)); exact Kd.zaZ HO344.out bq), (by (with_reducible repeat (first | apply Kd.zaH | apply Kd.zaD | apply Kd.zaK)); exact Kd.zaZ HO348.out bq), (by (with_reducible repeat (first | apply Kd.zaH | apply Kd.zaD | apply Kd.zaK)); exact Kd.zaZ HO352.out bq), (by (with_reducible repeat (first | apply Kd.zbr | apply Kd.zbq | apply Kd.zbm)); exact Kd.zaP HO_1003.out bq), (by (with_reducible repeat (first | apply Kd.zaH | apply Kd.zaD | apply Kd.zaK)); exact Kd.zaZ HO_1000.out bq), (by (with_reducible repeat (first | apply Kd.zaH | apply Kd.zaD | apply Kd.zaK)); exact Kd.zaZ HO_1002.out bq), (by (with_reducible repeat (first | apply Kd.zaH | apply Kd.zaD | apply Kd.zaK)); exact Kd.zaZ HO_1001.out bq)⟩, (xk BK288.out), (xk BK289.out), (xk BK305.out), (xk BK310.out), (xk BK315.out), (xk BK321.out), (xk BK354.out), GW354.out, GE354.out, NB288_354.out, NB354_288.out, NB289_354.out, NB354_289.out, NB305_354.out, NB354_305.out, NB310_354.out, NB354_310.out, NB315_354.out, NB354_315.out, NB321_354.out, NB354_321.out, (bh HB.out)⟩)
              ·skip
               refine zc0 ?hg (N := 15) ?hd (cs := #[.int .i64 0, .slice none 0 0]) (t := 28) ?hr ?_; (case hd => rfl); (case hg => rfl); (case hr => first | (go_simp; done) | (go_simp; rfl))
               intro gb354 hg w185 hbox hb
               replace HO_1003 := ax (Kd.zbG (Kd.zbH (xV HO_1003.out) gb354 (Nat.le_of_eq hg.symm)) hb); replace HO_1000 := ax (Kd.zaF (xS HO_1000.out) hb); replace HO_1002 := ax (Kd.zaF (xS HO_1002.out) hb); replace HO_1001 := ax (Kd.zaF (xS HO_1001.out) hb); have BK354 := ax (hbox); have GW354 := ax ((by rw [hg]; exact (zah (bh HB.out)) : w.heap.size ≤ gb354)); have GE354 := ax ((by rw [hg]; exact (zah (bh HB.out)) : w.heap.size ≤ gb354)); replace HB := ax (zar (bh HB.out) hb); have NB288_354 := ax (bn hg BK288.out); have NB354_288 := ax (bm hg BK288.out); replace BK288 := ax (bb BK288.out hb); have NB289_354 := ax (bn hg BK289.out); have NB354_289 := ax (bm hg BK289.out); replace BK289 := ax (bb BK289.out hb); have NB305_354 := ax (bn hg BK305.out); have NB354_305 := ax (bm hg BK305.out); replace BK305 := ax (bb BK305.out hb); have NB310_354 := ax (bn hg BK310.out); have NB354_310 := ax (bm hg BK310.out); replace BK310 := ax (bb BK310.out hb); have NB315_354 := ax (bn hg BK315.out); have NB354_315 := ax (bm hg BK315.out); replace BK315 := ax (bb BK315.out hb); have NB321_354 := ax (bn hg BK321.out); have NB354_321 := ax (bm hg BK321.out); replace BK321 := ax (bb BK321.out hb); clear hb hbox hg
               refine hK.out _ _ ⟨(zag BK288.out 0).trans rfl, (zag BK288.out 1).trans rfl, (zag BK289.out 0).trans rfl, (zag BK289.out 1).trans rfl⟩ (fun hHeld => ?_)
               clear hK K
               refine nm ?_
               refine one_ (i := 1) (N := some 96) (xB 11 263) rfl rfl (zbj HT_.out (by kernel_rfl)) (by decide) (fun K hK => ?_)
               refine zbQ Try.func9 (by kernel_rfl) rfl #[.agg #[.int .i64 a0_0, .slice A0_1 l0_1.length c0_1]] (by rfl) rfl rfl xm ?_
               with_reducible refine (zaY.calls kj107 a0_0 _ _ l0_1 t341 t342 _ ?side1 ?side2 A171.out).mono ?_
               (case side1 => exact xz HR0_1.out HB.out)
               (case side2 => exact HC0_1.out)
               rintro e w186 ⟨v343, rfl, ho0, hb⟩
               refine ⟨_, rfl, ?_⟩
               replace ho0 := Kd.zc7 ho0
               obtain ⟨N395_, ho0, hN395_⟩ := ho0
               replace HO_1003 := ax (Kd.zb3 (xV HO_1003.out) hN395_ (Kd.za6 ho0) hb); have HO344 := ax (Kd.zbV (Kd.zbl (Kd.zbl (Kd.zbl ho0 (Kd.S_lt (xS HO_1000.out))) (Kd.S_lt (xS HO_1002.out))) (Kd.S_lt (xS HO_1001.out))) (zah (bh HB.out))); replace HO_1000 := ax (Kd.zaW (xS HO_1000.out) hN395_ (Kd.za6 ho0) hb); replace HO_1002 := ax (Kd.zaW (xS HO_1002.out) hN395_ (Kd.za6 ho0) hb); replace HO_1001 := ax (Kd.zaW (xS HO_1001.out) hN395_ (Kd.za6 ho0) hb); replace BK288 := ax (bb BK288.out hb); replace BK289 := ax (bb BK289.out hb); replace BK305 := ax (bb BK305.out hb); replace BK310 := ax (bb BK310.out hb); replace BK315 := ax (bb BK315.out hb); replace BK321 := ax (bb BK321.out hb); replace BK354 := ax (bb BK354.out hb); replace HB := ax (zar (bh HB.out) hb)
               (try clear hb)
               (try clear hk)
               (try clear ho0)
               (try clear hN395_)
               refine hK.out _ _ ⟨(zag BK288.out 0).trans rfl, (zag BK288.out 1).trans rfl, (zag BK289.out 0).trans rfl, (zag BK289.out 1).trans rfl⟩ (fun hHeld => ?_)
               clear hK K
               refine nm ?_
               refine one_ (i := 3) (N := some 98) (xB 11 271) rfl rfl (zbj HT_.out (by kernel_rfl)) (by decide) (fun K hK => ?_)
               refine zbQ Try.func9 (by kernel_rfl) rfl #[.agg #[.int .i64 a1_0, .slice A1_1 l1_1.length c1_1]] (by rfl) rfl rfl xm ?_
               with_reducible refine (zaY.calls kj107 a1_0 _ _ l1_1 t345 t346 _ ?side1 ?side2 A172.out).mono ?_
               (case side1 => exact xz HR1_1.out HB.out)
               (case side2 => exact HC1_1.out)
               rintro e w187 ⟨v347, rfl, ho0, hb⟩
               refine ⟨_, rfl, ?_⟩
               replace ho0 := Kd.zc7 ho0
               obtain ⟨N397_, ho0, hN397_⟩ := ho0
               replace HO_1003 := ax (Kd.zb3 (xV HO_1003.out) hN397_ (Kd.za6 ho0) hb); have HO348 := ax (Kd.zbV (Kd.zbl (Kd.zbl (Kd.zbl (Kd.zbl ho0 (Kd.S_lt (xS HO_1000.out))) (Kd.S_lt (xS HO_1002.out))) (Kd.S_lt (xS HO_1001.out))) (Kd.S_lt (xS HO344.out))) (zah (bh HB.out))); replace HO_1000 := ax (Kd.zaW (xS HO_1000.out) hN397_ (Kd.za6 ho0) hb); replace HO_1002 := ax (Kd.zaW (xS HO_1002.out) hN397_ (Kd.za6 ho0) hb); replace HO_1001 := ax (Kd.zaW (xS HO_1001.out) hN397_ (Kd.za6 ho0) hb); replace HO344 := ax (Kd.zaW (xS HO344.out) hN397_ (Kd.za6 ho0) hb); replace BK288 := ax (bb BK288.out hb); replace BK289 := ax (bb BK289.out hb); replace BK305 := ax (bb BK305.out hb); replace BK310 := ax (bb BK310.out hb); replace BK315 := ax (bb BK315.out hb); replace BK321 := ax (bb BK321.out hb); replace BK354 := ax (bb BK354.out hb); replace HB := ax (zar (bh HB.out) hb)
               (try clear hb)
               (try clear hk)
               (try clear ho0)
               (try clear hN397_)
               obtain ⟨Ao188, co188, eo188⟩ := Kd.zbC HO344.out
               (first | subst eo188 | (injection eo188 with f1_ f2_ f3_; have f4_ := f1_.symm; have f5_ := f3_.symm; clear f1_ f2_ f3_; subst f4_; subst f5_))
               obtain ⟨Ao189, co189, eo189⟩ := Kd.zbC HO348.out
               (first | subst eo189 | (injection eo189 with f1_ f2_ f3_; have f4_ := f1_.symm; have f5_ := f3_.symm; clear f1_ f2_ f3_; subst f4_; subst f5_))
               refine hK.out _ _ ⟨(zag BK288.out 0).trans rfl, (zag BK288.out 1).trans rfl, (zag BK289.out 0).trans rfl, (zag BK289.out 1).trans rfl⟩ (fun hHeld => ?_)
               clear hK K
               refine nm ?_
               refine one_ (i := 4) (N := some 99) (xB 11 287) rfl rfl (zbj HT_.out (by kernel_rfl)) (by decide) (fun K hK => ?_)
               refine zbQ Try.func20 (by kernel_rfl) rfl #[.agg #[.int .i64 t341, .slice Ao188 t342.length co188], .agg #[.int .i64 t345, .slice Ao189 t346.length co189]] (by rfl) rfl rfl xm ?_
               with_reducible refine (zaC.calls kj107 t341 _ _ t342 t345 _ _ t346 t349 t350 t353 _ ?side1 ?side2 ?side3 ?side4 A173.out).mono ?_
               (case side1 => exact xc (Kd.zaG HO344.out).2.2)
               (case side2 => exact (Kd.zaG HO344.out).2.1)
               (case side3 => exact xc (Kd.zaG HO348.out).2.2)
               (case side4 => exact (Kd.zaG HO348.out).2.1)
               rintro e w190 ⟨v351, rfl, ho0, hb⟩
               refine ⟨_, rfl, ?_⟩
               replace ho0 := Kd.zc7 ho0
               obtain ⟨N399_, ho0, hN399_⟩ := ho0
               replace HO_1003 := ax (Kd.zb3 (xV HO_1003.out) hN399_ (Kd.za6 ho0) hb); have HO352 := ax (Kd.zbV (Kd.zbl (Kd.zbl (Kd.zbl (Kd.zbl (Kd.zbl ho0 (Kd.S_lt (xS HO_1000.out))) (Kd.S_lt (xS HO_1002.out))) (Kd.S_lt (xS HO_1001.out))) (Kd.S_lt (xS HO344.out))) (Kd.S_lt (xS HO348.out))) (zah (bh HB.out))); replace HO_1000 := ax (Kd.zaW (xS HO_1000.out) hN399_ (Kd.za6 ho0) hb); replace HO_1002 := ax (Kd.zaW (xS HO_1002.out) hN399_ (Kd.za6 ho0) hb); replace HO_1001 := ax (Kd.zaW (xS HO_1001.out) hN399_ (Kd.za6 ho0) hb); replace HO344 := ax (Kd.zaW (xS HO344.out) hN399_ (Kd.za6 ho0) hb); replace HO348 := ax (Kd.zaW (xS HO348.out) hN399_ (Kd.za6 ho0) hb); replace BK288 := ax (bb BK288.out hb); replace BK289 := ax (bb BK289.out hb); replace BK305 := ax (bb BK305.out hb); replace BK310 := ax (bb BK310.out hb); replace BK315 := ax (bb BK315.out hb); replace BK321 := ax (bb BK321.out hb); replace BK354 := ax (bb BK354.out hb); replace HB := ax (zar (bh HB.out) hb)
               (try clear hb)
               (try clear hk)
               (try clear ho0)
               (try clear hN399_)
               refine hK.out _ _ ⟨(zag BK288.out 0).trans rfl, (zag BK288.out 1).trans rfl, (zag BK289.out 0).trans rfl, (zag BK289.out 1).trans rfl⟩ (fun hHeld => ?_)
               clear hK K
               refine nm ?_
               refine pu (i := 5) (N := some 94) (xB 11 319) HT_.out ?_
               refine pu (i := 6) (N := some 100) (xB 11 383) HT_.out ?_
               refine pu (i := 7) (N := some 101) (xB 11 511) HT_.out ?_
               exact zet (by simp only [zc4, Act.put, List.setIfInBounds_toArray, List.set_cons_zero, List.set_cons_succ]) (hCont (.slice Ao188 t342.length co188, .slice Ao189 t346.length co189, v351, gb354) _ ⟨hHeld, ⟨N395_, N397_, N399_, (by (with_reducible repeat (first | apply Kd.zaH | apply Kd.zaD | apply Kd.zaK)); exact Kd.zaZ HO344.out bq), (by (with_reducible repeat (first | apply Kd.zaH | apply Kd.zaD | apply Kd.zaK)); exact Kd.zaZ HO348.out bq), (by (with_reducible repeat (first | apply Kd.zaH | apply Kd.zaD | apply Kd.zaK)); exact Kd.zaZ HO352.out bq), (by (with_reducible repeat (first | apply Kd.zbr | apply Kd.zbq | apply Kd.zbm)); exact Kd.zaP HO_1003.out bq), (by (with_reducible repeat (first | apply Kd.zaH | apply Kd.zaD | apply Kd.zaK)); exact Kd.zaZ HO_1000.out bq), (by (with_reducible repeat (first | apply Kd.zaH | apply Kd.zaD | apply Kd.zaK)); exact Kd.zaZ HO_1002.out bq), (by (with_reducible repeat (first | apply Kd.zaH | apply Kd.zaD | apply Kd.zaK)); exact Kd.zaZ HO_1001.out bq)⟩, (xk BK288.out), (xk BK289.out), (xk BK305.out), (xk BK310.out), (xk BK315.out), (xk BK321.out), (xk BK354.out), GW354.out, GE354.out, NB288_354.out, NB354_288.out, NB289_354.out, NB354_289.out, NB305_354.out, NB354_305.out, NB310_354.out, NB354_310.out, NB315_354.out, NB354_315.out, NB321_354.out, NB354_321.out, (bh HB.out)⟩)
             rintro ⟨v343, v347, v351, gb354⟩ w191 ⟨hS_, ⟨N401_, N403_, N405_, h0_, h1_, h2_, h3_, h4_, h5_, h6_⟩, h7_, h8_, h9_, h10_, h11_, h12_, h13_, h14_, h15_, h16_, h17_, h18_, h19_, h20_, h21_, h22_, h23_, h24_, h25_, h26_, h27_, h28_⟩
             have n0_ : zap (Kd.S k48 48 w191 w.heap.size (fun k_ => some k_ ≠ (v347 : Value).ownBlock ∧ some k_ ≠ (v351 : Value).ownBlock ∧ some k_ ≠ (.slice Ao52 t334.length co52 : Value).ownBlock ∧ some k_ ≠ (.slice Ao62 t336.length co62 : Value).ownBlock ∧ some k_ ≠ (.slice Ao72 t317.length co72 : Value).ownBlock ∧ k_ ≠ dmI N401_ k_ ∧ k_ ≠ dmO N403_ k_ ∧ k_ ≠ dmO N405_ k_) v343 t342) := ⟨h0_⟩
             have n1_ : zap (Kd.S k48 48 w191 w.heap.size (fun k_ => some k_ ≠ (v343 : Value).ownBlock ∧ some k_ ≠ (v351 : Value).ownBlock ∧ some k_ ≠ (.slice Ao52 t334.length co52 : Value).ownBlock ∧ some k_ ≠ (.slice Ao62 t336.length co62 : Value).ownBlock ∧ some k_ ≠ (.slice Ao72 t317.length co72 : Value).ownBlock ∧ k_ ≠ dmI N403_ k_ ∧ k_ ≠ dmO N405_ k_) v347 t346) := ⟨h1_⟩
             have n2_ : zap (Kd.S k48 48 w191 w.heap.size (fun k_ => some k_ ≠ (v343 : Value).ownBlock ∧ some k_ ≠ (v347 : Value).ownBlock ∧ some k_ ≠ (.slice Ao52 t334.length co52 : Value).ownBlock ∧ some k_ ≠ (.slice Ao62 t336.length co62 : Value).ownBlock ∧ some k_ ≠ (.slice Ao72 t317.length co72 : Value).ownBlock ∧ k_ ≠ dmI N405_ k_) v351 t350) := ⟨h2_⟩
             have n3_ : zap (Kd.V k48 48 w191 w.heap.size (fun k_ => some k_ ≠ (v343 : Value).ownBlock ∧ some k_ ≠ (v347 : Value).ownBlock ∧ some k_ ≠ (v351 : Value).ownBlock ∧ some k_ ≠ (.slice Ao52 t334.length co52 : Value).ownBlock ∧ some k_ ≠ (.slice Ao62 t336.length co62 : Value).ownBlock ∧ some k_ ≠ (.slice Ao72 t317.length co72 : Value).ownBlock ∧ k_ ≠ gb288 ∧ k_ ≠ gb289 ∧ k_ ≠ gb305 ∧ k_ ≠ gb310 ∧ k_ ≠ gb315 ∧ k_ ≠ gb321 ∧ k_ ≠ gb354 ∧ k_ ≠ dmO N367_ k_ ∧ k_ ≠ dmO N369_ k_ ∧ k_ ≠ dmO N371_ k_ ∧ k_ ≠ dmO N373_ k_ ∧ k_ ≠ dmO N375_ k_ ∧ k_ ≠ dmO N401_ k_ ∧ k_ ≠ dmO N403_ k_ ∧ k_ ≠ dmO N405_ k_) (.slice Ao42 t301.length co42) t301) := ⟨h3_⟩
             have n4_ : zap (Kd.S k48 48 w191 w.heap.size (fun k_ => some k_ ≠ (v343 : Value).ownBlock ∧ some k_ ≠ (v347 : Value).ownBlock ∧ some k_ ≠ (v351 : Value).ownBlock ∧ some k_ ≠ (.slice Ao62 t336.length co62 : Value).ownBlock ∧ some k_ ≠ (.slice Ao72 t317.length co72 : Value).ownBlock ∧ k_ ≠ dmI N367_ k_ ∧ k_ ≠ dmO N369_ k_ ∧ k_ ≠ dmO N371_ k_ ∧ k_ ≠ dmO N373_ k_ ∧ k_ ≠ dmO N375_ k_ ∧ k_ ≠ dmO N401_ k_ ∧ k_ ≠ dmO N403_ k_ ∧ k_ ≠ dmO N405_ k_) (.slice Ao52 t334.length co52) t334) := ⟨h4_⟩
             have n5_ : zap (Kd.S k48 48 w191 w.heap.size (fun k_ => some k_ ≠ (v343 : Value).ownBlock ∧ some k_ ≠ (v347 : Value).ownBlock ∧ some k_ ≠ (v351 : Value).ownBlock ∧ some k_ ≠ (.slice Ao52 t334.length co52 : Value).ownBlock ∧ some k_ ≠ (.slice Ao72 t317.length co72 : Value).ownBlock ∧ k_ ≠ dmI N369_ k_ ∧ k_ ≠ dmO N371_ k_ ∧ k_ ≠ dmO N373_ k_ ∧ k_ ≠ dmO N375_ k_ ∧ k_ ≠ dmO N401_ k_ ∧ k_ ≠ dmO N403_ k_ ∧ k_ ≠ dmO N405_ k_) (.slice Ao62 t336.length co62) t336) := ⟨h5_⟩
             have n6_ : zap (Kd.S k48 48 w191 w.heap.size (fun k_ => some k_ ≠ (v343 : Value).ownBlock ∧ some k_ ≠ (v347 : Value).ownBlock ∧ some k_ ≠ (v351 : Value).ownBlock ∧ some k_ ≠ (.slice Ao52 t334.length co52 : Value).ownBlock ∧ some k_ ≠ (.slice Ao62 t336.length co62 : Value).ownBlock ∧ k_ ≠ dmI N371_ k_ ∧ k_ ≠ dmO N373_ k_ ∧ k_ ≠ dmO N375_ k_ ∧ k_ ≠ dmO N401_ k_ ∧ k_ ≠ dmO N403_ k_ ∧ k_ ≠ dmO N405_ k_) (.slice Ao72 t317.length co72) t339) := ⟨h6_⟩
             have n7_ : zap (w191.heap[gb288]? = some (.cells #[.int .i64 a0_0, .slice A0_1 l0_1.length c0_1] 24 (0, 0))) := ⟨h7_⟩
             have n8_ : zap (w191.heap[gb289]? = some (.cells #[.int .i64 a1_0, .slice A1_1 l1_1.length c1_1] 24 (0, 0))) := ⟨h8_⟩
             have n9_ : zap (w191.heap[gb305]? = some (.cells #[.int .i64 t300, .slice Ao42 t301.length co42] 28 (0, 0))) := ⟨h9_⟩
             have n10_ : zap (w191.heap[gb310]? = some (.cells #[.int .i64 t306, .slice Ao52 t334.length co52] 28 (0, 0))) := ⟨h10_⟩
             have n11_ : zap (w191.heap[gb315]? = some (.cells #[.int .i64 t311, .slice Ao62 t336.length co62] 28 (0, 0))) := ⟨h11_⟩
             have n12_ : zap (w191.heap[gb321]? = some (.cells #[.int .i64 t316, .slice Ao72 t317.length co72] 28 (0, 0))) := ⟨h12_⟩
             have n13_ : zap (w191.heap[gb354]? = some (.cells #[.int .i64 0, .slice none 0 0] 28 (0, 0))) := ⟨h13_⟩
             have n14_ : zap (w.heap.size ≤ gb354) := ⟨h14_⟩
             have n15_ : zap (w.heap.size ≤ gb354) := ⟨h15_⟩
             have n16_ : zap (gb288 ≠ gb354) := ⟨h16_⟩
             have n17_ : zap (gb354 ≠ gb288) := ⟨h17_⟩
             have n18_ : zap (gb289 ≠ gb354) := ⟨h18_⟩
             have n19_ : zap (gb354 ≠ gb289) := ⟨h19_⟩
             have n20_ : zap (gb305 ≠ gb354) := ⟨h20_⟩
             have n21_ : zap (gb354 ≠ gb305) := ⟨h21_⟩
             have n22_ : zap (gb310 ≠ gb354) := ⟨h22_⟩
             have n23_ : zap (gb354 ≠ gb310) := ⟨h23_⟩
             have n24_ : zap (gb315 ≠ gb354) := ⟨h24_⟩
             have n25_ : zap (gb354 ≠ gb315) := ⟨h25_⟩
             have n26_ : zap (gb321 ≠ gb354) := ⟨h26_⟩
             have n27_ : zap (gb354 ≠ gb321) := ⟨h27_⟩
             have n28_ : zap (Below w.heap.size w w191) := ⟨h28_⟩
             clear HO_1003 HO_1000 HO_1002 HO_1001 BK288 BK289 BK305 BK310 BK315 BK321 HB h0_ h1_ h2_ h3_ h4_ h5_ h6_ h7_ h8_ h9_ h10_ h11_ h12_ h13_ h14_ h15_ h16_ h17_ h18_ h19_ h20_ h21_ h22_ h23_ h24_ h25_ h26_ h27_ h28_
             have HO344 := n0_
             have HO348 := n1_
             have HO352 := n2_
             have HO_1003 := n3_
             have HO_1000 := n4_
             have HO_1002 := n5_
             have HO_1001 := n6_
             have BK288 := n7_
             have BK289 := n8_
             have BK305 := n9_
             have BK310 := n10_
             have BK315 := n11_
             have BK321 := n12_
             have BK354 := n13_
             have GW354 := n14_
             have GE354 := n15_
             have NB288_354 := n16_
             have NB354_288 := n17_
             have NB289_354 := n18_
             have NB354_289 := n19_
             have NB305_354 := n20_
             have NB354_305 := n21_
             have NB310_354 := n22_
             have NB354_310 := n23_
             have NB315_354 := n24_
             have NB354_315 := n25_
             have NB321_354 := n26_
             have NB354_321 := n27_
             have HB := n28_
             clear n0_ n1_ n2_ n3_ n4_ n5_ n6_ n7_ n8_ n9_ n10_ n11_ n12_ n13_ n14_ n15_ n16_ n17_ n18_ n19_ n20_ n21_ n22_ n23_ n24_ n25_ n26_ n27_ n28_
             have hHeld : w191.cell? ⟨gb288, 0, none⟩ = some (.int .i64 a0_0) ∧ w191.cell? ⟨gb288, 1, none⟩ = some (.slice A0_1 l0_1.length c0_1) ∧ w191.cell? ⟨gb289, 0, none⟩ = some (.int .i64 a1_0) ∧ w191.cell? ⟨gb289, 1, none⟩ = some (.slice A1_1 l1_1.length c1_1) := hS_
             obtain ⟨Ao193, co193, eo193⟩ := Kd.zbC HO352.out
             (first | subst eo193 | (injection eo193 with f1_ f2_ f3_; have f4_ := f1_.symm; have f5_ := f3_.symm; clear f1_ f2_ f3_; subst f4_; subst f5_))
             refine zet (a' := ?_) ?_ ?_
             rotate_left
             ·simp only [zc4, Act.put, List.setIfInBounds_toArray, List.set_cons_zero, List.set_cons_succ]
              rfl
             refine one_ (i := 9) (N := none) (xB 11 1023) rfl rfl (zbj HT_.out (by kernel_rfl)) (by decide) (fun K hK => ?_)
             have hs192 : w191.cell? ⟨gb354, 0, none⟩ = some (.int .i64 0) := (zag BK354.out 0).trans rfl
             have hfs192 := zae BK354.out 0
             have hns192_0 := NB288_354.out
             have hns192_1 := NB289_354.out
             have hns192_2 := NB305_354.out
             have hns192_3 := NB310_354.out
             have hns192_4 := NB315_354.out
             have hns192_5 := NB321_354.out
             have hms192_0 := NB354_288.out
             have hms192_1 := NB354_289.out
             have hms192_2 := NB354_305.out
             have hms192_3 := NB354_310.out
             have hms192_4 := NB354_315.out
             have hms192_5 := NB354_321.out
             have hs194 : w191.cell? ⟨gb354, 1, none⟩ = some (.slice none 0 0) := (zag BK354.out 1).trans rfl
             have hfs194 := zae BK354.out 1
             have hns194_0 := NB288_354.out
             have hns194_1 := NB289_354.out
             have hns194_2 := NB305_354.out
             have hns194_3 := NB310_354.out
             have hns194_4 := NB315_354.out
             have hns194_5 := NB321_354.out
             have hms194_0 := NB354_288.out
             have hms194_1 := NB354_289.out
             have hms194_2 := NB354_305.out
             have hms194_3 := NB354_310.out
             have hms194_4 := NB354_315.out
             have hms194_5 := NB354_321.out
             refine zdF (w1 := ?_) (by rfl) rfl ?_ ?_
             rotate_left
             ·go_simp
              rfl
             refine hK.out _ _ ⟨((cell_far (p := ⟨gb354, _, none⟩) NB288_354.out _).trans (((cell_far (p := ⟨gb354, _, none⟩) NB288_354.out _).trans (hHeld.1)))), ((cell_far (p := ⟨gb354, _, none⟩) NB288_354.out _).trans (((cell_far (p := ⟨gb354, _, none⟩) NB288_354.out _).trans (hHeld.2.1)))), ((cell_far (p := ⟨gb354, _, none⟩) NB289_354.out _).trans (((cell_far (p := ⟨gb354, _, none⟩) NB289_354.out _).trans (hHeld.2.2.1)))), ((cell_far (p := ⟨gb354, _, none⟩) NB289_354.out _).trans (((cell_far (p := ⟨gb354, _, none⟩) NB289_354.out _).trans (hHeld.2.2.2))))⟩ (fun hHeld => ?_)
             clear hK K
             refine pu (i := 10) (N := some 16) (xB 11 2047) HT_.out ?_
             refine zb6 (zbB HT_.out (by kernel_rfl)) ?_
             go_upto_region 32 with (fail)
             go_cut [110] (fun v110 wc => ∃ (kq : Nat) (x110_173 : Bool), v110 = .bool x110_173 ∧ zap (zak.j2 kq t338 x110_173 t316 t339 = some r) ∧ zap (kq ≤ kj107) ∧ zap (Kd.V k48 48 wc w.heap.size (fun k_ => some k_ ≠ ((.slice Ao52 t334.length co52) : Value).ownBlock ∧ some k_ ≠ ((.slice Ao62 t336.length co62) : Value).ownBlock ∧ some k_ ≠ ((.slice Ao72 t317.length co72) : Value).ownBlock ∧ some k_ ≠ ((.slice Ao193 t350.length co193) : Value).ownBlock ∧ k_ ≠ gb288 ∧ k_ ≠ gb289 ∧ k_ ≠ gb305 ∧ k_ ≠ gb310 ∧ k_ ≠ gb315 ∧ k_ ≠ gb321 ∧ k_ ≠ gb354 ∧ k_ ≠ dmO N367_ k_ ∧ k_ ≠ dmO N369_ k_ ∧ k_ ≠ dmO N371_ k_ ∧ k_ ≠ dmO N373_ k_ ∧ k_ ≠ dmO N375_ k_ ∧ k_ ≠ dmO N401_ k_ ∧ k_ ≠ dmO N403_ k_ ∧ k_ ≠ dmO N405_ k_) (.slice Ao42 t301.length co42) t301) ∧ zap (Kd.S k48 48 wc w.heap.size (fun k_ => some k_ ≠ ((.slice Ao62 t336.length co62) : Value).ownBlock ∧ some k_ ≠ ((.slice Ao72 t317.length co72) : Value).ownBlock ∧ some k_ ≠ ((.slice Ao193 t350.length co193) : Value).ownBlock ∧ k_ ≠ dmI N367_ k_ ∧ k_ ≠ dmO N369_ k_ ∧ k_ ≠ dmO N371_ k_ ∧ k_ ≠ dmO N373_ k_ ∧ k_ ≠ dmO N375_ k_ ∧ k_ ≠ dmO N401_ k_ ∧ k_ ≠ dmO N403_ k_ ∧ k_ ≠ dmO N405_ k_) (.slice Ao52 t334.length co52) t334) ∧ zap (Kd.S k48 48 wc w.heap.size (fun k_ => some k_ ≠ ((.slice Ao52 t334.length co52) : Value).ownBlock ∧ some k_ ≠ ((.slice Ao72 t317.length co72) : Value).ownBlock ∧ some k_ ≠ ((.slice Ao193 t350.length co193) : Value).ownBlock ∧ k_ ≠ dmI N369_ k_ ∧ k_ ≠ dmO N371_ k_ ∧ k_ ≠ dmO N373_ k_ ∧ k_ ≠ dmO N375_ k_ ∧ k_ ≠ dmO N401_ k_ ∧ k_ ≠ dmO N403_ k_ ∧ k_ ≠ dmO N405_ k_) (.slice Ao62 t336.length co62) t336) ∧ zap (Kd.S k48 48 wc w.heap.size (fun k_ => some k_ ≠ ((.slice Ao52 t334.length co52) : Value).ownBlock ∧ some k_ ≠ ((.slice Ao62 t336.length co62) : Value).ownBlock ∧ some k_ ≠ ((.slice Ao193 t350.length co193) : Value).ownBlock ∧ k_ ≠ dmI N371_ k_ ∧ k_ ≠ dmO N373_ k_ ∧ k_ ≠ dmO N375_ k_ ∧ k_ ≠ dmO N401_ k_ ∧ k_ ≠ dmO N403_ k_ ∧ k_ ≠ dmO N405_ k_) (.slice Ao72 t317.length co72) t339) ∧ zap (Kd.S k48 48 wc w.heap.size (fun k_ => some k_ ≠ ((.slice Ao52 t334.length co52) : Value).ownBlock ∧ some k_ ≠ ((.slice Ao62 t336.length co62) : Value).ownBlock ∧ some k_ ≠ ((.slice Ao72 t317.length co72) : Value).ownBlock ∧ k_ ≠ dmI N405_ k_) (.slice Ao193 t350.length co193) t350) ∧ zap (wc.heap[gb288]? = some (.cells #[.int .i64 a0_0, (.slice A0_1 l0_1.length c0_1)] 24 (0, 0))) ∧ zap (wc.heap[gb289]? = some (.cells #[.int .i64 a1_0, (.slice A1_1 l1_1.length c1_1)] 24 (0, 0))) ∧ zap (wc.heap[gb305]? = some (.cells #[.int .i64 t300, (.slice Ao42 t301.length co42)] 28 (0, 0))) ∧ zap (wc.heap[gb310]? = some (.cells #[.int .i64 t306, (.slice Ao52 t334.length co52)] 28 (0, 0))) ∧ zap (wc.heap[gb315]? = some (.cells #[.int .i64 t311, (.slice Ao62 t336.length co62)] 28 (0, 0))) ∧ zap (wc.heap[gb321]? = some (.cells #[.int .i64 t316, (.slice Ao72 t317.length co72)] 28 (0, 0))) ∧ zap (wc.heap[gb354]? = some (.cells #[.int .i64 t349, (.slice Ao193 t350.length co193)] 28 (0, 0))) ∧ zap (Below w.heap.size w wc))
             case first =>
              have H := HC174.out
              clear HC174
              obtain ⟨t355, A195, H⟩ := xI H
              by_cases c196 : t355 = true
              ·subst c196
               rw [if_pos rfl] at H
               have H' := ax H
               clear H
               have hnb197 := NB354_288.out
               have hnc197 := NB288_354.out
               have hnb198 := NB354_289.out
               have hnc198 := NB289_354.out
               have hnb199 := NB354_305.out
               have hnc199 := NB305_354.out
               have hnb200 := NB354_310.out
               have hnc200 := NB310_354.out
               have hnb201 := NB354_315.out
               have hnc201 := NB315_354.out
               have hnb202 := NB354_321.out
               have hnc202 := NB321_354.out
               have hcz203_0 := bc0 BK354.out
               have hcz203_1 := bc1 BK354.out
               have hfz203_0 := zae BK354.out 0
               have hfz203_1 := zae BK354.out 1
               have hnb204 := NB305_288.out
               have hnc204 := NB288_305.out
               have hnb205 := NB305_289.out
               have hnc205 := NB289_305.out
               have hnb206 := NB305_310.out
               have hnc206 := NB310_305.out
               have hnb207 := NB305_315.out
               have hnc207 := NB315_305.out
               have hnb208 := NB305_321.out
               have hnc208 := NB321_305.out
               have hcz209_0 := bc0 BK305.out
               have hcz209_1 := bc1 BK305.out
               have hfz209_0 := zae BK305.out 0
               have hfz209_1 := zae BK305.out 1
               go_wp2_with (first | ((with_reducible refine zas (f := 11) rfl ?_); refine za3 (some 104) rfl rfl Try.func11 (by kernel_rfl) rfl #[.agg #[.int .i64 t349, .slice Ao193 t350.length co193], .agg #[.int .i64 t300, .slice Ao42 t301.length co42]] rfl xm ?_; (with_reducible refine (zbd.calls kj107 t349 _ _ t350 t300 _ _ t301 true _ ?side1 ?side2 ?side3 ?side4 A195.out).mono ?_); (case side1 => refine (Kd.zaG (e := 48) (base := w.heap.size) (ok := fun k_ => (some k_ ≠ (v343 : Value).ownBlock ∧ (some k_ ≠ (v347 : Value).ownBlock ∧ (some k_ ≠ (.slice Ao52 t334.length co52 : Value).ownBlock ∧ (some k_ ≠ (.slice Ao62 t336.length co62 : Value).ownBlock ∧ (some k_ ≠ (.slice Ao72 t317.length co72 : Value).ownBlock ∧ k_ ≠ dmI N405_ k_)))))) (n := t350.length) (c := co193) ?_).2.2; exact (by (with_reducible repeat (first | apply Kd.zaH | apply Kd.zaD | apply Kd.zaK)); exact (f2S HO352.out BK354.out (.int .i64 t349) (.slice Ao193 t350.length co193)))); (case side2 => exact (Kd.zaG HO352.out).2.1); (case side3 => refine (Kd.za2 (e := 48) (base := w.heap.size) (ok := fun k_ => (some k_ ≠ (v343 : Value).ownBlock ∧ (some k_ ≠ (v347 : Value).ownBlock ∧ (some k_ ≠ (.slice Ao193 t350.length co193 : Value).ownBlock ∧ (some k_ ≠ (.slice Ao52 t334.length co52 : Value).ownBlock ∧ (some k_ ≠ (.slice Ao62 t336.length co62 : Value).ownBlock ∧ (some k_ ≠ (.slice Ao72 t317.length co72 : Value).ownBlock ∧ (k_ ≠ gb288 ∧ (k_ ≠ gb289 ∧ (k_ ≠ gb305 ∧ (k_ ≠ gb310 ∧ (k_ ≠ gb315 ∧ (k_ ≠ gb321 ∧ (k_ ≠ gb354 ∧ (k_ ≠ dmO N367_ k_ ∧ (k_ ≠ dmO N369_ k_ ∧ (k_ ≠ dmO N371_ k_ ∧ (k_ ≠ dmO N373_ k_ ∧ (k_ ≠ dmO N375_ k_ ∧ (k_ ≠ dmO N401_ k_ ∧ (k_ ≠ dmO N403_ k_ ∧ k_ ≠ dmO N405_ k_))))))))))))))))))))) (n := t301.length) (c := co42) ?_).2.2; exact (by (with_reducible repeat (first | apply Kd.zbr | apply Kd.zbq | apply Kd.zbm)); exact (Kd.zaP (Kd.zb7 (p := ⟨gb354, 1, none⟩) (Kd.zb7 (p := ⟨gb354, 0, none⟩) (Kd.zaP HO_1003.out (fun k_ hk => (⟨hk, hk.2.2.2.2.2.2.2.2.2.2.2.2.1⟩ : _ ∧ k_ ≠ gb354))) (fun _ hk => hk.2) (.int .i64 t349)) (fun _ hk => hk.2) (.slice Ao193 t350.length co193)) (fun _ h_ => h_.1)))); (case side4 => exact (Kd.za2 HO_1003.out).2.1); rintro e w210 ⟨rfl, hb⟩; refine ⟨_, rfl, ?_⟩; replace HO_1003 := ax (Kd.zbG (by (with_reducible repeat (first | apply Kd.zbr | apply Kd.zbq | apply Kd.zbm)); exact (Kd.zaP (Kd.zb7 (p := ⟨gb354, 1, none⟩) (Kd.zb7 (p := ⟨gb354, 0, none⟩) (Kd.zaP HO_1003.out (fun k_ hk => (⟨hk, hk.2.2.2.2.2.2.2.2.2.2.2.2.1⟩ : _ ∧ k_ ≠ gb354))) (fun _ hk => hk.2) (.int .i64 t349)) (fun _ hk => hk.2) (.slice Ao193 t350.length co193)) (fun _ h_ => h_.1))) hb); replace HO_1000 := ax (Kd.zaF (by (with_reducible repeat (first | apply Kd.zaH | apply Kd.zaD | apply Kd.zaK)); exact (f2S HO_1000.out BK354.out (.int .i64 t349) (.slice Ao193 t350.length co193))) hb); replace HO_1002 := ax (Kd.zaF (by (with_reducible repeat (first | apply Kd.zaH | apply Kd.zaD | apply Kd.zaK)); exact (f2S HO_1002.out BK354.out (.int .i64 t349) (.slice Ao193 t350.length co193))) hb); replace HO_1001 := ax (Kd.zaF (by (with_reducible repeat (first | apply Kd.zaH | apply Kd.zaD | apply Kd.zaK)); exact (f2S HO_1001.out BK354.out (.int .i64 t349) (.slice Ao193 t350.length co193))) hb); replace HO344 := ax (Kd.zaF (by (with_reducible repeat (first | apply Kd.zaH | apply Kd.zaD | apply Kd.zaK)); exact (f2S HO344.out BK354.out (.int .i64 t349) (.slice Ao193 t350.length co193))) hb); replace HO348 := ax (Kd.zaF (by (with_reducible repeat (first | apply Kd.zaH | apply Kd.zaD | apply Kd.zaK)); exact (f2S HO348.out BK354.out (.int .i64 t349) (.slice Ao193 t350.length co193))) hb); replace HO352 := ax (Kd.zaF (by (with_reducible repeat (first | apply Kd.zaH | apply Kd.zaD | apply Kd.zaK)); exact (f2S HO352.out BK354.out (.int .i64 t349) (.slice Ao193 t350.length co193))) hb); replace BK288 := ax (zba (g := gb288) (o := .cells #[.int .i64 a0_0, .slice A0_1 l0_1.length c0_1] 24 (0, 0)) (by (with_reducible repeat (first | refine zaj ?_ _ | refine zaf ?_ | refine zai ?_ _)); refine zaL ?_ NB288_354.out _; (with_reducible repeat (first | refine zaj ?_ _ | refine zaf ?_ | refine zai ?_ _)); refine zaL ?_ NB288_354.out _; (with_reducible repeat (first | refine zaj ?_ _ | refine zaf ?_ | refine zai ?_ _)); exact BK288.out) hb); replace BK289 := ax (zba (g := gb289) (o := .cells #[.int .i64 a1_0, .slice A1_1 l1_1.length c1_1] 24 (0, 0)) (by (with_reducible repeat (first | refine zaj ?_ _ | refine zaf ?_ | refine zai ?_ _)); refine zaL ?_ NB289_354.out _; (with_reducible repeat (first | refine zaj ?_ _ | refine zaf ?_ | refine zai ?_ _)); refine zaL ?_ NB289_354.out _; (with_reducible repeat (first | refine zaj ?_ _ | refine zaf ?_ | refine zai ?_ _)); exact BK289.out) hb); replace BK305 := ax (zba (g := gb305) (o := .cells #[.int .i64 t300, .slice Ao42 t301.length co42] 28 (0, 0)) (by (with_reducible repeat (first | refine zaj ?_ _ | refine zaf ?_ | refine zai ?_ _)); refine zaL ?_ NB305_354.out _; (with_reducible repeat (first | refine zaj ?_ _ | refine zaf ?_ | refine zai ?_ _)); refine zaL ?_ NB305_354.out _; (with_reducible repeat (first | refine zaj ?_ _ | refine zaf ?_ | refine zai ?_ _)); exact BK305.out) hb); replace BK310 := ax (zba (g := gb310) (o := .cells #[.int .i64 t306, .slice Ao52 t334.length co52] 28 (0, 0)) (by (with_reducible repeat (first | refine zaj ?_ _ | refine zaf ?_ | refine zai ?_ _)); refine zaL ?_ NB310_354.out _; (with_reducible repeat (first | refine zaj ?_ _ | refine zaf ?_ | refine zai ?_ _)); refine zaL ?_ NB310_354.out _; (with_reducible repeat (first | refine zaj ?_ _ | refine zaf ?_ | refine zai ?_ _)); exact BK310.out) hb); replace BK315 := ax (zba (g := gb315) (o := .cells #[.int .i64 t311, .slice Ao62 t336.length co62] 28 (0, 0)) (by (with_reducible repeat (first | refine zaj ?_ _ | refine zaf ?_ | refine zai ?_ _)); refine zaL ?_ NB315_354.out _; (with_reducible repeat (first | refine zaj ?_ _ | refine zaf ?_ | refine zai ?_ _)); refine zaL ?_ NB315_354.out _; (with_reducible repeat (first | refine zaj ?_ _ | refine zaf ?_ | refine zai ?_ _)); exact BK315.out) hb); replace BK321 := ax (zba (g := gb321) (o := .cells #[.int .i64 t316, .slice Ao72 t317.length co72] 28 (0, 0)) (by (with_reducible repeat (first | refine zaj ?_ _ | refine zaf ?_ | refine zai ?_ _)); refine zaL ?_ NB321_354.out _; (with_reducible repeat (first | refine zaj ?_ _ | refine zaf ?_ | refine zai ?_ _)); refine zaL ?_ NB321_354.out _; (with_reducible repeat (first | refine zaj ?_ _ | refine zaf ?_ | refine zai ?_ _)); exact BK321.out) hb); replace BK354 := ax (zba (g := gb354) (o := .cells #[.int .i64 t349, .slice Ao193 t350.length co193] 28 (0, 0)) (by (with_reducible repeat (first | refine zaj ?_ _ | refine zaf ?_ | refine zai ?_ _)); refine zbf (cs := #[.int .i64 t349, .slice none 0 0]) ?_ 1 _ rfl; (with_reducible repeat (first | refine zaj ?_ _ | refine zaf ?_ | refine zai ?_ _)); refine zbf (cs := #[.int .i64 0, .slice none 0 0]) ?_ 0 _ rfl; (with_reducible repeat (first | refine zaj ?_ _ | refine zaf ?_ | refine zai ?_ _)); exact BK354.out) hb); replace HB := ax (zar (bh HB.out) hb); (try clear hb)))
               go_meet
               case rel => exact ⟨_, ((t353 != t304)), xr, H', ⟨by have := HJ24.out; have := HJ107.out; first | omega | exact Nat.le_refl _⟩, ⟨by (try simp only [hl1000_107]); (try simp only [hl1002_107]); (with_reducible repeat (first | apply Kd.zbr | apply Kd.zbq | apply Kd.zbm)); exact Kd.zaP HO_1003.out bq⟩, ⟨by (try simp only [hl1000_107]); (try simp only [hl1002_107]); (with_reducible repeat (first | apply Kd.zaH | apply Kd.zaD | apply Kd.zaK)); exact Kd.zaZ HO_1000.out bq⟩, ⟨by (try simp only [hl1000_107]); (try simp only [hl1002_107]); (with_reducible repeat (first | apply Kd.zaH | apply Kd.zaD | apply Kd.zaK)); exact Kd.zaZ HO_1002.out bq⟩, ⟨by (try simp only [hl1000_107]); (try simp only [hl1002_107]); (with_reducible repeat (first | apply Kd.zaH | apply Kd.zaD | apply Kd.zaK)); exact Kd.zaZ HO_1001.out bq⟩, ⟨by (try simp only [hl1000_107]); (try simp only [hl1002_107]); (with_reducible repeat (first | apply Kd.zaH | apply Kd.zaD | apply Kd.zaK)); exact Kd.zaZ HO352.out (fun _ hk => ⟨hk.2.2.1, ⟨hk.2.2.2.1, ⟨hk.2.2.2.2.1, hk.2.2.2.2.2⟩⟩⟩)⟩, ⟨by (try simp only [hl1000_107]); (try simp only [hl1002_107]); (with_reducible repeat (first | refine zaj ?_ _ | refine zaf ?_ | refine zai ?_ _)); exact BK288.out⟩, ⟨by (try simp only [hl1000_107]); (try simp only [hl1002_107]); (with_reducible repeat (first | refine zaj ?_ _ | refine zaf ?_ | refine zai ?_ _)); exact BK289.out⟩, ⟨by (try simp only [hl1000_107]); (try simp only [hl1002_107]); (with_reducible repeat (first | refine zaj ?_ _ | refine zaf ?_ | refine zai ?_ _)); exact BK305.out⟩, ⟨by (try simp only [hl1000_107]); (try simp only [hl1002_107]); (with_reducible repeat (first | refine zaj ?_ _ | refine zaf ?_ | refine zai ?_ _)); exact BK310.out⟩, ⟨by (try simp only [hl1000_107]); (try simp only [hl1002_107]); (with_reducible repeat (first | refine zaj ?_ _ | refine zaf ?_ | refine zai ?_ _)); exact BK315.out⟩, ⟨by (try simp only [hl1000_107]); (try simp only [hl1002_107]); (with_reducible repeat (first | refine zaj ?_ _ | refine zaf ?_ | refine zai ?_ _)); exact BK321.out⟩, ⟨by (try simp only [hl1000_107]); (try simp only [hl1002_107]); (with_reducible repeat (first | refine zaj ?_ _ | refine zaf ?_ | refine zai ?_ _)); exact BK354.out⟩, ⟨bh HB.out⟩⟩
              ·replace c196 := Bool.eq_false_iff.mpr c196
               subst c196
               rw [if_neg (show ¬ (false = true) by decide)] at H
               have H' := ax H
               clear H
               have hnb211 := NB354_288.out
               have hnc211 := NB288_354.out
               have hnb212 := NB354_289.out
               have hnc212 := NB289_354.out
               have hnb213 := NB354_305.out
               have hnc213 := NB305_354.out
               have hnb214 := NB354_310.out
               have hnc214 := NB310_354.out
               have hnb215 := NB354_315.out
               have hnc215 := NB315_354.out
               have hnb216 := NB354_321.out
               have hnc216 := NB321_354.out
               have hcz217_0 := bc0 BK354.out
               have hcz217_1 := bc1 BK354.out
               have hfz217_0 := zae BK354.out 0
               have hfz217_1 := zae BK354.out 1
               have hnb218 := NB305_288.out
               have hnc218 := NB288_305.out
               have hnb219 := NB305_289.out
               have hnc219 := NB289_305.out
               have hnb220 := NB305_310.out
               have hnc220 := NB310_305.out
               have hnb221 := NB305_315.out
               have hnc221 := NB315_305.out
               have hnb222 := NB305_321.out
               have hnc222 := NB321_305.out
               have hcz223_0 := bc0 BK305.out
               have hcz223_1 := bc1 BK305.out
               have hfz223_0 := zae BK305.out 0
               have hfz223_1 := zae BK305.out 1
               go_wp2_with (first | ((with_reducible refine zas (f := 11) rfl ?_); refine za3 (some 104) rfl rfl Try.func11 (by kernel_rfl) rfl #[.agg #[.int .i64 t349, .slice Ao193 t350.length co193], .agg #[.int .i64 t300, .slice Ao42 t301.length co42]] rfl xm ?_; (with_reducible refine (zbd.calls kj107 t349 _ _ t350 t300 _ _ t301 false _ ?side1 ?side2 ?side3 ?side4 A195.out).mono ?_); (case side1 => refine (Kd.zaG (e := 48) (base := w.heap.size) (ok := fun k_ => (some k_ ≠ (v343 : Value).ownBlock ∧ (some k_ ≠ (v347 : Value).ownBlock ∧ (some k_ ≠ (.slice Ao52 t334.length co52 : Value).ownBlock ∧ (some k_ ≠ (.slice Ao62 t336.length co62 : Value).ownBlock ∧ (some k_ ≠ (.slice Ao72 t317.length co72 : Value).ownBlock ∧ k_ ≠ dmI N405_ k_)))))) (n := t350.length) (c := co193) ?_).2.2; exact (by (with_reducible repeat (first | apply Kd.zaH | apply Kd.zaD | apply Kd.zaK)); exact (f2S HO352.out BK354.out (.int .i64 t349) (.slice Ao193 t350.length co193)))); (case side2 => exact (Kd.zaG HO352.out).2.1); (case side3 => refine (Kd.za2 (e := 48) (base := w.heap.size) (ok := fun k_ => (some k_ ≠ (v343 : Value).ownBlock ∧ (some k_ ≠ (v347 : Value).ownBlock ∧ (some k_ ≠ (.slice Ao193 t350.length co193 : Value).ownBlock ∧ (some k_ ≠ (.slice Ao52 t334.length co52 : Value).ownBlock ∧ (some k_ ≠ (.slice Ao62 t336.length co62 : Value).ownBlock ∧ (some k_ ≠ (.slice Ao72 t317.length co72 : Value).ownBlock ∧ (k_ ≠ gb288 ∧ (k_ ≠ gb289 ∧ (k_ ≠ gb305 ∧ (k_ ≠ gb310 ∧ (k_ ≠ gb315 ∧ (k_ ≠ gb321 ∧ (k_ ≠ gb354 ∧ (k_ ≠ dmO N367_ k_ ∧ (k_ ≠ dmO N369_ k_ ∧ (k_ ≠ dmO N371_ k_ ∧ (k_ ≠ dmO N373_ k_ ∧ (k_ ≠ dmO N375_ k_ ∧ (k_ ≠ dmO N401_ k_ ∧ (k_ ≠ dmO N403_ k_ ∧ k_ ≠ dmO N405_ k_))))))))))))))))))))) (n := t301.length) (c := co42) ?_).2.2; exact (by (with_reducible repeat (first | apply Kd.zbr | apply Kd.zbq | apply Kd.zbm)); exact (Kd.zaP (Kd.zb7 (p := ⟨gb354, 1, none⟩) (Kd.zb7 (p := ⟨gb354, 0, none⟩) (Kd.zaP HO_1003.out (fun k_ hk => (⟨hk, hk.2.2.2.2.2.2.2.2.2.2.2.2.1⟩ : _ ∧ k_ ≠ gb354))) (fun _ hk => hk.2) (.int .i64 t349)) (fun _ hk => hk.2) (.slice Ao193 t350.length co193)) (fun _ h_ => h_.1)))); (case side4 => exact (Kd.za2 HO_1003.out).2.1); rintro e w224 ⟨rfl, hb⟩; refine ⟨_, rfl, ?_⟩; replace HO_1003 := ax (Kd.zbG (by (with_reducible repeat (first | apply Kd.zbr | apply Kd.zbq | apply Kd.zbm)); exact (Kd.zaP (Kd.zb7 (p := ⟨gb354, 1, none⟩) (Kd.zb7 (p := ⟨gb354, 0, none⟩) (Kd.zaP HO_1003.out (fun k_ hk => (⟨hk, hk.2.2.2.2.2.2.2.2.2.2.2.2.1⟩ : _ ∧ k_ ≠ gb354))) (fun _ hk => hk.2) (.int .i64 t349)) (fun _ hk => hk.2) (.slice Ao193 t350.length co193)) (fun _ h_ => h_.1))) hb); replace HO_1000 := ax (Kd.zaF (by (with_reducible repeat (first | apply Kd.zaH | apply Kd.zaD | apply Kd.zaK)); exact (f2S HO_1000.out BK354.out (.int .i64 t349) (.slice Ao193 t350.length co193))) hb); replace HO_1002 := ax (Kd.zaF (by (with_reducible repeat (first | apply Kd.zaH | apply Kd.zaD | apply Kd.zaK)); exact (f2S HO_1002.out BK354.out (.int .i64 t349) (.slice Ao193 t350.length co193))) hb); replace HO_1001 := ax (Kd.zaF (by (with_reducible repeat (first | apply Kd.zaH | apply Kd.zaD | apply Kd.zaK)); exact (f2S HO_1001.out BK354.out (.int .i64 t349) (.slice Ao193 t350.length co193))) hb); replace HO344 := ax (Kd.zaF (by (with_reducible repeat (first | apply Kd.zaH | apply Kd.zaD | apply Kd.zaK)); exact (f2S HO344.out BK354.out (.int .i64 t349) (.slice Ao193 t350.length co193))) hb); replace HO348 := ax (Kd.zaF (by (with_reducible repeat (first | apply Kd.zaH | apply Kd.zaD | apply Kd.zaK)); exact (f2S HO348.out BK354.out (.int .i64 t349) (.slice Ao193 t350.length co193))) hb); replace HO352 := ax (Kd.zaF (by (with_reducible repeat (first | apply Kd.zaH | apply Kd.zaD | apply Kd.zaK)); exact (f2S HO352.out BK354.out (.int .i64 t349) (.slice Ao193 t350.length co193))) hb); replace BK288 := ax (zba (g := gb288) (o := .cells #[.int .i64 a0_0, .slice A0_1 l0_1.length c0_1] 24 (0, 0)) (by (with_reducible repeat (first | refine zaj ?_ _ | refine zaf ?_ | refine zai ?_ _)); refine zaL ?_ NB288_354.out _; (with_reducible repeat (first | refine zaj ?_ _ | refine zaf ?_ | refine zai ?_ _)); refine zaL ?_ NB288_354.out _; (with_reducible repeat (first | refine zaj ?_ _ | refine zaf ?_ | refine zai ?_ _)); exact BK288.out) hb); replace BK289 := ax (zba (g := gb289) (o := .cells #[.int .i64 a1_0, .slice A1_1 l1_1.length c1_1] 24 (0, 0)) (by (with_reducible repeat (first | refine zaj ?_ _ | refine zaf ?_ | refine zai ?_ _)); refine zaL ?_ NB289_354.out _; (with_reducible repeat (first | refine zaj ?_ _ | refine zaf ?_ | refine zai ?_ _)); refine zaL ?_ NB289_354.out _; (with_reducible repeat (first | refine zaj ?_ _ | refine zaf ?_ | refine zai ?_ _)); exact BK289.out) hb); replace BK305 := ax (zba (g := gb305) (o := .cells #[.int .i64 t300, .slice Ao42 t301.length co42] 28 (0, 0)) (by (with_reducible repeat (first | refine zaj ?_ _ | refine zaf ?_ | refine zai ?_ _)); refine zaL ?_ NB305_354.out _; (with_reducible repeat (first | refine zaj ?_ _ | refine zaf ?_ | refine zai ?_ _)); refine zaL ?_ NB305_354.out _; (with_reducible repeat (first | refine zaj ?_ _ | refine zaf ?_ | refine zai ?_ _)); exact BK305.out) hb); replace BK310 := ax (zba (g := gb310) (o := .cells #[.int .i64 t306, .slice Ao52 t334.length co52] 28 (0, 0)) (by (with_reducible repeat (first | refine zaj ?_ _ | refine zaf ?_ | refine zai ?_ _)); refine zaL ?_ NB310_354.out _; (with_reducible repeat (first | refine zaj ?_ _ | refine zaf ?_ | refine zai ?_ _)); refine zaL ?_ NB310_354.out _; (with_reducible repeat (first | refine zaj ?_ _ | refine zaf ?_ | refine zai ?_ _)); exact BK310.out) hb); replace BK315 := ax (zba (g := gb315) (o := .cells #[.int .i64 t311, .slice Ao62 t336.length co62] 28 (0, 0)) (by (with_reducible repeat (first | refine zaj ?_ _ | refine zaf ?_ | refine zai ?_ _)); refine zaL ?_ NB315_354.out _; (with_reducible repeat (first | refine zaj ?_ _ | refine zaf ?_ | refine zai ?_ _)); refine zaL ?_ NB315_354.out _; (with_reducible repeat (first | refine zaj ?_ _ | refine zaf ?_ | refine zai ?_ _)); exact BK315.out) hb); replace BK321 := ax (zba (g := gb321) (o := .cells #[.int .i64 t316, .slice Ao72 t317.length co72] 28 (0, 0)) (by (with_reducible repeat (first | refine zaj ?_ _ | refine zaf ?_ | refine zai ?_ _)); refine zaL ?_ NB321_354.out _; (with_reducible repeat (first | refine zaj ?_ _ | refine zaf ?_ | refine zai ?_ _)); refine zaL ?_ NB321_354.out _; (with_reducible repeat (first | refine zaj ?_ _ | refine zaf ?_ | refine zai ?_ _)); exact BK321.out) hb); replace BK354 := ax (zba (g := gb354) (o := .cells #[.int .i64 t349, .slice Ao193 t350.length co193] 28 (0, 0)) (by (with_reducible repeat (first | refine zaj ?_ _ | refine zaf ?_ | refine zai ?_ _)); refine zbf (cs := #[.int .i64 t349, .slice none 0 0]) ?_ 1 _ rfl; (with_reducible repeat (first | refine zaj ?_ _ | refine zaf ?_ | refine zai ?_ _)); refine zbf (cs := #[.int .i64 0, .slice none 0 0]) ?_ 0 _ rfl; (with_reducible repeat (first | refine zaj ?_ _ | refine zaf ?_ | refine zai ?_ _)); exact BK354.out) hb); replace HB := ax (zar (bh HB.out) hb); (try clear hb)))
               go_meet
               case rel => exact ⟨_, (true), xr, H', ⟨by have := HJ24.out; have := HJ107.out; first | omega | exact Nat.le_refl _⟩, ⟨by (try simp only [hl1000_107]); (try simp only [hl1002_107]); (with_reducible repeat (first | apply Kd.zbr | apply Kd.zbq | apply Kd.zbm)); exact Kd.zaP HO_1003.out bq⟩, ⟨by (try simp only [hl1000_107]); (try simp only [hl1002_107]); (with_reducible repeat (first | apply Kd.zaH | apply Kd.zaD | apply Kd.zaK)); exact Kd.zaZ HO_1000.out bq⟩, ⟨by (try simp only [hl1000_107]); (try simp only [hl1002_107]); (with_reducible repeat (first | apply Kd.zaH | apply Kd.zaD | apply Kd.zaK)); exact Kd.zaZ HO_1002.out bq⟩, ⟨by (try simp only [hl1000_107]); (try simp only [hl1002_107]); (with_reducible repeat (first | apply Kd.zaH | apply Kd.zaD | apply Kd.zaK)); exact Kd.zaZ HO_1001.out bq⟩, ⟨by (try simp only [hl1000_107]); (try simp only [hl1002_107]); (with_reducible repeat (first | apply Kd.zaH | apply Kd.zaD | apply Kd.zaK)); exact Kd.zaZ HO352.out (fun _ hk => ⟨hk.2.2.1, ⟨hk.2.2.2.1, ⟨hk.2.2.2.2.1, hk.2.2.2.2.2⟩⟩⟩)⟩, ⟨by (try simp only [hl1000_107]); (try simp only [hl1002_107]); (with_reducible repeat (first | refine zaj ?_ _ | refine zaf ?_ | refine zai ?_ _)); exact BK288.out⟩, ⟨by (try simp only [hl1000_107]); (try simp only [hl1002_107]); (with_reducible repeat (first | refine zaj ?_ _ | refine zaf ?_ | refine zai ?_ _)); exact BK289.out⟩, ⟨by (try simp only [hl1000_107]); (try simp only [hl1002_107]); (with_reducible repeat (first | refine zaj ?_ _ | refine zaf ?_ | refine zai ?_ _)); exact BK305.out⟩, ⟨by (try simp only [hl1000_107]); (try simp only [hl1002_107]); (with_reducible repeat (first | refine zaj ?_ _ | refine zaf ?_ | refine zai ?_ _)); exact BK310.out⟩, ⟨by (try simp only [hl1000_107]); (try simp only [hl1002_107]); (with_reducible repeat (first | refine zaj ?_ _ | refine zaf ?_ | refine zai ?_ _)); exact BK315.out⟩, ⟨by (try simp only [hl1000_107]); (try simp only [hl1002_107]); (with_reducible repeat (first | refine zaj ?_ _ | refine zaf ?_ | refine zai ?_ _)); exact BK321.out⟩, ⟨by (try simp only [hl1000_107]); (try simp only [hl1002_107]); (with_reducible repeat (first | refine zaj ?_ _ | refine zaf ?_ | refine zai ?_ _)); exact BK354.out⟩, ⟨bh HB.out⟩⟩
             case rest =>
              clear HC174
              (try clear c11); (try clear c196); (try clear hcz203_0); (try clear hcz203_1); (try clear hcz209_0); (try clear hcz209_1); (try clear hcz217_0); (try clear hcz217_1); (try clear hcz223_0); (try clear hcz223_1); (try clear hfz203_0); (try clear hfz203_1); (try clear hfz209_0); (try clear hfz209_1); (try clear hfz217_0); (try clear hfz217_1); (try clear hfz223_0); (try clear hfz223_1)
              obtain ⟨kq, x110_173, rfl, HA, HJ173, HO_1003, HO_1000, HO_1002, HO_1001, HO_1005, BK288, BK289, BK305, BK310, BK315, BK321, BK354, HB⟩ := hcut
              have hl1001_173 := (Kd.zaG HO_1001.out).1
              rw [hl1001_173] at HO_1001
              (try simp only [hl1001_173])
              (try simp only [hl1001_173] at BK288)
              (try simp only [hl1001_173] at BK289)
              (try simp only [hl1001_173] at BK305)
              (try simp only [hl1001_173] at BK310)
              (try simp only [hl1001_173] at BK315)
              (try simp only [hl1001_173] at BK321)
              (try simp only [hl1001_173] at BK354)
              (try simp only [hl1001_173] at HO_1003)
              (try simp only [hl1001_173] at HO_1000)
              (try simp only [hl1001_173] at HO_1002)
              (try simp only [hl1001_173] at HO_1005)
              cases kq with
              | zero => exact absurd HA.out (by simp [zak.j2])
              | succ kj173 =>
               have H := HA.out
               clear HA
               simp only [zak.j2] at H
               by_cases c225 : x110_173 = true
               ·subst c225
                rw [if_pos rfl] at H
                obtain rfl := Option.some.inj H
                go_wp2
                go_ret
                exact ⟨xe, bh HB.out⟩
               ·replace c225 := Bool.eq_false_iff.mpr c225
                subst c225
                rw [if_neg (show ¬ (false = true) by decide)] at H
                obtain ⟨t356, A226, H⟩ := xI H
                by_cases c227 : t356 < 0
                ·rw [if_pos c227] at H
                 have c227b0 := decide_eq_true c227
                 clear c227
                 obtain rfl := Option.some.inj H
                 have hnb228 := NB321_288.out
                 have hnc228 := NB288_321.out
                 have hnb229 := NB321_289.out
                 have hnc229 := NB289_321.out
                 have hnb230 := NB321_305.out
                 have hnc230 := NB305_321.out
                 have hnb231 := NB321_310.out
                 have hnc231 := NB310_321.out
                 have hnb232 := NB321_315.out
                 have hnc232 := NB315_321.out
                 have hnb233 := NB321_354.out
                 have hnc233 := NB354_321.out
                 have hcz234_0 := bc0 BK321.out
                 have hcz234_1 := bc1 BK321.out
                 have hfz234_0 := zae BK321.out 0
                 have hfz234_1 := zae BK321.out 1
                 go_wp2_with (first | ((with_reducible refine zas (f := 13) rfl ?_); refine za3 (some 113) rfl rfl Try.func13 (by kernel_rfl) rfl #[.agg #[.int .i64 t316, .slice Ao72 t339.length co72], .int .i64 1] rfl xm ?_; (with_reducible refine (zbo.calls kj173 t316 _ _ t339 1 t356 _ ?side1 ?side2 A226.out).mono ?_); (case side1 => exact xc (Kd.zaG HO_1001.out).2.2); (case side2 => exact (Kd.zaG HO_1001.out).2.1); rintro e w235 ⟨rfl, hb⟩; refine ⟨_, rfl, ?_⟩; replace HO_1003 := yV HO_1003 hb; replace HO_1000 := ax (Kd.zaF (xS HO_1000.out) hb); replace HO_1002 := ax (Kd.zaF (xS HO_1002.out) hb); replace HO_1001 := ax (Kd.zaF (xS HO_1001.out) hb); replace HO_1005 := ax (Kd.zaF (xS HO_1005.out) hb); replace BK288 := ax (bb BK288.out hb); replace BK289 := ax (bb BK289.out hb); replace BK305 := ax (bb BK305.out hb); replace BK310 := ax (bb BK310.out hb); replace BK315 := ax (bb BK315.out hb); replace BK321 := ax (bb BK321.out hb); replace BK354 := ax (bb BK354.out hb); replace HB := ax (zar (bh HB.out) hb); (try clear hb)))
                 go_ret
                 exact ⟨xe, bh HB.out⟩
                ·rw [if_neg c227] at H
                 have c227b0 := decide_eq_false c227
                 clear c227
                 by_cases c236 : t356 = t338
                 ·rw [if_pos c236] at H
                  have c236b0 : (t356 == t338) = true := beq_iff_eq.mpr c236
                  have c236b1 : (t356 != t338) = false := bne_eq_false_iff_eq.mpr c236
                  clear c236
                  obtain rfl := Option.some.inj H
                  have hnb237 := NB321_288.out
                  have hnc237 := NB288_321.out
                  have hnb238 := NB321_289.out
                  have hnc238 := NB289_321.out
                  have hnb239 := NB321_305.out
                  have hnc239 := NB305_321.out
                  have hnb240 := NB321_310.out
                  have hnc240 := NB310_321.out
                  have hnb241 := NB321_315.out
                  have hnc241 := NB315_321.out
                  have hnb242 := NB321_354.out
                  have hnc242 := NB354_321.out
                  have hcz243_0 := bc0 BK321.out
                  have hcz243_1 := bc1 BK321.out
                  have hfz243_0 := zae BK321.out 0
                  have hfz243_1 := zae BK321.out 1
                  go_wp2_with (first | ((with_reducible refine zas (f := 13) rfl ?_); refine za3 (some 113) rfl rfl Try.func13 (by kernel_rfl) rfl #[.agg #[.int .i64 t316, .slice Ao72 t339.length co72], .int .i64 1] rfl xm ?_; (with_reducible refine (zbo.calls kj173 t316 _ _ t339 1 t356 _ ?side1 ?side2 A226.out).mono ?_); (case side1 => exact xc (Kd.zaG HO_1001.out).2.2); (case side2 => exact (Kd.zaG HO_1001.out).2.1); rintro e w244 ⟨rfl, hb⟩; refine ⟨_, rfl, ?_⟩; replace HO_1003 := yV HO_1003 hb; replace HO_1000 := ax (Kd.zaF (xS HO_1000.out) hb); replace HO_1002 := ax (Kd.zaF (xS HO_1002.out) hb); replace HO_1001 := ax (Kd.zaF (xS HO_1001.out) hb); replace HO_1005 := ax (Kd.zaF (xS HO_1005.out) hb); replace BK288 := ax (bb BK288.out hb); replace BK289 := ax (bb BK289.out hb); replace BK305 := ax (bb BK305.out hb); replace BK310 := ax (bb BK310.out hb); replace BK315 := ax (bb BK315.out hb); replace BK321 := ax (bb BK321.out hb); replace BK354 := ax (bb BK354.out hb); replace HB := ax (zar (bh HB.out) hb); (try clear hb)))
                  go_ret
                  exact ⟨xe, bh HB.out⟩
                 ·rw [if_neg c236] at H
                  have c236b0 : (t356 == t338) = false := beq_eq_false_iff_ne.mpr c236
                  have c236b1 : (t356 != t338) = true := bne_iff_ne.mpr c236
                  obtain rfl := Option.some.inj H
                  have hnb245 := NB321_288.out
                  have hnc245 := NB288_321.out
                  have hnb246 := NB321_289.out
                  have hnc246 := NB289_321.out
                  have hnb247 := NB321_305.out
                  have hnc247 := NB305_321.out
                  have hnb248 := NB321_310.out
                  have hnc248 := NB310_321.out
                  have hnb249 := NB321_315.out
                  have hnc249 := NB315_321.out
                  have hnb250 := NB321_354.out
                  have hnc250 := NB354_321.out
                  have hcz251_0 := bc0 BK321.out
                  have hcz251_1 := bc1 BK321.out
                  have hfz251_0 := zae BK321.out 0
                  have hfz251_1 := zae BK321.out 1
                  go_wp2_with (first | ((with_reducible refine zas (f := 13) rfl ?_); refine za3 (some 113) rfl rfl Try.func13 (by kernel_rfl) rfl #[.agg #[.int .i64 t316, .slice Ao72 t339.length co72], .int .i64 1] rfl xm ?_; (with_reducible refine (zbo.calls kj173 t316 _ _ t339 1 t356 _ ?side1 ?side2 A226.out).mono ?_); (case side1 => exact xc (Kd.zaG HO_1001.out).2.2); (case side2 => exact (Kd.zaG HO_1001.out).2.1); rintro e w252 ⟨rfl, hb⟩; refine ⟨_, rfl, ?_⟩; replace HO_1003 := yV HO_1003 hb; replace HO_1000 := ax (Kd.zaF (xS HO_1000.out) hb); replace HO_1002 := ax (Kd.zaF (xS HO_1002.out) hb); replace HO_1001 := ax (Kd.zaF (xS HO_1001.out) hb); replace HO_1005 := ax (Kd.zaF (xS HO_1005.out) hb); replace BK288 := ax (bb BK288.out hb); replace BK289 := ax (bb BK289.out hb); replace BK305 := ax (bb BK305.out hb); replace BK310 := ax (bb BK310.out hb); replace BK315 := ax (bb BK315.out hb); replace BK321 := ax (bb BK321.out hb); replace BK354 := ax (bb BK354.out hb); replace HB := ax (zar (bh HB.out) hb); (try clear hb)))
                  go_ret
                  exact ⟨xe, bh HB.out⟩
            ·rw [if_neg c170] at H
             have c170b0 : (t340 == t338) = false := beq_eq_false_iff_ne.mpr c170
             have c170b1 : (t340 != t338) = true := bne_iff_ne.mpr c170
             obtain rfl := Option.some.inj H
             have hnb253 := NB321_288.out
             have hnc253 := NB288_321.out
             have hnb254 := NB321_289.out
             have hnc254 := NB289_321.out
             have hnb255 := NB321_305.out
             have hnc255 := NB305_321.out
             have hnb256 := NB321_310.out
             have hnc256 := NB310_321.out
             have hnb257 := NB321_315.out
             have hnc257 := NB315_321.out
             have hcz258_0 := bc0 BK321.out
             have hcz258_1 := bc1 BK321.out
             have hfz258_0 := zae BK321.out 0
             have hfz258_1 := zae BK321.out 1
             go_wp2_with (first | ((with_reducible refine zas (f := 12) rfl ?_); refine za3 (some 85) rfl rfl Try.func12 (by kernel_rfl) rfl #[.agg #[.int .i64 t316, .slice Ao72 t317.length co72], .int .i64 1] rfl xm ?_; (with_reducible refine (zbn.calls kj107 t316 ?pp5_ (.slice Ao72 t317.length co72) t317 1 t338 t339 w _ ?side1 ?side2 A158.out).mono ?_); (case side1 => exact bh HB.out); (case side2 => first | exact Kd.zcC HO_1001.out | (refine Kd.zcC ?_; (with_reducible repeat (first | apply Kd.zaH | apply Kd.zaD | apply Kd.zaK)); exact HO_1001.out)); rintro e w259 ⟨rfl, hy0, hb, hkp⟩; refine ⟨_, rfl, ?_⟩; have n0_ := ax (Kd.zaP (ok' := fun k_ => some k_ ≠ (.slice Ao52 t334.length co52 : Value).ownBlock ∧ some k_ ≠ (.slice Ao62 t336.length co62 : Value).ownBlock ∧ some k_ ≠ (.slice Ao72 t317.length co72 : Value).ownBlock ∧ k_ ≠ gb288 ∧ k_ ≠ gb289 ∧ k_ ≠ gb305 ∧ k_ ≠ gb310 ∧ k_ ≠ gb315 ∧ k_ ≠ gb321 ∧ k_ ≠ dmO N367_ k_ ∧ k_ ≠ dmO N369_ k_ ∧ k_ ≠ dmO N371_ k_ ∧ k_ ≠ dmO N373_ k_ ∧ k_ ≠ dmO N375_ k_) (Kd.zd4 (HO_1003.out) hkp (fun k_ hk_ hs_ => dmNo hs_.1.2.2.1 hk_.2.2.2.2.2.2.2.2.2.2.2.1)) bq); (first | have n1_ := ax (Kd.zaZ (ok' := fun k_ => some k_ ≠ (.slice Ao62 t336.length co62 : Value).ownBlock ∧ some k_ ≠ (.slice Ao72 t317.length co72 : Value).ownBlock ∧ k_ ≠ dmI N367_ k_ ∧ k_ ≠ dmO N369_ k_ ∧ k_ ≠ dmO N371_ k_ ∧ k_ ≠ dmO N373_ k_ ∧ k_ ≠ dmO N375_ k_) (Kd.zbO (HO_1000.out) hkp (fun k_ hk_ hs_ => dmNo hs_.1.2.2.1 hk_.2.2.2.2.1)) bq) | have n1_ := ax (Kd.zaZ (ok' := fun k_ => some k_ ≠ (.slice Ao62 t336.length co62 : Value).ownBlock ∧ some k_ ≠ (.slice Ao72 t317.length co72 : Value).ownBlock ∧ k_ ≠ dmI N367_ k_ ∧ k_ ≠ dmO N369_ k_ ∧ k_ ≠ dmO N371_ k_ ∧ k_ ≠ dmO N373_ k_ ∧ k_ ≠ dmO N375_ k_) (Kd.zbO (Kd.zaD HO_1000.out _) hkp (fun k_ hk_ hs_ => dmNo hs_.1.2.2.1 hk_.2.2.2.2.1)) bq)); (first | have n2_ := ax (Kd.zaZ (ok' := fun k_ => some k_ ≠ (.slice Ao52 t334.length co52 : Value).ownBlock ∧ some k_ ≠ (.slice Ao72 t317.length co72 : Value).ownBlock ∧ k_ ≠ dmI N369_ k_ ∧ k_ ≠ dmO N371_ k_ ∧ k_ ≠ dmO N373_ k_ ∧ k_ ≠ dmO N375_ k_) (Kd.zbO (HO_1002.out) hkp (fun k_ hk_ hs_ => dmNo hs_.1.2.2.1 hk_.2.2.2.1)) bq) | have n2_ := ax (Kd.zaZ (ok' := fun k_ => some k_ ≠ (.slice Ao52 t334.length co52 : Value).ownBlock ∧ some k_ ≠ (.slice Ao72 t317.length co72 : Value).ownBlock ∧ k_ ≠ dmI N369_ k_ ∧ k_ ≠ dmO N371_ k_ ∧ k_ ≠ dmO N373_ k_ ∧ k_ ≠ dmO N375_ k_) (Kd.zbO (Kd.zaD HO_1002.out _) hkp (fun k_ hk_ hs_ => dmNo hs_.1.2.2.1 hk_.2.2.2.1)) bq)); have n3_ := ax (Kd.zaZ hy0 (fun k_ hk_ => hk_.1)); have n4_ := ax (zbh (xk BK288.out) hkp (fun hs_ => zcu BK288.out hs_.2 (by decide))); have n5_ := ax (zbh (xk BK289.out) hkp (fun hs_ => zcu BK289.out hs_.2 (by decide))); have n6_ := ax (zbh (xk BK305.out) hkp (fun hs_ => zcu BK305.out hs_.2 (by decide))); have n7_ := ax (zbh (xk BK310.out) hkp (fun hs_ => zcu BK310.out hs_.2 (by decide))); have n8_ := ax (zbh (xk BK315.out) hkp (fun hs_ => zcu BK315.out hs_.2 (by decide))); have n9_ := ax (zbh (xk BK321.out) hkp (fun hs_ => zcu BK321.out hs_.2 (by decide))); have n10_ := ax (hb); clear HO_1003; clear HO_1000; clear HO_1002; clear HO_1001; clear BK288; clear BK289; clear BK305; clear BK310; clear BK315; clear BK321; clear HB; have HO_1003 := n0_; have HO_1000 := n1_; have HO_1002 := n2_; have HO_1001 := n3_; have BK288 := n4_; have BK289 := n5_; have BK305 := n6_; have BK310 := n7_; have BK315 := n8_; have BK321 := n9_; have HB := n10_; clear n0_ n1_ n2_ n3_ n4_ n5_ n6_ n7_ n8_ n9_ n10_; (try clear hb); (try clear hkp); (try clear hy0); have hcz260_0 := bc0 BK321.out; have hcz260_1 := bc1 BK321.out; have hfz260_0 := zae BK321.out 0; have hfz260_1 := zae BK321.out 1) | ((with_reducible refine zas (f := 13) rfl ?_); refine za3 (some 88) rfl rfl Try.func13 (by kernel_rfl) rfl #[.agg #[.int .i64 t316, .slice Ao72 t339.length co72], .int .i64 1] rfl (by (try simp only [List.map_toArray, List.map_cons, List.map_nil]); first | done | (rw [show t339.length = t317.length from (Kd.zaG HO_1001.out).1.symm] <;> rfl) | rfl | (simp only [List.length_drop, List.length_take]; rfl)) ?_; (with_reducible refine (zbo.calls kj107 t316 _ _ t339 1 t340 _ ?side1 ?side2 A159.out).mono ?_); (case side1 => exact xc (Kd.zaG HO_1001.out).2.2); (case side2 => rw [show t339.length = t317.length from (Kd.zaG HO_1001.out).1.symm]; exact (Kd.zaG HO_1001.out).2.1); rintro e w261 ⟨rfl, hb⟩; refine ⟨_, rfl, ?_⟩; replace HO_1003 := yV HO_1003 hb; replace HO_1000 := ax (Kd.zaF (xS HO_1000.out) hb); replace HO_1002 := ax (Kd.zaF (xS HO_1002.out) hb); replace HO_1001 := ax (Kd.zaF (xS HO_1001.out) hb); replace BK288 := ax (bb BK288.out hb); replace BK289 := ax (bb BK289.out hb); replace BK305 := ax (bb BK305.out hb); replace BK310 := ax (bb BK310.out hb); replace BK315 := ax (bb BK315.out hb); replace BK321 := ax (bb BK321.out hb); replace HB := ax (zar (bh HB.out) hb); (try clear hb)))
             go_ret
             exact ⟨xe, bh HB.out⟩
       ·replace c105 := Bool.eq_false_iff.mpr c105
        subst c105
        rw [if_neg (show ¬ (false = true) by decide)] at H
        obtain rfl := Option.some.inj H
        try go_wp2
        replace HO_1003 := ax (Kd.zbm HO_1003.out); replace HO_1000 := ax (Kd.zaK HO_1000.out); replace HO_1002 := ax (Kd.zaK HO_1002.out); replace HO_1001 := ax (Kd.zaK HO_1001.out); replace BK288 := ax (zaf BK288.out); replace BK289 := ax (zaf BK289.out); replace BK305 := ax (zaf BK305.out); replace BK310 := ax (zaf BK310.out); replace BK315 := ax (zaf BK315.out); replace BK321 := ax (zaf BK321.out); replace HB := ax (zaN HB.out)
        refine zbJ (n := 5) (S := fun w' => w'.cell? ⟨gb310, 0, none⟩ = some (.int .i64 t306) ∧ w'.cell? ⟨gb310, 1, none⟩ = some (.slice Ao52 t307.length co52) ∧ w'.cell? ⟨gb288, 0, none⟩ = some (.int .i64 a0_0) ∧ w'.cell? ⟨gb288, 1, none⟩ = some (.slice A0_1 l0_1.length c0_1)) (ds := []) (xB 5 0) (by kernel_rfl) rfl (by kernel_rfl) ⟨(zag BK310.out 0).trans rfl, (zag BK310.out 1).trans rfl, (zag BK288.out 0).trans rfl, (zag BK288.out 1).trans rfl⟩ (fun hHeld => ?_)
        generalize wc.drew = w262 at HO_1003 HO_1000 HO_1002 HO_1001 BK288 BK289 BK305 BK310 BK315 BK321 HB hHeld ⊢
        refine zdQ (i := 0) (N := some 54) (v := ?_) (a' := ?_) (xB 5 1) rfl rfl (by kernel_rfl) (fun _ _ _ h => h) (Or.inl ⟨by rfl, ?_⟩) hHeld ?_ ?_
        rotate_left
        ·rintro w' ⟨s0, s1, s2, s3⟩
         go_simp
         with_reducible rfl
        rotate_left
        ·simp only [Act.put, List.setIfInBounds_toArray, List.set_cons_zero, List.set_cons_succ, zbZ, zcd]
         rfl
        refine zdQ (i := 1) (N := some 55) (v := ?_) (a' := ?_) (xB 5 3) rfl rfl (by kernel_rfl) (fun _ _ _ h => h) (Or.inl ⟨by rfl, ?_⟩) hHeld ?_ ?_
        rotate_left
        ·rintro w' ⟨s0, s1, s2, s3⟩
         go_simp
         with_reducible rfl
        rotate_left
        ·simp only [Act.put, List.setIfInBounds_toArray, List.set_cons_zero, List.set_cons_succ, zbZ, zcd]
         rfl
        refine one_ (i := 2) (N := some 56) (xB 5 7) rfl rfl (by kernel_rfl) (by decide) (fun K hK => ?_)
        refine zbQ Try.func9 (by kernel_rfl) rfl #[.agg #[.int .i64 a0_0, .slice A0_1 l0_1.length c0_1]] (by rfl) rfl rfl xm ?_
        with_reducible refine (zaY.calls kj24 a0_0 _ _ l0_1 t323 t324 _ ?side1 ?side2 A100.out).mono ?_
        (case side1 => exact xz HR0_1.out HB.out)
        (case side2 => exact HC0_1.out)
        rintro e w263 ⟨v325, rfl, ho0, hb⟩
        refine ⟨_, rfl, ?_⟩
        replace ho0 := Kd.zc7 ho0
        obtain ⟨N407_, ho0, hN407_⟩ := ho0
        replace HO_1003 := ax (Kd.zb3 (xV HO_1003.out) hN407_ (Kd.za6 ho0) hb); have HO326 := ax (Kd.zbV (Kd.zbl (Kd.zbl (Kd.zbl ho0 (Kd.S_lt (xS HO_1000.out))) (Kd.S_lt (xS HO_1002.out))) (Kd.S_lt (xS HO_1001.out))) (zah (bh HB.out))); replace HO_1000 := ax (Kd.zaW (xS HO_1000.out) hN407_ (Kd.za6 ho0) hb); replace HO_1002 := ax (Kd.zaW (xS HO_1002.out) hN407_ (Kd.za6 ho0) hb); replace HO_1001 := ax (Kd.zaW (xS HO_1001.out) hN407_ (Kd.za6 ho0) hb); replace BK288 := ax (bb BK288.out hb); replace BK289 := ax (bb BK289.out hb); replace BK305 := ax (bb BK305.out hb); replace BK310 := ax (bb BK310.out hb); replace BK315 := ax (bb BK315.out hb); replace BK321 := ax (bb BK321.out hb); replace HB := ax (zar (bh HB.out) hb)
        (try clear hb)
        (try clear hk)
        (try clear ho0)
        (try clear hN407_)
        obtain ⟨Ao264, co264, eo264⟩ := Kd.zbC HO326.out
        (first | subst eo264 | (injection eo264 with f1_ f2_ f3_; have f4_ := f1_.symm; have f5_ := f3_.symm; clear f1_ f2_ f3_; subst f4_; subst f5_))
        refine hK.out _ _ ⟨(zag BK310.out 0).trans rfl, (zag BK310.out 1).trans rfl, (zag BK288.out 0).trans rfl, (zag BK288.out 1).trans rfl⟩ (fun hHeld => ?_)
        clear hK K
        refine nm ?_
        refine one_ (i := 3) (N := some 57) (xB 5 15) rfl rfl (by kernel_rfl) (by decide) (fun K hK => ?_)
        refine zbQ Try.func11 (by kernel_rfl) rfl #[.agg #[.int .i64 t306, .slice Ao52 t307.length co52], .agg #[.int .i64 t323, .slice Ao264 t324.length co264]] (by rfl) rfl rfl xm ?_
        with_reducible refine (zbd.calls kj24 t306 _ _ t307 t323 _ _ t324 true _ ?side1 ?side2 ?side3 ?side4 A101.out).mono ?_
        (case side1 => exact xc (Kd.zaG HO_1000.out).2.2)
        (case side2 => exact (Kd.zaG HO_1000.out).2.1)
        (case side3 => exact xc (Kd.zaG HO326.out).2.2)
        (case side4 => exact (Kd.zaG HO326.out).2.1)
        rintro e w265 ⟨rfl, hb⟩
        refine ⟨_, rfl, ?_⟩
        replace HO_1003 := yV HO_1003 hb; replace HO_1000 := ax (Kd.zaF (xS HO_1000.out) hb); replace HO_1002 := ax (Kd.zaF (xS HO_1002.out) hb); replace HO_1001 := ax (Kd.zaF (xS HO_1001.out) hb); replace HO326 := ax (Kd.zaF (xS HO326.out) hb); replace BK288 := ax (bb BK288.out hb); replace BK289 := ax (bb BK289.out hb); replace BK305 := ax (bb BK305.out hb); replace BK310 := ax (bb BK310.out hb); replace BK315 := ax (bb BK315.out hb); replace BK321 := ax (bb BK321.out hb); replace HB := ax (zar (bh HB.out) hb)
        (try clear hb)
        (try clear hk)
        refine hK.out _ _ ⟨(zag BK310.out 0).trans rfl, (zag BK310.out 1).trans rfl, (zag BK288.out 0).trans rfl, (zag BK288.out 1).trans rfl⟩ (fun hHeld => ?_)
        clear hK K
        refine nm ?_
        refine zer (i := 4) (N := some 58) (v := ?_) (a' := ?_) (xB 5 31) rfl rfl (by kernel_rfl) (fun _ _ _ h => h) (Or.inl ⟨by rfl, ?_⟩) ?_ ?_
        rotate_left
        ·intro w'
         go_simp
         with_reducible rfl
        rotate_left
        ·simp only [Act.put, List.setIfInBounds_toArray, List.set_cons_zero, List.set_cons_succ, zbZ, zcd]
         rfl
        refine zb6 (by kernel_rfl) ?_
        try go_wp2
        replace HO_1003 := ax (Kd.zbm HO_1003.out); replace HO_1000 := ax (Kd.zaK HO_1000.out); replace HO_1002 := ax (Kd.zaK HO_1002.out); replace HO_1001 := ax (Kd.zaK HO_1001.out); replace HO326 := ax (Kd.zaK HO326.out); replace BK288 := ax (zaf BK288.out); replace BK289 := ax (zaf BK289.out); replace BK305 := ax (zaf BK305.out); replace BK310 := ax (zaf BK310.out); replace BK315 := ax (zaf BK315.out); replace BK321 := ax (zaf BK321.out); replace HB := ax (zaN HB.out)
        refine zbJ (n := 5) (S := fun w' => w'.cell? ⟨gb315, 0, none⟩ = some (.int .i64 t311) ∧ w'.cell? ⟨gb315, 1, none⟩ = some (.slice Ao62 t312.length co62) ∧ w'.cell? ⟨gb289, 0, none⟩ = some (.int .i64 a1_0) ∧ w'.cell? ⟨gb289, 1, none⟩ = some (.slice A1_1 l1_1.length c1_1)) (ds := []) (xB 5 0) (by kernel_rfl) rfl (by kernel_rfl) ⟨(zag BK315.out 0).trans rfl, (zag BK315.out 1).trans rfl, (zag BK289.out 0).trans rfl, (zag BK289.out 1).trans rfl⟩ (fun hHeld => ?_)
        generalize w265.drew = w266 at HO_1003 HO_1000 HO_1002 HO_1001 HO326 BK288 BK289 BK305 BK310 BK315 BK321 HB hHeld ⊢
        refine zdQ (i := 0) (N := some 59) (v := ?_) (a' := ?_) (xB 5 1) rfl rfl (by kernel_rfl) (fun _ _ _ h => h) (Or.inl ⟨by rfl, ?_⟩) hHeld ?_ ?_
        rotate_left
        ·rintro w' ⟨s0, s1, s2, s3⟩
         go_simp
         with_reducible rfl
        rotate_left
        ·simp only [Act.put, List.setIfInBounds_toArray, List.set_cons_zero, List.set_cons_succ, zbZ, zcd]
         rfl
        refine zdQ (i := 1) (N := some 60) (v := ?_) (a' := ?_) (xB 5 3) rfl rfl (by kernel_rfl) (fun _ _ _ h => h) (Or.inl ⟨by rfl, ?_⟩) hHeld ?_ ?_
        rotate_left
        ·rintro w' ⟨s0, s1, s2, s3⟩
         go_simp
         with_reducible rfl
        rotate_left
        ·simp only [Act.put, List.setIfInBounds_toArray, List.set_cons_zero, List.set_cons_succ, zbZ, zcd]
         rfl
        refine one_ (i := 2) (N := some 61) (xB 5 7) rfl rfl (by kernel_rfl) (by decide) (fun K hK => ?_)
        refine zbQ Try.func9 (by kernel_rfl) rfl #[.agg #[.int .i64 a1_0, .slice A1_1 l1_1.length c1_1]] (by rfl) rfl rfl xm ?_
        with_reducible refine (zaY.calls kj24 a1_0 _ _ l1_1 t328 t329 _ ?side1 ?side2 A103.out).mono ?_
        (case side1 => exact xz HR1_1.out HB.out)
        (case side2 => exact HC1_1.out)
        rintro e w267 ⟨v330, rfl, ho0, hb⟩
        refine ⟨_, rfl, ?_⟩
        replace ho0 := Kd.zc7 ho0
        obtain ⟨N409_, ho0, hN409_⟩ := ho0
        replace HO_1003 := ax (Kd.zb3 (xV HO_1003.out) hN409_ (Kd.za6 ho0) hb); have HO331 := ax (Kd.zbV (Kd.zbl (Kd.zbl (Kd.zbl (Kd.zbl ho0 (Kd.S_lt (xS HO_1000.out))) (Kd.S_lt (xS HO_1002.out))) (Kd.S_lt (xS HO_1001.out))) (Kd.S_lt (xS HO326.out))) (zah (bh HB.out))); replace HO_1000 := ax (Kd.zaW (xS HO_1000.out) hN409_ (Kd.za6 ho0) hb); replace HO_1002 := ax (Kd.zaW (xS HO_1002.out) hN409_ (Kd.za6 ho0) hb); replace HO_1001 := ax (Kd.zaW (xS HO_1001.out) hN409_ (Kd.za6 ho0) hb); replace HO326 := ax (Kd.zaW (xS HO326.out) hN409_ (Kd.za6 ho0) hb); replace BK288 := ax (bb BK288.out hb); replace BK289 := ax (bb BK289.out hb); replace BK305 := ax (bb BK305.out hb); replace BK310 := ax (bb BK310.out hb); replace BK315 := ax (bb BK315.out hb); replace BK321 := ax (bb BK321.out hb); replace HB := ax (zar (bh HB.out) hb)
        (try clear hb)
        (try clear hk)
        (try clear ho0)
        (try clear hN409_)
        obtain ⟨Ao268, co268, eo268⟩ := Kd.zbC HO331.out
        (first | subst eo268 | (injection eo268 with f1_ f2_ f3_; have f4_ := f1_.symm; have f5_ := f3_.symm; clear f1_ f2_ f3_; subst f4_; subst f5_))
        refine hK.out _ _ ⟨(zag BK315.out 0).trans rfl, (zag BK315.out 1).trans rfl, (zag BK289.out 0).trans rfl, (zag BK289.out 1).trans rfl⟩ (fun hHeld => ?_)
        clear hK K
        refine nm ?_
        refine one_ (i := 3) (N := some 62) (xB 5 15) rfl rfl (by kernel_rfl) (by decide) (fun K hK => ?_)
        refine zbQ Try.func11 (by kernel_rfl) rfl #[.agg #[.int .i64 t311, .slice Ao62 t312.length co62], .agg #[.int .i64 t328, .slice Ao268 t329.length co268]] (by rfl) rfl rfl xm ?_
        with_reducible refine (zbd.calls kj24 t311 _ _ t312 t328 _ _ t329 false _ ?side1 ?side2 ?side3 ?side4 A104.out).mono ?_
        (case side1 => exact xc (Kd.zaG HO_1002.out).2.2)
        (case side2 => exact (Kd.zaG HO_1002.out).2.1)
        (case side3 => exact xc (Kd.zaG HO331.out).2.2)
        (case side4 => exact (Kd.zaG HO331.out).2.1)
        rintro e w269 ⟨rfl, hb⟩
        refine ⟨_, rfl, ?_⟩
        replace HO_1003 := yV HO_1003 hb; replace HO_1000 := ax (Kd.zaF (xS HO_1000.out) hb); replace HO_1002 := ax (Kd.zaF (xS HO_1002.out) hb); replace HO_1001 := ax (Kd.zaF (xS HO_1001.out) hb); replace HO326 := ax (Kd.zaF (xS HO326.out) hb); replace HO331 := ax (Kd.zaF (xS HO331.out) hb); replace BK288 := ax (bb BK288.out hb); replace BK289 := ax (bb BK289.out hb); replace BK305 := ax (bb BK305.out hb); replace BK310 := ax (bb BK310.out hb); replace BK315 := ax (bb BK315.out hb); replace BK321 := ax (bb BK321.out hb); replace HB := ax (zar (bh HB.out) hb)
        (try clear hb)
        (try clear hk)
        refine hK.out _ _ ⟨(zag BK315.out 0).trans rfl, (zag BK315.out 1).trans rfl, (zag BK289.out 0).trans rfl, (zag BK289.out 1).trans rfl⟩ (fun hHeld => ?_)
        clear hK K
        refine nm ?_
        refine zer (i := 4) (N := some 63) (v := ?_) (a' := ?_) (xB 5 31) rfl rfl (by kernel_rfl) (fun _ _ _ h => h) (Or.inl ⟨by rfl, ?_⟩) ?_ ?_
        rotate_left
        ·intro w'
         go_simp
         with_reducible rfl
        rotate_left
        ·simp only [Act.put, List.setIfInBounds_toArray, List.set_cons_zero, List.set_cons_succ, zbZ, zcd]
         rfl
        refine zb6 (by kernel_rfl) ?_
        try go_wp2
        go_ret
        exact ⟨xe, bh HB.out⟩
      ·replace c102 := Bool.eq_false_iff.mpr c102
       subst c102
       rw [if_neg (show ¬ (false = true) by decide)] at H
       obtain rfl := Option.some.inj H
       try go_wp2
       replace HO_1003 := ax (Kd.zbm HO_1003.out); replace HO_1000 := ax (Kd.zaK HO_1000.out); replace HO_1002 := ax (Kd.zaK HO_1002.out); replace HO_1001 := ax (Kd.zaK HO_1001.out); replace BK288 := ax (zaf BK288.out); replace BK289 := ax (zaf BK289.out); replace BK305 := ax (zaf BK305.out); replace BK310 := ax (zaf BK310.out); replace BK315 := ax (zaf BK315.out); replace BK321 := ax (zaf BK321.out); replace HB := ax (zaN HB.out)
       refine zbJ (n := 5) (S := fun w' => w'.cell? ⟨gb310, 0, none⟩ = some (.int .i64 t306) ∧ w'.cell? ⟨gb310, 1, none⟩ = some (.slice Ao52 t307.length co52) ∧ w'.cell? ⟨gb288, 0, none⟩ = some (.int .i64 a0_0) ∧ w'.cell? ⟨gb288, 1, none⟩ = some (.slice A0_1 l0_1.length c0_1)) (ds := []) (xB 5 0) (by kernel_rfl) rfl (by kernel_rfl) ⟨(zag BK310.out 0).trans rfl, (zag BK310.out 1).trans rfl, (zag BK288.out 0).trans rfl, (zag BK288.out 1).trans rfl⟩ (fun hHeld => ?_)
       generalize wc.drew = w270 at HO_1003 HO_1000 HO_1002 HO_1001 BK288 BK289 BK305 BK310 BK315 BK321 HB hHeld ⊢
       refine zdQ (i := 0) (N := some 54) (v := ?_) (a' := ?_) (xB 5 1) rfl rfl (by kernel_rfl) (fun _ _ _ h => h) (Or.inl ⟨by rfl, ?_⟩) hHeld ?_ ?_
       rotate_left
       ·rintro w' ⟨s0, s1, s2, s3⟩
        go_simp
        with_reducible rfl
       rotate_left
       ·simp only [Act.put, List.setIfInBounds_toArray, List.set_cons_zero, List.set_cons_succ, zbZ, zcd]
        rfl
       refine zdQ (i := 1) (N := some 55) (v := ?_) (a' := ?_) (xB 5 3) rfl rfl (by kernel_rfl) (fun _ _ _ h => h) (Or.inl ⟨by rfl, ?_⟩) hHeld ?_ ?_
       rotate_left
       ·rintro w' ⟨s0, s1, s2, s3⟩
        go_simp
        with_reducible rfl
       rotate_left
       ·simp only [Act.put, List.setIfInBounds_toArray, List.set_cons_zero, List.set_cons_succ, zbZ, zcd]
        rfl
       refine one_ (i := 2) (N := some 56) (xB 5 7) rfl rfl (by kernel_rfl) (by decide) (fun K hK => ?_)
       refine zbQ Try.func9 (by kernel_rfl) rfl #[.agg #[.int .i64 a0_0, .slice A0_1 l0_1.length c0_1]] (by rfl) rfl rfl xm ?_
       with_reducible refine (zaY.calls kj24 a0_0 _ _ l0_1 t323 t324 _ ?side1 ?side2 A100.out).mono ?_
       (case side1 => exact xz HR0_1.out HB.out)
       (case side2 => exact HC0_1.out)
       rintro e w271 ⟨v325, rfl, ho0, hb⟩
       refine ⟨_, rfl, ?_⟩
       replace ho0 := Kd.zc7 ho0
       obtain ⟨N411_, ho0, hN411_⟩ := ho0
       replace HO_1003 := ax (Kd.zb3 (xV HO_1003.out) hN411_ (Kd.za6 ho0) hb); have HO326 := ax (Kd.zbV (Kd.zbl (Kd.zbl (Kd.zbl ho0 (Kd.S_lt (xS HO_1000.out))) (Kd.S_lt (xS HO_1002.out))) (Kd.S_lt (xS HO_1001.out))) (zah (bh HB.out))); replace HO_1000 := ax (Kd.zaW (xS HO_1000.out) hN411_ (Kd.za6 ho0) hb); replace HO_1002 := ax (Kd.zaW (xS HO_1002.out) hN411_ (Kd.za6 ho0) hb); replace HO_1001 := ax (Kd.zaW (xS HO_1001.out) hN411_ (Kd.za6 ho0) hb); replace BK288 := ax (bb BK288.out hb); replace BK289 := ax (bb BK289.out hb); replace BK305 := ax (bb BK305.out hb); replace BK310 := ax (bb BK310.out hb); replace BK315 := ax (bb BK315.out hb); replace BK321 := ax (bb BK321.out hb); replace HB := ax (zar (bh HB.out) hb)
       (try clear hb)
       (try clear hk)
       (try clear ho0)
       (try clear hN411_)
       obtain ⟨Ao272, co272, eo272⟩ := Kd.zbC HO326.out
       (first | subst eo272 | (injection eo272 with f1_ f2_ f3_; have f4_ := f1_.symm; have f5_ := f3_.symm; clear f1_ f2_ f3_; subst f4_; subst f5_))
       refine hK.out _ _ ⟨(zag BK310.out 0).trans rfl, (zag BK310.out 1).trans rfl, (zag BK288.out 0).trans rfl, (zag BK288.out 1).trans rfl⟩ (fun hHeld => ?_)
       clear hK K
       refine nm ?_
       refine one_ (i := 3) (N := some 57) (xB 5 15) rfl rfl (by kernel_rfl) (by decide) (fun K hK => ?_)
       refine zbQ Try.func11 (by kernel_rfl) rfl #[.agg #[.int .i64 t306, .slice Ao52 t307.length co52], .agg #[.int .i64 t323, .slice Ao272 t324.length co272]] (by rfl) rfl rfl xm ?_
       with_reducible refine (zbd.calls kj24 t306 _ _ t307 t323 _ _ t324 false _ ?side1 ?side2 ?side3 ?side4 A101.out).mono ?_
       (case side1 => exact xc (Kd.zaG HO_1000.out).2.2)
       (case side2 => exact (Kd.zaG HO_1000.out).2.1)
       (case side3 => exact xc (Kd.zaG HO326.out).2.2)
       (case side4 => exact (Kd.zaG HO326.out).2.1)
       rintro e w273 ⟨rfl, hb⟩
       refine ⟨_, rfl, ?_⟩
       replace HO_1003 := yV HO_1003 hb; replace HO_1000 := ax (Kd.zaF (xS HO_1000.out) hb); replace HO_1002 := ax (Kd.zaF (xS HO_1002.out) hb); replace HO_1001 := ax (Kd.zaF (xS HO_1001.out) hb); replace HO326 := ax (Kd.zaF (xS HO326.out) hb); replace BK288 := ax (bb BK288.out hb); replace BK289 := ax (bb BK289.out hb); replace BK305 := ax (bb BK305.out hb); replace BK310 := ax (bb BK310.out hb); replace BK315 := ax (bb BK315.out hb); replace BK321 := ax (bb BK321.out hb); replace HB := ax (zar (bh HB.out) hb)
       (try clear hb)
       (try clear hk)
       refine hK.out _ _ ⟨(zag BK310.out 0).trans rfl, (zag BK310.out 1).trans rfl, (zag BK288.out 0).trans rfl, (zag BK288.out 1).trans rfl⟩ (fun hHeld => ?_)
       clear hK K
       refine nm ?_
       refine zer (i := 4) (N := some 58) (v := ?_) (a' := ?_) (xB 5 31) rfl rfl (by kernel_rfl) (fun _ _ _ h => h) (Or.inl ⟨by rfl, ?_⟩) ?_ ?_
       rotate_left
       ·intro w'
        go_simp
        with_reducible rfl
       rotate_left
       ·simp only [Act.put, List.setIfInBounds_toArray, List.set_cons_zero, List.set_cons_succ, zbZ, zcd]
        rfl
       refine zb6 (by kernel_rfl) ?_
       try go_wp2
       go_ret
       exact ⟨xe, bh HB.out⟩

/-- THE ONE PURE STATEMENT of zak: yours. -/
def zak.Pure : Prop := ∀ (a0_0 : Int) (l0_1 : List (S69)) (a1_0 : Int) (l1_1 : List (S69)), (Lit.int .i64 a0_0).wf = true → (l0_1.length ≤ maxLen ∧ ∀ y0_ ∈ l0_1, ((y0_.f0.length ≤ maxLen ∧ ∀ y1_ ∈ y0_.f0, (Lit.int .i64 y1_).wf = true) ∧ (Lit.int .i64 y0_.f1).wf = true)) → (Lit.int .i64 a1_0).wf = true → (l1_1.length ≤ maxLen ∧ ∀ y0_ ∈ l1_1, ((y0_.f0.length ≤ maxLen ∧ ∀ y1_ ∈ y0_.f0, (Lit.int .i64 y1_).wf = true) ∧ (Lit.int .i64 y0_.f1).wf = true)) → ∃ k, zak.f k a0_0 l0_1 a1_0 l1_1 = some true
theorem zak.walk (P : zak.Pure) (a0_0 : Int) (A0_1 : Option Addr) (c0_1 : Nat) (l0_1 : List (S69)) (a1_0 : Int) (A1_1 : Option Addr) (c1_1 : Nat) (l1_1 : List (S69)) (w : World) (hr0_1 : Kd.C k69 w A0_1 l0_1.length l0_1) (hc0_1 : l0_1.length ≤ c0_1) (hr1_1 : Kd.C k69 w A1_1 l1_1.length l1_1) (hc1_1 : l1_1.length ≤ c1_1) (hF0_0 : (Lit.int .i64 a0_0).wf = true) (hF0_1 : (l0_1.length ≤ maxLen ∧ ∀ y0_ ∈ l0_1, ((y0_.f0.length ≤ maxLen ∧ ∀ y1_ ∈ y0_.f0, (Lit.int .i64 y1_).wf = true) ∧ (Lit.int .i64 y0_.f1).wf = true))) (hF1_0 : (Lit.int .i64 a1_0).wf = true) (hF1_1 : (l1_1.length ≤ maxLen ∧ ∀ y0_ ∈ l1_1, ((y0_.f0.length ≤ maxLen ∧ ∀ y1_ ∈ y0_.f0, (Lit.int .i64 y1_).wf = true) ∧ (Lit.int .i64 y0_.f1).wf = true))) :
  Calls Try.prog 5 #[.agg #[.int .i64 a0_0, .slice A0_1 l0_1.length c0_1], .agg #[.int .i64 a1_0, .slice A1_1 l1_1.length c1_1]] w fun e w' => e = .returned (.bool true) ∧ Below w.heap.size w w' := by
 obtain ⟨k, h⟩ := P a0_0 l0_1 a1_0 l1_1 hF0_0 hF0_1 hF1_0 hF1_1
 refine (zak.calls k a0_0 A0_1 c0_1 l0_1 a1_0 A1_1 c1_1 l1_1 true w hr0_1 hc0_1 hr1_1 hc1_1 h).mono ?_
 rintro e w' ⟨rfl, hd⟩
 exact ⟨rfl, hd⟩

end Go.Proofs.Ytneipehcmmigeaa.PFnExactAddPolys
