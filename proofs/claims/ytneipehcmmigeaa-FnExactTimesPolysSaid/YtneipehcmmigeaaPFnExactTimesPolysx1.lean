import Derived.Test.YtneipehcmmigeaaPFnExactTimesPolysx0
namespace Go.Proofs.Ytneipehcmmigeaa.PFnExactTimesPolys
open Go.RowKit Go.Proofs.YtneipehcmmigeaaW.PrintWords Go.Proofs.YtneipehcmmigeaaW.PrintLast Go.Proofs.YtneipehcmmigeaaW.PrintMore
set_option linter.unusedVariables false
set_option linter.unusedSimpArgs false
set_option maxHeartbeats 8000000
set_option maxRecDepth 100000
def zc.f (l0 : List Int) (a1 : Int) : Option (Int) := if (wrap64 (a1 - (l0.length : Int))) < 0 then (some (-1)) else (some (wrap64 (a1 - (l0.length : Int))))
theorem zc.calls (A0 : Option Addr) (c0 : Nat) (l0 : List Int) (a1 : Int) (r : Int) (w : World) (hr0 : Kd.C (Kd.int .i64) w A0 l0.length l0) (hc0 : l0.length ≤ c0) (h : zc.f l0 a1 = some r) :
  Calls Try.prog 36 #[.slice A0 l0.length c0, .int .i64 a1] w fun e w' => e = .returned (.int .i64 r) ∧ zaJ w w' := by
 have HR0 := ax hr0
 have HC0 := ax hc0
 clear hr0 hc0
 have H : (if (wrap64 (a1 - (l0.length : Int))) < 0 then (some (-1)) else (some (wrap64 (a1 - (l0.length : Int))))) = some r := h
 clear h
 by_cases c3 : (wrap64 (a1 - (l0.length : Int))) < 0
 ·rw [if_pos c3] at H
  have c3b0 := decide_eq_true c3
  clear c3
  obtain rfl := Option.some.inj H
  go_enter Try.func36, Try.ntmps36
  go_wp2
  go_ret
  exact ⟨by first | rfl | (simp; done) | (simp [*]; done), by repeat (first | exact zaJ.refl _ | apply zaJ.step)⟩
 ·rw [if_neg c3] at H
  have c3b0 := decide_eq_false c3
  clear c3
  obtain rfl := Option.some.inj H
  go_enter Try.func36, Try.ntmps36
  go_wp2
  go_ret
  exact ⟨by first | rfl | (simp; done) | (simp [*]; done), by repeat (first | exact zaJ.refl _ | apply zaJ.step)⟩

def zci.f (l0_0 : List Int) (a0_1 : Int) (a1 : Int) : Option (Int) := (zc.f l0_0 a1).bind fun t102 => (if t102 < 0 then (some (-1)) else (some t102))
theorem zci.calls (A0_0 : Option Addr) (c0_0 : Nat) (l0_0 : List Int) (a0_1 : Int) (a1 : Int) (r : Int) (w : World) (hr0_0 : Kd.C (Kd.int .i64) w A0_0 l0_0.length l0_0) (hc0_0 : l0_0.length ≤ c0_0) (h : zci.f l0_0 a0_1 a1 = some r) :
  Calls Try.prog 50 #[.agg #[.slice A0_0 l0_0.length c0_0, .int .i64 a0_1], .int .i64 a1] w fun e w' => e = .returned (.int .i64 r) ∧ Below w.heap.size w w' := by
 have hu69 := Try.underlying69
 have HR0_0 := ax hr0_0
 have HC0_0 := ax hc0_0
 clear hr0_0 hc0_0
 have HB := ax (Below.refl w.heap.size w)
 have H : ((zc.f l0_0 a1).bind fun t102 => (if t102 < 0 then (some (-1)) else (some t102))) = some r := h
 clear h
 obtain ⟨t102, A3, H⟩ := xI H
 by_cases c4 : t102 < 0
 ·rw [if_pos c4] at H
  have c4b0 := decide_eq_true c4
  clear c4
  obtain rfl := Option.some.inj H
  go_enter Try.func50, Try.ntmps50
  go_wp2_with (first | ((with_reducible refine zaP (N := 2) rfl ?_); refine zaO ?hg (N := 2) ?hd (cs := #[.slice A0_0 l0_0.length c0_0, .int .i64 a0_1]) (t := 69) ?hr ?_; (case hd => rfl); (case hg => rfl); (case hr => first | (go_simp; done) | (go_simp; rfl)); intro gb101 hg w5 hbox hb; have BK101 := ax (hbox); have GW101 := ax ((by rw [hg]; exact (zaj (xb HB.out)) : w.heap.size ≤ gb101)); have GE101 := ax ((by rw [hg]; exact (zaj (xb HB.out)) : w.heap.size ≤ gb101)); replace HB := yB HB hb; clear hb hbox hg; have hcz6_0 := bc0 BK101.out; have hcz6_1 := bc1 BK101.out; have hfz6_0 := zag BK101.out 0; have hfz6_1 := zag BK101.out 1) | ((with_reducible refine zat (f := 36) rfl ?_); refine za2 (some 8) rfl rfl Try.func36 (by kernel_rfl) rfl #[.slice A0_0 l0_0.length c0_0, .int .i64 a1] rfl xm ?_; (with_reducible refine (zc.calls _ _ l0_0 a1 t102 _ ?side1 ?side2 A3.out).mono ?_); (case side1 => exact xz HR0_0.out HB.out); (case side2 => exact HC0_0.out); rintro e w' ⟨rfl, ⟨nd, rfl⟩⟩; refine ⟨_, rfl, ?_⟩))
  go_ret
  exact ⟨xe, xs HB.out GE101.out⟩
 ·rw [if_neg c4] at H
  have c4b0 := decide_eq_false c4
  clear c4
  obtain rfl := Option.some.inj H
  go_enter Try.func50, Try.ntmps50
  go_wp2_with (first | ((with_reducible refine zaP (N := 2) rfl ?_); refine zaO ?hg (N := 2) ?hd (cs := #[.slice A0_0 l0_0.length c0_0, .int .i64 a0_1]) (t := 69) ?hr ?_; (case hd => rfl); (case hg => rfl); (case hr => first | (go_simp; done) | (go_simp; rfl)); intro gb101 hg w7 hbox hb; have BK101 := ax (hbox); have GW101 := ax ((by rw [hg]; exact (zaj (xb HB.out)) : w.heap.size ≤ gb101)); have GE101 := ax ((by rw [hg]; exact (zaj (xb HB.out)) : w.heap.size ≤ gb101)); replace HB := yB HB hb; clear hb hbox hg; have hcz8_0 := bc0 BK101.out; have hcz8_1 := bc1 BK101.out; have hfz8_0 := zag BK101.out 0; have hfz8_1 := zag BK101.out 1) | ((with_reducible refine zat (f := 36) rfl ?_); refine za2 (some 8) rfl rfl Try.func36 (by kernel_rfl) rfl #[.slice A0_0 l0_0.length c0_0, .int .i64 a1] rfl xm ?_; (with_reducible refine (zc.calls _ _ l0_0 a1 t102 _ ?side1 ?side2 A3.out).mono ?_); (case side1 => exact xz HR0_0.out HB.out); (case side2 => exact HC0_0.out); rintro e w' ⟨rfl, ⟨nd, rfl⟩⟩; refine ⟨_, rfl, ?_⟩))
  go_ret
  exact ⟨xe, xs HB.out GE101.out⟩

def za5.l0 : Nat → List (S69) → Int → Int → Option (Int)
 | 0, _, _, _ => none
 | k + 1, x0, x1, x5 => if x5 < (x0.length : Int) then (if 0 ≤ x5 then ((zci.f ((zch x0 x5).f0) ((zch x0 x5).f1) x1).bind fun t104 => (if t104 < 0 then (some (-1)) else (za5.l0 k x0 t104 (wrap64 (x5 + 1))))) else (none)) else (some x1)
def za5.f (k : Nat) (l0 : List (S69)) (a1 : Int) : Option (Int) := if (wrap64 (a1 - (l0.length : Int))) < 0 then (some (-1)) else (za5.l0 k l0 (wrap64 (a1 - (l0.length : Int))) 0)
theorem za5.zbb : ∀ k, (∀ y0 y1 y2, LeO (za5.l0 k y0 y1 y2) (za5.l0 (k + 1) y0 y1 y2))
 | 0 => fun _ _ _ r h => by simp [za5.l0] at h
 | k + 1 => by
  have ih0 := za5.zbb k
  ·intro y0 y1 y2
   unfold za5.l0
   repeat' with_reducible first | exact ih0 _ _ _ | exact xl | refine LeO.ite ?_ ?_ | refine LeO.bind ?_ fun _ => ?_
theorem za5.mono : ∀ a0 a1 k, LeO (za5.f k a0 a1) (za5.f (k + 1) a0 a1) := by
 intro a0 a1 k
 have ih0 := za5.zbb k
 unfold za5.f
 repeat' with_reducible first | exact ih0 _ _ _ | exact xl | refine LeO.ite ?_ ?_ | refine LeO.bind ?_ fun _ => ?_
theorem za5.calls (k : Nat) (A0 : Option Addr) (c0 : Nat) (l0 : List (S69)) (a1 : Int) (r : Int) (w : World) (hr0 : Kd.C k69 w A0 l0.length l0) (hc0 : l0.length ≤ c0) (h : za5.f k l0 a1 = some r) :
  Calls Try.prog 24 #[.slice A0 l0.length c0, .int .i64 a1] w fun e w' => e = .returned (.int .i64 r) ∧ Below w.heap.size w w' := by
 have hu69 := Try.underlying69
 have HR0 := ax hr0
 have HC0 := ax hc0
 clear hr0 hc0
 have HB := ax (Below.refl w.heap.size w)
 have H : (if (wrap64 (a1 - (l0.length : Int))) < 0 then (some (-1)) else (za5.l0 k l0 (wrap64 (a1 - (l0.length : Int))) 0)) = some r := h
 clear h
 by_cases c3 : (wrap64 (a1 - (l0.length : Int))) < 0
 ·rw [if_pos c3] at H
  have c3b0 := decide_eq_true c3
  clear c3
  obtain rfl := Option.some.inj H
  go_enter Try.func24, Try.ntmps24
  go_wp2
  go_ret
  exact ⟨xe, xb HB.out⟩
 ·rw [if_neg c3] at H
  have c3b0 := decide_eq_false c3
  clear c3
  have H' := ax H
  clear H
  go_enter Try.func24, Try.ntmps24
  go_wp2
  go_loopg [1, 5] k (fun kq v1 v5 w' => ∃ (x1_1 : Int) (x5_1 : Int), v1 = .int .i64 x1_1 ∧ v5 = .int .i64 x5_1 ∧ zal (za5.l0 kq l0 x1_1 x5_1 = some r) ∧ zal (kq ≤ k) ∧ zal (Below w.heap.size w w'))
  case atStart => exact ⟨(wrap64 (a1 - (l0.length : Int))), (0), xr, xr, H', ⟨Nat.le_refl _⟩, ⟨xb HB.out⟩⟩
  case round =>
   clear H'
   (try clear c3); (try clear c3b0)
   obtain ⟨x1_1, x5_1, rfl, rfl, HA, HK1, HB⟩ := hrel
   cases gk with
   | zero => exact absurd HA.out (by simp [za5.l0])
   | succ k1 =>
    have H := HA.out
    clear HA
    simp only [za5.l0] at H
    by_cases c4 : x5_1 < (l0.length : Int)
    ·rw [if_pos c4] at H
     have c4b0 := decide_eq_true c4
     clear c4
     obtain ⟨c5b0, H⟩ := xq H
     obtain ⟨t104, A6, H⟩ := xI H
     by_cases c7 : t104 < 0
     ·rw [if_pos c7] at H
      have c7b0 := decide_eq_true c7
      clear c7
      obtain rfl := Option.some.inj H
      have p103 : 0 ≤ (x5_1 : Int) := xd
      have q103 : x5_1 < (l0.length : Int) := xd
      obtain ⟨ad103, A103_0, c103_0, e103, hx103_0, hx103_1, hl103_0, hi103_0⟩ := zhF HR0.out x5_1 p103 q103
      cases e103
      (try replace hx103_0 := (HB.out.cell (World.block_lt_of_cell? w _ hx103_0)).trans hx103_0)
      (try replace hx103_1 := (HB.out.cell (World.block_lt_of_cell? w _ hx103_1)).trans hx103_1)
      have HR103_0 := ax hi103_0
      have HC103_0 := ax hl103_0
      clear hi103_0 hl103_0
      replace p103 := eq_true p103
      replace q103 := eq_true q103
      go_wp2_with (first | ((with_reducible refine zat (f := 50) rfl ?_); refine za2 (some 23) rfl rfl Try.func50 (by kernel_rfl) rfl #[.agg #[.slice A103_0 ((zch l0 x5_1).f0).length c103_0, .int .i64 ((zch l0 x5_1).f1)], .int .i64 x1_1] rfl xm ?_; (with_reducible refine (zci.calls _ _ ((zch l0 x5_1).f0) ((zch l0 x5_1).f1) x1_1 t104 _ ?side1 ?side2 A6.out).mono ?_); (case side1 => exact xz HR103_0.out HB.out); (case side2 => exact HC103_0.out); rintro e w8 ⟨rfl, hb⟩; refine ⟨_, rfl, ?_⟩; replace HB := yB HB hb; (try clear hb)))
      go_ret
      exact ⟨xe, xb HB.out⟩
     ·rw [if_neg c7] at H
      have c7b0 := decide_eq_false c7
      clear c7
      have H' := ax H
      clear H
      have p103 : 0 ≤ (x5_1 : Int) := xd
      have q103 : x5_1 < (l0.length : Int) := xd
      obtain ⟨ad103, A103_0, c103_0, e103, hx103_0, hx103_1, hl103_0, hi103_0⟩ := zhF HR0.out x5_1 p103 q103
      cases e103
      (try replace hx103_0 := (HB.out.cell (World.block_lt_of_cell? w _ hx103_0)).trans hx103_0)
      (try replace hx103_1 := (HB.out.cell (World.block_lt_of_cell? w _ hx103_1)).trans hx103_1)
      have HR103_0 := ax hi103_0
      have HC103_0 := ax hl103_0
      clear hi103_0 hl103_0
      replace p103 := eq_true p103
      replace q103 := eq_true q103
      go_wp2_with (first | ((with_reducible refine zat (f := 50) rfl ?_); refine za2 (some 23) rfl rfl Try.func50 (by kernel_rfl) rfl #[.agg #[.slice A103_0 ((zch l0 x5_1).f0).length c103_0, .int .i64 ((zch l0 x5_1).f1)], .int .i64 x1_1] rfl xm ?_; (with_reducible refine (zci.calls _ _ ((zch l0 x5_1).f0) ((zch l0 x5_1).f1) x1_1 t104 _ ?side1 ?side2 A6.out).mono ?_); (case side1 => exact xz HR103_0.out HB.out); (case side2 => exact HC103_0.out); rintro e w9 ⟨rfl, hb⟩; refine ⟨_, rfl, ?_⟩; replace HB := yB HB hb; (try clear hb)))
      go_roundg k1
      case measure => have := HK1.out; omega
      case rel => exact ⟨(t104), (wrap64 (x5_1 + 1)), xr, xr, H', ⟨by have := HK1.out; omega⟩, ⟨xb HB.out⟩⟩
    ·rw [if_neg c4] at H
     have c4b0 := decide_eq_false c4
     clear c4
     obtain rfl := Option.some.inj H
     go_wp2
     go_ret
     exact ⟨xe, xb HB.out⟩

def zbw.f (k : Nat) (a0_0 : Int) (l0_1 : List (S69)) (a1 : Int) : Option (Int) := (za5.f k l0_1 a1).bind fun t106 => (if t106 < 0 then (some (-1)) else (some t106))
theorem zbw.mono : ∀ a0 a1 a2 k, LeO (zbw.f k a0 a1 a2) (zbw.f (k + 1) a0 a1 a2) := by
 intro a0 a1 a2 k
 unfold zbw.f
 repeat' with_reducible first | exact za5.mono _ _ _ | exact xl | refine LeO.ite ?_ ?_ | refine LeO.bind ?_ fun _ => ?_
theorem zbw.calls (k : Nat) (a0_0 : Int) (A0_1 : Option Addr) (c0_1 : Nat) (l0_1 : List (S69)) (a1 : Int) (r : Int) (w : World) (hr0_1 : Kd.C k69 w A0_1 l0_1.length l0_1) (hc0_1 : l0_1.length ≤ c0_1) (h : zbw.f k a0_0 l0_1 a1 = some r) :
  Calls Try.prog 7 #[.agg #[.int .i64 a0_0, .slice A0_1 l0_1.length c0_1], .int .i64 a1] w fun e w' => e = .returned (.int .i64 r) ∧ Below w.heap.size w w' := by
 have hu24 := Try.underlying24
 have HR0_1 := ax hr0_1
 have HC0_1 := ax hc0_1
 clear hr0_1 hc0_1
 have HB := ax (Below.refl w.heap.size w)
 have H : ((za5.f k l0_1 a1).bind fun t106 => (if t106 < 0 then (some (-1)) else (some t106))) = some r := h
 clear h
 obtain ⟨t106, A3, H⟩ := xI H
 by_cases c4 : t106 < 0
 ·rw [if_pos c4] at H
  have c4b0 := decide_eq_true c4
  clear c4
  obtain rfl := Option.some.inj H
  go_enter Try.func7, Try.ntmps7
  go_wp2_with (first | ((with_reducible refine zaP (N := 2) rfl ?_); refine zaO ?hg (N := 2) ?hd (cs := #[.int .i64 a0_0, .slice A0_1 l0_1.length c0_1]) (t := 24) ?hr ?_; (case hd => rfl); (case hg => rfl); (case hr => first | (go_simp; done) | (go_simp; rfl)); intro gb105 hg w5 hbox hb; have BK105 := ax (hbox); have GW105 := ax ((by rw [hg]; exact (zaj (xb HB.out)) : w.heap.size ≤ gb105)); have GE105 := ax ((by rw [hg]; exact (zaj (xb HB.out)) : w.heap.size ≤ gb105)); replace HB := yB HB hb; clear hb hbox hg; have hcz6_0 := bc0 BK105.out; have hcz6_1 := bc1 BK105.out; have hfz6_0 := zag BK105.out 0; have hfz6_1 := zag BK105.out 1) | ((with_reducible refine zat (f := 24) rfl ?_); refine za2 (some 8) rfl rfl Try.func24 (by kernel_rfl) rfl #[.slice A0_1 l0_1.length c0_1, .int .i64 a1] rfl xm ?_; (with_reducible refine (za5.calls k _ _ l0_1 a1 t106 _ ?side1 ?side2 A3.out).mono ?_); (case side1 => exact xz HR0_1.out HB.out); (case side2 => exact HC0_1.out); rintro e w7 ⟨rfl, hb⟩; refine ⟨_, rfl, ?_⟩; replace BK105 := ax (bb BK105.out hb); replace HB := ax (zas (xs HB.out GE105.out) hb); (try clear hb)))
  go_ret
  exact ⟨xe, xs HB.out GE105.out⟩
 ·rw [if_neg c4] at H
  have c4b0 := decide_eq_false c4
  clear c4
  obtain rfl := Option.some.inj H
  go_enter Try.func7, Try.ntmps7
  go_wp2_with (first | ((with_reducible refine zaP (N := 2) rfl ?_); refine zaO ?hg (N := 2) ?hd (cs := #[.int .i64 a0_0, .slice A0_1 l0_1.length c0_1]) (t := 24) ?hr ?_; (case hd => rfl); (case hg => rfl); (case hr => first | (go_simp; done) | (go_simp; rfl)); intro gb105 hg w8 hbox hb; have BK105 := ax (hbox); have GW105 := ax ((by rw [hg]; exact (zaj (xb HB.out)) : w.heap.size ≤ gb105)); have GE105 := ax ((by rw [hg]; exact (zaj (xb HB.out)) : w.heap.size ≤ gb105)); replace HB := yB HB hb; clear hb hbox hg; have hcz9_0 := bc0 BK105.out; have hcz9_1 := bc1 BK105.out; have hfz9_0 := zag BK105.out 0; have hfz9_1 := zag BK105.out 1) | ((with_reducible refine zat (f := 24) rfl ?_); refine za2 (some 8) rfl rfl Try.func24 (by kernel_rfl) rfl #[.slice A0_1 l0_1.length c0_1, .int .i64 a1] rfl xm ?_; (with_reducible refine (za5.calls k _ _ l0_1 a1 t106 _ ?side1 ?side2 A3.out).mono ?_); (case side1 => exact xz HR0_1.out HB.out); (case side2 => exact HC0_1.out); rintro e w10 ⟨rfl, hb⟩; refine ⟨_, rfl, ?_⟩; replace BK105 := ax (bb BK105.out hb); replace HB := ax (zas (xs HB.out GE105.out) hb); (try clear hb)))
  go_ret
  exact ⟨xe, xs HB.out GE105.out⟩

def zcs.f (a0 : Int) (a1 : Int) (a2 : Int) : Option (Bool) := if a0 ≥ a1 then (some (decide (a0 ≤ a2))) else (some false)
theorem zcs.calls (a0 : Int) (a1 : Int) (a2 : Int) (r : Bool) (w : World) (h : zcs.f a0 a1 a2 = some r) :
  Calls Try.prog 38 #[.int .i64 a0, .int .i64 a1, .int .i64 a2] w fun e w' => e = .returned (.bool r) ∧ zaJ w w' := by
 have H : (if a0 ≥ a1 then (some (decide (a0 ≤ a2))) else (some false)) = some r := h
 clear h
 by_cases c4 : a0 ≥ a1
 ·rw [if_pos c4] at H
  have c4b0 : decide (a1 ≤ a0) = true := decide_eq_true c4
  clear c4
  obtain rfl := Option.some.inj H
  go_enter Try.func38, Try.ntmps38
  go_wp2
  go_ret
  exact ⟨by first | rfl | (simp; done) | (simp [*]; done), by repeat (first | exact zaJ.refl _ | apply zaJ.step)⟩
 ·rw [if_neg c4] at H
  have c4b0 : decide (a1 ≤ a0) = false := decide_eq_false c4
  clear c4
  obtain rfl := Option.some.inj H
  go_enter Try.func38, Try.ntmps38
  go_wp2
  go_ret
  exact ⟨by first | rfl | (simp; done) | (simp [*]; done), by repeat (first | exact zaJ.refl _ | apply zaJ.step)⟩

def za0.l0 : Nat → Int → Int → List Int → Int → Option (Bool)
 | 0, _, _, _, _ => none
 | k + 1, x1, x5, x1000, x1001 => if x5 < (x1000.length : Int) then (if 0 ≤ x5 then ((zcs.f (rd x1000 x5) 0 18).bind fun t109 => (if t109 = true then (za0.l0 k x1 (wrap64 (x5 + 1)) x1000 x1001) else (some false))) else (none)) else (if (x1000.length : Int) = x1 then (some (x1001 != 0)) else (some false))
def za0.f (k : Nat) (l0_0 : List Int) (a0_1 : Int) (a1 : Int) : Option (Bool) := za0.l0 k a1 0 l0_0 a0_1
theorem za0.zbb : ∀ k, (∀ y0 y1 y2 y3, LeO (za0.l0 k y0 y1 y2 y3) (za0.l0 (k + 1) y0 y1 y2 y3))
 | 0 => fun _ _ _ _ r h => by simp [za0.l0] at h
 | k + 1 => by
  have ih0 := za0.zbb k
  ·intro y0 y1 y2 y3
   unfold za0.l0
   repeat' with_reducible first | exact ih0 _ _ _ _ | exact xl | refine LeO.ite ?_ ?_ | refine LeO.bind ?_ fun _ => ?_
theorem za0.mono : ∀ a0 a1 a2 k, LeO (za0.f k a0 a1 a2) (za0.f (k + 1) a0 a1 a2) := by
 intro a0 a1 a2 k
 have ih0 := za0.zbb k
 unfold za0.f
 repeat' with_reducible first | exact ih0 _ _ _ _ | exact xl | refine LeO.ite ?_ ?_ | refine LeO.bind ?_ fun _ => ?_
theorem za0.calls (k : Nat) (A0_0 : Option Addr) (c0_0 : Nat) (l0_0 : List Int) (a0_1 : Int) (a1 : Int) (r : Bool) (w : World) (hr0_0 : Kd.C (Kd.int .i64) w A0_0 l0_0.length l0_0) (hc0_0 : l0_0.length ≤ c0_0) (h : za0.f k l0_0 a0_1 a1 = some r) :
  Calls Try.prog 51 #[.agg #[.slice A0_0 l0_0.length c0_0, .int .i64 a0_1], .int .i64 a1] w fun e w' => e = .returned (.bool r) ∧ Below w.heap.size w w' := by
 have hu48 := Try.underlying48
 have HR0_0 := ax hr0_0
 have HC0_0 := ax hc0_0
 clear hr0_0 hc0_0
 have HB := ax (Below.refl w.heap.size w)
 have H : (za0.l0 k a1 0 l0_0 a0_1) = some r := h
 clear h
 have H' := ax H
 clear H
 go_enter Try.func51, Try.ntmps51
 go_wp2_with (first | ((with_reducible refine zaP (N := 2) rfl ?_); refine zaO ?hg (N := 2) ?hd (cs := #[.slice A0_0 l0_0.length c0_0, .int .i64 a0_1]) (t := 48) ?hr ?_; (case hd => rfl); (case hg => rfl); (case hr => first | (go_simp; done) | (go_simp; rfl)); intro gb107 hg w3 hbox hb; have BK107 := ax (hbox); have GW107 := ax ((by rw [hg]; exact (zaj (xb HB.out)) : w.heap.size ≤ gb107)); have GE107 := ax ((by rw [hg]; exact (zaj (xb HB.out)) : w.heap.size ≤ gb107)); replace HB := yB HB hb; clear hb hbox hg))
 go_loopg [5] k (fun kq v5 w' => ∃ (x5_1 : Int), v5 = .int .i64 x5_1 ∧ zal (za0.l0 kq a1 x5_1 l0_0 a0_1 = some r) ∧ zal (kq ≤ k) ∧ zal (w'.heap[gb107]? = some (.cells #[(.slice A0_0 l0_0.length c0_0), .int .i64 a0_1] 48 (0, 0))) ∧ zal (Below w.heap.size w w'))
 case atStart => exact ⟨(0), xr, H', ⟨Nat.le_refl _⟩, ⟨xk BK107.out⟩, ⟨xs HB.out GE107.out⟩⟩
 case round =>
  clear H'
  obtain ⟨x5_1, rfl, HA, HK1, BK107, HB⟩ := hrel
  cases gk with
  | zero => exact absurd HA.out (by simp [za0.l0])
  | succ k1 =>
   have H := HA.out
   clear HA
   simp only [za0.l0] at H
   by_cases c4 : x5_1 < (l0_0.length : Int)
   ·rw [if_pos c4] at H
    have c4b0 := decide_eq_true c4
    clear c4
    obtain ⟨c5b0, H⟩ := xq H
    obtain ⟨t109, A6, H⟩ := xI H
    by_cases c7 : t109 = true
    ·subst c7
     rw [if_pos rfl] at H
     have H' := ax H
     clear H
     have hcz8_0 := bc0 BK107.out
     have hcz8_1 := bc1 BK107.out
     have hfz8_0 := zag BK107.out 0
     have hfz8_1 := zag BK107.out 1
     have p108 : 0 ≤ (x5_1 : Int) := xd
     have q108 : x5_1 < (l0_0.length : Int) := xd
     obtain ⟨ad108, e108, hx108_0⟩ := Kd.zbO HR0_0.out x5_1 p108 q108
     cases e108
     (try replace hx108_0 := (HB.out.cell (World.block_lt_of_cell? w _ hx108_0)).trans hx108_0)
     replace p108 := eq_true p108
     replace q108 := eq_true q108
     go_wp2_with (first | ((with_reducible refine zat (f := 38) rfl ?_); refine za2 (some 18) rfl rfl Try.func38 (by kernel_rfl) rfl #[.int .i64 (rd l0_0 x5_1), .int .i64 0, .int .i64 18] rfl xm ?_; (with_reducible refine (zcs.calls (rd l0_0 x5_1) 0 18 true _ A6.out).mono ?_); rintro e w' ⟨rfl, ⟨nd, rfl⟩⟩; refine ⟨_, rfl, ?_⟩))
     go_roundg k1
     case measure => have := HK1.out; omega
     case rel => exact ⟨(wrap64 (x5_1 + 1)), xr, H', ⟨by have := HK1.out; omega⟩, ⟨xk BK107.out⟩, ⟨xs HB.out GE107.out⟩⟩
    ·replace c7 := Bool.eq_false_iff.mpr c7
     subst c7
     rw [if_neg (show ¬ (false = true) by decide)] at H
     obtain rfl := Option.some.inj H
     have hcz9_0 := bc0 BK107.out
     have hcz9_1 := bc1 BK107.out
     have hfz9_0 := zag BK107.out 0
     have hfz9_1 := zag BK107.out 1
     have p108 : 0 ≤ (x5_1 : Int) := xd
     have q108 : x5_1 < (l0_0.length : Int) := xd
     obtain ⟨ad108, e108, hx108_0⟩ := Kd.zbO HR0_0.out x5_1 p108 q108
     cases e108
     (try replace hx108_0 := (HB.out.cell (World.block_lt_of_cell? w _ hx108_0)).trans hx108_0)
     replace p108 := eq_true p108
     replace q108 := eq_true q108
     go_wp2_with (first | ((with_reducible refine zat (f := 38) rfl ?_); refine za2 (some 18) rfl rfl Try.func38 (by kernel_rfl) rfl #[.int .i64 (rd l0_0 x5_1), .int .i64 0, .int .i64 18] rfl xm ?_; (with_reducible refine (zcs.calls (rd l0_0 x5_1) 0 18 false _ A6.out).mono ?_); rintro e w' ⟨rfl, ⟨nd, rfl⟩⟩; refine ⟨_, rfl, ?_⟩))
     go_ret
     exact ⟨xe, xs HB.out GE107.out⟩
   ·rw [if_neg c4] at H
    have c4b0 := decide_eq_false c4
    clear c4
    by_cases c10 : (l0_0.length : Int) = a1
    ·rw [if_pos c10] at H
     have c10b0 : ((l0_0.length : Int) == a1) = true := beq_iff_eq.mpr c10
     have c10b1 : ((l0_0.length : Int) != a1) = false := bne_eq_false_iff_eq.mpr c10
     clear c10
     obtain rfl := Option.some.inj H
     have hcz11_0 := bc0 BK107.out
     have hcz11_1 := bc1 BK107.out
     have hfz11_0 := zag BK107.out 0
     have hfz11_1 := zag BK107.out 1
     go_wp2
     go_ret
     exact ⟨xe, xs HB.out GE107.out⟩
    ·rw [if_neg c10] at H
     have c10b0 : ((l0_0.length : Int) == a1) = false := beq_eq_false_iff_ne.mpr c10
     have c10b1 : ((l0_0.length : Int) != a1) = true := bne_iff_ne.mpr c10
     obtain rfl := Option.some.inj H
     have hcz12_0 := bc0 BK107.out
     have hcz12_1 := bc1 BK107.out
     have hfz12_0 := zag BK107.out 0
     have hfz12_1 := zag BK107.out 1
     go_wp2
     go_ret
     exact ⟨xe, xs HB.out GE107.out⟩

mutual
def zaA.l0 : Nat → List Int → List Int → Int → Option (Bool)
 | 0, _, _, _ => none
 | k + 1, x0, x1, x5 => if x5 < (x0.length : Int) then (zaA.j1 k x0 x1 x5 (decide (x5 < (x1.length : Int)))) else (zaA.j1 k x0 x1 x5 false)
def zaA.j1 : Nat → List Int → List Int → Int → Bool → Option (Bool)
 | 0, _, _, _, _ => none
 | k + 1, x0, x1, x5, x15 => if x15 = true then (if 0 ≤ x5 then (if x5 < (x0.length : Int) then (if x5 < (x1.length : Int) then (if (rd x0 x5) = (rd x1 x5) then (zaA.l0 k x0 x1 (wrap64 (x5 + 1))) else (some (decide ((rd x0 x5) < (rd x1 x5))))) else (none)) else (none)) else (none)) else (some (decide ((x0.length : Int) < (x1.length : Int))))
end
def zaA.f (k : Nat) (l0 : List Int) (l1 : List Int) : Option (Bool) := zaA.l0 k l0 l1 0
theorem zaA.zbb : ∀ k, (∀ y0 y1 y2, LeO (zaA.l0 k y0 y1 y2) (zaA.l0 (k + 1) y0 y1 y2)) ∧ (∀ y0 y1 y2 y3, LeO (zaA.j1 k y0 y1 y2 y3) (zaA.j1 (k + 1) y0 y1 y2 y3))
 | 0 => ⟨fun _ _ _ r h => by simp [zaA.l0] at h, fun _ _ _ _ r h => by simp [zaA.j1] at h⟩
 | k + 1 => by
  obtain ⟨ih0, ih1⟩ := zaA.zbb k
  refine ⟨?_, ?_⟩ <;> intros <;> (first | unfold zaA.l0 | unfold zaA.j1) <;> repeat' with_reducible first | exact ih0 _ _ _ | exact ih1 _ _ _ _ | exact xl | refine LeO.ite ?_ ?_ | refine LeO.bind ?_ fun _ => ?_
theorem zaA.mono : ∀ a0 a1 k, LeO (zaA.f k a0 a1) (zaA.f (k + 1) a0 a1) := by
 intro a0 a1 k
 obtain ⟨ih0, ih1⟩ := zaA.zbb k
 unfold zaA.f
 repeat' with_reducible first | exact ih0 _ _ _ | exact ih1 _ _ _ _ | exact xl | refine LeO.ite ?_ ?_ | refine LeO.bind ?_ fun _ => ?_
theorem zaA.calls (k : Nat) (A0 : Option Addr) (c0 : Nat) (l0 : List Int) (A1 : Option Addr) (c1 : Nat) (l1 : List Int) (r : Bool) (w : World) (hr0 : Kd.C (Kd.int .i64) w A0 l0.length l0) (hc0 : l0.length ≤ c0) (hr1 : Kd.C (Kd.int .i64) w A1 l1.length l1) (hc1 : l1.length ≤ c1) (h : zaA.f k l0 l1 = some r) :
  Calls Try.prog 52 #[.slice A0 l0.length c0, .slice A1 l1.length c1] w fun e w' => e = .returned (.bool r) ∧ zaJ w w' := by
 have HR0 := ax hr0
 have HC0 := ax hc0
 clear hr0 hc0
 have HR1 := ax hr1
 have HC1 := ax hc1
 clear hr1 hc1
 have H : (zaA.l0 k l0 l1 0) = some r := h
 clear h
 have H' := ax H
 clear H
 go_enter Try.func52, Try.ntmps52
 go_wp2
 repeat (go_quiet (fail); try go_wp2)
 go_loopg [5] k (fun kq v5 w' => ∃ (x5_1 : Int), v5 = .int .i64 x5_1 ∧ zal (zaA.l0 kq l0 l1 x5_1 = some r) ∧ zal (kq ≤ k) ∧ zaJ w w')
 case atStart => exact ⟨(0), xr, H', ⟨Nat.le_refl _⟩, by repeat (first | exact zaJ.refl _ | apply zaJ.step)⟩
 case round =>
  clear H'
  (try clear c1)
  obtain ⟨x5_1, rfl, HA, HK1, ⟨m1, rfl⟩⟩ := hrel
  cases gk with
  | zero => exact absurd HA.out (by simp [zaA.l0])
  | succ k1 =>
   have H := HA.out
   clear HA
   simp only [zaA.l0] at H
   have HC3 := ax H
   clear H
   go_upto_region 2 with (fail)
   repeat (go_quiet (fail); go_upto_region 2 with (fail))
   go_cut [15] (fun v15 wc => ∃ (kq : Nat) (x15_2 : Bool), v15 = .bool x15_2 ∧ zal (zaA.j1 kq l0 l1 x5_1 x15_2 = some r) ∧ zal (kq ≤ k1) ∧ zaJ w wc)
   case first =>
    have H := HC3.out
    clear HC3
    by_cases c4 : x5_1 < (l0.length : Int)
    ·rw [if_pos c4] at H
     have c4b0 := decide_eq_true c4
     clear c4
     (first | rw [c4b0] | (simp only [zbP, zb8]; rw [c4b0]) | skip)
     have H' := ax H
     clear H
     go_wp2
     repeat (go_quiet (fail); try go_wp2)
     go_meet
     case rel => exact ⟨_, (decide (x5_1 < (l1.length : Int))), xr, H', ⟨by have := HK1.out; first | omega | exact Nat.le_refl _⟩, by repeat (first | exact zaJ.refl _ | apply zaJ.step)⟩
    ·rw [if_neg c4] at H
     have c4b0 := decide_eq_false c4
     clear c4
     (first | rw [c4b0] | (simp only [zbP, zb8]; rw [c4b0]) | skip)
     have H' := ax H
     clear H
     go_wp2
     repeat (go_quiet (fail); try go_wp2)
     go_meet
     case rel => exact ⟨_, (false), xr, H', ⟨by have := HK1.out; first | omega | exact Nat.le_refl _⟩, by repeat (first | exact zaJ.refl _ | apply zaJ.step)⟩
   case rest =>
    clear HC3
    (try clear c1); (try clear c4); (try clear c4b0)
    obtain ⟨kq, x15_2, rfl, HA, HJ2, ⟨mc2, rfl⟩⟩ := hcut
    cases kq with
    | zero => exact absurd HA.out (by simp [zaA.j1])
    | succ kj2 =>
     have H := HA.out
     clear HA
     simp only [zaA.j1] at H
     by_cases c5 : x15_2 = true
     ·subst c5
      rw [if_pos rfl] at H
      obtain ⟨c6b0, H⟩ := xq H
      obtain ⟨c7b0, H⟩ := xq H
      obtain ⟨c8b0, H⟩ := xq H
      by_cases c9 : (rd l0 x5_1) = (rd l1 x5_1)
      ·rw [if_pos c9] at H
       have c9b0 : ((rd l0 x5_1) == (rd l1 x5_1)) = true := beq_iff_eq.mpr c9
       have c9b1 : ((rd l0 x5_1) != (rd l1 x5_1)) = false := bne_eq_false_iff_eq.mpr c9
       clear c9
       have H' := ax H
       clear H
       have p110 : 0 ≤ (x5_1 : Int) := xd
       have q110 : x5_1 < (l0.length : Int) := xd
       obtain ⟨ad110, e110, hx110_0⟩ := Kd.zbO HR0.out x5_1 p110 q110
       cases e110
       replace p110 := eq_true p110
       replace q110 := eq_true q110
       have p111 : 0 ≤ (x5_1 : Int) := xd
       have q111 : x5_1 < (l1.length : Int) := xd
       obtain ⟨ad111, e111, hx111_0⟩ := Kd.zbO HR1.out x5_1 p111 q111
       cases e111
       replace p111 := eq_true p111
       replace q111 := eq_true q111
       go_wp2
       repeat (go_quiet (fail); try go_wp2)
       go_roundg kj2
       case measure => have := HK1.out; have := HJ2.out; omega
       case rel => exact ⟨(wrap64 (x5_1 + 1)), xr, H', ⟨by have := HK1.out; have := HJ2.out; omega⟩, by repeat (first | exact zaJ.refl _ | apply zaJ.step)⟩
      ·rw [if_neg c9] at H
       have c9b0 : ((rd l0 x5_1) == (rd l1 x5_1)) = false := beq_eq_false_iff_ne.mpr c9
       have c9b1 : ((rd l0 x5_1) != (rd l1 x5_1)) = true := bne_iff_ne.mpr c9
       obtain rfl := Option.some.inj H
       have p110 : 0 ≤ (x5_1 : Int) := xd
       have q110 : x5_1 < (l0.length : Int) := xd
       obtain ⟨ad110, e110, hx110_0⟩ := Kd.zbO HR0.out x5_1 p110 q110
       cases e110
       replace p110 := eq_true p110
       replace q110 := eq_true q110
       have p111 : 0 ≤ (x5_1 : Int) := xd
       have q111 : x5_1 < (l1.length : Int) := xd
       obtain ⟨ad111, e111, hx111_0⟩ := Kd.zbO HR1.out x5_1 p111 q111
       cases e111
       replace p111 := eq_true p111
       replace q111 := eq_true q111
       have p112 : 0 ≤ (x5_1 : Int) := xd
       have q112 : x5_1 < (l0.length : Int) := xd
       obtain ⟨ad112, e112, hx112_0⟩ := Kd.zbO HR0.out x5_1 p112 q112
       obtain rfl : ad110 = ad112 := (by injection e112)
       replace p112 := eq_true p112
       replace q112 := eq_true q112
       have p113 : 0 ≤ (x5_1 : Int) := xd
       have q113 : x5_1 < (l1.length : Int) := xd
       obtain ⟨ad113, e113, hx113_0⟩ := Kd.zbO HR1.out x5_1 p113 q113
       obtain rfl : ad111 = ad113 := (by injection e113)
       replace p113 := eq_true p113
       replace q113 := eq_true q113
       go_wp2
       repeat (go_quiet (fail); try go_wp2)
       go_ret
       exact ⟨by first | rfl | (simp; done) | (simp [*]; done), by repeat (first | exact zaJ.refl _ | apply zaJ.step)⟩
     ·replace c5 := Bool.eq_false_iff.mpr c5
      subst c5
      rw [if_neg (show ¬ (false = true) by decide)] at H
      obtain rfl := Option.some.inj H
      go_wp2
      repeat (go_quiet (fail); try go_wp2)
      go_ret
      exact ⟨by first | rfl | (simp; done) | (simp [*]; done), by repeat (first | exact zaJ.refl _ | apply zaJ.step)⟩

end Go.Proofs.Ytneipehcmmigeaa.PFnExactTimesPolys
