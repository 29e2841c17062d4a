import Derived.Test.YtneipehcmmigeaaPFnExactAddPolysx0
namespace Go.Proofs.Ytneipehcmmigeaa.PFnExactAddPolys
open Go.RowKit Go.Proofs.YtneipehcmmigeaaW.PrintWords Go.Proofs.YtneipehcmmigeaaW.PrintLast Go.Proofs.YtneipehcmmigeaaW.PrintMore
set_option linter.unusedVariables false
set_option linter.unusedSimpArgs false
set_option maxHeartbeats 8000000
set_option maxRecDepth 100000
def zb8.f (l0 : List Int) (a1 : Int) : Option (Int) := if (wrap64 (a1 - (l0.length : Int))) < 0 then (some (-1)) else (some (wrap64 (a1 - (l0.length : Int))))
theorem zb8.calls (A0 : Option Addr) (c0 : Nat) (l0 : List Int) (a1 : Int) (r : Int) (w : World) (hr0 : Kd.C (Kd.int .i64) w A0 l0.length l0) (hc0 : l0.length ≤ c0) (h : zb8.f l0 a1 = some r) :
  Calls Try.prog 36 #[.slice A0 l0.length c0, .int .i64 a1] w fun e w' => e = .returned (.int .i64 r) ∧ zaI w w' := by
 have HR0 := ax hr0
 have HC0 := ax hc0
 clear hr0 hc0
 have H : (if (wrap64 (a1 - (l0.length : Int))) < 0 then (some (-1)) else (some (wrap64 (a1 - (l0.length : Int))))) = some r := h
 clear h
 by_cases c3 : (wrap64 (a1 - (l0.length : Int))) < 0
 ·rw [if_pos c3] at H
  have c3b0 := decide_eq_true c3
  clear c3
  obtain rfl := Option.some.inj H
  go_enter Try.func36, Try.ntmps36
  go_wp2
  go_ret
  exact ⟨by first | rfl | (simp; done) | (simp [*]; done), by repeat (first | exact zaI.refl _ | apply zaI.step)⟩
 ·rw [if_neg c3] at H
  have c3b0 := decide_eq_false c3
  clear c3
  obtain rfl := Option.some.inj H
  go_enter Try.func36, Try.ntmps36
  go_wp2
  go_ret
  exact ⟨by first | rfl | (simp; done) | (simp [*]; done), by repeat (first | exact zaI.refl _ | apply zaI.step)⟩

def zcf.f (l0_0 : List Int) (a0_1 : Int) (a1 : Int) : Option (Int) := (zb8.f l0_0 a1).bind fun t102 => (if t102 < 0 then (some (-1)) else (some t102))
theorem zcf.calls (A0_0 : Option Addr) (c0_0 : Nat) (l0_0 : List Int) (a0_1 : Int) (a1 : Int) (r : Int) (w : World) (hr0_0 : Kd.C (Kd.int .i64) w A0_0 l0_0.length l0_0) (hc0_0 : l0_0.length ≤ c0_0) (h : zcf.f l0_0 a0_1 a1 = some r) :
  Calls Try.prog 50 #[.agg #[.slice A0_0 l0_0.length c0_0, .int .i64 a0_1], .int .i64 a1] w fun e w' => e = .returned (.int .i64 r) ∧ Below w.heap.size w w' := by
 have hu69 := Try.underlying69
 have HR0_0 := ax hr0_0
 have HC0_0 := ax hc0_0
 clear hr0_0 hc0_0
 have HB := ax (Below.refl w.heap.size w)
 have H : ((zb8.f l0_0 a1).bind fun t102 => (if t102 < 0 then (some (-1)) else (some t102))) = some r := h
 clear h
 obtain ⟨t102, A3, H⟩ := xI H
 by_cases c4 : t102 < 0
 ·rw [if_pos c4] at H
  have c4b0 := decide_eq_true c4
  clear c4
  obtain rfl := Option.some.inj H
  go_enter Try.func50, Try.ntmps50
  go_wp2_with (first | ((with_reducible refine zaV (N := 2) rfl ?_); refine zaO ?hg (N := 2) ?hd (cs := #[.slice A0_0 l0_0.length c0_0, .int .i64 a0_1]) (t := 69) ?hr ?_; (case hd => rfl); (case hg => rfl); (case hr => first | (go_simp; done) | (go_simp; rfl)); intro gb101 hg w5 hbox hb; have BK101 := ax (hbox); have GW101 := ax ((by rw [hg]; exact (zah (xb HB.out)) : w.heap.size ≤ gb101)); have GE101 := ax ((by rw [hg]; exact (zah (xb HB.out)) : w.heap.size ≤ gb101)); replace HB := yB HB hb; clear hb hbox hg; have hcz6_0 := bc0 BK101.out; have hcz6_1 := bc1 BK101.out; have hfz6_0 := zae BK101.out 0; have hfz6_1 := zae BK101.out 1) | ((with_reducible refine zas (f := 36) rfl ?_); refine za3 (some 8) rfl rfl Try.func36 (by kernel_rfl) rfl #[.slice A0_0 l0_0.length c0_0, .int .i64 a1] rfl xm ?_; (with_reducible refine (zb8.calls _ _ l0_0 a1 t102 _ ?side1 ?side2 A3.out).mono ?_); (case side1 => exact xz HR0_0.out HB.out); (case side2 => exact HC0_0.out); rintro e w' ⟨rfl, ⟨nd, rfl⟩⟩; refine ⟨_, rfl, ?_⟩))
  go_ret
  exact ⟨xe, xs HB.out GE101.out⟩
 ·rw [if_neg c4] at H
  have c4b0 := decide_eq_false c4
  clear c4
  obtain rfl := Option.some.inj H
  go_enter Try.func50, Try.ntmps50
  go_wp2_with (first | ((with_reducible refine zaV (N := 2) rfl ?_); refine zaO ?hg (N := 2) ?hd (cs := #[.slice A0_0 l0_0.length c0_0, .int .i64 a0_1]) (t := 69) ?hr ?_; (case hd => rfl); (case hg => rfl); (case hr => first | (go_simp; done) | (go_simp; rfl)); intro gb101 hg w7 hbox hb; have BK101 := ax (hbox); have GW101 := ax ((by rw [hg]; exact (zah (xb HB.out)) : w.heap.size ≤ gb101)); have GE101 := ax ((by rw [hg]; exact (zah (xb HB.out)) : w.heap.size ≤ gb101)); replace HB := yB HB hb; clear hb hbox hg; have hcz8_0 := bc0 BK101.out; have hcz8_1 := bc1 BK101.out; have hfz8_0 := zae BK101.out 0; have hfz8_1 := zae BK101.out 1) | ((with_reducible refine zas (f := 36) rfl ?_); refine za3 (some 8) rfl rfl Try.func36 (by kernel_rfl) rfl #[.slice A0_0 l0_0.length c0_0, .int .i64 a1] rfl xm ?_; (with_reducible refine (zb8.calls _ _ l0_0 a1 t102 _ ?side1 ?side2 A3.out).mono ?_); (case side1 => exact xz HR0_0.out HB.out); (case side2 => exact HC0_0.out); rintro e w' ⟨rfl, ⟨nd, rfl⟩⟩; refine ⟨_, rfl, ?_⟩))
  go_ret
  exact ⟨xe, xs HB.out GE101.out⟩

def za5.l0 : Nat → List (S69) → Int → Int → Option (Int)
 | 0, _, _, _ => none
 | k + 1, x0, x1, x5 => if x5 < (x0.length : Int) then (if 0 ≤ x5 then ((zcf.f ((zce x0 x5).f0) ((zce x0 x5).f1) x1).bind fun t104 => (if t104 < 0 then (some (-1)) else (za5.l0 k x0 t104 (wrap64 (x5 + 1))))) else (none)) else (some x1)
def za5.f (k : Nat) (l0 : List (S69)) (a1 : Int) : Option (Int) := if (wrap64 (a1 - (l0.length : Int))) < 0 then (some (-1)) else (za5.l0 k l0 (wrap64 (a1 - (l0.length : Int))) 0)
theorem za5.za8 : ∀ k, (∀ y0 y1 y2, LeO (za5.l0 k y0 y1 y2) (za5.l0 (k + 1) y0 y1 y2))
 | 0 => fun _ _ _ r h => by simp [za5.l0] at h
 | k + 1 => by
  have ih0 := za5.za8 k
  ·intro y0 y1 y2
   unfold za5.l0
   repeat' with_reducible first | exact ih0 _ _ _ | exact xl | refine LeO.ite ?_ ?_ | refine LeO.bind ?_ fun _ => ?_
theorem za5.mono : ∀ a0 a1 k, LeO (za5.f k a0 a1) (za5.f (k + 1) a0 a1) := by
 intro a0 a1 k
 have ih0 := za5.za8 k
 unfold za5.f
 repeat' with_reducible first | exact ih0 _ _ _ | exact xl | refine LeO.ite ?_ ?_ | refine LeO.bind ?_ fun _ => ?_
theorem za5.calls (k : Nat) (A0 : Option Addr) (c0 : Nat) (l0 : List (S69)) (a1 : Int) (r : Int) (w : World) (hr0 : Kd.C k69 w A0 l0.length l0) (hc0 : l0.length ≤ c0) (h : za5.f k l0 a1 = some r) :
  Calls Try.prog 24 #[.slice A0 l0.length c0, .int .i64 a1] w fun e w' => e = .returned (.int .i64 r) ∧ Below w.heap.size w w' := by
 have hu69 := Try.underlying69
 have HR0 := ax hr0
 have HC0 := ax hc0
 clear hr0 hc0
 have HB := ax (Below.refl w.heap.size w)
 have H : (if (wrap64 (a1 - (l0.length : Int))) < 0 then (some (-1)) else (za5.l0 k l0 (wrap64 (a1 - (l0.length : Int))) 0)) = some r := h
 clear h
 by_cases c3 : (wrap64 (a1 - (l0.length : Int))) < 0
 ·rw [if_pos c3] at H
  have c3b0 := decide_eq_true c3
  clear c3
  obtain rfl := Option.some.inj H
  go_enter Try.func24, Try.ntmps24
  go_wp2
  go_ret
  exact ⟨xe, xb HB.out⟩
 ·rw [if_neg c3] at H
  have c3b0 := decide_eq_false c3
  clear c3
  have H' := ax H
  clear H
  go_enter Try.func24, Try.ntmps24
  go_wp2
  go_loopg [1, 5] k (fun kq v1 v5 w' => ∃ (x1_1 : Int) (x5_1 : Int), v1 = .int .i64 x1_1 ∧ v5 = .int .i64 x5_1 ∧ zap (za5.l0 kq l0 x1_1 x5_1 = some r) ∧ zap (kq ≤ k) ∧ zap (Below w.heap.size w w'))
  case atStart => exact ⟨(wrap64 (a1 - (l0.length : Int))), (0), xr, xr, H', ⟨Nat.le_refl _⟩, ⟨xb HB.out⟩⟩
  case round =>
   clear H'
   (try clear c3); (try clear c3b0)
   obtain ⟨x1_1, x5_1, rfl, rfl, HA, HK1, HB⟩ := hrel
   cases gk with
   | zero => exact absurd HA.out (by simp [za5.l0])
   | succ k1 =>
    have H := HA.out
    clear HA
    simp only [za5.l0] at H
    by_cases c4 : x5_1 < (l0.length : Int)
    ·rw [if_pos c4] at H
     have c4b0 := decide_eq_true c4
     clear c4
     obtain ⟨c5b0, H⟩ := xq H
     obtain ⟨t104, A6, H⟩ := xI H
     by_cases c7 : t104 < 0
     ·rw [if_pos c7] at H
      have c7b0 := decide_eq_true c7
      clear c7
      obtain rfl := Option.some.inj H
      have p103 : 0 ≤ (x5_1 : Int) := xd
      have q103 : x5_1 < (l0.length : Int) := xd
      obtain ⟨ad103, A103_0, c103_0, e103, hx103_0, hx103_1, hl103_0, hi103_0⟩ := zhM HR0.out x5_1 p103 q103
      cases e103
      (try replace hx103_0 := (HB.out.cell (World.block_lt_of_cell? w _ hx103_0)).trans hx103_0)
      (try replace hx103_1 := (HB.out.cell (World.block_lt_of_cell? w _ hx103_1)).trans hx103_1)
      have HR103_0 := ax hi103_0
      have HC103_0 := ax hl103_0
      clear hi103_0 hl103_0
      replace p103 := eq_true p103
      replace q103 := eq_true q103
      go_wp2_with (first | ((with_reducible refine zas (f := 50) rfl ?_); refine za3 (some 23) rfl rfl Try.func50 (by kernel_rfl) rfl #[.agg #[.slice A103_0 ((zce l0 x5_1).f0).length c103_0, .int .i64 ((zce l0 x5_1).f1)], .int .i64 x1_1] rfl xm ?_; (with_reducible refine (zcf.calls _ _ ((zce l0 x5_1).f0) ((zce l0 x5_1).f1) x1_1 t104 _ ?side1 ?side2 A6.out).mono ?_); (case side1 => exact xz HR103_0.out HB.out); (case side2 => exact HC103_0.out); rintro e w8 ⟨rfl, hb⟩; refine ⟨_, rfl, ?_⟩; replace HB := yB HB hb; (try clear hb)))
      go_ret
      exact ⟨xe, xb HB.out⟩
     ·rw [if_neg c7] at H
      have c7b0 := decide_eq_false c7
      clear c7
      have H' := ax H
      clear H
      have p103 : 0 ≤ (x5_1 : Int) := xd
      have q103 : x5_1 < (l0.length : Int) := xd
      obtain ⟨ad103, A103_0, c103_0, e103, hx103_0, hx103_1, hl103_0, hi103_0⟩ := zhM HR0.out x5_1 p103 q103
      cases e103
      (try replace hx103_0 := (HB.out.cell (World.block_lt_of_cell? w _ hx103_0)).trans hx103_0)
      (try replace hx103_1 := (HB.out.cell (World.block_lt_of_cell? w _ hx103_1)).trans hx103_1)
      have HR103_0 := ax hi103_0
      have HC103_0 := ax hl103_0
      clear hi103_0 hl103_0
      replace p103 := eq_true p103
      replace q103 := eq_true q103
      go_wp2_with (first | ((with_reducible refine zas (f := 50) rfl ?_); refine za3 (some 23) rfl rfl Try.func50 (by kernel_rfl) rfl #[.agg #[.slice A103_0 ((zce l0 x5_1).f0).length c103_0, .int .i64 ((zce l0 x5_1).f1)], .int .i64 x1_1] rfl xm ?_; (with_reducible refine (zcf.calls _ _ ((zce l0 x5_1).f0) ((zce l0 x5_1).f1) x1_1 t104 _ ?side1 ?side2 A6.out).mono ?_); (case side1 => exact xz HR103_0.out HB.out); (case side2 => exact HC103_0.out); rintro e w9 ⟨rfl, hb⟩; refine ⟨_, rfl, ?_⟩; replace HB := yB HB hb; (try clear hb)))
      go_roundg k1
      case measure => have := HK1.out; omega
      case rel => exact ⟨(t104), (wrap64 (x5_1 + 1)), xr, xr, H', ⟨by have := HK1.out; omega⟩, ⟨xb HB.out⟩⟩
    ·rw [if_neg c4] at H
     have c4b0 := decide_eq_false c4
     clear c4
     obtain rfl := Option.some.inj H
     go_wp2
     go_ret
     exact ⟨xe, xb HB.out⟩

def zbv.f (k : Nat) (a0_0 : Int) (l0_1 : List (S69)) (a1 : Int) : Option (Int) := (za5.f k l0_1 a1).bind fun t106 => (if t106 < 0 then (some (-1)) else (some t106))
theorem zbv.mono : ∀ a0 a1 a2 k, LeO (zbv.f k a0 a1 a2) (zbv.f (k + 1) a0 a1 a2) := by
 intro a0 a1 a2 k
 unfold zbv.f
 repeat' with_reducible first | exact za5.mono _ _ _ | exact xl | refine LeO.ite ?_ ?_ | refine LeO.bind ?_ fun _ => ?_
theorem zbv.calls (k : Nat) (a0_0 : Int) (A0_1 : Option Addr) (c0_1 : Nat) (l0_1 : List (S69)) (a1 : Int) (r : Int) (w : World) (hr0_1 : Kd.C k69 w A0_1 l0_1.length l0_1) (hc0_1 : l0_1.length ≤ c0_1) (h : zbv.f k a0_0 l0_1 a1 = some r) :
  Calls Try.prog 7 #[.agg #[.int .i64 a0_0, .slice A0_1 l0_1.length c0_1], .int .i64 a1] w fun e w' => e = .returned (.int .i64 r) ∧ Below w.heap.size w w' := by
 have hu24 := Try.underlying24
 have HR0_1 := ax hr0_1
 have HC0_1 := ax hc0_1
 clear hr0_1 hc0_1
 have HB := ax (Below.refl w.heap.size w)
 have H : ((za5.f k l0_1 a1).bind fun t106 => (if t106 < 0 then (some (-1)) else (some t106))) = some r := h
 clear h
 obtain ⟨t106, A3, H⟩ := xI H
 by_cases c4 : t106 < 0
 ·rw [if_pos c4] at H
  have c4b0 := decide_eq_true c4
  clear c4
  obtain rfl := Option.some.inj H
  go_enter Try.func7, Try.ntmps7
  go_wp2_with (first | ((with_reducible refine zaV (N := 2) rfl ?_); refine zaO ?hg (N := 2) ?hd (cs := #[.int .i64 a0_0, .slice A0_1 l0_1.length c0_1]) (t := 24) ?hr ?_; (case hd => rfl); (case hg => rfl); (case hr => first | (go_simp; done) | (go_simp; rfl)); intro gb105 hg w5 hbox hb; have BK105 := ax (hbox); have GW105 := ax ((by rw [hg]; exact (zah (xb HB.out)) : w.heap.size ≤ gb105)); have GE105 := ax ((by rw [hg]; exact (zah (xb HB.out)) : w.heap.size ≤ gb105)); replace HB := yB HB hb; clear hb hbox hg; have hcz6_0 := bc0 BK105.out; have hcz6_1 := bc1 BK105.out; have hfz6_0 := zae BK105.out 0; have hfz6_1 := zae BK105.out 1) | ((with_reducible refine zas (f := 24) rfl ?_); refine za3 (some 8) rfl rfl Try.func24 (by kernel_rfl) rfl #[.slice A0_1 l0_1.length c0_1, .int .i64 a1] rfl xm ?_; (with_reducible refine (za5.calls k _ _ l0_1 a1 t106 _ ?side1 ?side2 A3.out).mono ?_); (case side1 => exact xz HR0_1.out HB.out); (case side2 => exact HC0_1.out); rintro e w7 ⟨rfl, hb⟩; refine ⟨_, rfl, ?_⟩; replace BK105 := ax (bb BK105.out hb); replace HB := ax (zar (xs HB.out GE105.out) hb); (try clear hb)))
  go_ret
  exact ⟨xe, xs HB.out GE105.out⟩
 ·rw [if_neg c4] at H
  have c4b0 := decide_eq_false c4
  clear c4
  obtain rfl := Option.some.inj H
  go_enter Try.func7, Try.ntmps7
  go_wp2_with (first | ((with_reducible refine zaV (N := 2) rfl ?_); refine zaO ?hg (N := 2) ?hd (cs := #[.int .i64 a0_0, .slice A0_1 l0_1.length c0_1]) (t := 24) ?hr ?_; (case hd => rfl); (case hg => rfl); (case hr => first | (go_simp; done) | (go_simp; rfl)); intro gb105 hg w8 hbox hb; have BK105 := ax (hbox); have GW105 := ax ((by rw [hg]; exact (zah (xb HB.out)) : w.heap.size ≤ gb105)); have GE105 := ax ((by rw [hg]; exact (zah (xb HB.out)) : w.heap.size ≤ gb105)); replace HB := yB HB hb; clear hb hbox hg; have hcz9_0 := bc0 BK105.out; have hcz9_1 := bc1 BK105.out; have hfz9_0 := zae BK105.out 0; have hfz9_1 := zae BK105.out 1) | ((with_reducible refine zas (f := 24) rfl ?_); refine za3 (some 8) rfl rfl Try.func24 (by kernel_rfl) rfl #[.slice A0_1 l0_1.length c0_1, .int .i64 a1] rfl xm ?_; (with_reducible refine (za5.calls k _ _ l0_1 a1 t106 _ ?side1 ?side2 A3.out).mono ?_); (case side1 => exact xz HR0_1.out HB.out); (case side2 => exact HC0_1.out); rintro e w10 ⟨rfl, hb⟩; refine ⟨_, rfl, ?_⟩; replace BK105 := ax (bb BK105.out hb); replace HB := ax (zar (xs HB.out GE105.out) hb); (try clear hb)))
  go_ret
  exact ⟨xe, xs HB.out GE105.out⟩

def zb.l0 : Nat → List Int → List Int → Int → Option (List Int)
 | 0, _, _, _ => none
 | k + 1, x0, x3, x4 => if x4 < (x0.length : Int) then (if 0 ≤ x4 then (if x4 < (x3.length : Int) then (zb.l0 k x0 (x3.set (x4 : Int).toNat (rd x0 x4)) (wrap64 (x4 + 1))) else (none)) else (none)) else (some x3)
def zb.f (k : Nat) (l0 : List Int) : Option (List Int) := if 0 ≤ (l0.length : Int) then (if ((l0.length : Int) : Int).toNat ≤ 35184372088832 then (zb.l0 k l0 (List.replicate ((l0.length : Int) : Int).toNat 0) 0) else (none)) else (none)
theorem zb.za8 : ∀ k, (∀ y0 y1 y2, LeO (zb.l0 k y0 y1 y2) (zb.l0 (k + 1) y0 y1 y2))
 | 0 => fun _ _ _ r h => by simp [zb.l0] at h
 | k + 1 => by
  have ih0 := zb.za8 k
  ·intro y0 y1 y2
   unfold zb.l0
   repeat' with_reducible first | exact ih0 _ _ _ | exact xl | refine LeO.ite ?_ ?_ | refine LeO.bind ?_ fun _ => ?_
theorem zb.mono : ∀ a0 k, LeO (zb.f k a0) (zb.f (k + 1) a0) := by
 intro a0 k
 have ih0 := zb.za8 k
 unfold zb.f
 repeat' with_reducible first | exact ih0 _ _ _ | exact xl | refine LeO.ite ?_ ?_ | refine LeO.bind ?_ fun _ => ?_
theorem zb.calls (k : Nat) (A0 : Option Addr) (c0 : Nat) (l0 : List Int) (r : List Int) (w : World) (hr0 : Kd.C (Kd.int .i64) w A0 l0.length l0) (hc0 : l0.length ≤ c0) (h : zb.f k l0 = some r) :
  Calls Try.prog 40 #[.slice A0 l0.length c0] w fun e w' => ∃ v0_ : Value, e = .returned (v0_) ∧ Kd.R (Kd.int .i64) 3 w' w.heap.size (fun _ => True) v0_ r ∧ Below w.heap.size w w' := by
 have HR0 := ax hr0
 have HC0 := ax hc0
 clear hr0 hc0
 have HB := ax (Below.refl w.heap.size w)
 have H : (if 0 ≤ (l0.length : Int) then (if ((l0.length : Int) : Int).toNat ≤ 35184372088832 then (zb.l0 k l0 (List.replicate ((l0.length : Int) : Int).toNat 0) 0) else (none)) else (none)) = some r := h
 clear h
 obtain ⟨c2, H⟩ := xp H
 have c2b0 := eq_true c2
 have c2b1 := decide_eq_true c2
 clear c2
 obtain ⟨c3, H⟩ := xp H
 have c3b0 := eq_true c3
 have c3b1 := decide_eq_true c3
 clear c3
 obtain ⟨y107, hy107⟩ : ∃ y_ : List Int, y_ = (List.replicate ((l0.length : Int) : Int).toNat 0) := ⟨_, rfl⟩
 replace H : (zb.l0 k l0 y107 0) = some r := xv hy107 H
 have Ny107 := ax hy107
 clear hy107
 have H' := ax H
 clear H
 go_enter Try.func40, Try.ntmps40
 go_wp2_with (first | ((with_reducible refine zaV (N := 7) rfl ?_); refine Kd.ziY (Kd.int .i64) _ 3 rfl (N := 7) rfl 35 _ _ rfl (l0.length : Int) rfl rfl Try.underlying35 (.int .i64 0) 8 zii rfl (by decide) (by omega) 0 (ok := fun _ => True) (okp := fun _ => True) rfl (fun _ hk => hk) trivial (xd) (Nat.le_trans (Nat.mul_le_mul_right _ (xd : (l0.length : Int).toNat ≤ 35184372088832)) (by omega)) (Below.refl _ _) (Nat.le_refl _) ?_; intro v108 w4 ho5 hb hg_ hnew_; clear hg_ hnew_; (first | rw [← Ny107.out] at ho5 | (simp only [Int.reduceToNat] at ho5; rw [← Ny107.out] at ho5)); have HO109 := ax (Kd.zdh ho5 (zah (xb HB.out))); replace HB := yB HB hb; clear hb ho5))
 go_loopg [4] k (fun kq v4 w' => ∃ (x3_1 : List Int) (x4_1 : Int), v4 = .int .i64 x4_1 ∧ zap (zb.l0 kq l0 x3_1 x4_1 = some r) ∧ zap (kq ≤ k) ∧ zap (Kd.R (Kd.int .i64) 3 w' w.heap.size (fun _ => True) v108 x3_1) ∧ zap (Below w.heap.size w w'))
 case atStart => exact ⟨(y107), (0), xr, H', ⟨Nat.le_refl _⟩, ⟨xR HO109.out⟩, ⟨xb HB.out⟩⟩
 case round =>
  clear H'
  (try clear c2); (try clear c2b0); (try clear c2b1); (try clear c3); (try clear c3b0); (try clear c3b1)
  obtain ⟨x3_1, x4_1, rfl, HA, HK1, HO_3, HB⟩ := hrel
  cases gk with
  | zero => exact absurd HA.out (by simp [zb.l0])
  | succ k1 =>
   have H := HA.out
   clear HA
   simp only [zb.l0] at H
   by_cases c6 : x4_1 < (l0.length : Int)
   ·rw [if_pos c6] at H
    have c6b0 := decide_eq_true c6
    clear c6
    obtain ⟨c7b0, H⟩ := xq H
    obtain ⟨c8b0, H⟩ := xq H
    obtain ⟨y111, hy111⟩ : ∃ y_ : List Int, y_ = (x3_1.set (x4_1 : Int).toNat (rd l0 x4_1)) := ⟨_, rfl⟩
    replace H : (zb.l0 k1 l0 y111 (wrap64 (x4_1 + 1))) = some r := xv hy111 H
    have Ny111 := ax hy111
    clear hy111
    have H' := ax H
    clear H
    have p110 : 0 ≤ (x4_1 : Int) := xd
    have q110 : x4_1 < (l0.length : Int) := xd
    obtain ⟨ad110, e110, hx110_0⟩ := Kd.zbY HR0.out x4_1 p110 q110
    cases e110
    (try replace hx110_0 := (HB.out.cell (World.block_lt_of_cell? w _ hx110_0)).trans hx110_0)
    replace p110 := eq_true p110
    replace q110 := eq_true q110
    have p9 : 0 ≤ (x4_1 : Int) := xd
    have q9 : (x4_1 : Int) < ((x3_1.length : Int) : Int) := xd
    obtain ⟨go9, co9, eo9, gb9, gl9, cl9, HG9⟩ := Kd.zfZ HO_3.out (by omega)
    (first | cases eo9 | (injection eo9 with ea_ en_ ec_; (first | subst ea_ | (injection ea_ with ea_; subst ea_)); subst ec_; clear en_))
    have GB9 := ax gb9
    have GG9 := ax HG9
    clear gb9 gl9 HG9
    obtain ⟨hx9_0, hf9_0⟩ := Kd.zfe 0 HO_3.out (x4_1 : Int) p9 q9
    replace p9 := eq_true p9
    replace q9 := eq_true q9
    have HP10 := Kd.zhT HO_3.out (x4_1 : Int) (rd l0 x4_1)
    go_wp2_with (first | ((with_reducible refine zc6 (t := 3) (p := 20) rfl ?_); refine zc9 (t := 3) (p := 20) (v := ?vo_w11) (w1 := (wr.setCell ⟨go9, (x4_1 : Int).toNat, none⟩ (.int .i64 (rd l0 x4_1)))) ?hg ?ho ?hn ?hr ?_; (case ho => rfl); (case hg => rfl); (case hn => rfl); (case hr => first | (go_simp; done) | (go_simp; rfl)); intro w11 hw; have hg : wr.grownBy w11 (some go9) := (by rw [hw]; exact HP10.2); have hp_ : Kd.R (Kd.int .i64) 3 w11 w.heap.size (fun _ => True) (.slice (some ⟨go9, 0, none⟩) x3_1.length co9) y111 := (by rw [hw, Ny111.out]; exact HP10.1); clear HP10; replace HO_3 := ax (hp_); replace HB := ax ((by rw [hw]; exact zcD (HB.out) GB9.out : Below w.heap.size w w11)); clear hg hw hp_))
    go_roundg k1
    case measure => have := HK1.out; omega
    case rel => exact ⟨(y111), (wrap64 (x4_1 + 1)), xr, H', ⟨by have := HK1.out; omega⟩, ⟨xR HO_3.out⟩, ⟨xb HB.out⟩⟩
   ·rw [if_neg c6] at H
    have c6b0 := decide_eq_false c6
    clear c6
    obtain rfl := Option.some.inj H
    go_wp2
    go_ret
    exact ⟨_, xe, xR HO_3.out, xb HB.out⟩

def zbT.f (k : Nat) (l0_0 : List Int) (a0_1 : Int) : Option (List Int × Int) := (zb.f k l0_0).bind fun t115 => (some (t115, a0_1))
theorem zbT.mono : ∀ a0 a1 k, LeO (zbT.f k a0 a1) (zbT.f (k + 1) a0 a1) := by
 intro a0 a1 k
 unfold zbT.f
 repeat' with_reducible first | exact zb.mono _ _ | exact xl | refine LeO.ite ?_ ?_ | refine LeO.bind ?_ fun _ => ?_
theorem zbT.calls (k : Nat) (A0_0 : Option Addr) (c0_0 : Nat) (l0_0 : List Int) (a0_1 : Int) (r1 : List Int) (r2 : Int) (w : World) (hr0_0 : Kd.C (Kd.int .i64) w A0_0 l0_0.length l0_0) (hc0_0 : l0_0.length ≤ c0_0) (h : zbT.f k l0_0 a0_1 = some (r1, r2)) :
  Calls Try.prog 54 #[.agg #[.slice A0_0 l0_0.length c0_0, .int .i64 a0_1]] w fun e w' => ∃ v0_ : Value, e = .returned (.agg #[v0_, .int .i64 r2]) ∧ Kd.R (Kd.int .i64) 3 w' w.heap.size (fun _ => True) v0_ r1 ∧ Below w.heap.size w w' := by
 have hu69 := Try.underlying69
 have hu48 := Try.underlying48
 have HR0_0 := ax hr0_0
 have HC0_0 := ax hc0_0
 clear hr0_0 hc0_0
 have HB := ax (Below.refl w.heap.size w)
 have H : ((zb.f k l0_0).bind fun t115 => (some (t115, a0_1))) = some (r1, r2) := h
 clear h
 obtain ⟨t115, A2, H⟩ := xI H
 simp only [Option.some.injEq, Prod.mk.injEq] at H
 obtain ⟨rfl, rfl⟩ := H
 go_enter Try.func54, Try.ntmps54
 go_wp2_with (first | ((with_reducible refine zaV (N := 1) rfl ?_); refine zaO ?hg (N := 1) ?hd (cs := #[.slice A0_0 l0_0.length c0_0, .int .i64 a0_1]) (t := 69) ?hr ?_; (case hd => rfl); (case hg => rfl); (case hr => first | (go_simp; done) | (go_simp; rfl)); intro gb112 hg w3 hbox hb; have BK112 := ax (hbox); have GW112 := ax ((by rw [hg]; exact (zah (xb HB.out)) : w.heap.size ≤ gb112)); have GE112 := ax ((by rw [hg]; exact (zah (xb HB.out)) : w.heap.size ≤ gb112)); replace HB := yB HB hb; clear hb hbox hg) | ((with_reducible refine zaV (N := 2) rfl ?_); refine zaO ?hg (N := 2) ?hd (cs := #[.slice none 0 0, .int .i64 0]) (t := 48) ?hr ?_; (case hd => rfl); (case hg => rfl); (case hr => first | (go_simp; done) | (go_simp; rfl)); intro gb113 hg w4 hbox hb; have BK113 := ax (hbox); have GW113 := ax ((by rw [hg]; exact (zah (xs HB.out GE112.out)) : w.heap.size ≤ gb113)); have GE113 := ax ((by rw [hg]; exact (zah (xs HB.out GE112.out)) : w.heap.size ≤ gb113)); replace HB := ax (zar (xs HB.out GE112.out) hb); have NB112_113 := ax (bn hg BK112.out); have NB113_112 := ax (bm hg BK112.out); replace BK112 := ax (bb BK112.out hb); clear hb hbox hg) | ((with_reducible refine zaV (N := 3) rfl ?_); refine zaO ?hg (N := 3) ?hd (cs := #[.slice none 0 0, .int .i64 0]) (t := 48) ?hr ?_; (case hd => rfl); (case hg => rfl); (case hr => first | (go_simp; done) | (go_simp; rfl)); intro gb114 hg w5 hbox hb; have BK114 := ax (hbox); have GW114 := ax ((by rw [hg]; exact (zah (bh HB.out)) : w.heap.size ≤ gb114)); have GE114 := ax ((by rw [hg]; exact (zah (bh HB.out)) : w.heap.size ≤ gb114)); replace HB := ax (zar (bh HB.out) hb); have NB112_114 := ax (bn hg BK112.out); have NB114_112 := ax (bm hg BK112.out); replace BK112 := ax (bb BK112.out hb); have NB113_114 := ax (bn hg BK113.out); have NB114_113 := ax (bm hg BK113.out); replace BK113 := ax (bb BK113.out hb); clear hb hbox hg; have hnb6 := NB112_113.out; have hnc6 := NB113_112.out; have hnb7 := NB112_114.out; have hnc7 := NB114_112.out; have hcz8_0 := bc0 BK112.out; have hcz8_1 := bc1 BK112.out; have hfz8_0 := zae BK112.out 0; have hfz8_1 := zae BK112.out 1) | ((with_reducible refine zas (f := 40) rfl ?_); refine za3 (some 6) rfl rfl Try.func40 (by kernel_rfl) rfl #[.slice A0_0 l0_0.length c0_0] rfl xm ?_; (with_reducible refine (zb.calls k _ _ l0_0 t115 _ ?side1 ?side2 A2.out).mono ?_); (case side1 => exact xz HR0_0.out HB.out); (case side2 => exact HC0_0.out); rintro e w9 ⟨v116, rfl, ho0, hb⟩; refine ⟨_, rfl, ?_⟩; have HO117 := ax (Kd.zdh ho0 (zah (bh HB.out))); replace BK112 := ax (bb BK112.out hb); replace BK113 := ax (bb BK113.out hb); replace BK114 := ax (bb BK114.out hb); replace HB := ax (zar (bh HB.out) hb); (try clear hb); (try clear ho0); obtain ⟨Ao10, co10, eo10⟩ := Kd.zcF HO117.out; subst eo10; have hnb11 := NB114_113.out; have hnc11 := NB113_114.out; have hcz12_0 := bc0 BK114.out; have hcz12_1 := bc1 BK114.out; have hfz12_0 := zae BK114.out 0; have hfz12_1 := zae BK114.out 1; have hcz13_0 := bc0 BK112.out; have hcz13_1 := bc1 BK112.out; have hfz13_0 := zae BK112.out 0; have hfz13_1 := zae BK112.out 1; have hcz14_0 := bc0 BK113.out; have hcz14_1 := bc1 BK113.out; have hfz14_0 := zae BK113.out 0; have hfz14_1 := zae BK113.out 1))
 refine bodyPost_ret (results_cell_row rfl _ _ gb113 48 #[.slice Ao10 t115.length co10, .int .i64 a0_1] (0, 0) _ rfl (by (with_reducible repeat (first | refine zaj ?_ _ | refine zaf ?_ | refine zai ?_ _)); refine zbf (cs := #[.slice Ao10 t115.length co10, .int .i64 0]) ?_ 1 _ rfl; (with_reducible repeat (first | refine zaj ?_ _ | refine zaf ?_ | refine zai ?_ _)); refine zbf (cs := #[.slice none 0 0, .int .i64 0]) ?_ 0 _ rfl; (with_reducible repeat (first | refine zaj ?_ _ | refine zaf ?_ | refine zai ?_ _)); refine zaL ?_ NB113_114.out _; (with_reducible repeat (first | refine zaj ?_ _ | refine zaf ?_ | refine zai ?_ _)); refine zaL ?_ NB113_114.out _; (with_reducible repeat (first | refine zaj ?_ _ | refine zaf ?_ | refine zai ?_ _)); exact BK113.out) Try.underlying48 rfl (by kernel_rfl)) rfl ?_
 exact ⟨_, xe, by (with_reducible repeat (first | apply Kd.zfh | apply Kd.zfd | apply Kd.zgO)); exact Kd.zcl (Kd.zix (p := ⟨gb113, 1, none⟩) (Kd.zix (p := ⟨gb113, 0, none⟩) (Kd.zix (p := ⟨gb114, 1, none⟩) (Kd.zix (p := ⟨gb114, 0, none⟩) (Kd.zdg (Kd.zdg HO117.out BK114.out (by decide)) BK113.out (by decide)) (fun _ hk => hk.1.2) (.slice Ao10 t115.length co10)) (fun _ hk => hk.1.2) (.int .i64 a0_1)) (fun _ hk => hk.2) (.slice Ao10 t115.length co10)) (fun _ hk => hk.2) (.int .i64 a0_1)) (fun _ hk => trivial), bh HB.out⟩

def za4.l0 : Nat → List (S69) → List (S48) → Int → Option ((List (S48)))
 | 0, _, _, _ => none
 | k + 1, x0, x3, x4 => if x4 < (x0.length : Int) then (if 0 ≤ x4 then ((zbT.f k ((zce x0 x4).f0) ((zce x0 x4).f1)).bind fun bt122 => (if x4 < (x3.length : Int) then (za4.l0 k x0 (x3.set (x4 : Int).toNat (⟨bt122.1, bt122.2⟩ : S48)) (wrap64 (x4 + 1))) else (none))) else (none)) else (some x3)
def za4.f (k : Nat) (l0 : List (S69)) : Option ((List (S48))) := if 0 ≤ (l0.length : Int) then (if ((l0.length : Int) : Int).toNat ≤ 8796093022208 then (za4.l0 k l0 (List.replicate ((l0.length : Int) : Int).toNat z48) 0) else (none)) else (none)
theorem za4.za8 : ∀ k, (∀ y0 y1 y2, LeO (za4.l0 k y0 y1 y2) (za4.l0 (k + 1) y0 y1 y2))
 | 0 => fun _ _ _ r h => by simp [za4.l0] at h
 | k + 1 => by
  have ih0 := za4.za8 k
  ·intro y0 y1 y2
   unfold za4.l0
   repeat' with_reducible first | exact ih0 _ _ _ | exact zbT.mono _ _ _ | exact xl | refine LeO.ite ?_ ?_ | refine LeO.bind ?_ fun _ => ?_
theorem za4.mono : ∀ a0 k, LeO (za4.f k a0) (za4.f (k + 1) a0) := by
 intro a0 k
 have ih0 := za4.za8 k
 unfold za4.f
 repeat' with_reducible first | exact ih0 _ _ _ | exact zbT.mono _ _ _ | exact xl | refine LeO.ite ?_ ?_ | refine LeO.bind ?_ fun _ => ?_
theorem za4.calls (k : Nat) (A0 : Option Addr) (c0 : Nat) (l0 : List (S69)) (r : List (S48)) (w : World) (hr0 : Kd.C k69 w A0 l0.length l0) (hc0 : l0.length ≤ c0) (h : za4.f k l0 = some r) :
  Calls Try.prog 28 #[.slice A0 l0.length c0] w fun e w' => ∃ v0_ : Value, e = .returned (v0_) ∧ Kd.S k48 48 w' w.heap.size (fun _ => True) v0_ r ∧ Below w.heap.size w w' := by
 have hu69 := Try.underlying69
 have hu48 := Try.underlying48
 have HR0 := ax hr0
 have HC0 := ax hc0
 clear hr0 hc0
 have HB := ax (Below.refl w.heap.size w)
 have H : (if 0 ≤ (l0.length : Int) then (if ((l0.length : Int) : Int).toNat ≤ 8796093022208 then (za4.l0 k l0 (List.replicate ((l0.length : Int) : Int).toNat z48) 0) else (none)) else (none)) = some r := h
 clear h
 obtain ⟨c2, H⟩ := xp H
 have c2b0 := eq_true c2
 have c2b1 := decide_eq_true c2
 clear c2
 obtain ⟨c3, H⟩ := xp H
 have c3b0 := eq_true c3
 have c3b1 := decide_eq_true c3
 clear c3
 obtain ⟨y118, hy118⟩ : ∃ y_ : List (S48), y_ = (List.replicate ((l0.length : Int) : Int).toNat z48) := ⟨_, rfl⟩
 replace H : (za4.l0 k l0 y118 0) = some r := xv hy118 H
 have Ny118 := ax hy118
 clear hy118
 have H' := ax H
 clear H
 go_enter Try.func28, Try.ntmps28
 go_wp2_with (first | ((with_reducible refine zaV (N := 7) rfl ?_); refine Kd.zj0 k48 _ 48 rfl (N := 7) rfl 26 _ _ rfl (l0.length : Int) rfl rfl Try.underlying26 (.agg #[(.slice none 0 0), (.int .i64 0)]) 32 zcx rfl (by decide) (by omega) z48 (ok := fun _ => True) (okp := fun _ => True) (zcS _ _ _ z48 (Kd.zeM _ _ _ _ _)) (fun _ hk => hk) trivial (xd) (Nat.le_trans (Nat.mul_le_mul_right _ (xd : (l0.length : Int).toNat ≤ 8796093022208)) (by omega)) (Below.refl _ _) (Nat.le_refl _) ?_; intro v119 w4 ho5 hb hg_ hnew_; clear hg_ hnew_; (first | rw [← Ny118.out] at ho5 | (simp only [Int.reduceToNat] at ho5; rw [← Ny118.out] at ho5)); have HO120 := ax (Kd.zbV ho5 (zah (xb HB.out))); replace HB := yB HB hb; clear hb ho5))
 go_loopg [4] k (fun kq v4 w' => ∃ (x3_1 : List (S48)) (x4_1 : Int), v4 = .int .i64 x4_1 ∧ zap (za4.l0 kq l0 x3_1 x4_1 = some r) ∧ zap (kq ≤ k) ∧ zap (Kd.S k48 48 w' w.heap.size (fun _ => True) v119 x3_1) ∧ zap (Below w.heap.size w w'))
 case atStart => exact ⟨(y118), (0), xr, H', ⟨Nat.le_refl _⟩, ⟨xS HO120.out⟩, ⟨xb HB.out⟩⟩
 case round =>
  clear H'
  (try clear c2); (try clear c2b0); (try clear c2b1); (try clear c3); (try clear c3b0); (try clear c3b1)
  obtain ⟨x3_1, x4_1, rfl, HA, HK1, HO_3, HB⟩ := hrel
  cases gk with
  | zero => exact absurd HA.out (by simp [za4.l0])
  | succ k1 =>
   have H := HA.out
   clear HA
   simp only [za4.l0] at H
   by_cases c6 : x4_1 < (l0.length : Int)
   ·rw [if_pos c6] at H
    have c6b0 := decide_eq_true c6
    clear c6
    obtain ⟨c7b0, H⟩ := xq H
    obtain ⟨⟨t122, t125⟩, A8, H⟩ := xI H
    dsimp only at H
    obtain ⟨c9b0, H⟩ := xq H
    obtain ⟨y126, hy126⟩ : ∃ y_ : List (S48), y_ = (x3_1.set (x4_1 : Int).toNat (⟨t122, t125⟩ : S48)) := ⟨_, rfl⟩
    replace H : (za4.l0 k1 l0 y126 (wrap64 (x4_1 + 1))) = some r := xv hy126 H
    have Ny126 := ax hy126
    clear hy126
    have H' := ax H
    clear H
    have p121 : 0 ≤ (x4_1 : Int) := xd
    have q121 : x4_1 < (l0.length : Int) := xd
    obtain ⟨ad121, A121_0, c121_0, e121, hx121_0, hx121_1, hl121_0, hi121_0⟩ := zhM HR0.out x4_1 p121 q121
    cases e121
    (try replace hx121_0 := (HB.out.cell (World.block_lt_of_cell? w _ hx121_0)).trans hx121_0)
    (try replace hx121_1 := (HB.out.cell (World.block_lt_of_cell? w _ hx121_1)).trans hx121_1)
    have HR121_0 := ax hi121_0
    have HC121_0 := ax hl121_0
    clear hi121_0 hl121_0
    replace p121 := eq_true p121
    replace q121 := eq_true q121
    go_wp2_with (first | ((with_reducible refine zas (f := 54) rfl ?_); refine za3 (some 20) rfl rfl Try.func54 (by kernel_rfl) rfl #[.agg #[.slice A121_0 ((zce l0 x4_1).f0).length c121_0, .int .i64 ((zce l0 x4_1).f1)]] rfl xm ?_; (with_reducible refine (zbT.calls k1 _ _ ((zce l0 x4_1).f0) ((zce l0 x4_1).f1) t122 t125 _ ?side1 ?side2 A8.out).mono ?_); (case side1 => exact xz HR121_0.out HB.out); (case side2 => exact HC121_0.out); rintro e w11 ⟨v123, rfl, ho0, hb⟩; refine ⟨_, rfl, ?_⟩; replace HO_3 := ax (Kd.zgM (xS HO_3.out) (Kd.zb4 ho0) hb); have HO124 := ax (Kd.zdh ho0 (zah (xb HB.out))); replace HB := yB HB hb; (try clear hb); (try clear ho0); have p10 : 0 ≤ (x4_1 : Int) := xd; have q10 : (x4_1 : Int) < ((x3_1.length : Int) : Int) := xd; obtain ⟨go10, co10, eo10, gb10, gl10, cl10, HG10⟩ := Kd.ziT HO_3.out (by omega); (first | cases eo10 | (injection eo10 with ea_ en_ ec_; (first | subst ea_ | (injection ea_ with ea_; subst ea_)); subst ec_; clear en_)); have GB10 := ax gb10; have GG10 := ax HG10; clear gb10 gl10 HG10; obtain ⟨_, ce10, hcl10, hM10, hcc10, hfr10, _, _⟩ := Kd.zgL HO_3.out z48 (x4_1 : Int) p10 q10; obtain ⟨ve10_0, rfl, ge10_0⟩ := zc5 hM10; have hx10_0 : w11.cell? ⟨go10, (x4_1 : Int).toNat * 2, none⟩ = some (ve10_0) := hcc10 0 _ rfl; have hx10_1 : w11.cell? ⟨go10, (x4_1 : Int).toNat * 2 + 1, none⟩ = some (.int .i64 ((zab x3_1 x4_1).f1)) := hcc10 1 _ rfl; have hf10_0 : w11.frozen? ⟨go10, (x4_1 : Int).toNat * 2, none⟩ = false := hfr10 0; have hf10_1 : w11.frozen? ⟨go10, (x4_1 : Int).toNat * 2 + 1, none⟩ = false := hfr10 1; clear hcl10 hcc10 hfr10; (try clear hM10); replace p10 := eq_true p10; replace q10 := eq_true q10; have n_ := ax (Kd.zaZ (ok' := (fun k_ => some k_ ≠ (v123 : Value).ownBlock)) HO_3.out (fun k_ hk => hk.2)); clear HO_3; have HO_3 := n_; clear n_; have HX12 := ax (show Kd.S k48 48 w11 w.heap.size (fun k_ => ((fun _ => True)) k_ ∧ ¬ ((fun k_ => some k_ = (v123 : Value).ownBlock)) k_) (.slice (some ⟨go10, 0, none⟩) x3_1.length co10) x3_1 from (by (with_reducible repeat (first | apply Kd.zaH | apply Kd.zaD | apply Kd.zaK)); exact Kd.zaZ HO_3.out (fun k_ hk => ⟨trivial, fun e_ => hk e_⟩))); obtain ⟨oki12, ce12, hcl12, hM12, hcc12, hfr12, hoki12, hH12⟩ := Kd.zgL HX12.out z48 (x4_1 : Int) (xd) (by have h_ : (x4_1 : Int) < ((x3_1.length : Int) : Int) := xd; first | exact h_ | (have e_ := (Kd.zaG HO_3.out).1; omega) | simpa using h_); obtain ⟨ve12_0, rfl, ge12_0⟩ := zc5 hM12; have HP12 := Kd.zjY hH12 (xd) (by have h_ : (x4_1 : Int) < ((x3_1.length : Int) : Int) := xd; first | exact h_ | (have e_ := (Kd.zaG HO_3.out).1; omega) | simpa using h_) (seg := [v123, .int .i64 t125]) (j := 0) (show 2 ≤ 2 from by decide) (x' := (⟨t122, t125⟩ : S48)) (zcS _ _ _ (⟨t122, t125⟩ : S48) (Kd.zcl (Kd.zd5 rfl (Kd.zcl (ok' := fun k_ => ((fun _ => True)) k_ ∧ k_ ≠ go10) (Kd.zdC (HO124.out) (Kd.zhR HO_3.out) (by decide)) (fun k_ hk => ⟨trivial, fun e_ => (hk.2) (by rw [e_]; rfl)⟩))) (fun _ h_ => Or.inr (h_)))) (fun _ hk => hk) (fun k_ hk_ => ((Kd.zcl (ok' := fun k_ => ((fun _ => True)) k_ ∧ k_ ≠ go10) (Kd.zdC (HO124.out) (Kd.zhR HO_3.out) (by decide)) (fun k_ hk => ⟨trivial, fun e_ => (hk.2) (by rw [e_]; rfl)⟩))).1 k_ hk_.symm); have hx12_0 := hcc12 0 _ rfl; (try simp only [show (k48).sz = 2 from rfl, Nat.mul_one, Nat.add_zero] at hx12_0); have hf12_0 := hfr12 0; (try simp only [show (k48).sz = 2 from rfl, Nat.mul_one, Nat.add_zero] at hf12_0); have hx12_1 := hcc12 1 _ rfl; (try simp only [show (k48).sz = 2 from rfl, Nat.mul_one, Nat.add_zero] at hx12_1); have hf12_1 := hfr12 1; (try simp only [show (k48).sz = 2 from rfl, Nat.mul_one, Nat.add_zero] at hf12_1); clear hcl12 hcc12 hfr12; (try clear hM12); clear hoki12 hH12) | ((with_reducible refine zc6 (t := 48) (p := 21) rfl ?_); refine zc9 (t := 48) (p := 21) (v := ?vo_w13) (w1 := ((w11.setCell ⟨go10, (x4_1 : Int).toNat * 2, none⟩ (v123)).setCell ⟨go10, (x4_1 : Int).toNat * 2 + 1, none⟩ (.int .i64 t125))) ?hg ?ho ?hn ?hr ?_; (case ho => rfl); (case hg => rfl); (case hn => rfl); (case hr => first | (go_simp; done) | (go_simp; rfl) | ((obtain ⟨A_, c_, e_⟩ := (by first | exact Kd.zcF HO124.out | exact Kd.zbC HO124.out | exact Kd.zbt HO124.out : ∃ A_ c_, v123 = .slice A_ _ c_); subst e_); go_simp; done) | ((obtain ⟨A_, c_, e_⟩ := (by first | exact Kd.zcF HO124.out | exact Kd.zbC HO124.out | exact Kd.zbt HO124.out : ∃ A_ c_, v123 = .slice A_ _ c_); subst e_); go_simp; rfl)); intro w13 hw; have hg : w11.grownBy w13 (some go10) := (by rw [hw]; exact HP12.2); have hp_ : Kd.S k48 48 w13 w.heap.size (fun _ => True) (.slice (some ⟨go10, 0, none⟩) x3_1.length co10) y126 := (by rw [hw, Ny126.out]; exact HP12.1); clear HP12; have n0_ := ax (hp_); have n1_ := ax ((by rw [hw]; exact zcD (zcD (HB.out) GB10.out) GB10.out : Below w.heap.size w w13)); clear HO_3; clear HB; clear HO124; have HO_3 := n0_; have HB := n1_; clear n0_ n1_; clear hg hw hp_))
    go_roundg k1
    case measure => have := HK1.out; omega
    case rel => exact ⟨(y126), (wrap64 (x4_1 + 1)), xr, H', ⟨by have := HK1.out; omega⟩, ⟨xS HO_3.out⟩, ⟨xb HB.out⟩⟩
   ·rw [if_neg c6] at H
    have c6b0 := decide_eq_false c6
    clear c6
    obtain rfl := Option.some.inj H
    go_wp2
    go_ret
    exact ⟨_, xe, xS HO_3.out, xb HB.out⟩

def zaY.f (k : Nat) (a0_0 : Int) (l0_1 : List (S69)) : Option (Int × (List (S48))) := (za4.f k l0_1).bind fun t130 => (some (a0_0, t130))
theorem zaY.mono : ∀ a0 a1 k, LeO (zaY.f k a0 a1) (zaY.f (k + 1) a0 a1) := by
 intro a0 a1 k
 unfold zaY.f
 repeat' with_reducible first | exact za4.mono _ _ | exact xl | refine LeO.ite ?_ ?_ | refine LeO.bind ?_ fun _ => ?_
theorem zaY.calls (k : Nat) (a0_0 : Int) (A0_1 : Option Addr) (c0_1 : Nat) (l0_1 : List (S69)) (r1 : Int) (r2 : List (S48)) (w : World) (hr0_1 : Kd.C k69 w A0_1 l0_1.length l0_1) (hc0_1 : l0_1.length ≤ c0_1) (h : zaY.f k a0_0 l0_1 = some (r1, r2)) :
  Calls Try.prog 9 #[.agg #[.int .i64 a0_0, .slice A0_1 l0_1.length c0_1]] w fun e w' => ∃ v1_ : Value, e = .returned (.agg #[.int .i64 r1, v1_]) ∧ Kd.S k48 48 w' w.heap.size (fun _ => True) v1_ r2 ∧ Below w.heap.size w w' := by
 have hu24 := Try.underlying24
 have hu28 := Try.underlying28
 have HR0_1 := ax hr0_1
 have HC0_1 := ax hc0_1
 clear hr0_1 hc0_1
 have HB := ax (Below.refl w.heap.size w)
 have H : ((za4.f k l0_1).bind fun t130 => (some (a0_0, t130))) = some (r1, r2) := h
 clear h
 obtain ⟨t130, A2, H⟩ := xI H
 simp only [Option.some.injEq, Prod.mk.injEq] at H
 obtain ⟨rfl, rfl⟩ := H
 go_enter Try.func9, Try.ntmps9
 go_wp2_with (first | ((with_reducible refine zaV (N := 1) rfl ?_); refine zaO ?hg (N := 1) ?hd (cs := #[.int .i64 a0_0, .slice A0_1 l0_1.length c0_1]) (t := 24) ?hr ?_; (case hd => rfl); (case hg => rfl); (case hr => first | (go_simp; done) | (go_simp; rfl)); intro gb127 hg w3 hbox hb; have BK127 := ax (hbox); have GW127 := ax ((by rw [hg]; exact (zah (xb HB.out)) : w.heap.size ≤ gb127)); have GE127 := ax ((by rw [hg]; exact (zah (xb HB.out)) : w.heap.size ≤ gb127)); replace HB := yB HB hb; clear hb hbox hg) | ((with_reducible refine zaV (N := 2) rfl ?_); refine zaO ?hg (N := 2) ?hd (cs := #[.int .i64 0, .slice none 0 0]) (t := 28) ?hr ?_; (case hd => rfl); (case hg => rfl); (case hr => first | (go_simp; done) | (go_simp; rfl)); intro gb128 hg w4 hbox hb; have BK128 := ax (hbox); have GW128 := ax ((by rw [hg]; exact (zah (xs HB.out GE127.out)) : w.heap.size ≤ gb128)); have GE128 := ax ((by rw [hg]; exact (zah (xs HB.out GE127.out)) : w.heap.size ≤ gb128)); replace HB := ax (zar (xs HB.out GE127.out) hb); have NB127_128 := ax (bn hg BK127.out); have NB128_127 := ax (bm hg BK127.out); replace BK127 := ax (bb BK127.out hb); clear hb hbox hg) | ((with_reducible refine zaV (N := 3) rfl ?_); refine zaO ?hg (N := 3) ?hd (cs := #[.int .i64 0, .slice none 0 0]) (t := 28) ?hr ?_; (case hd => rfl); (case hg => rfl); (case hr => first | (go_simp; done) | (go_simp; rfl)); intro gb129 hg w5 hbox hb; have BK129 := ax (hbox); have GW129 := ax ((by rw [hg]; exact (zah (bh HB.out)) : w.heap.size ≤ gb129)); have GE129 := ax ((by rw [hg]; exact (zah (bh HB.out)) : w.heap.size ≤ gb129)); replace HB := ax (zar (bh HB.out) hb); have NB127_129 := ax (bn hg BK127.out); have NB129_127 := ax (bm hg BK127.out); replace BK127 := ax (bb BK127.out hb); have NB128_129 := ax (bn hg BK128.out); have NB129_128 := ax (bm hg BK128.out); replace BK128 := ax (bb BK128.out hb); clear hb hbox hg; have hnb6 := NB127_128.out; have hnc6 := NB128_127.out; have hnb7 := NB127_129.out; have hnc7 := NB129_127.out; have hcz8_0 := bc0 BK127.out; have hcz8_1 := bc1 BK127.out; have hfz8_0 := zae BK127.out 0; have hfz8_1 := zae BK127.out 1; have hnb9 := NB129_128.out; have hnc9 := NB128_129.out; have hcz10_0 := bc0 BK129.out; have hcz10_1 := bc1 BK129.out; have hfz10_0 := zae BK129.out 0; have hfz10_1 := zae BK129.out 1) | ((with_reducible refine zas (f := 28) rfl ?_); refine za3 (some 9) rfl rfl Try.func28 (by kernel_rfl) rfl #[.slice A0_1 l0_1.length c0_1] rfl xm ?_; (with_reducible refine (za4.calls k _ _ l0_1 t130 _ ?side1 ?side2 A2.out).mono ?_); (case side1 => exact Kd.zbE HR0_1.out (bh HB.out)); (case side2 => exact HC0_1.out); rintro e w11 ⟨v131, rfl, ho0, hb⟩; refine ⟨_, rfl, ?_⟩; have HO132 := ax (Kd.zbV ho0 (zah (bh HB.out))); replace BK127 := ax (zba (g := gb127) (o := .cells #[.int .i64 a0_0, .slice A0_1 l0_1.length c0_1] 24 (0, 0)) (by (with_reducible repeat (first | refine zaj ?_ _ | refine zaf ?_ | refine zai ?_ _)); refine zaL ?_ NB127_129.out _; (with_reducible repeat (first | refine zaj ?_ _ | refine zaf ?_ | refine zai ?_ _)); exact BK127.out) hb); replace BK128 := ax (zba (g := gb128) (o := .cells #[.int .i64 0, .slice none 0 0] 28 (0, 0)) (by (with_reducible repeat (first | refine zaj ?_ _ | refine zaf ?_ | refine zai ?_ _)); refine zaL ?_ NB128_129.out _; (with_reducible repeat (first | refine zaj ?_ _ | refine zaf ?_ | refine zai ?_ _)); exact BK128.out) hb); replace BK129 := ax (zba (g := gb129) (o := .cells #[.int .i64 a0_0, .slice none 0 0] 28 (0, 0)) (by (with_reducible repeat (first | refine zaj ?_ _ | refine zaf ?_ | refine zai ?_ _)); refine zbf (cs := #[.int .i64 0, .slice none 0 0]) ?_ 0 _ rfl; (with_reducible repeat (first | refine zaj ?_ _ | refine zaf ?_ | refine zai ?_ _)); exact BK129.out) hb); replace HB := ax (zar (bh HB.out) hb); (try clear hb); (try clear ho0); obtain ⟨Ao12, co12, eo12⟩ := Kd.zbC HO132.out; subst eo12; have hcz13_0 := bc0 BK129.out; have hcz13_1 := bc1 BK129.out; have hfz13_0 := zae BK129.out 0; have hfz13_1 := zae BK129.out 1; have hcz14_0 := bc0 BK128.out; have hcz14_1 := bc1 BK128.out; have hfz14_0 := zae BK128.out 0; have hfz14_1 := zae BK128.out 1))
 refine bodyPost_ret (results_cell_row rfl _ _ gb128 28 #[.int .i64 a0_0, .slice Ao12 t130.length co12] (0, 0) _ rfl (by (with_reducible repeat (first | refine zaj ?_ _ | refine zaf ?_ | refine zai ?_ _)); refine zbf (cs := #[.int .i64 a0_0, .slice none 0 0]) ?_ 1 _ rfl; (with_reducible repeat (first | refine zaj ?_ _ | refine zaf ?_ | refine zai ?_ _)); refine zbf (cs := #[.int .i64 0, .slice none 0 0]) ?_ 0 _ rfl; (with_reducible repeat (first | refine zaj ?_ _ | refine zaf ?_ | refine zai ?_ _)); refine zaL ?_ NB128_129.out _; (with_reducible repeat (first | refine zaj ?_ _ | refine zaf ?_ | refine zai ?_ _)); exact BK128.out) Try.underlying28 rfl (by kernel_rfl)) rfl ?_
 exact ⟨_, xe, by (with_reducible repeat (first | apply Kd.zaH | apply Kd.zaD | apply Kd.zaK)); exact Kd.zaZ (Kd.zgo (p := ⟨gb128, 1, none⟩) (Kd.zgo (p := ⟨gb128, 0, none⟩) (Kd.zgo (p := ⟨gb129, 1, none⟩) (Kd.zgn (Kd.zgn HO132.out BK129.out (by decide)) BK128.out (by decide)) (fun _ hk => hk.1.2) (.slice Ao12 t130.length co12)) (fun _ hk => hk.2) (.int .i64 a0_0)) (fun _ hk => hk.2) (.slice Ao12 t130.length co12)) (fun _ hk => trivial), bh HB.out⟩

def za7.l0 : Nat → List Int → List Int → Int → Option (Bool)
 | 0, _, _, _ => none
 | k + 1, x0, x1, x5 => if x5 < (x0.length : Int) then (if 0 ≤ x5 then (if x5 < (x1.length : Int) then (if (rd x0 x5) = (rd x1 x5) then (za7.l0 k x0 x1 (wrap64 (x5 + 1))) else (some false)) else (none)) else (none)) else (some true)
def za7.f (k : Nat) (l0 : List Int) (l1 : List Int) : Option (Bool) := if (l0.length : Int) = (l1.length : Int) then (za7.l0 k l0 l1 0) else (some false)
theorem za7.za8 : ∀ k, (∀ y0 y1 y2, LeO (za7.l0 k y0 y1 y2) (za7.l0 (k + 1) y0 y1 y2))
 | 0 => fun _ _ _ r h => by simp [za7.l0] at h
 | k + 1 => by
  have ih0 := za7.za8 k
  ·intro y0 y1 y2
   unfold za7.l0
   repeat' with_reducible first | exact ih0 _ _ _ | exact xl | refine LeO.ite ?_ ?_ | refine LeO.bind ?_ fun _ => ?_
theorem za7.mono : ∀ a0 a1 k, LeO (za7.f k a0 a1) (za7.f (k + 1) a0 a1) := by
 intro a0 a1 k
 have ih0 := za7.za8 k
 unfold za7.f
 repeat' with_reducible first | exact ih0 _ _ _ | exact xl | refine LeO.ite ?_ ?_ | refine LeO.bind ?_ fun _ => ?_
theorem za7.calls (k : Nat) (A0 : Option Addr) (c0 : Nat) (l0 : List Int) (A1 : Option Addr) (c1 : Nat) (l1 : List Int) (r : Bool) (w : World) (hr0 : Kd.C (Kd.int .i64) w A0 l0.length l0) (hc0 : l0.length ≤ c0) (hr1 : Kd.C (Kd.int .i64) w A1 l1.length l1) (hc1 : l1.length ≤ c1) (h : za7.f k l0 l1 = some r) :
  Calls Try.prog 44 #[.slice A0 l0.length c0, .slice A1 l1.length c1] w fun e w' => e = .returned (.bool r) ∧ zaI w w' := by
 have HR0 := ax hr0
 have HC0 := ax hc0
 clear hr0 hc0
 have HR1 := ax hr1
 have HC1 := ax hc1
 clear hr1 hc1
 have H : (if (l0.length : Int) = (l1.length : Int) then (za7.l0 k l0 l1 0) else (some false)) = some r := h
 clear h
 by_cases c3 : (l0.length : Int) = (l1.length : Int)
 ·rw [if_pos c3] at H
  have c3b0 : ((l0.length : Int) == (l1.length : Int)) = true := beq_iff_eq.mpr c3
  have c3b1 : ((l0.length : Int) != (l1.length : Int)) = false := bne_eq_false_iff_eq.mpr c3
  have c3b2 : (l0.length == l1.length) = true := by first | simpa using c3 | (simp at c3 ⊢; omega)
  clear c3
  have H' := ax H
  clear H
  go_enter Try.func44, Try.ntmps44
  go_wp2
  repeat (go_quiet (fail); try go_wp2)
  go_loopg [5] k (fun kq v5 w' => ∃ (x5_1 : Int), v5 = .int .i64 x5_1 ∧ zap (za7.l0 kq l0 l1 x5_1 = some r) ∧ zap (kq ≤ k) ∧ zaI w w')
  case atStart => exact ⟨(0), xr, H', ⟨Nat.le_refl _⟩, by repeat (first | exact zaI.refl _ | apply zaI.step)⟩
  case round =>
   clear H'
   (try clear c1); (try clear c3); (try clear c3b0); (try clear c3b1); (try clear c3b2)
   obtain ⟨x5_1, rfl, HA, HK1, ⟨m1, rfl⟩⟩ := hrel
   cases gk with
   | zero => exact absurd HA.out (by simp [za7.l0])
   | succ k1 =>
    have H := HA.out
    clear HA
    simp only [za7.l0] at H
    by_cases c4 : x5_1 < (l0.length : Int)
    ·rw [if_pos c4] at H
     have c4b0 := decide_eq_true c4
     clear c4
     obtain ⟨c5b0, H⟩ := xq H
     obtain ⟨c6b0, H⟩ := xq H
     by_cases c7 : (rd l0 x5_1) = (rd l1 x5_1)
     ·rw [if_pos c7] at H
      have c7b0 : ((rd l0 x5_1) == (rd l1 x5_1)) = true := beq_iff_eq.mpr c7
      have c7b1 : ((rd l0 x5_1) != (rd l1 x5_1)) = false := bne_eq_false_iff_eq.mpr c7
      clear c7
      have H' := ax H
      clear H
      have p133 : 0 ≤ (x5_1 : Int) := xd
      have q133 : x5_1 < (l0.length : Int) := xd
      obtain ⟨ad133, e133, hx133_0⟩ := Kd.zbY HR0.out x5_1 p133 q133
      cases e133
      replace p133 := eq_true p133
      replace q133 := eq_true q133
      have p134 : 0 ≤ (x5_1 : Int) := xd
      have q134 : x5_1 < (l1.length : Int) := xd
      obtain ⟨ad134, e134, hx134_0⟩ := Kd.zbY HR1.out x5_1 p134 q134
      cases e134
      replace p134 := eq_true p134
      replace q134 := eq_true q134
      go_wp2
      repeat (go_quiet (fail); try go_wp2)
      go_roundg k1
      case measure => have := HK1.out; omega
      case rel => exact ⟨(wrap64 (x5_1 + 1)), xr, H', ⟨by have := HK1.out; omega⟩, by repeat (first | exact zaI.refl _ | apply zaI.step)⟩
     ·rw [if_neg c7] at H
      have c7b0 : ((rd l0 x5_1) == (rd l1 x5_1)) = false := beq_eq_false_iff_ne.mpr c7
      have c7b1 : ((rd l0 x5_1) != (rd l1 x5_1)) = true := bne_iff_ne.mpr c7
      obtain rfl := Option.some.inj H
      have p133 : 0 ≤ (x5_1 : Int) := xd
      have q133 : x5_1 < (l0.length : Int) := xd
      obtain ⟨ad133, e133, hx133_0⟩ := Kd.zbY HR0.out x5_1 p133 q133
      cases e133
      replace p133 := eq_true p133
      replace q133 := eq_true q133
      have p134 : 0 ≤ (x5_1 : Int) := xd
      have q134 : x5_1 < (l1.length : Int) := xd
      obtain ⟨ad134, e134, hx134_0⟩ := Kd.zbY HR1.out x5_1 p134 q134
      cases e134
      replace p134 := eq_true p134
      replace q134 := eq_true q134
      go_wp2
      repeat (go_quiet (fail); try go_wp2)
      go_ret
      exact ⟨by first | rfl | (simp; done) | (simp [*]; done), by repeat (first | exact zaI.refl _ | apply zaI.step)⟩
    ·rw [if_neg c4] at H
     have c4b0 := decide_eq_false c4
     clear c4
     obtain rfl := Option.some.inj H
     go_wp2
     repeat (go_quiet (fail); try go_wp2)
     go_ret
     exact ⟨by first | rfl | (simp; done) | (simp [*]; done), by repeat (first | exact zaI.refl _ | apply zaI.step)⟩
 ·rw [if_neg c3] at H
  have c3b0 : ((l0.length : Int) == (l1.length : Int)) = false := beq_eq_false_iff_ne.mpr c3
  have c3b1 : ((l0.length : Int) != (l1.length : Int)) = true := bne_iff_ne.mpr c3
  have c3b2 : (l0.length == l1.length) = false := by first | simpa using c3 | (simp at c3 ⊢; omega)
  obtain rfl := Option.some.inj H
  go_enter Try.func44, Try.ntmps44
  go_wp2
  repeat (go_quiet (fail); try go_wp2)
  go_ret
  exact ⟨by first | rfl | (simp; done) | (simp [*]; done), by repeat (first | exact zaI.refl _ | apply zaI.step)⟩

def zbP.f (k : Nat) (l0_0 : List Int) (a0_1 : Int) (l1_0 : List Int) (a1_1 : Int) : Option (Bool) := (za7.f k l0_0 l1_0).bind fun t137 => (if t137 = true then (if a0_1 = a1_1 then (some true) else (some false)) else (some false))
theorem zbP.mono : ∀ a0 a1 a2 a3 k, LeO (zbP.f k a0 a1 a2 a3) (zbP.f (k + 1) a0 a1 a2 a3) := by
 intro a0 a1 a2 a3 k
 unfold zbP.f
 repeat' with_reducible first | exact za7.mono _ _ _ | exact xl | refine LeO.ite ?_ ?_ | refine LeO.bind ?_ fun _ => ?_
theorem zbP.calls (k : Nat) (A0_0 : Option Addr) (c0_0 : Nat) (l0_0 : List Int) (a0_1 : Int) (A1_0 : Option Addr) (c1_0 : Nat) (l1_0 : List Int) (a1_1 : Int) (r : Bool) (w : World) (hr0_0 : Kd.C (Kd.int .i64) w A0_0 l0_0.length l0_0) (hc0_0 : l0_0.length ≤ c0_0) (hr1_0 : Kd.C (Kd.int .i64) w A1_0 l1_0.length l1_0) (hc1_0 : l1_0.length ≤ c1_0) (h : zbP.f k l0_0 a0_1 l1_0 a1_1 = some r) :
  Calls Try.prog 64 #[.agg #[.slice A0_0 l0_0.length c0_0, .int .i64 a0_1], .agg #[.slice A1_0 l1_0.length c1_0, .int .i64 a1_1]] w fun e w' => e = .returned (.bool r) ∧ Below w.heap.size w w' := by
 have hu48 := Try.underlying48
 have HR0_0 := ax hr0_0
 have HC0_0 := ax hc0_0
 clear hr0_0 hc0_0
 have HR1_0 := ax hr1_0
 have HC1_0 := ax hc1_0
 clear hr1_0 hc1_0
 have HB := ax (Below.refl w.heap.size w)
 have H : ((za7.f k l0_0 l1_0).bind fun t137 => (if t137 = true then (if a0_1 = a1_1 then (some true) else (some false)) else (some false))) = some r := h
 clear h
 obtain ⟨t137, A3, H⟩ := xI H
 by_cases c4 : t137 = true
 ·subst c4
  rw [if_pos rfl] at H
  by_cases c5 : a0_1 = a1_1
  ·rw [if_pos c5] at H
   have c5b0 : (a0_1 == a1_1) = true := beq_iff_eq.mpr c5
   have c5b1 : (a0_1 != a1_1) = false := bne_eq_false_iff_eq.mpr c5
   clear c5
   obtain rfl := Option.some.inj H
   go_enter Try.func64, Try.ntmps64
   go_wp2_with (first | ((with_reducible refine zaV (N := 2) rfl ?_); refine zaO ?hg (N := 2) ?hd (cs := #[.slice A0_0 l0_0.length c0_0, .int .i64 a0_1]) (t := 48) ?hr ?_; (case hd => rfl); (case hg => rfl); (case hr => first | (go_simp; done) | (go_simp; rfl)); intro gb135 hg w6 hbox hb; have BK135 := ax (hbox); have GW135 := ax ((by rw [hg]; exact (zah (xb HB.out)) : w.heap.size ≤ gb135)); have GE135 := ax ((by rw [hg]; exact (zah (xb HB.out)) : w.heap.size ≤ gb135)); replace HB := yB HB hb; clear hb hbox hg) | ((with_reducible refine zaV (N := 3) rfl ?_); refine zaO ?hg (N := 3) ?hd (cs := #[.slice A1_0 l1_0.length c1_0, .int .i64 a1_1]) (t := 48) ?hr ?_; (case hd => rfl); (case hg => rfl); (case hr => first | (go_simp; done) | (go_simp; rfl)); intro gb136 hg w7 hbox hb; have BK136 := ax (hbox); have GW136 := ax ((by rw [hg]; exact (zah (xs HB.out GE135.out)) : w.heap.size ≤ gb136)); have GE136 := ax ((by rw [hg]; exact (zah (xs HB.out GE135.out)) : w.heap.size ≤ gb136)); replace HB := ax (zar (xs HB.out GE135.out) hb); have NB135_136 := ax (bn hg BK135.out); have NB136_135 := ax (bm hg BK135.out); replace BK135 := ax (bb BK135.out hb); clear hb hbox hg; have hnb8 := NB135_136.out; have hnc8 := NB136_135.out; have hcz9_0 := bc0 BK135.out; have hcz9_1 := bc1 BK135.out; have hfz9_0 := zae BK135.out 0; have hfz9_1 := zae BK135.out 1; have hcz10_0 := bc0 BK136.out; have hcz10_1 := bc1 BK136.out; have hfz10_0 := zae BK136.out 0; have hfz10_1 := zae BK136.out 1) | ((with_reducible refine zas (f := 44) rfl ?_); refine za3 (some 9) rfl rfl Try.func44 (by kernel_rfl) rfl #[.slice A0_0 l0_0.length c0_0, .slice A1_0 l1_0.length c1_0] rfl xm ?_; (with_reducible refine (za7.calls k _ _ l0_0 _ _ l1_0 true _ ?side1 ?side2 ?side3 ?side4 A3.out).mono ?_); (case side1 => exact xz HR0_0.out HB.out); (case side2 => exact HC0_0.out); (case side3 => exact xz HR1_0.out HB.out); (case side4 => exact HC1_0.out); rintro e w' ⟨rfl, ⟨nd, rfl⟩⟩; refine ⟨_, rfl, ?_⟩))
   go_ret
   exact ⟨xe, bh HB.out⟩
  ·rw [if_neg c5] at H
   have c5b0 : (a0_1 == a1_1) = false := beq_eq_false_iff_ne.mpr c5
   have c5b1 : (a0_1 != a1_1) = true := bne_iff_ne.mpr c5
   obtain rfl := Option.some.inj H
   go_enter Try.func64, Try.ntmps64
   go_wp2_with (first | ((with_reducible refine zaV (N := 2) rfl ?_); refine zaO ?hg (N := 2) ?hd (cs := #[.slice A0_0 l0_0.length c0_0, .int .i64 a0_1]) (t := 48) ?hr ?_; (case hd => rfl); (case hg => rfl); (case hr => first | (go_simp; done) | (go_simp; rfl)); intro gb135 hg w11 hbox hb; have BK135 := ax (hbox); have GW135 := ax ((by rw [hg]; exact (zah (xb HB.out)) : w.heap.size ≤ gb135)); have GE135 := ax ((by rw [hg]; exact (zah (xb HB.out)) : w.heap.size ≤ gb135)); replace HB := yB HB hb; clear hb hbox hg) | ((with_reducible refine zaV (N := 3) rfl ?_); refine zaO ?hg (N := 3) ?hd (cs := #[.slice A1_0 l1_0.length c1_0, .int .i64 a1_1]) (t := 48) ?hr ?_; (case hd => rfl); (case hg => rfl); (case hr => first | (go_simp; done) | (go_simp; rfl)); intro gb136 hg w12 hbox hb; have BK136 := ax (hbox); have GW136 := ax ((by rw [hg]; exact (zah (xs HB.out GE135.out)) : w.heap.size ≤ gb136)); have GE136 := ax ((by rw [hg]; exact (zah (xs HB.out GE135.out)) : w.heap.size ≤ gb136)); replace HB := ax (zar (xs HB.out GE135.out) hb); have NB135_136 := ax (bn hg BK135.out); have NB136_135 := ax (bm hg BK135.out); replace BK135 := ax (bb BK135.out hb); clear hb hbox hg; have hnb13 := NB135_136.out; have hnc13 := NB136_135.out; have hcz14_0 := bc0 BK135.out; have hcz14_1 := bc1 BK135.out; have hfz14_0 := zae BK135.out 0; have hfz14_1 := zae BK135.out 1; have hcz15_0 := bc0 BK136.out; have hcz15_1 := bc1 BK136.out; have hfz15_0 := zae BK136.out 0; have hfz15_1 := zae BK136.out 1) | ((with_reducible refine zas (f := 44) rfl ?_); refine za3 (some 9) rfl rfl Try.func44 (by kernel_rfl) rfl #[.slice A0_0 l0_0.length c0_0, .slice A1_0 l1_0.length c1_0] rfl xm ?_; (with_reducible refine (za7.calls k _ _ l0_0 _ _ l1_0 true _ ?side1 ?side2 ?side3 ?side4 A3.out).mono ?_); (case side1 => exact xz HR0_0.out HB.out); (case side2 => exact HC0_0.out); (case side3 => exact xz HR1_0.out HB.out); (case side4 => exact HC1_0.out); rintro e w' ⟨rfl, ⟨nd, rfl⟩⟩; refine ⟨_, rfl, ?_⟩))
   go_ret
   exact ⟨xe, bh HB.out⟩
 ·replace c4 := Bool.eq_false_iff.mpr c4
  subst c4
  rw [if_neg (show ¬ (false = true) by decide)] at H
  obtain rfl := Option.some.inj H
  go_enter Try.func64, Try.ntmps64
  go_wp2_with (first | ((with_reducible refine zaV (N := 2) rfl ?_); refine zaO ?hg (N := 2) ?hd (cs := #[.slice A0_0 l0_0.length c0_0, .int .i64 a0_1]) (t := 48) ?hr ?_; (case hd => rfl); (case hg => rfl); (case hr => first | (go_simp; done) | (go_simp; rfl)); intro gb135 hg w16 hbox hb; have BK135 := ax (hbox); have GW135 := ax ((by rw [hg]; exact (zah (xb HB.out)) : w.heap.size ≤ gb135)); have GE135 := ax ((by rw [hg]; exact (zah (xb HB.out)) : w.heap.size ≤ gb135)); replace HB := yB HB hb; clear hb hbox hg) | ((with_reducible refine zaV (N := 3) rfl ?_); refine zaO ?hg (N := 3) ?hd (cs := #[.slice A1_0 l1_0.length c1_0, .int .i64 a1_1]) (t := 48) ?hr ?_; (case hd => rfl); (case hg => rfl); (case hr => first | (go_simp; done) | (go_simp; rfl)); intro gb136 hg w17 hbox hb; have BK136 := ax (hbox); have GW136 := ax ((by rw [hg]; exact (zah (xs HB.out GE135.out)) : w.heap.size ≤ gb136)); have GE136 := ax ((by rw [hg]; exact (zah (xs HB.out GE135.out)) : w.heap.size ≤ gb136)); replace HB := ax (zar (xs HB.out GE135.out) hb); have NB135_136 := ax (bn hg BK135.out); have NB136_135 := ax (bm hg BK135.out); replace BK135 := ax (bb BK135.out hb); clear hb hbox hg; have hnb18 := NB135_136.out; have hnc18 := NB136_135.out; have hcz19_0 := bc0 BK135.out; have hcz19_1 := bc1 BK135.out; have hfz19_0 := zae BK135.out 0; have hfz19_1 := zae BK135.out 1; have hcz20_0 := bc0 BK136.out; have hcz20_1 := bc1 BK136.out; have hfz20_0 := zae BK136.out 0; have hfz20_1 := zae BK136.out 1) | ((with_reducible refine zas (f := 44) rfl ?_); refine za3 (some 9) rfl rfl Try.func44 (by kernel_rfl) rfl #[.slice A0_0 l0_0.length c0_0, .slice A1_0 l1_0.length c1_0] rfl xm ?_; (with_reducible refine (za7.calls k _ _ l0_0 _ _ l1_0 false _ ?side1 ?side2 ?side3 ?side4 A3.out).mono ?_); (case side1 => exact xz HR0_0.out HB.out); (case side2 => exact HC0_0.out); (case side3 => exact xz HR1_0.out HB.out); (case side4 => exact HC1_0.out); rintro e w' ⟨rfl, ⟨nd, rfl⟩⟩; refine ⟨_, rfl, ?_⟩))
  go_ret
  exact ⟨xe, bh HB.out⟩

end Go.Proofs.Ytneipehcmmigeaa.PFnExactAddPolys
