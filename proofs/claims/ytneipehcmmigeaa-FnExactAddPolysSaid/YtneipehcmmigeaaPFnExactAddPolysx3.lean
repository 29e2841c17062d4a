import Derived.Test.YtneipehcmmigeaaPFnExactAddPolysx2
namespace Go.Proofs.Ytneipehcmmigeaa.PFnExactAddPolys
open Go.RowKit Go.Proofs.YtneipehcmmigeaaW.PrintWords Go.Proofs.YtneipehcmmigeaaW.PrintLast Go.Proofs.YtneipehcmmigeaaW.PrintMore
set_option linter.unusedVariables false
set_option linter.unusedSimpArgs false
set_option maxHeartbeats 8000000
set_option maxRecDepth 100000
def zaR.l0 : Nat → List (S48) → Int → Int → Option (Int)
 | 0, _, _, _ => none
 | k + 1, x0, x1, x5 => if x5 < (x0.length : Int) then (if 0 ≤ x5 then ((zaU.f k ((zab x0 x5).f0) x1).bind fun t147 => (if t147 < 0 then (some (-1)) else (if ((zab x0 x5).f1) = t147 then (zaR.l0 k x0 (wrap64 (t147 + 1)) (wrap64 (x5 + 1))) else (some (-1))))) else (none)) else (some x1)
def zaR.f (k : Nat) (l0 : List (S48)) (a1 : Int) : Option (Int) := zaR.l0 k l0 a1 0
theorem zaR.za8 : ∀ k, (∀ y0 y1 y2, LeO (zaR.l0 k y0 y1 y2) (zaR.l0 (k + 1) y0 y1 y2))
 | 0 => fun _ _ _ r h => by simp [zaR.l0] at h
 | k + 1 => by
  have ih0 := zaR.za8 k
  ·intro y0 y1 y2
   unfold zaR.l0
   repeat' with_reducible first | exact ih0 _ _ _ | exact zaU.mono _ _ _ | exact xl | refine LeO.ite ?_ ?_ | refine LeO.bind ?_ fun _ => ?_
theorem zaR.mono : ∀ a0 a1 k, LeO (zaR.f k a0 a1) (zaR.f (k + 1) a0 a1) := by
 intro a0 a1 k
 have ih0 := zaR.za8 k
 unfold zaR.f
 repeat' with_reducible first | exact ih0 _ _ _ | exact zaU.mono _ _ _ | exact xl | refine LeO.ite ?_ ?_ | refine LeO.bind ?_ fun _ => ?_
theorem zaR.calls (k : Nat) (A0 : Option Addr) (c0 : Nat) (l0 : List (S48)) (a1 : Int) (r : Int) (w : World) (hr0 : Kd.C k48 w A0 l0.length l0) (hc0 : l0.length ≤ c0) (h : zaR.f k l0 a1 = some r) :
  Calls Try.prog 35 #[.slice A0 l0.length c0, .int .i64 a1] w fun e w' => e = .returned (.int .i64 r) ∧ zaI w w' := by
 have HR0 := ax hr0
 have HC0 := ax hc0
 clear hr0 hc0
 have H : (zaR.l0 k l0 a1 0) = some r := h
 clear h
 have H' := ax H
 clear H
 go_enter Try.func35, Try.ntmps35
 go_wp2
 go_loopg [1, 5] k (fun kq v1 v5 w' => ∃ (x1_1 : Int) (x5_1 : Int), v1 = .int .i64 x1_1 ∧ v5 = .int .i64 x5_1 ∧ zap (zaR.l0 kq l0 x1_1 x5_1 = some r) ∧ zap (kq ≤ k) ∧ zaI w w')
 case atStart => exact ⟨(a1), (0), xr, xr, H', ⟨Nat.le_refl _⟩, by repeat (first | exact zaI.refl _ | apply zaI.step)⟩
 case round =>
  clear H'
  obtain ⟨x1_1, x5_1, rfl, rfl, HA, HK1, ⟨m1, rfl⟩⟩ := hrel
  cases gk with
  | zero => exact absurd HA.out (by simp [zaR.l0])
  | succ k1 =>
   have H := HA.out
   clear HA
   simp only [zaR.l0] at H
   by_cases c3 : x5_1 < (l0.length : Int)
   ·rw [if_pos c3] at H
    have c3b0 := decide_eq_true c3
    clear c3
    obtain ⟨c4b0, H⟩ := xq H
    obtain ⟨t147, A5, H⟩ := xI H
    by_cases c6 : t147 < 0
    ·rw [if_pos c6] at H
     have c6b0 := decide_eq_true c6
     clear c6
     obtain rfl := Option.some.inj H
     have p146 : 0 ≤ (x5_1 : Int) := xd
     have q146 : x5_1 < (l0.length : Int) := xd
     obtain ⟨ad146, A146_0, c146_0, e146, hx146_0, hx146_1, hl146_0, hi146_0⟩ := zbs HR0.out x5_1 p146 q146
     cases e146
     have HR146_0 := ax hi146_0
     have HC146_0 := ax hl146_0
     clear hi146_0 hl146_0
     replace p146 := eq_true p146
     replace q146 := eq_true q146
     go_wp2_with (first | ((with_reducible refine zas (f := 65) rfl ?_); refine za3 (some 18) rfl rfl Try.func65 (by kernel_rfl) rfl #[.slice A146_0 ((zab l0 x5_1).f0).length c146_0, .int .i64 x1_1] rfl xm ?_; (with_reducible refine (zaU.calls k1 _ _ ((zab l0 x5_1).f0) x1_1 t147 _ ?side1 ?side2 A5.out).mono ?_); (case side1 => exact xc HR146_0.out); (case side2 => exact HC146_0.out); rintro e w' ⟨rfl, ⟨nd, rfl⟩⟩; refine ⟨_, rfl, ?_⟩))
     go_ret
     exact ⟨by first | rfl | (simp; done) | (simp [*]; done), by repeat (first | exact zaI.refl _ | apply zaI.step)⟩
    ·rw [if_neg c6] at H
     have c6b0 := decide_eq_false c6
     clear c6
     by_cases c7 : ((zab l0 x5_1).f1) = t147
     ·rw [if_pos c7] at H
      have c7b0 : (((zab l0 x5_1).f1) == t147) = true := beq_iff_eq.mpr c7
      have c7b1 : (((zab l0 x5_1).f1) != t147) = false := bne_eq_false_iff_eq.mpr c7
      clear c7
      have H' := ax H
      clear H
      have p146 : 0 ≤ (x5_1 : Int) := xd
      have q146 : x5_1 < (l0.length : Int) := xd
      obtain ⟨ad146, A146_0, c146_0, e146, hx146_0, hx146_1, hl146_0, hi146_0⟩ := zbs HR0.out x5_1 p146 q146
      cases e146
      have HR146_0 := ax hi146_0
      have HC146_0 := ax hl146_0
      clear hi146_0 hl146_0
      replace p146 := eq_true p146
      replace q146 := eq_true q146
      go_wp2_with (first | ((with_reducible refine zas (f := 65) rfl ?_); refine za3 (some 18) rfl rfl Try.func65 (by kernel_rfl) rfl #[.slice A146_0 ((zab l0 x5_1).f0).length c146_0, .int .i64 x1_1] rfl xm ?_; (with_reducible refine (zaU.calls k1 _ _ ((zab l0 x5_1).f0) x1_1 t147 _ ?side1 ?side2 A5.out).mono ?_); (case side1 => exact xc HR146_0.out); (case side2 => exact HC146_0.out); rintro e w' ⟨rfl, ⟨nd, rfl⟩⟩; refine ⟨_, rfl, ?_⟩; have p148 : 0 ≤ (x5_1 : Int) := xd; have q148 : x5_1 < (l0.length : Int) := xd; obtain ⟨ad148, A148_0, c148_0, e148, hx148_0, hx148_1, hl148_0, hi148_0⟩ := zbs HR0.out x5_1 p148 q148; obtain rfl : ad146 = ad148 := (by injection e148); have HR148_0 := ax hi148_0; have HC148_0 := ax hl148_0; clear hi148_0 hl148_0; replace p148 := eq_true p148; replace q148 := eq_true q148; have ea_ := Option.some.inj (hx146_0.symm.trans hx148_0); injection ea_ with ea_ en_ ec_; subst ea_; subst ec_; clear en_))
      go_roundg k1
      case measure => have := HK1.out; omega
      case rel => exact ⟨(wrap64 (t147 + 1)), (wrap64 (x5_1 + 1)), xr, xr, H', ⟨by have := HK1.out; omega⟩, by repeat (first | exact zaI.refl _ | apply zaI.step)⟩
     ·rw [if_neg c7] at H
      have c7b0 : (((zab l0 x5_1).f1) == t147) = false := beq_eq_false_iff_ne.mpr c7
      have c7b1 : (((zab l0 x5_1).f1) != t147) = true := bne_iff_ne.mpr c7
      obtain rfl := Option.some.inj H
      have p146 : 0 ≤ (x5_1 : Int) := xd
      have q146 : x5_1 < (l0.length : Int) := xd
      obtain ⟨ad146, A146_0, c146_0, e146, hx146_0, hx146_1, hl146_0, hi146_0⟩ := zbs HR0.out x5_1 p146 q146
      cases e146
      have HR146_0 := ax hi146_0
      have HC146_0 := ax hl146_0
      clear hi146_0 hl146_0
      replace p146 := eq_true p146
      replace q146 := eq_true q146
      go_wp2_with (first | ((with_reducible refine zas (f := 65) rfl ?_); refine za3 (some 18) rfl rfl Try.func65 (by kernel_rfl) rfl #[.slice A146_0 ((zab l0 x5_1).f0).length c146_0, .int .i64 x1_1] rfl xm ?_; (with_reducible refine (zaU.calls k1 _ _ ((zab l0 x5_1).f0) x1_1 t147 _ ?side1 ?side2 A5.out).mono ?_); (case side1 => exact xc HR146_0.out); (case side2 => exact HC146_0.out); rintro e w' ⟨rfl, ⟨nd, rfl⟩⟩; refine ⟨_, rfl, ?_⟩; have p148 : 0 ≤ (x5_1 : Int) := xd; have q148 : x5_1 < (l0.length : Int) := xd; obtain ⟨ad148, A148_0, c148_0, e148, hx148_0, hx148_1, hl148_0, hi148_0⟩ := zbs HR0.out x5_1 p148 q148; obtain rfl : ad146 = ad148 := (by injection e148); have HR148_0 := ax hi148_0; have HC148_0 := ax hl148_0; clear hi148_0 hl148_0; replace p148 := eq_true p148; replace q148 := eq_true q148; have ea_ := Option.some.inj (hx146_0.symm.trans hx148_0); injection ea_ with ea_ en_ ec_; subst ea_; subst ec_; clear en_))
      go_ret
      exact ⟨by first | rfl | (simp; done) | (simp [*]; done), by repeat (first | exact zaI.refl _ | apply zaI.step)⟩
   ·rw [if_neg c3] at H
    have c3b0 := decide_eq_false c3
    clear c3
    obtain rfl := Option.some.inj H
    go_wp2
    go_ret
    exact ⟨by first | rfl | (simp; done) | (simp [*]; done), by repeat (first | exact zaI.refl _ | apply zaI.step)⟩

def zbo.f (k : Nat) (a0_0 : Int) (l0_1 : List (S48)) (a1 : Int) : Option (Int) := (zaR.f k l0_1 a1).bind fun t150 => (if t150 < 0 then (some (-1)) else (some t150))
theorem zbo.mono : ∀ a0 a1 a2 k, LeO (zbo.f k a0 a1 a2) (zbo.f (k + 1) a0 a1 a2) := by
 intro a0 a1 a2 k
 unfold zbo.f
 repeat' with_reducible first | exact zaR.mono _ _ _ | exact xl | refine LeO.ite ?_ ?_ | refine LeO.bind ?_ fun _ => ?_
theorem zbo.calls (k : Nat) (a0_0 : Int) (A0_1 : Option Addr) (c0_1 : Nat) (l0_1 : List (S48)) (a1 : Int) (r : Int) (w : World) (hr0_1 : Kd.C k48 w A0_1 l0_1.length l0_1) (hc0_1 : l0_1.length ≤ c0_1) (h : zbo.f k a0_0 l0_1 a1 = some r) :
  Calls Try.prog 13 #[.agg #[.int .i64 a0_0, .slice A0_1 l0_1.length c0_1], .int .i64 a1] w fun e w' => e = .returned (.int .i64 r) ∧ Below w.heap.size w w' := by
 have hu28 := Try.underlying28
 have HR0_1 := ax hr0_1
 have HC0_1 := ax hc0_1
 clear hr0_1 hc0_1
 have HB := ax (Below.refl w.heap.size w)
 have H : ((zaR.f k l0_1 a1).bind fun t150 => (if t150 < 0 then (some (-1)) else (some t150))) = some r := h
 clear h
 obtain ⟨t150, A3, H⟩ := xI H
 by_cases c4 : t150 < 0
 ·rw [if_pos c4] at H
  have c4b0 := decide_eq_true c4
  clear c4
  obtain rfl := Option.some.inj H
  go_enter Try.func13, Try.ntmps13
  go_wp2_with (first | ((with_reducible refine zaV (N := 2) rfl ?_); refine zaO ?hg (N := 2) ?hd (cs := #[.int .i64 a0_0, .slice A0_1 l0_1.length c0_1]) (t := 28) ?hr ?_; (case hd => rfl); (case hg => rfl); (case hr => first | (go_simp; done) | (go_simp; rfl)); intro gb149 hg w5 hbox hb; have BK149 := ax (hbox); have GW149 := ax ((by rw [hg]; exact (zah (xb HB.out)) : w.heap.size ≤ gb149)); have GE149 := ax ((by rw [hg]; exact (zah (xb HB.out)) : w.heap.size ≤ gb149)); replace HB := yB HB hb; clear hb hbox hg; have hcz6_0 := bc0 BK149.out; have hcz6_1 := bc1 BK149.out; have hfz6_0 := zae BK149.out 0; have hfz6_1 := zae BK149.out 1) | ((with_reducible refine zas (f := 35) rfl ?_); refine za3 (some 8) rfl rfl Try.func35 (by kernel_rfl) rfl #[.slice A0_1 l0_1.length c0_1, .int .i64 a1] rfl xm ?_; (with_reducible refine (zaR.calls k _ _ l0_1 a1 t150 _ ?side1 ?side2 A3.out).mono ?_); (case side1 => exact xz HR0_1.out HB.out); (case side2 => exact HC0_1.out); rintro e w' ⟨rfl, ⟨nd, rfl⟩⟩; refine ⟨_, rfl, ?_⟩))
  go_ret
  exact ⟨xe, xs HB.out GE149.out⟩
 ·rw [if_neg c4] at H
  have c4b0 := decide_eq_false c4
  clear c4
  obtain rfl := Option.some.inj H
  go_enter Try.func13, Try.ntmps13
  go_wp2_with (first | ((with_reducible refine zaV (N := 2) rfl ?_); refine zaO ?hg (N := 2) ?hd (cs := #[.int .i64 a0_0, .slice A0_1 l0_1.length c0_1]) (t := 28) ?hr ?_; (case hd => rfl); (case hg => rfl); (case hr => first | (go_simp; done) | (go_simp; rfl)); intro gb149 hg w7 hbox hb; have BK149 := ax (hbox); have GW149 := ax ((by rw [hg]; exact (zah (xb HB.out)) : w.heap.size ≤ gb149)); have GE149 := ax ((by rw [hg]; exact (zah (xb HB.out)) : w.heap.size ≤ gb149)); replace HB := yB HB hb; clear hb hbox hg; have hcz8_0 := bc0 BK149.out; have hcz8_1 := bc1 BK149.out; have hfz8_0 := zae BK149.out 0; have hfz8_1 := zae BK149.out 1) | ((with_reducible refine zas (f := 35) rfl ?_); refine za3 (some 8) rfl rfl Try.func35 (by kernel_rfl) rfl #[.slice A0_1 l0_1.length c0_1, .int .i64 a1] rfl xm ?_; (with_reducible refine (zaR.calls k _ _ l0_1 a1 t150 _ ?side1 ?side2 A3.out).mono ?_); (case side1 => exact xz HR0_1.out HB.out); (case side2 => exact HC0_1.out); rintro e w' ⟨rfl, ⟨nd, rfl⟩⟩; refine ⟨_, rfl, ?_⟩))
  go_ret
  exact ⟨xe, xs HB.out GE149.out⟩

def zcp.f (a0 : Int) (a1 : Int) (a2 : Int) : Option (Bool) := if a0 ≥ a1 then (some (decide (a0 ≤ a2))) else (some false)
theorem zcp.calls (a0 : Int) (a1 : Int) (a2 : Int) (r : Bool) (w : World) (h : zcp.f a0 a1 a2 = some r) :
  Calls Try.prog 38 #[.int .i64 a0, .int .i64 a1, .int .i64 a2] w fun e w' => e = .returned (.bool r) ∧ zaI w w' := by
 have H : (if a0 ≥ a1 then (some (decide (a0 ≤ a2))) else (some false)) = some r := h
 clear h
 by_cases c4 : a0 ≥ a1
 ·rw [if_pos c4] at H
  have c4b0 : decide (a1 ≤ a0) = true := decide_eq_true c4
  clear c4
  obtain rfl := Option.some.inj H
  go_enter Try.func38, Try.ntmps38
  go_wp2
  go_ret
  exact ⟨by first | rfl | (simp; done) | (simp [*]; done), by repeat (first | exact zaI.refl _ | apply zaI.step)⟩
 ·rw [if_neg c4] at H
  have c4b0 : decide (a1 ≤ a0) = false := decide_eq_false c4
  clear c4
  obtain rfl := Option.some.inj H
  go_enter Try.func38, Try.ntmps38
  go_wp2
  go_ret
  exact ⟨by first | rfl | (simp; done) | (simp [*]; done), by repeat (first | exact zaI.refl _ | apply zaI.step)⟩

def za1.l0 : Nat → Int → Int → List Int → Int → Option (Bool)
 | 0, _, _, _, _ => none
 | k + 1, x1, x5, x1000, x1001 => if x5 < (x1000.length : Int) then (if 0 ≤ x5 then ((zcp.f (rd x1000 x5) 0 18).bind fun t153 => (if t153 = true then (za1.l0 k x1 (wrap64 (x5 + 1)) x1000 x1001) else (some false))) else (none)) else (if (x1000.length : Int) = x1 then (some (x1001 != 0)) else (some false))
def za1.f (k : Nat) (l0_0 : List Int) (a0_1 : Int) (a1 : Int) : Option (Bool) := za1.l0 k a1 0 l0_0 a0_1
theorem za1.za8 : ∀ k, (∀ y0 y1 y2 y3, LeO (za1.l0 k y0 y1 y2 y3) (za1.l0 (k + 1) y0 y1 y2 y3))
 | 0 => fun _ _ _ _ r h => by simp [za1.l0] at h
 | k + 1 => by
  have ih0 := za1.za8 k
  ·intro y0 y1 y2 y3
   unfold za1.l0
   repeat' with_reducible first | exact ih0 _ _ _ _ | exact xl | refine LeO.ite ?_ ?_ | refine LeO.bind ?_ fun _ => ?_
theorem za1.mono : ∀ a0 a1 a2 k, LeO (za1.f k a0 a1 a2) (za1.f (k + 1) a0 a1 a2) := by
 intro a0 a1 a2 k
 have ih0 := za1.za8 k
 unfold za1.f
 repeat' with_reducible first | exact ih0 _ _ _ _ | exact xl | refine LeO.ite ?_ ?_ | refine LeO.bind ?_ fun _ => ?_
theorem za1.calls (k : Nat) (A0_0 : Option Addr) (c0_0 : Nat) (l0_0 : List Int) (a0_1 : Int) (a1 : Int) (r : Bool) (w : World) (hr0_0 : Kd.C (Kd.int .i64) w A0_0 l0_0.length l0_0) (hc0_0 : l0_0.length ≤ c0_0) (h : za1.f k l0_0 a0_1 a1 = some r) :
  Calls Try.prog 51 #[.agg #[.slice A0_0 l0_0.length c0_0, .int .i64 a0_1], .int .i64 a1] w fun e w' => e = .returned (.bool r) ∧ Below w.heap.size w w' := by
 have hu48 := Try.underlying48
 have HR0_0 := ax hr0_0
 have HC0_0 := ax hc0_0
 clear hr0_0 hc0_0
 have HB := ax (Below.refl w.heap.size w)
 have H : (za1.l0 k a1 0 l0_0 a0_1) = some r := h
 clear h
 have H' := ax H
 clear H
 go_enter Try.func51, Try.ntmps51
 go_wp2_with (first | ((with_reducible refine zaV (N := 2) rfl ?_); refine zaO ?hg (N := 2) ?hd (cs := #[.slice A0_0 l0_0.length c0_0, .int .i64 a0_1]) (t := 48) ?hr ?_; (case hd => rfl); (case hg => rfl); (case hr => first | (go_simp; done) | (go_simp; rfl)); intro gb151 hg w3 hbox hb; have BK151 := ax (hbox); have GW151 := ax ((by rw [hg]; exact (zah (xb HB.out)) : w.heap.size ≤ gb151)); have GE151 := ax ((by rw [hg]; exact (zah (xb HB.out)) : w.heap.size ≤ gb151)); replace HB := yB HB hb; clear hb hbox hg))
 go_loopg [5] k (fun kq v5 w' => ∃ (x5_1 : Int), v5 = .int .i64 x5_1 ∧ zap (za1.l0 kq a1 x5_1 l0_0 a0_1 = some r) ∧ zap (kq ≤ k) ∧ zap (w'.heap[gb151]? = some (.cells #[(.slice A0_0 l0_0.length c0_0), .int .i64 a0_1] 48 (0, 0))) ∧ zap (Below w.heap.size w w'))
 case atStart => exact ⟨(0), xr, H', ⟨Nat.le_refl _⟩, ⟨xk BK151.out⟩, ⟨xs HB.out GE151.out⟩⟩
 case round =>
  clear H'
  obtain ⟨x5_1, rfl, HA, HK1, BK151, HB⟩ := hrel
  cases gk with
  | zero => exact absurd HA.out (by simp [za1.l0])
  | succ k1 =>
   have H := HA.out
   clear HA
   simp only [za1.l0] at H
   by_cases c4 : x5_1 < (l0_0.length : Int)
   ·rw [if_pos c4] at H
    have c4b0 := decide_eq_true c4
    clear c4
    obtain ⟨c5b0, H⟩ := xq H
    obtain ⟨t153, A6, H⟩ := xI H
    by_cases c7 : t153 = true
    ·subst c7
     rw [if_pos rfl] at H
     have H' := ax H
     clear H
     have hcz8_0 := bc0 BK151.out
     have hcz8_1 := bc1 BK151.out
     have hfz8_0 := zae BK151.out 0
     have hfz8_1 := zae BK151.out 1
     have p152 : 0 ≤ (x5_1 : Int) := xd
     have q152 : x5_1 < (l0_0.length : Int) := xd
     obtain ⟨ad152, e152, hx152_0⟩ := Kd.zbY HR0_0.out x5_1 p152 q152
     cases e152
     (try replace hx152_0 := (HB.out.cell (World.block_lt_of_cell? w _ hx152_0)).trans hx152_0)
     replace p152 := eq_true p152
     replace q152 := eq_true q152
     go_wp2_with (first | ((with_reducible refine zas (f := 38) rfl ?_); refine za3 (some 18) rfl rfl Try.func38 (by kernel_rfl) rfl #[.int .i64 (rd l0_0 x5_1), .int .i64 0, .int .i64 18] rfl xm ?_; (with_reducible refine (zcp.calls (rd l0_0 x5_1) 0 18 true _ A6.out).mono ?_); rintro e w' ⟨rfl, ⟨nd, rfl⟩⟩; refine ⟨_, rfl, ?_⟩))
     go_roundg k1
     case measure => have := HK1.out; omega
     case rel => exact ⟨(wrap64 (x5_1 + 1)), xr, H', ⟨by have := HK1.out; omega⟩, ⟨xk BK151.out⟩, ⟨xs HB.out GE151.out⟩⟩
    ·replace c7 := Bool.eq_false_iff.mpr c7
     subst c7
     rw [if_neg (show ¬ (false = true) by decide)] at H
     obtain rfl := Option.some.inj H
     have hcz9_0 := bc0 BK151.out
     have hcz9_1 := bc1 BK151.out
     have hfz9_0 := zae BK151.out 0
     have hfz9_1 := zae BK151.out 1
     have p152 : 0 ≤ (x5_1 : Int) := xd
     have q152 : x5_1 < (l0_0.length : Int) := xd
     obtain ⟨ad152, e152, hx152_0⟩ := Kd.zbY HR0_0.out x5_1 p152 q152
     cases e152
     (try replace hx152_0 := (HB.out.cell (World.block_lt_of_cell? w _ hx152_0)).trans hx152_0)
     replace p152 := eq_true p152
     replace q152 := eq_true q152
     go_wp2_with (first | ((with_reducible refine zas (f := 38) rfl ?_); refine za3 (some 18) rfl rfl Try.func38 (by kernel_rfl) rfl #[.int .i64 (rd l0_0 x5_1), .int .i64 0, .int .i64 18] rfl xm ?_; (with_reducible refine (zcp.calls (rd l0_0 x5_1) 0 18 false _ A6.out).mono ?_); rintro e w' ⟨rfl, ⟨nd, rfl⟩⟩; refine ⟨_, rfl, ?_⟩))
     go_ret
     exact ⟨xe, xs HB.out GE151.out⟩
   ·rw [if_neg c4] at H
    have c4b0 := decide_eq_false c4
    clear c4
    by_cases c10 : (l0_0.length : Int) = a1
    ·rw [if_pos c10] at H
     have c10b0 : ((l0_0.length : Int) == a1) = true := beq_iff_eq.mpr c10
     have c10b1 : ((l0_0.length : Int) != a1) = false := bne_eq_false_iff_eq.mpr c10
     clear c10
     obtain rfl := Option.some.inj H
     have hcz11_0 := bc0 BK151.out
     have hcz11_1 := bc1 BK151.out
     have hfz11_0 := zae BK151.out 0
     have hfz11_1 := zae BK151.out 1
     go_wp2
     go_ret
     exact ⟨xe, xs HB.out GE151.out⟩
    ·rw [if_neg c10] at H
     have c10b0 : ((l0_0.length : Int) == a1) = false := beq_eq_false_iff_ne.mpr c10
     have c10b1 : ((l0_0.length : Int) != a1) = true := bne_iff_ne.mpr c10
     obtain rfl := Option.some.inj H
     have hcz12_0 := bc0 BK151.out
     have hcz12_1 := bc1 BK151.out
     have hfz12_0 := zae BK151.out 0
     have hfz12_1 := zae BK151.out 1
     go_wp2
     go_ret
     exact ⟨xe, xs HB.out GE151.out⟩

mutual
def zaA.l0 : Nat → List Int → List Int → Int → Option (Bool)
 | 0, _, _, _ => none
 | k + 1, x0, x1, x5 => if x5 < (x0.length : Int) then (zaA.j1 k x0 x1 x5 (decide (x5 < (x1.length : Int)))) else (zaA.j1 k x0 x1 x5 false)
def zaA.j1 : Nat → List Int → List Int → Int → Bool → Option (Bool)
 | 0, _, _, _, _ => none
 | k + 1, x0, x1, x5, x15 => if x15 = true then (if 0 ≤ x5 then (if x5 < (x0.length : Int) then (if x5 < (x1.length : Int) then (if (rd x0 x5) = (rd x1 x5) then (zaA.l0 k x0 x1 (wrap64 (x5 + 1))) else (some (decide ((rd x0 x5) < (rd x1 x5))))) else (none)) else (none)) else (none)) else (some (decide ((x0.length : Int) < (x1.length : Int))))
end
def zaA.f (k : Nat) (l0 : List Int) (l1 : List Int) : Option (Bool) := zaA.l0 k l0 l1 0
theorem zaA.za8 : ∀ k, (∀ y0 y1 y2, LeO (zaA.l0 k y0 y1 y2) (zaA.l0 (k + 1) y0 y1 y2)) ∧ (∀ y0 y1 y2 y3, LeO (zaA.j1 k y0 y1 y2 y3) (zaA.j1 (k + 1) y0 y1 y2 y3))
 | 0 => ⟨fun _ _ _ r h => by simp [zaA.l0] at h, fun _ _ _ _ r h => by simp [zaA.j1] at h⟩
 | k + 1 => by
  obtain ⟨ih0, ih1⟩ := zaA.za8 k
  refine ⟨?_, ?_⟩ <;> intros <;> (first | unfold zaA.l0 | unfold zaA.j1) <;> repeat' with_reducible first | exact ih0 _ _ _ | exact ih1 _ _ _ _ | exact xl | refine LeO.ite ?_ ?_ | refine LeO.bind ?_ fun _ => ?_
theorem zaA.mono : ∀ a0 a1 k, LeO (zaA.f k a0 a1) (zaA.f (k + 1) a0 a1) := by
 intro a0 a1 k
 obtain ⟨ih0, ih1⟩ := zaA.za8 k
 unfold zaA.f
 repeat' with_reducible first | exact ih0 _ _ _ | exact ih1 _ _ _ _ | exact xl | refine LeO.ite ?_ ?_ | refine LeO.bind ?_ fun _ => ?_
theorem zaA.calls (k : Nat) (A0 : Option Addr) (c0 : Nat) (l0 : List Int) (A1 : Option Addr) (c1 : Nat) (l1 : List Int) (r : Bool) (w : World) (hr0 : Kd.C (Kd.int .i64) w A0 l0.length l0) (hc0 : l0.length ≤ c0) (hr1 : Kd.C (Kd.int .i64) w A1 l1.length l1) (hc1 : l1.length ≤ c1) (h : zaA.f k l0 l1 = some r) :
  Calls Try.prog 52 #[.slice A0 l0.length c0, .slice A1 l1.length c1] w fun e w' => e = .returned (.bool r) ∧ zaI w w' := by
 have HR0 := ax hr0
 have HC0 := ax hc0
 clear hr0 hc0
 have HR1 := ax hr1
 have HC1 := ax hc1
 clear hr1 hc1
 have H : (zaA.l0 k l0 l1 0) = some r := h
 clear h
 have H' := ax H
 clear H
 go_enter Try.func52, Try.ntmps52
 go_wp2
 repeat (go_quiet (fail); try go_wp2)
 go_loopg [5] k (fun kq v5 w' => ∃ (x5_1 : Int), v5 = .int .i64 x5_1 ∧ zap (zaA.l0 kq l0 l1 x5_1 = some r) ∧ zap (kq ≤ k) ∧ zaI w w')
 case atStart => exact ⟨(0), xr, H', ⟨Nat.le_refl _⟩, by repeat (first | exact zaI.refl _ | apply zaI.step)⟩
 case round =>
  clear H'
  (try clear c1)
  obtain ⟨x5_1, rfl, HA, HK1, ⟨m1, rfl⟩⟩ := hrel
  cases gk with
  | zero => exact absurd HA.out (by simp [zaA.l0])
  | succ k1 =>
   have H := HA.out
   clear HA
   simp only [zaA.l0] at H
   have HC3 := ax H
   clear H
   go_upto_region 2 with (fail)
   repeat (go_quiet (fail); go_upto_region 2 with (fail))
   go_cut [15] (fun v15 wc => ∃ (kq : Nat) (x15_2 : Bool), v15 = .bool x15_2 ∧ zap (zaA.j1 kq l0 l1 x5_1 x15_2 = some r) ∧ zap (kq ≤ k1) ∧ zaI w wc)
   case first =>
    have H := HC3.out
    clear HC3
    by_cases c4 : x5_1 < (l0.length : Int)
    ·rw [if_pos c4] at H
     have c4b0 := decide_eq_true c4
     clear c4
     (first | rw [c4b0] | (simp only [zbZ, zcd]; rw [c4b0]) | skip)
     have H' := ax H
     clear H
     go_wp2
     repeat (go_quiet (fail); try go_wp2)
     go_meet
     case rel => exact ⟨_, (decide (x5_1 < (l1.length : Int))), xr, H', ⟨by have := HK1.out; first | omega | exact Nat.le_refl _⟩, by repeat (first | exact zaI.refl _ | apply zaI.step)⟩
    ·rw [if_neg c4] at H
     have c4b0 := decide_eq_false c4
     clear c4
     (first | rw [c4b0] | (simp only [zbZ, zcd]; rw [c4b0]) | skip)
     have H' := ax H
     clear H
     go_wp2
     repeat (go_quiet (fail); try go_wp2)
     go_meet
     case rel => exact ⟨_, (false), xr, H', ⟨by have := HK1.out; first | omega | exact Nat.le_refl _⟩, by repeat (first | exact zaI.refl _ | apply zaI.step)⟩
   case rest =>
    clear HC3
    (try clear c1); (try clear c4); (try clear c4b0)
    obtain ⟨kq, x15_2, rfl, HA, HJ2, ⟨mc2, rfl⟩⟩ := hcut
    cases kq with
    | zero => exact absurd HA.out (by simp [zaA.j1])
    | succ kj2 =>
     have H := HA.out
     clear HA
     simp only [zaA.j1] at H
     by_cases c5 : x15_2 = true
     ·subst c5
      rw [if_pos rfl] at H
      obtain ⟨c6b0, H⟩ := xq H
      obtain ⟨c7b0, H⟩ := xq H
      obtain ⟨c8b0, H⟩ := xq H
      by_cases c9 : (rd l0 x5_1) = (rd l1 x5_1)
      ·rw [if_pos c9] at H
       have c9b0 : ((rd l0 x5_1) == (rd l1 x5_1)) = true := beq_iff_eq.mpr c9
       have c9b1 : ((rd l0 x5_1) != (rd l1 x5_1)) = false := bne_eq_false_iff_eq.mpr c9
       clear c9
       have H' := ax H
       clear H
       have p154 : 0 ≤ (x5_1 : Int) := xd
       have q154 : x5_1 < (l0.length : Int) := xd
       obtain ⟨ad154, e154, hx154_0⟩ := Kd.zbY HR0.out x5_1 p154 q154
       cases e154
       replace p154 := eq_true p154
       replace q154 := eq_true q154
       have p155 : 0 ≤ (x5_1 : Int) := xd
       have q155 : x5_1 < (l1.length : Int) := xd
       obtain ⟨ad155, e155, hx155_0⟩ := Kd.zbY HR1.out x5_1 p155 q155
       cases e155
       replace p155 := eq_true p155
       replace q155 := eq_true q155
       go_wp2
       repeat (go_quiet (fail); try go_wp2)
       go_roundg kj2
       case measure => have := HK1.out; have := HJ2.out; omega
       case rel => exact ⟨(wrap64 (x5_1 + 1)), xr, H', ⟨by have := HK1.out; have := HJ2.out; omega⟩, by repeat (first | exact zaI.refl _ | apply zaI.step)⟩
      ·rw [if_neg c9] at H
       have c9b0 : ((rd l0 x5_1) == (rd l1 x5_1)) = false := beq_eq_false_iff_ne.mpr c9
       have c9b1 : ((rd l0 x5_1) != (rd l1 x5_1)) = true := bne_iff_ne.mpr c9
       obtain rfl := Option.some.inj H
       have p154 : 0 ≤ (x5_1 : Int) := xd
       have q154 : x5_1 < (l0.length : Int) := xd
       obtain ⟨ad154, e154, hx154_0⟩ := Kd.zbY HR0.out x5_1 p154 q154
       cases e154
       replace p154 := eq_true p154
       replace q154 := eq_true q154
       have p155 : 0 ≤ (x5_1 : Int) := xd
       have q155 : x5_1 < (l1.length : Int) := xd
       obtain ⟨ad155, e155, hx155_0⟩ := Kd.zbY HR1.out x5_1 p155 q155
       cases e155
       replace p155 := eq_true p155
       replace q155 := eq_true q155
       have p156 : 0 ≤ (x5_1 : Int) := xd
       have q156 : x5_1 < (l0.length : Int) := xd
       obtain ⟨ad156, e156, hx156_0⟩ := Kd.zbY HR0.out x5_1 p156 q156
       obtain rfl : ad154 = ad156 := (by injection e156)
       replace p156 := eq_true p156
       replace q156 := eq_true q156
       have p157 : 0 ≤ (x5_1 : Int) := xd
       have q157 : x5_1 < (l1.length : Int) := xd
       obtain ⟨ad157, e157, hx157_0⟩ := Kd.zbY HR1.out x5_1 p157 q157
       obtain rfl : ad155 = ad157 := (by injection e157)
       replace p157 := eq_true p157
       replace q157 := eq_true q157
       go_wp2
       repeat (go_quiet (fail); try go_wp2)
       go_ret
       exact ⟨by first | rfl | (simp; done) | (simp [*]; done), by repeat (first | exact zaI.refl _ | apply zaI.step)⟩
     ·replace c5 := Bool.eq_false_iff.mpr c5
      subst c5
      rw [if_neg (show ¬ (false = true) by decide)] at H
      obtain rfl := Option.some.inj H
      go_wp2
      repeat (go_quiet (fail); try go_wp2)
      go_ret
      exact ⟨by first | rfl | (simp; done) | (simp [*]; done), by repeat (first | exact zaI.refl _ | apply zaI.step)⟩

end Go.Proofs.Ytneipehcmmigeaa.PFnExactAddPolys
