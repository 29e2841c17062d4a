import Derived.Test.YtneipehcmmigeaaPFnExactAddPolysx0
namespace Go.Proofs.Ytneipehcmmigeaa.PFnExactAddPolys
open Go.RowKit Go.Proofs.YtneipehcmmigeaaW.PrintWords Go.Proofs.YtneipehcmmigeaaW.PrintLast Go.Proofs.YtneipehcmmigeaaW.PrintMore
set_option linter.unusedVariables false
set_option linter.unusedSimpArgs false
set_option maxHeartbeats 8000000
set_option maxRecDepth 100000
def zbU.f (a0 : Int) (a1 : Int) (a2 : Int) : Option (Bool) := if a1 ≤ a0 then (some (decide (a0 ≤ a2))) else (some false)
theorem zbU.calls (a0 : Int) (a1 : Int) (a2 : Int) (r : Bool) (w : World) (h : zbU.f a0 a1 a2 = some r) :
  Calls Try.prog 42 #[.int .i64 a0, .int .i64 a1, .int .i64 a2] w fun e w' => e = .returned (.bool r) ∧ zaI w w' := by
 have H : (if a1 ≤ a0 then (some (decide (a0 ≤ a2))) else (some false)) = some r := h
 clear h
 by_cases c4 : a1 ≤ a0
 ·rw [if_pos c4] at H
  have c4b0 := decide_eq_true c4
  clear c4
  obtain rfl := Option.some.inj H
  go_enter Try.func42, Try.ntmps42
  go_wp2
  go_ret
  exact ⟨by first | rfl | (simp; done) | (simp [*]; done), by repeat (first | exact zaI.refl _ | apply zaI.step)⟩
 ·rw [if_neg c4] at H
  have c4b0 := decide_eq_false c4
  clear c4
  obtain rfl := Option.some.inj H
  go_enter Try.func42, Try.ntmps42
  go_wp2
  go_ret
  exact ⟨by first | rfl | (simp; done) | (simp [*]; done), by repeat (first | exact zaI.refl _ | apply zaI.step)⟩

def zbk.f (a0 : Int) : Option (Bool) := some (a0 != a0)
theorem zbk.calls (a0 : Int) (r : Bool) (w : World) (h : zbk.f a0 = some r) :
  Calls Try.prog 89 #[.int .i64 a0] w fun e w' => e = .returned (.bool r) ∧ zaI w w' := by
 have H : (some (a0 != a0)) = some r := h
 clear h
 obtain rfl := Option.some.inj H
 go_enter Try.func89, Try.ntmps89
 go_wp2
 go_ret
 exact ⟨by first | rfl | (simp; done) | (simp [*]; done), by repeat (first | exact zaI.refl _ | apply zaI.step)⟩

def zbR.f (a0 : Int) (a1 : Int) : Option (Int) := (zbk.f a0).bind fun t196 => ((zbk.f a1).bind fun t197 => (if t196 = true then (if t197 = true then (some 0) else (some (-1))) else (if t197 = true then (some 1) else (if a0 < a1 then (some (-1)) else (if a0 > a1 then (some 1) else (some 0))))))
theorem zbR.calls (a0 : Int) (a1 : Int) (r : Int) (w : World) (h : zbR.f a0 a1 = some r) :
  Calls Try.prog 77 #[.int .i64 a0, .int .i64 a1] w fun e w' => e = .returned (.int .i64 r) ∧ zaI w w' := by
 have H : ((zbk.f a0).bind fun t196 => ((zbk.f a1).bind fun t197 => (if t196 = true then (if t197 = true then (some 0) else (some (-1))) else (if t197 = true then (some 1) else (if a0 < a1 then (some (-1)) else (if a0 > a1 then (some 1) else (some 0))))))) = some r := h
 clear h
 obtain ⟨t196, A3, H⟩ := xI H
 obtain ⟨t197, A4, H⟩ := xI H
 by_cases c5 : t196 = true
 ·subst c5
  rw [if_pos rfl] at H
  by_cases c6 : t197 = true
  ·subst c6
   rw [if_pos rfl] at H
   obtain rfl := Option.some.inj H
   go_enter Try.func77, Try.ntmps77
   go_wp2_with (first | ((with_reducible refine zas (f := 89) rfl ?_); refine za3 (some 8) rfl rfl Try.func89 (by kernel_rfl) rfl #[.int .i64 a0] rfl xm ?_; (with_reducible refine (zbk.calls a0 true _ A3.out).mono ?_); rintro e w' ⟨rfl, ⟨nd, rfl⟩⟩; refine ⟨_, rfl, ?_⟩) | ((with_reducible refine zas (f := 89) rfl ?_); refine za3 (some 10) rfl rfl Try.func89 (by kernel_rfl) rfl #[.int .i64 a1] rfl xm ?_; (with_reducible refine (zbk.calls a1 true _ A4.out).mono ?_); rintro e w' ⟨rfl, ⟨nd, rfl⟩⟩; refine ⟨_, rfl, ?_⟩))
   go_ret
   exact ⟨by first | rfl | (simp; done) | (simp [*]; done), by repeat (first | exact zaI.refl _ | apply zaI.step)⟩
  ·replace c6 := Bool.eq_false_iff.mpr c6
   subst c6
   rw [if_neg (show ¬ (false = true) by decide)] at H
   obtain rfl := Option.some.inj H
   go_enter Try.func77, Try.ntmps77
   go_wp2_with (first | ((with_reducible refine zas (f := 89) rfl ?_); refine za3 (some 8) rfl rfl Try.func89 (by kernel_rfl) rfl #[.int .i64 a0] rfl xm ?_; (with_reducible refine (zbk.calls a0 true _ A3.out).mono ?_); rintro e w' ⟨rfl, ⟨nd, rfl⟩⟩; refine ⟨_, rfl, ?_⟩) | ((with_reducible refine zas (f := 89) rfl ?_); refine za3 (some 10) rfl rfl Try.func89 (by kernel_rfl) rfl #[.int .i64 a1] rfl xm ?_; (with_reducible refine (zbk.calls a1 false _ A4.out).mono ?_); rintro e w' ⟨rfl, ⟨nd, rfl⟩⟩; refine ⟨_, rfl, ?_⟩))
   go_ret
   exact ⟨by first | rfl | (simp; done) | (simp [*]; done), by repeat (first | exact zaI.refl _ | apply zaI.step)⟩
 ·replace c5 := Bool.eq_false_iff.mpr c5
  subst c5
  rw [if_neg (show ¬ (false = true) by decide)] at H
  by_cases c7 : t197 = true
  ·subst c7
   rw [if_pos rfl] at H
   obtain rfl := Option.some.inj H
   go_enter Try.func77, Try.ntmps77
   go_wp2_with (first | ((with_reducible refine zas (f := 89) rfl ?_); refine za3 (some 8) rfl rfl Try.func89 (by kernel_rfl) rfl #[.int .i64 a0] rfl xm ?_; (with_reducible refine (zbk.calls a0 false _ A3.out).mono ?_); rintro e w' ⟨rfl, ⟨nd, rfl⟩⟩; refine ⟨_, rfl, ?_⟩) | ((with_reducible refine zas (f := 89) rfl ?_); refine za3 (some 10) rfl rfl Try.func89 (by kernel_rfl) rfl #[.int .i64 a1] rfl xm ?_; (with_reducible refine (zbk.calls a1 true _ A4.out).mono ?_); rintro e w' ⟨rfl, ⟨nd, rfl⟩⟩; refine ⟨_, rfl, ?_⟩))
   go_ret
   exact ⟨by first | rfl | (simp; done) | (simp [*]; done), by repeat (first | exact zaI.refl _ | apply zaI.step)⟩
  ·replace c7 := Bool.eq_false_iff.mpr c7
   subst c7
   rw [if_neg (show ¬ (false = true) by decide)] at H
   by_cases c8 : a0 < a1
   ·rw [if_pos c8] at H
    have c8b0 := decide_eq_true c8
    clear c8
    obtain rfl := Option.some.inj H
    go_enter Try.func77, Try.ntmps77
    go_wp2_with (first | ((with_reducible refine zas (f := 89) rfl ?_); refine za3 (some 8) rfl rfl Try.func89 (by kernel_rfl) rfl #[.int .i64 a0] rfl xm ?_; (with_reducible refine (zbk.calls a0 false _ A3.out).mono ?_); rintro e w' ⟨rfl, ⟨nd, rfl⟩⟩; refine ⟨_, rfl, ?_⟩) | ((with_reducible refine zas (f := 89) rfl ?_); refine za3 (some 10) rfl rfl Try.func89 (by kernel_rfl) rfl #[.int .i64 a1] rfl xm ?_; (with_reducible refine (zbk.calls a1 false _ A4.out).mono ?_); rintro e w' ⟨rfl, ⟨nd, rfl⟩⟩; refine ⟨_, rfl, ?_⟩))
    go_ret
    exact ⟨by first | rfl | (simp; done) | (simp [*]; done), by repeat (first | exact zaI.refl _ | apply zaI.step)⟩
   ·rw [if_neg c8] at H
    have c8b0 := decide_eq_false c8
    clear c8
    by_cases c9 : a0 > a1
    ·rw [if_pos c9] at H
     have c9b0 : decide (a1 < a0) = true := decide_eq_true c9
     clear c9
     obtain rfl := Option.some.inj H
     go_enter Try.func77, Try.ntmps77
     go_wp2_with (first | ((with_reducible refine zas (f := 89) rfl ?_); refine za3 (some 8) rfl rfl Try.func89 (by kernel_rfl) rfl #[.int .i64 a0] rfl xm ?_; (with_reducible refine (zbk.calls a0 false _ A3.out).mono ?_); rintro e w' ⟨rfl, ⟨nd, rfl⟩⟩; refine ⟨_, rfl, ?_⟩) | ((with_reducible refine zas (f := 89) rfl ?_); refine za3 (some 10) rfl rfl Try.func89 (by kernel_rfl) rfl #[.int .i64 a1] rfl xm ?_; (with_reducible refine (zbk.calls a1 false _ A4.out).mono ?_); rintro e w' ⟨rfl, ⟨nd, rfl⟩⟩; refine ⟨_, rfl, ?_⟩))
     go_ret
     exact ⟨by first | rfl | (simp; done) | (simp [*]; done), by repeat (first | exact zaI.refl _ | apply zaI.step)⟩
    ·rw [if_neg c9] at H
     have c9b0 : decide (a1 < a0) = false := decide_eq_false c9
     clear c9
     obtain rfl := Option.some.inj H
     go_enter Try.func77, Try.ntmps77
     go_wp2_with (first | ((with_reducible refine zas (f := 89) rfl ?_); refine za3 (some 8) rfl rfl Try.func89 (by kernel_rfl) rfl #[.int .i64 a0] rfl xm ?_; (with_reducible refine (zbk.calls a0 false _ A3.out).mono ?_); rintro e w' ⟨rfl, ⟨nd, rfl⟩⟩; refine ⟨_, rfl, ?_⟩) | ((with_reducible refine zas (f := 89) rfl ?_); refine za3 (some 10) rfl rfl Try.func89 (by kernel_rfl) rfl #[.int .i64 a1] rfl xm ?_; (with_reducible refine (zbk.calls a1 false _ A4.out).mono ?_); rintro e w' ⟨rfl, ⟨nd, rfl⟩⟩; refine ⟨_, rfl, ?_⟩))
     go_ret
     exact ⟨by first | rfl | (simp; done) | (simp [*]; done), by repeat (first | exact zaI.refl _ | apply zaI.step)⟩

def zav.l0 : Nat → List Int → List Int → List Int → Int → Int → Option (Int)
 | 0, _, _, _, _, _ => none
 | k + 1, x0, x1, x9, x10, x11 => if x11 < x10 then (if 0 ≤ x11 then (if x11 < (x9.length : Int) then (if x11 ≥ (x1.length : Int) then (some 1) else (if x11 < (x1.length : Int) then ((zbR.f (rd x9 x11) (rd x1 x11)).bind fun t200 => (if t200 = 0 then (zav.l0 k x0 x1 x9 x10 (wrap64 (x11 + 1))) else (some t200))) else (none))) else (none)) else (none)) else (if (x0.length : Int) < (x1.length : Int) then (some (-1)) else (some 0))
def zav.f (k : Nat) (l0 : List Int) (l1 : List Int) : Option (Int) := zav.l0 k l0 l1 l0 (l0.length : Int) 0
theorem zav.za8 : ∀ k, (∀ y0 y1 y2 y3 y4, LeO (zav.l0 k y0 y1 y2 y3 y4) (zav.l0 (k + 1) y0 y1 y2 y3 y4))
 | 0 => fun _ _ _ _ _ r h => by simp [zav.l0] at h
 | k + 1 => by
  have ih0 := zav.za8 k
  ·intro y0 y1 y2 y3 y4
   unfold zav.l0
   repeat' with_reducible first | exact ih0 _ _ _ _ _ | exact xl | refine LeO.ite ?_ ?_ | refine LeO.bind ?_ fun _ => ?_
theorem zav.mono : ∀ a0 a1 k, LeO (zav.f k a0 a1) (zav.f (k + 1) a0 a1) := by
 intro a0 a1 k
 have ih0 := zav.za8 k
 unfold zav.f
 repeat' with_reducible first | exact ih0 _ _ _ _ _ | exact xl | refine LeO.ite ?_ ?_ | refine LeO.bind ?_ fun _ => ?_
theorem zav.calls (k : Nat) (A0 : Option Addr) (c0 : Nat) (l0 : List Int) (A1 : Option Addr) (c1 : Nat) (l1 : List Int) (r : Int) (w : World) (hr0 : Kd.C (Kd.int .i64) w A0 l0.length l0) (hc0 : l0.length ≤ c0) (hr1 : Kd.C (Kd.int .i64) w A1 l1.length l1) (hc1 : l1.length ≤ c1) (h : zav.f k l0 l1 = some r) :
  Calls Try.prog 55 #[.slice A0 l0.length c0, .slice A1 l1.length c1] w fun e w' => e = .returned (.int .i64 r) ∧ zaI w w' := by
 have HR0 := ax hr0
 have HC0 := ax hc0
 clear hr0 hc0
 have HR1 := ax hr1
 have HC1 := ax hc1
 clear hr1 hc1
 have H : (zav.l0 k l0 l1 l0 (l0.length : Int) 0) = some r := h
 clear h
 have H' := ax H
 clear H
 go_enter Try.func55, Try.ntmps55
 go_wp2
 go_loopg [11] k (fun kq v11 w' => ∃ (x11_1 : Int), v11 = .int .i64 x11_1 ∧ zap (zav.l0 kq l0 l1 l0 (l0.length : Int) x11_1 = some r) ∧ zap (kq ≤ k) ∧ zaI w w')
 case atStart => exact ⟨(0), xr, H', ⟨Nat.le_refl _⟩, by repeat (first | exact zaI.refl _ | apply zaI.step)⟩
 case round =>
  clear H'
  (try clear c1)
  obtain ⟨x11_1, rfl, HA, HK1, ⟨m1, rfl⟩⟩ := hrel
  cases gk with
  | zero => exact absurd HA.out (by simp [zav.l0])
  | succ k1 =>
   have H := HA.out
   clear HA
   simp only [zav.l0] at H
   by_cases c3 : x11_1 < (l0.length : Int)
   ·rw [if_pos c3] at H
    have c3b0 := decide_eq_true c3
    clear c3
    obtain ⟨c4b0, H⟩ := xq H
    obtain ⟨c5b0, H⟩ := xq H
    by_cases c6 : x11_1 ≥ (l1.length : Int)
    ·rw [if_pos c6] at H
     have c6b0 : decide ((l1.length : Int) ≤ x11_1) = true := decide_eq_true c6
     clear c6
     obtain rfl := Option.some.inj H
     have p198 : 0 ≤ (x11_1 : Int) := xd
     have q198 : x11_1 < (l0.length : Int) := xd
     obtain ⟨ad198, e198, hx198_0⟩ := Kd.zbY HR0.out x11_1 p198 q198
     cases e198
     replace p198 := eq_true p198
     replace q198 := eq_true q198
     go_wp2
     go_ret
     exact ⟨by first | rfl | (simp; done) | (simp [*]; done), by repeat (first | exact zaI.refl _ | apply zaI.step)⟩
    ·rw [if_neg c6] at H
     have c6b0 : decide ((l1.length : Int) ≤ x11_1) = false := decide_eq_false c6
     clear c6
     obtain ⟨c7b0, H⟩ := xq H
     obtain ⟨t200, A8, H⟩ := xI H
     by_cases c9 : t200 = 0
     ·rw [if_pos c9] at H
      have c9b0 : (t200 == 0) = true := beq_iff_eq.mpr c9
      have c9b1 : (t200 != 0) = false := bne_eq_false_iff_eq.mpr c9
      clear c9
      have H' := ax H
      clear H
      have p198 : 0 ≤ (x11_1 : Int) := xd
      have q198 : x11_1 < (l0.length : Int) := xd
      obtain ⟨ad198, e198, hx198_0⟩ := Kd.zbY HR0.out x11_1 p198 q198
      cases e198
      replace p198 := eq_true p198
      replace q198 := eq_true q198
      have p199 : 0 ≤ (x11_1 : Int) := xd
      have q199 : x11_1 < (l1.length : Int) := xd
      obtain ⟨ad199, e199, hx199_0⟩ := Kd.zbY HR1.out x11_1 p199 q199
      cases e199
      replace p199 := eq_true p199
      replace q199 := eq_true q199
      go_wp2_with (first | ((with_reducible refine zas (f := 77) rfl ?_); refine za3 (some 26) rfl rfl Try.func77 (by kernel_rfl) rfl #[.int .i64 (rd l0 x11_1), .int .i64 (rd l1 x11_1)] rfl xm ?_; (with_reducible refine (zbR.calls (rd l0 x11_1) (rd l1 x11_1) t200 _ A8.out).mono ?_); rintro e w' ⟨rfl, ⟨nd, rfl⟩⟩; refine ⟨_, rfl, ?_⟩))
      go_roundg k1
      case measure => have := HK1.out; omega
      case rel => exact ⟨(wrap64 (x11_1 + 1)), xr, H', ⟨by have := HK1.out; omega⟩, by repeat (first | exact zaI.refl _ | apply zaI.step)⟩
     ·rw [if_neg c9] at H
      have c9b0 : (t200 == 0) = false := beq_eq_false_iff_ne.mpr c9
      have c9b1 : (t200 != 0) = true := bne_iff_ne.mpr c9
      obtain rfl := Option.some.inj H
      have p198 : 0 ≤ (x11_1 : Int) := xd
      have q198 : x11_1 < (l0.length : Int) := xd
      obtain ⟨ad198, e198, hx198_0⟩ := Kd.zbY HR0.out x11_1 p198 q198
      cases e198
      replace p198 := eq_true p198
      replace q198 := eq_true q198
      have p199 : 0 ≤ (x11_1 : Int) := xd
      have q199 : x11_1 < (l1.length : Int) := xd
      obtain ⟨ad199, e199, hx199_0⟩ := Kd.zbY HR1.out x11_1 p199 q199
      cases e199
      replace p199 := eq_true p199
      replace q199 := eq_true q199
      go_wp2_with (first | ((with_reducible refine zas (f := 77) rfl ?_); refine za3 (some 26) rfl rfl Try.func77 (by kernel_rfl) rfl #[.int .i64 (rd l0 x11_1), .int .i64 (rd l1 x11_1)] rfl xm ?_; (with_reducible refine (zbR.calls (rd l0 x11_1) (rd l1 x11_1) t200 _ A8.out).mono ?_); rintro e w' ⟨rfl, ⟨nd, rfl⟩⟩; refine ⟨_, rfl, ?_⟩))
      go_ret
      exact ⟨by first | rfl | (simp; done) | (simp [*]; done), by repeat (first | exact zaI.refl _ | apply zaI.step)⟩
   ·rw [if_neg c3] at H
    have c3b0 := decide_eq_false c3
    clear c3
    by_cases c10 : (l0.length : Int) < (l1.length : Int)
    ·rw [if_pos c10] at H
     have c10b0 := decide_eq_true c10
     have c10b1 : decide (l0.length < l1.length) = true := decide_eq_true (Int.ofNat_lt.mp c10)
     clear c10
     obtain rfl := Option.some.inj H
     go_wp2
     go_ret
     exact ⟨by first | rfl | (simp; done) | (simp [*]; done), by repeat (first | exact zaI.refl _ | apply zaI.step)⟩
    ·rw [if_neg c10] at H
     have c10b0 := decide_eq_false c10
     have c10b1 : decide (l0.length < l1.length) = false := decide_eq_false (fun h => c10 (Int.ofNat_lt.mpr h))
     clear c10
     obtain rfl := Option.some.inj H
     go_wp2
     go_ret
     exact ⟨by first | rfl | (simp; done) | (simp [*]; done), by repeat (first | exact zaI.refl _ | apply zaI.step)⟩

-- NOT PRINTED: function 78 (slices_IndexFunc_int_int)

-- NOT PRINTED: function 56 (slices_ContainsFunc_int_int)

def zb2.f (a0 : Int) : Option (Bool) := (zbU.f a0 0 18).bind fun t201 => (some (!t201))
theorem zb2.calls (a0 : Int) (r : Bool) (w : World) (h : zb2.f a0 = some r) :
  Calls Try.prog 57 #[.int .i64 a0] w fun e w' => e = .returned (.bool r) ∧ zaI w w' := by
 have H : ((zbU.f a0 0 18).bind fun t201 => (some (!t201))) = some r := h
 clear h
 obtain ⟨t201, A2, H⟩ := xI H
 obtain rfl := Option.some.inj H
 go_enter Try.func57, Try.ntmps57
 go_wp2_with (first | ((with_reducible refine zas (f := 42) rfl ?_); refine za3 (some 4) rfl rfl Try.func42 (by kernel_rfl) rfl #[.int .i64 a0, .int .i64 0, .int .i64 18] rfl xm ?_; (with_reducible refine (zbU.calls a0 0 18 t201 _ A2.out).mono ?_); rintro e w' ⟨rfl, ⟨nd, rfl⟩⟩; refine ⟨_, rfl, ?_⟩))
 go_ret
 exact ⟨by first | rfl | (simp; done) | (simp [*]; done), by repeat (first | exact zaI.refl _ | apply zaI.step)⟩

def zao.l0 : Nat → List Int → Int → Int → Option (Int)
 | 0, _, _, _ => none
 | k + 1, x0, x7, x8 => if x8 < x7 then (if 0 ≤ x8 then (if x8 < (x0.length : Int) then ((zb2.f (rd x0 x8)).bind fun t203 => (if t203 = true then (some x8) else (zao.l0 k x0 x7 (wrap64 (x8 + 1))))) else (none)) else (none)) else (some (-1))
def zao.f (k : Nat) (l0 : List Int)  : Option (Int) := zao.l0 k l0 (l0.length : Int) 0
theorem zao.za8 : ∀ k, (∀ y0 y1 y2, LeO (zao.l0 k y0 y1 y2) (zao.l0 (k + 1) y0 y1 y2))
 | 0 => fun _ _ _ r h => by simp [zao.l0] at h
 | k + 1 => by
  have ih0 := zao.za8 k
  ·intro y0 y1 y2
   unfold zao.l0
   repeat' with_reducible first | exact ih0 _ _ _ | exact xl | refine LeO.ite ?_ ?_ | refine LeO.bind ?_ fun _ => ?_
theorem zao.mono : ∀ a0 k, LeO (zao.f k a0) (zao.f (k + 1) a0) := by
 intro a0 k
 have ih0 := zao.za8 k
 unfold zao.f
 repeat' with_reducible first | exact ih0 _ _ _ | exact xl | refine LeO.ite ?_ ?_ | refine LeO.bind ?_ fun _ => ?_
theorem zao.calls (k : Nat) (A0 : Option Addr) (c0 : Nat) (l0 : List Int)  (r : Int) (w : World) (hr0 : Kd.C (Kd.int .i64) w A0 l0.length l0) (hc0 : l0.length ≤ c0) (h : zao.f k l0 = some r) :
  Calls Try.prog 78 #[.slice A0 l0.length c0, .func (.func 57) #[] #[]] w fun e w' => e = .returned (.int .i64 r) ∧ zaI w w' := by
 have HR0 := ax hr0
 have HC0 := ax hc0
 clear hr0 hc0
 have H : (zao.l0 k l0 (l0.length : Int) 0) = some r := h
 clear h
 have H' := ax H
 clear H
 go_enter Try.func78, Try.ntmps78
 go_wp2
 go_loopg [8] k (fun kq v8 w' => ∃ (x8_1 : Int), v8 = .int .i64 x8_1 ∧ zap (zao.l0 kq l0 (l0.length : Int) x8_1 = some r) ∧ zap (kq ≤ k) ∧ zaI w w')
 case atStart => exact ⟨(0), xr, H', ⟨Nat.le_refl _⟩, by repeat (first | exact zaI.refl _ | apply zaI.step)⟩
 case round =>
  clear H'
  obtain ⟨x8_1, rfl, HA, HK1, ⟨m1, rfl⟩⟩ := hrel
  cases gk with
  | zero => exact absurd HA.out (by simp [zao.l0])
  | succ k1 =>
   have H := HA.out
   clear HA
   simp only [zao.l0] at H
   by_cases c3 : x8_1 < (l0.length : Int)
   ·rw [if_pos c3] at H
    have c3b0 := decide_eq_true c3
    clear c3
    obtain ⟨c4b0, H⟩ := xq H
    obtain ⟨c5b0, H⟩ := xq H
    obtain ⟨t203, A6, H⟩ := xI H
    by_cases c7 : t203 = true
    ·subst c7
     rw [if_pos rfl] at H
     obtain rfl := Option.some.inj H
     have p202 : 0 ≤ (x8_1 : Int) := xd
     have q202 : x8_1 < (l0.length : Int) := xd
     obtain ⟨ad202, e202, hx202_0⟩ := Kd.zbY HR0.out x8_1 p202 q202
     cases e202
     replace p202 := eq_true p202
     replace q202 := eq_true q202
     go_wp2_with (first | (go_at_call 57; (with_reducible refine (zb2.calls (rd l0 x8_1) true _ A6.out).mono ?_); rintro e w' ⟨rfl, ⟨nd, rfl⟩⟩))
     go_ret
     exact ⟨by first | rfl | (simp; done) | (simp [*]; done), by repeat (first | exact zaI.refl _ | apply zaI.step)⟩
    ·replace c7 := Bool.eq_false_iff.mpr c7
     subst c7
     rw [if_neg (show ¬ (false = true) by decide)] at H
     have H' := ax H
     clear H
     have p202 : 0 ≤ (x8_1 : Int) := xd
     have q202 : x8_1 < (l0.length : Int) := xd
     obtain ⟨ad202, e202, hx202_0⟩ := Kd.zbY HR0.out x8_1 p202 q202
     cases e202
     replace p202 := eq_true p202
     replace q202 := eq_true q202
     go_wp2_with (first | (go_at_call 57; (with_reducible refine (zb2.calls (rd l0 x8_1) false _ A6.out).mono ?_); rintro e w' ⟨rfl, ⟨nd, rfl⟩⟩))
     go_roundg k1
     case measure => have := HK1.out; omega
     case rel => exact ⟨(wrap64 (x8_1 + 1)), xr, H', ⟨by have := HK1.out; omega⟩, by repeat (first | exact zaI.refl _ | apply zaI.step)⟩
   ·rw [if_neg c3] at H
    have c3b0 := decide_eq_false c3
    clear c3
    obtain rfl := Option.some.inj H
    go_wp2
    go_ret
    exact ⟨by first | rfl | (simp; done) | (simp [*]; done), by repeat (first | exact zaI.refl _ | apply zaI.step)⟩

def zay.f (k : Nat) (l0 : List Int)  : Option (Bool) := (zao.f k l0).bind fun t204 => (some (decide (t204 ≥ 0)))
theorem zay.mono : ∀ a0 k, LeO (zay.f k a0) (zay.f (k + 1) a0) := by
 intro a0 k
 unfold zay.f
 repeat' with_reducible first | exact zao.mono _ _ | exact xl | refine LeO.ite ?_ ?_ | refine LeO.bind ?_ fun _ => ?_
theorem zay.calls (k : Nat) (A0 : Option Addr) (c0 : Nat) (l0 : List Int)  (r : Bool) (w : World) (hr0 : Kd.C (Kd.int .i64) w A0 l0.length l0) (hc0 : l0.length ≤ c0) (h : zay.f k l0 = some r) :
  Calls Try.prog 56 #[.slice A0 l0.length c0, .func (.func 57) #[] #[]] w fun e w' => e = .returned (.bool r) ∧ zaI w w' := by
 have HR0 := ax hr0
 have HC0 := ax hc0
 clear hr0 hc0
 have H : ((zao.f k l0).bind fun t204 => (some (decide (t204 ≥ 0)))) = some r := h
 clear h
 obtain ⟨t204, A3, H⟩ := xI H
 obtain rfl := Option.some.inj H
 go_enter Try.func56, Try.ntmps56
 go_wp2_with (first | ((with_reducible refine zas (f := 78) rfl ?_); refine za3 (some 7) rfl rfl Try.func78 (by kernel_rfl) rfl #[.slice A0 l0.length c0, .func (.func 57) #[] #[]] rfl xm ?_; (with_reducible refine (zao.calls k _ _ l0  t204 _ ?side1 ?side2 A3.out).mono ?_); (case side1 => exact xc HR0.out); (case side2 => exact HC0.out); rintro e w' ⟨rfl, ⟨nd, rfl⟩⟩; refine ⟨_, rfl, ?_⟩))
 go_ret
 exact ⟨by first | rfl | (simp; done) | (simp [*]; done), by repeat (first | exact zaI.refl _ | apply zaI.step)⟩

end Go.Proofs.Ytneipehcmmigeaa.PFnExactAddPolys
