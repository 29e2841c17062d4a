import Derived.Test.YtneipehcmmigeaaPFnExactSchurPolyx0
namespace Go.Proofs.Ytneipehcmmigeaa.PFnExactSchurPoly
open Go.RowKit Go.Proofs.YtneipehcmmigeaaW.PrintWords Go.Proofs.YtneipehcmmigeaaW.PrintLast Go.Proofs.YtneipehcmmigeaaW.PrintMore
set_option linter.unusedVariables false
set_option linter.unusedSimpArgs false
set_option maxHeartbeats 8000000
set_option maxRecDepth 100000
/-! ### zbv: function 42 -/
def zbv.f (a0 : Int) (a1 : Int) (a2 : Int) : Option (Bool) := if a1 ≤ a0 then (some (decide (a0 ≤ a2))) else (some false)
theorem zbv.calls (a0 : Int) (a1 : Int) (a2 : Int) (r : Bool) (w : World) (h : zbv.f a0 a1 a2 = some r) :
  Calls Try.prog 42 #[.int .i64 a0, .int .i64 a1, .int .i64 a2] w fun e w' => e = .returned (.bool r) ∧ zaE w w' := by
 have H : (if a1 ≤ a0 then (some (decide (a0 ≤ a2))) else (some false)) = some r := h
 clear h
 by_cases c4 : a1 ≤ a0
 ·rw [if_pos c4] at H
  have c4b0 := decide_eq_true c4
  clear c4
  obtain rfl := Option.some.inj H
  go_enter Try.func42, Try.ntmps42
  go_wp2
  go_ret
  exact ⟨by first | rfl | (simp; done) | (simp [*]; done), by repeat (first | exact zaE.refl _ | apply zaE.step)⟩
 ·rw [if_neg c4] at H
  have c4b0 := decide_eq_false c4
  clear c4
  obtain rfl := Option.some.inj H
  go_enter Try.func42, Try.ntmps42
  go_wp2
  go_ret
  exact ⟨by first | rfl | (simp; done) | (simp [*]; done), by repeat (first | exact zaE.refl _ | apply zaE.step)⟩

/-! ### zau: function 84 -/
mutual
def zau.l0 : Nat → List Int → Int → List Int → Int → Int → Option (Bool)
 | 0, _, _, _, _, _ => none
 | k + 1, x0, x3, x6, x7, x8 => if x8 < x7 then (if 0 ≤ x8 then (if x8 < (x6.length : Int) then ((zbv.f (rd x6 x8) 1 9).bind fun t306 => (if t306 = true then (if x8 > 0 then (if 0 ≤ (wrap64 (x8 - 1)) then (if (wrap64 (x8 - 1)) < (x0.length : Int) then (zau.j1 k x0 x3 (rd x6 x8) x6 x7 x8 (decide ((rd x6 x8) > (rd x0 (wrap64 (x8 - 1)))))) else (none)) else (none)) else (zau.j1 k x0 x3 (rd x6 x8) x6 x7 x8 false)) else (zau.j1 k x0 x3 (rd x6 x8) x6 x7 x8 true))) else (none)) else (none)) else (some true)
def zau.j1 : Nat → List Int → Int → Int → List Int → Int → Int → Bool → Option (Bool)
 | 0, _, _, _, _, _, _, _ => none
 | k + 1, x0, x3, x5, x6, x7, x8, x28 => if x28 = true then (some false) else (if (wrap64 (x3 + x5)) > 9 then (some false) else (zau.l0 k x0 (wrap64 (x3 + x5)) x6 x7 (wrap64 (x8 + 1))))
end
def zau.f (k : Nat) (l0 : List Int) : Option (Bool) := zau.l0 k l0 0 l0 (l0.length : Int) 0
theorem zau.zaZ : ∀ k, (∀ y0 y1 y2 y3 y4, LeO (zau.l0 k y0 y1 y2 y3 y4) (zau.l0 (k + 1) y0 y1 y2 y3 y4)) ∧ (∀ y0 y1 y2 y3 y4 y5 y6, LeO (zau.j1 k y0 y1 y2 y3 y4 y5 y6) (zau.j1 (k + 1) y0 y1 y2 y3 y4 y5 y6))
 | 0 => ⟨fun _ _ _ _ _ r h => by simp [zau.l0] at h, fun _ _ _ _ _ _ _ r h => by simp [zau.j1] at h⟩
 | k + 1 => by
  obtain ⟨ih0, ih1⟩ := zau.zaZ k
  refine ⟨?_, ?_⟩ <;> intros <;> (first | unfold zau.l0 | unfold zau.j1) <;> repeat' with_reducible first | exact ih0 _ _ _ _ _ | exact ih1 _ _ _ _ _ _ _ | exact xl | refine LeO.ite ?_ ?_ | refine LeO.bind ?_ fun _ => ?_
theorem zau.mono : ∀ a0 k, LeO (zau.f k a0) (zau.f (k + 1) a0) := by
 intro a0 k
 obtain ⟨ih0, ih1⟩ := zau.zaZ k
 unfold zau.f
 repeat' with_reducible first | exact ih0 _ _ _ _ _ | exact ih1 _ _ _ _ _ _ _ | exact xl | refine LeO.ite ?_ ?_ | refine LeO.bind ?_ fun _ => ?_
theorem zau.calls (k : Nat) (A0 : Option Addr) (c0 : Nat) (l0 : List Int) (r : Bool) (w : World) (hr0 : Kd.C (Kd.int .i64) w A0 l0.length l0) (hc0 : l0.length ≤ c0) (h : zau.f k l0 = some r) :
  Calls Try.prog 84 #[.slice A0 l0.length c0] w fun e w' => e = .returned (.bool r) ∧ zaE w w' := by
 have HR0 := ax hr0
 have HC0 := ax hc0
 clear hr0 hc0
 have H : (zau.l0 k l0 0 l0 (l0.length : Int) 0) = some r := h
 clear h
 have H' := ax H
 clear H
 go_enter Try.func84, Try.ntmps84
 go_wp2
 go_loopg [3, 8] k (fun kq v3 v8 w' => ∃ (x3_1 : Int) (x8_1 : Int), v3 = .int .i64 x3_1 ∧ v8 = .int .i64 x8_1 ∧ zao (zau.l0 kq l0 x3_1 l0 (l0.length : Int) x8_1 = some r) ∧ zao (kq ≤ k) ∧ zaE w w')
 case atStart => exact ⟨(0), (0), xr, xr, H', ⟨Nat.le_refl _⟩, by repeat (first | exact zaE.refl _ | apply zaE.step)⟩
 case round =>
  clear H'
  obtain ⟨x3_1, x8_1, rfl, rfl, HA, HK1, ⟨m1, rfl⟩⟩ := hrel
  cases gk with
  | zero => exact absurd HA.out (by simp [zau.l0])
  | succ k1 =>
   have H := HA.out
   clear HA
   simp only [zau.l0] at H
   by_cases c2 : x8_1 < (l0.length : Int)
   ·rw [if_pos c2] at H
    have c2b0 := decide_eq_true c2
    clear c2
    obtain ⟨c3b0, H⟩ := xq H
    obtain ⟨c4b0, H⟩ := xq H
    have HC5 := ax H
    clear H
    have p305 : 0 ≤ (x8_1 : Int) := xd
    have q305 : x8_1 < (l0.length : Int) := xd
    obtain ⟨ad305, e305, hx305_0⟩ := Kd.zbK HR0.out x8_1 p305 q305
    cases e305
    replace p305 := eq_true p305
    replace q305 := eq_true q305
    go_upto_region 5 with (fail)
    go_cut [28] (fun v28 wc => ∃ (kq : Nat) (x28_4 : Bool), v28 = .bool x28_4 ∧ zao (zau.j1 kq l0 x3_1 (rd l0 x8_1) l0 (l0.length : Int) x8_1 x28_4 = some r) ∧ zao (kq ≤ k1) ∧ zaE w wc)
    case first =>
     have H := HC5.out
     clear HC5
     obtain ⟨t306, A6, H⟩ := xI H
     by_cases c7 : t306 = true
     ·subst c7
      rw [if_pos rfl] at H
      by_cases c8 : x8_1 > 0
      ·rw [if_pos c8] at H
       have c8b0 : decide (0 < x8_1) = true := decide_eq_true c8
       clear c8
       (first | rw [c8b0] | (simp only [zcd, zcw]; rw [c8b0]) | skip)
       obtain ⟨ji9, hji9⟩ : ∃ j_ : Int, (wrap64 (x8_1 - 1)) = j_ := ⟨_, rfl⟩
       replace H : (if 0 ≤ (ji9) then (if (ji9) < (l0.length : Int) then (zau.j1 k1 l0 x3_1 (rd l0 x8_1) l0 (l0.length : Int) x8_1 (decide ((rd l0 x8_1) > (rd l0 (ji9))))) else (none)) else (none)) = some r := by first | (rw [hji9] at H; exact H) | (simp only [hji9] at H ⊢; exact H)
       (try rw [hji9] at A6)
       have hji9w : (IntKind.i64.wrap (x8_1 - 1)) = ji9 := (zcd _).trans hji9
       obtain ⟨c10b0, H⟩ := xq H
       obtain ⟨c11b0, H⟩ := xq H
       have H' := ax H
       clear H
       go_wp2_with (first | ((with_reducible refine zan (f := 42) rfl ?_); refine zaM (some 14) rfl rfl Try.func42 (by kernel_rfl) rfl #[.int .i64 (rd l0 x8_1), .int .i64 1, .int .i64 9] rfl xm ?_; (with_reducible refine (zbv.calls (rd l0 x8_1) 1 9 true _ A6.out).mono ?_); rintro e w' ⟨rfl, ⟨nd, rfl⟩⟩; refine ⟨_, rfl, ?_⟩; have p307 : 0 ≤ ((ji9) : Int) := xd; have q307 : (ji9) < (l0.length : Int) := xd; obtain ⟨ad307, e307, hx307_0⟩ := Kd.zbK HR0.out (ji9) p307 q307; obtain rfl : ad305 = ad307 := (by injection e307); replace p307 := eq_true p307; replace q307 := eq_true q307))
       go_meet
       case rel => exact ⟨_, (decide ((rd l0 x8_1) > (rd l0 (ji9)))), (by first | rfl | (simp; done) | (simp only [← hji9] <;> (first | rfl | simp)) | (simp [*]; done)), H', ⟨by have := HK1.out; first | omega | exact Nat.le_refl _⟩, by repeat (first | exact zaE.refl _ | apply zaE.step)⟩
      ·rw [if_neg c8] at H
       have c8b0 : decide (0 < x8_1) = false := decide_eq_false c8
       clear c8
       (first | rw [c8b0] | (simp only [zcd, zcw]; rw [c8b0]) | skip)
       have H' := ax H
       clear H
       go_wp2_with (first | ((with_reducible refine zan (f := 42) rfl ?_); refine zaM (some 14) rfl rfl Try.func42 (by kernel_rfl) rfl #[.int .i64 (rd l0 x8_1), .int .i64 1, .int .i64 9] rfl xm ?_; (with_reducible refine (zbv.calls (rd l0 x8_1) 1 9 true _ A6.out).mono ?_); rintro e w' ⟨rfl, ⟨nd, rfl⟩⟩; refine ⟨_, rfl, ?_⟩))
       go_meet
       case rel => exact ⟨_, (false), xr, H', ⟨by have := HK1.out; first | omega | exact Nat.le_refl _⟩, by repeat (first | exact zaE.refl _ | apply zaE.step)⟩
     ·replace c7 := Bool.eq_false_iff.mpr c7
      subst c7
      rw [if_neg (show ¬ (false = true) by decide)] at H
      have H' := ax H
      clear H
      go_wp2_with (first | ((with_reducible refine zan (f := 42) rfl ?_); refine zaM (some 14) rfl rfl Try.func42 (by kernel_rfl) rfl #[.int .i64 (rd l0 x8_1), .int .i64 1, .int .i64 9] rfl xm ?_; (with_reducible refine (zbv.calls (rd l0 x8_1) 1 9 false _ A6.out).mono ?_); rintro e w' ⟨rfl, ⟨nd, rfl⟩⟩; refine ⟨_, rfl, ?_⟩))
      go_meet
      case rel => exact ⟨_, (true), xr, H', ⟨by have := HK1.out; first | omega | exact Nat.le_refl _⟩, by repeat (first | exact zaE.refl _ | apply zaE.step)⟩
    case rest =>
     clear HC5
     (try clear c2); (try clear c2b0); (try clear c3); (try clear c3b0); (try clear c4); (try clear c4b0); (try clear c7); (try clear c8); (try clear c8b0); (try clear c10); (try clear c10b0); (try clear c11); (try clear c11b0); (try clear hx305_0); (try clear hx307_0); (try clear p305); (try clear p307); (try clear q305); (try clear q307)
     obtain ⟨kq, x28_4, rfl, HA, HJ4, ⟨mc4, rfl⟩⟩ := hcut
     cases kq with
     | zero => exact absurd HA.out (by simp [zau.j1])
     | succ kj4 =>
      have H := HA.out
      clear HA
      simp only [zau.j1] at H
      by_cases c12 : x28_4 = true
      ·subst c12
       rw [if_pos rfl] at H
       obtain rfl := Option.some.inj H
       go_wp2
       go_ret
       exact ⟨by first | rfl | (simp; done) | (simp [*]; done), by repeat (first | exact zaE.refl _ | apply zaE.step)⟩
      ·replace c12 := Bool.eq_false_iff.mpr c12
       subst c12
       rw [if_neg (show ¬ (false = true) by decide)] at H
       by_cases c13 : (wrap64 (x3_1 + (rd l0 x8_1))) > 9
       ·rw [if_pos c13] at H
        have c13b0 : decide (9 < (wrap64 (x3_1 + (rd l0 x8_1)))) = true := decide_eq_true c13
        clear c13
        obtain rfl := Option.some.inj H
        go_wp2
        go_ret
        exact ⟨by first | rfl | (simp; done) | (simp [*]; done), by repeat (first | exact zaE.refl _ | apply zaE.step)⟩
       ·rw [if_neg c13] at H
        have c13b0 : decide (9 < (wrap64 (x3_1 + (rd l0 x8_1)))) = false := decide_eq_false c13
        clear c13
        have H' := ax H
        clear H
        go_wp2
        go_roundg kj4
        case measure => have := HK1.out; have := HJ4.out; omega
        case rel => exact ⟨(wrap64 (x3_1 + (rd l0 x8_1))), (wrap64 (x8_1 + 1)), xr, xr, H', ⟨by have := HK1.out; have := HJ4.out; omega⟩, by repeat (first | exact zaE.refl _ | apply zaE.step)⟩
   ·rw [if_neg c2] at H
    have c2b0 := decide_eq_false c2
    clear c2
    obtain rfl := Option.some.inj H
    go_wp2
    go_ret
    exact ⟨by first | rfl | (simp; done) | (simp [*]; done), by repeat (first | exact zaE.refl _ | apply zaE.step)⟩

/-! ### zcV: function 85 -/
def zcV.f (l0 : List Int) (a1 : Int) : Option (Int) := (zbv.f a1 0 (wrap64 ((l0.length : Int) - 1))).bind fun t308 => (if t308 = true then (if 0 ≤ a1 then (if a1 < (l0.length : Int) then (some (rd l0 a1)) else (none)) else (none)) else (some 0))
theorem zcV.calls (A0 : Option Addr) (c0 : Nat) (l0 : List Int) (a1 : Int) (r : Int) (w : World) (hr0 : Kd.C (Kd.int .i64) w A0 l0.length l0) (hc0 : l0.length ≤ c0) (h : zcV.f l0 a1 = some r) :
  Calls Try.prog 85 #[.slice A0 l0.length c0, .int .i64 a1] w fun e w' => e = .returned (.int .i64 r) ∧ zaE w w' := by
 have HR0 := ax hr0
 have HC0 := ax hc0
 clear hr0 hc0
 have H : ((zbv.f a1 0 (wrap64 ((l0.length : Int) - 1))).bind fun t308 => (if t308 = true then (if 0 ≤ a1 then (if a1 < (l0.length : Int) then (some (rd l0 a1)) else (none)) else (none)) else (some 0))) = some r := h
 clear h
 obtain ⟨t308, A3, H⟩ := xI H
 by_cases c4 : t308 = true
 ·subst c4
  rw [if_pos rfl] at H
  obtain ⟨c5b0, H⟩ := xq H
  obtain ⟨c6b0, H⟩ := xq H
  obtain rfl := Option.some.inj H
  go_enter Try.func85, Try.ntmps85
  go_wp2_with (first | ((with_reducible refine zan (f := 42) rfl ?_); refine zaM (some 9) rfl rfl Try.func42 (by kernel_rfl) rfl #[.int .i64 a1, .int .i64 0, .int .i64 (wrap64 ((l0.length : Int) - 1))] rfl xm ?_; (with_reducible refine (zbv.calls a1 0 (wrap64 ((l0.length : Int) - 1)) true _ A3.out).mono ?_); rintro e w' ⟨rfl, ⟨nd, rfl⟩⟩; refine ⟨_, rfl, ?_⟩; have p309 : 0 ≤ (a1 : Int) := xd; have q309 : a1 < (l0.length : Int) := xd; obtain ⟨ad309, e309, hx309_0⟩ := Kd.zbK HR0.out a1 p309 q309; cases e309; replace p309 := eq_true p309; replace q309 := eq_true q309))
  go_ret
  exact ⟨by first | rfl | (simp; done) | (simp [*]; done), by repeat (first | exact zaE.refl _ | apply zaE.step)⟩
 ·replace c4 := Bool.eq_false_iff.mpr c4
  subst c4
  rw [if_neg (show ¬ (false = true) by decide)] at H
  obtain rfl := Option.some.inj H
  go_enter Try.func85, Try.ntmps85
  go_wp2_with (first | ((with_reducible refine zan (f := 42) rfl ?_); refine zaM (some 9) rfl rfl Try.func42 (by kernel_rfl) rfl #[.int .i64 a1, .int .i64 0, .int .i64 (wrap64 ((l0.length : Int) - 1))] rfl xm ?_; (with_reducible refine (zbv.calls a1 0 (wrap64 ((l0.length : Int) - 1)) false _ A3.out).mono ?_); rintro e w' ⟨rfl, ⟨nd, rfl⟩⟩; refine ⟨_, rfl, ?_⟩))
  go_ret
  exact ⟨by first | rfl | (simp; done) | (simp [*]; done), by repeat (first | exact zaE.refl _ | apply zaE.step)⟩

/-! ### zaJ: function 71 -/
mutual
def zaJ.j0 : Nat → List Int → List Int → Bool → Option (Bool)
 | 0, _, _, _ => none
 | k + 1, x0, x1, x14 => if x14 = true then (some false) else (zaJ.l0 k x1 x0 (x0.length : Int) 0)
def zaJ.l0 : Nat → List Int → List Int → Int → Int → Option (Bool)
 | 0, _, _, _, _ => none
 | k + 1, x1, x15, x16, x17 => if x17 < x16 then (if 0 ≤ x17 then (if x17 < (x15.length : Int) then ((zcV.f x1 x17).bind fun t313 => (if (rd x15 x17) > t313 then (some false) else (zaJ.l0 k x1 x15 x16 (wrap64 (x17 + 1))))) else (none)) else (none)) else (some true)
end
def zaJ.f (k : Nat) (l0 : List Int) (l1 : List Int) : Option (Bool) := (zau.f k l0).bind fun t310 => (if t310 = true then ((zau.f k l1).bind fun t311 => (zaJ.j0 k l0 l1 (!t311))) else (zaJ.j0 k l0 l1 true))
theorem zaJ.zaZ : ∀ k, (∀ y0 y1 y2, LeO (zaJ.j0 k y0 y1 y2) (zaJ.j0 (k + 1) y0 y1 y2)) ∧ (∀ y0 y1 y2 y3, LeO (zaJ.l0 k y0 y1 y2 y3) (zaJ.l0 (k + 1) y0 y1 y2 y3))
 | 0 => ⟨fun _ _ _ r h => by simp [zaJ.j0] at h, fun _ _ _ _ r h => by simp [zaJ.l0] at h⟩
 | k + 1 => by
  obtain ⟨ih0, ih1⟩ := zaJ.zaZ k
  refine ⟨?_, ?_⟩ <;> intros <;> (first | unfold zaJ.j0 | unfold zaJ.l0) <;> repeat' with_reducible first | exact ih0 _ _ _ | exact ih1 _ _ _ _ | exact zau.mono _ _ | exact xl | refine LeO.ite ?_ ?_ | refine LeO.bind ?_ fun _ => ?_
theorem zaJ.mono : ∀ a0 a1 k, LeO (zaJ.f k a0 a1) (zaJ.f (k + 1) a0 a1) := by
 intro a0 a1 k
 obtain ⟨ih0, ih1⟩ := zaJ.zaZ k
 unfold zaJ.f
 repeat' with_reducible first | exact ih0 _ _ _ | exact ih1 _ _ _ _ | exact zau.mono _ _ | exact xl | refine LeO.ite ?_ ?_ | refine LeO.bind ?_ fun _ => ?_
theorem zaJ.calls (k : Nat) (A0 : Option Addr) (c0 : Nat) (l0 : List Int) (A1 : Option Addr) (c1 : Nat) (l1 : List Int) (r : Bool) (w : World) (hr0 : Kd.C (Kd.int .i64) w A0 l0.length l0) (hc0 : l0.length ≤ c0) (hr1 : Kd.C (Kd.int .i64) w A1 l1.length l1) (hc1 : l1.length ≤ c1) (h : zaJ.f k l0 l1 = some r) :
  Calls Try.prog 71 #[.slice A0 l0.length c0, .slice A1 l1.length c1] w fun e w' => e = .returned (.bool r) ∧ zaE w w' := by
 have HR0 := ax hr0
 have HC0 := ax hc0
 clear hr0 hc0
 have HR1 := ax hr1
 have HC1 := ax hc1
 clear hr1 hc1
 have H : ((zau.f k l0).bind fun t310 => (if t310 = true then ((zau.f k l1).bind fun t311 => (zaJ.j0 k l0 l1 (!t311))) else (zaJ.j0 k l0 l1 true))) = some r := h
 clear h
 have HC3 := ax H
 clear H
 go_enter Try.func71, Try.ntmps71
 go_upto_region 1 with (fail)
 go_cut [14] (fun v14 wc => ∃ (kq : Nat) (x14_2 : Bool), v14 = .bool x14_2 ∧ zao (zaJ.j0 kq l0 l1 x14_2 = some r) ∧ zao (kq ≤ k) ∧ zaE w wc)
 case first =>
  have H := HC3.out
  clear HC3
  obtain ⟨t310, A4, H⟩ := xI H
  by_cases c5 : t310 = true
  ·subst c5
   rw [if_pos rfl] at H
   obtain ⟨t311, A6, H⟩ := xI H
   have H' := ax H
   clear H
   go_wp2_with (first | ((with_reducible refine zan (f := 84) rfl ?_); refine zaM (some 8) rfl rfl Try.func84 (by kernel_rfl) rfl #[.slice A0 l0.length c0] rfl xm ?_; (with_reducible refine (zau.calls k _ _ l0 true _ ?side1 ?side2 A4.out).mono ?_); (case side1 => exact xc HR0.out); (case side2 => exact HC0.out); rintro e w' ⟨rfl, ⟨nd, rfl⟩⟩; refine ⟨_, rfl, ?_⟩) | (go_at_call 84; (with_reducible refine (zau.calls k _ _ l1 t311 _ ?side1 ?side2 A6.out).mono ?_); (case side1 => exact xc HR1.out); (case side2 => exact HC1.out); rintro e w' ⟨rfl, ⟨nd, rfl⟩⟩))
   go_meet
   case rel => exact ⟨_, (!t311), xr, H', ⟨by first | omega | exact Nat.le_refl _⟩, by repeat (first | exact zaE.refl _ | apply zaE.step)⟩
  ·replace c5 := Bool.eq_false_iff.mpr c5
   subst c5
   rw [if_neg (show ¬ (false = true) by decide)] at H
   have H' := ax H
   clear H
   go_wp2_with (first | ((with_reducible refine zan (f := 84) rfl ?_); refine zaM (some 8) rfl rfl Try.func84 (by kernel_rfl) rfl #[.slice A0 l0.length c0] rfl xm ?_; (with_reducible refine (zau.calls k _ _ l0 false _ ?side1 ?side2 A4.out).mono ?_); (case side1 => exact xc HR0.out); (case side2 => exact HC0.out); rintro e w' ⟨rfl, ⟨nd, rfl⟩⟩; refine ⟨_, rfl, ?_⟩))
   go_meet
   case rel => exact ⟨_, (true), xr, H', ⟨by first | omega | exact Nat.le_refl _⟩, by repeat (first | exact zaE.refl _ | apply zaE.step)⟩
 case rest =>
  clear HC3
  (try clear c1); (try clear c5)
  obtain ⟨kq, x14_2, rfl, HA, HJ2, ⟨mc2, rfl⟩⟩ := hcut
  cases kq with
  | zero => exact absurd HA.out (by simp [zaJ.j0])
  | succ kj2 =>
   have H := HA.out
   clear HA
   simp only [zaJ.j0] at H
   by_cases c7 : x14_2 = true
   ·subst c7
    rw [if_pos rfl] at H
    obtain rfl := Option.some.inj H
    go_wp2
    go_ret
    exact ⟨by first | rfl | (simp; done) | (simp [*]; done), by repeat (first | exact zaE.refl _ | apply zaE.step)⟩
   ·replace c7 := Bool.eq_false_iff.mpr c7
    subst c7
    rw [if_neg (show ¬ (false = true) by decide)] at H
    have H' := ax H
    clear H
    go_wp2
    go_loopg [17] kj2 (fun kq v17 w' => ∃ (x17_2 : Int), v17 = .int .i64 x17_2 ∧ zao (zaJ.l0 kq l1 l0 (l0.length : Int) x17_2 = some r) ∧ zao (kq ≤ kj2) ∧ zaE w w')
    case atStart => exact ⟨(0), xr, H', ⟨Nat.le_refl _⟩, by repeat (first | exact zaE.refl _ | apply zaE.step)⟩
    case round =>
     clear H'
     (try clear c1); (try clear c5); (try clear c7)
     obtain ⟨x17_2, rfl, HA, HK2, ⟨m2, rfl⟩⟩ := hrel
     cases gk with
     | zero => exact absurd HA.out (by simp [zaJ.l0])
     | succ k2 =>
      have H := HA.out
      clear HA
      simp only [zaJ.l0] at H
      by_cases c8 : x17_2 < (l0.length : Int)
      ·rw [if_pos c8] at H
       have c8b0 := decide_eq_true c8
       clear c8
       obtain ⟨c9b0, H⟩ := xq H
       obtain ⟨c10b0, H⟩ := xq H
       obtain ⟨t313, A11, H⟩ := xI H
       by_cases c12 : (rd l0 x17_2) > t313
       ·rw [if_pos c12] at H
        have c12b0 : decide (t313 < (rd l0 x17_2)) = true := decide_eq_true c12
        clear c12
        obtain rfl := Option.some.inj H
        have p312 : 0 ≤ (x17_2 : Int) := xd
        have q312 : x17_2 < (l0.length : Int) := xd
        obtain ⟨ad312, e312, hx312_0⟩ := Kd.zbK HR0.out x17_2 p312 q312
        cases e312
        replace p312 := eq_true p312
        replace q312 := eq_true q312
        go_wp2_with (first | ((with_reducible refine zan (f := 85) rfl ?_); refine zaM (some 25) rfl rfl Try.func85 (by kernel_rfl) rfl #[.slice A1 l1.length c1, .int .i64 x17_2] rfl xm ?_; (with_reducible refine (zcV.calls _ _ l1 x17_2 t313 _ ?side1 ?side2 A11.out).mono ?_); (case side1 => exact xc HR1.out); (case side2 => exact HC1.out); rintro e w' ⟨rfl, ⟨nd, rfl⟩⟩; refine ⟨_, rfl, ?_⟩))
        go_ret
        exact ⟨by first | rfl | (simp; done) | (simp [*]; done), by repeat (first | exact zaE.refl _ | apply zaE.step)⟩
       ·rw [if_neg c12] at H
        have c12b0 : decide (t313 < (rd l0 x17_2)) = false := decide_eq_false c12
        clear c12
        have H' := ax H
        clear H
        have p312 : 0 ≤ (x17_2 : Int) := xd
        have q312 : x17_2 < (l0.length : Int) := xd
        obtain ⟨ad312, e312, hx312_0⟩ := Kd.zbK HR0.out x17_2 p312 q312
        cases e312
        replace p312 := eq_true p312
        replace q312 := eq_true q312
        go_wp2_with (first | ((with_reducible refine zan (f := 85) rfl ?_); refine zaM (some 25) rfl rfl Try.func85 (by kernel_rfl) rfl #[.slice A1 l1.length c1, .int .i64 x17_2] rfl xm ?_; (with_reducible refine (zcV.calls _ _ l1 x17_2 t313 _ ?side1 ?side2 A11.out).mono ?_); (case side1 => exact xc HR1.out); (case side2 => exact HC1.out); rintro e w' ⟨rfl, ⟨nd, rfl⟩⟩; refine ⟨_, rfl, ?_⟩))
        go_roundg k2
        case measure => have := HJ2.out; have := HK2.out; omega
        case rel => exact ⟨(wrap64 (x17_2 + 1)), xr, H', ⟨by have := HJ2.out; have := HK2.out; omega⟩, by repeat (first | exact zaE.refl _ | apply zaE.step)⟩
      ·rw [if_neg c8] at H
       have c8b0 := decide_eq_false c8
       clear c8
       obtain rfl := Option.some.inj H
       go_wp2
       go_ret
       exact ⟨by first | rfl | (simp; done) | (simp [*]; done), by repeat (first | exact zaE.refl _ | apply zaE.step)⟩

/-! ### za1: function 41 -/
def za1.f (k : Nat) (l0_0 : List Int) (l0_1 : List Int) : Option (Bool) := (zaJ.f k l0_1 l0_0).bind fun t315 => (some t315)
theorem za1.mono : ∀ a0 a1 k, LeO (za1.f k a0 a1) (za1.f (k + 1) a0 a1) := by
 intro a0 a1 k
 unfold za1.f
 repeat' with_reducible first | exact zaJ.mono _ _ _ | exact xl | refine LeO.ite ?_ ?_ | refine LeO.bind ?_ fun _ => ?_
theorem za1.calls (k : Nat) (A0_0 : Option Addr) (c0_0 : Nat) (l0_0 : List Int) (A0_1 : Option Addr) (c0_1 : Nat) (l0_1 : List Int) (r : Bool) (w : World) (hr0_0 : Kd.C (Kd.int .i64) w A0_0 l0_0.length l0_0) (hc0_0 : l0_0.length ≤ c0_0) (hr0_1 : Kd.C (Kd.int .i64) w A0_1 l0_1.length l0_1) (hc0_1 : l0_1.length ≤ c0_1) (h : za1.f k l0_0 l0_1 = some r) :
  Calls Try.prog 41 #[.agg #[.slice A0_0 l0_0.length c0_0, .slice A0_1 l0_1.length c0_1]] w fun e w' => e = .returned (.bool r) ∧ Below w.heap.size w w' := by
 have hu40 := Try.underlying40
 have HR0_0 := ax hr0_0
 have HC0_0 := ax hc0_0
 clear hr0_0 hc0_0
 have HR0_1 := ax hr0_1
 have HC0_1 := ax hc0_1
 clear hr0_1 hc0_1
 have HB := ax (Below.refl w.heap.size w)
 have H : ((zaJ.f k l0_1 l0_0).bind fun t315 => (some t315)) = some r := h
 clear h
 obtain ⟨t315, A2, H⟩ := xI H
 obtain rfl := Option.some.inj H
 go_enter Try.func41, Try.ntmps41
 go_wp2_with (first | ((with_reducible refine zaG (N := 1) rfl ?_); refine zaK ?hg (N := 1) ?hd (cs := #[.slice A0_0 l0_0.length c0_0, .slice A0_1 l0_1.length c0_1]) (t := 40) ?hr ?_; (case hd => rfl); (case hg => rfl); (case hr => first | (go_simp; done) | (go_simp; rfl)); intro gb314 hg w3 hbox hb; have BK314 := ax (hbox); have GW314 := ax ((by rw [hg]; exact (zaf (xb HB.out)) : w.heap.size ≤ gb314)); have GE314 := ax ((by rw [hg]; exact (zaf (xb HB.out)) : w.heap.size ≤ gb314)); replace HB := yB HB hb; clear hb hbox hg; have hcz4_0 := bc0 BK314.out; have hcz4_1 := bc1 BK314.out; have hfz4_0 := zae BK314.out 0; have hfz4_1 := zae BK314.out 1) | ((with_reducible refine zan (f := 71) rfl ?_); refine zaM (some 7) rfl rfl Try.func71 (by kernel_rfl) rfl #[.slice A0_1 l0_1.length c0_1, .slice A0_0 l0_0.length c0_0] rfl xm ?_; (with_reducible refine (zaJ.calls k _ _ l0_1 _ _ l0_0 t315 _ ?side1 ?side2 ?side3 ?side4 A2.out).mono ?_); (case side1 => exact xz HR0_1.out HB.out); (case side2 => exact HC0_1.out); (case side3 => exact xz HR0_0.out HB.out); (case side4 => exact HC0_0.out); rintro e w' ⟨rfl, ⟨nd, rfl⟩⟩; refine ⟨_, rfl, ?_⟩))
 go_ret
 exact ⟨xe, xs HB.out GE314.out⟩

/-! ### zbl: function 86 -/
def zbl.l0 : Nat → Int → List Int → Int → Int → Option (Int)
 | 0, _, _, _, _ => none
 | k + 1, x3, x6, x7, x8 => if x8 < x7 then (if 0 ≤ x8 then (if x8 < (x6.length : Int) then (zbl.l0 k (wrap64 (x3 + (rd x6 x8))) x6 x7 (wrap64 (x8 + 1))) else (none)) else (none)) else (some x3)
def zbl.f (k : Nat) (l0 : List Int) : Option (Int) := zbl.l0 k 0 l0 (l0.length : Int) 0
theorem zbl.zaZ : ∀ k, (∀ y0 y1 y2 y3, LeO (zbl.l0 k y0 y1 y2 y3) (zbl.l0 (k + 1) y0 y1 y2 y3))
 | 0 => fun _ _ _ _ r h => by simp [zbl.l0] at h
 | k + 1 => by
  have ih0 := zbl.zaZ k
  ·intro y0 y1 y2 y3
   unfold zbl.l0
   repeat' with_reducible first | exact ih0 _ _ _ _ | exact xl | refine LeO.ite ?_ ?_ | refine LeO.bind ?_ fun _ => ?_
theorem zbl.mono : ∀ a0 k, LeO (zbl.f k a0) (zbl.f (k + 1) a0) := by
 intro a0 k
 have ih0 := zbl.zaZ k
 unfold zbl.f
 repeat' with_reducible first | exact ih0 _ _ _ _ | exact xl | refine LeO.ite ?_ ?_ | refine LeO.bind ?_ fun _ => ?_
theorem zbl.calls (k : Nat) (A0 : Option Addr) (c0 : Nat) (l0 : List Int) (r : Int) (w : World) (hr0 : Kd.C (Kd.int .i64) w A0 l0.length l0) (hc0 : l0.length ≤ c0) (h : zbl.f k l0 = some r) :
  Calls Try.prog 86 #[.slice A0 l0.length c0] w fun e w' => e = .returned (.int .i64 r) ∧ zaE w w' := by
 have HR0 := ax hr0
 have HC0 := ax hc0
 clear hr0 hc0
 have H : (zbl.l0 k 0 l0 (l0.length : Int) 0) = some r := h
 clear h
 have H' := ax H
 clear H
 go_enter Try.func86, Try.ntmps86
 go_wp2
 go_loopg [3, 8] k (fun kq v3 v8 w' => ∃ (x3_1 : Int) (x8_1 : Int), v3 = .int .i64 x3_1 ∧ v8 = .int .i64 x8_1 ∧ zao (zbl.l0 kq x3_1 l0 (l0.length : Int) x8_1 = some r) ∧ zao (kq ≤ k) ∧ zaE w w')
 case atStart => exact ⟨(0), (0), xr, xr, H', ⟨Nat.le_refl _⟩, by repeat (first | exact zaE.refl _ | apply zaE.step)⟩
 case round =>
  clear H'
  obtain ⟨x3_1, x8_1, rfl, rfl, HA, HK1, ⟨m1, rfl⟩⟩ := hrel
  cases gk with
  | zero => exact absurd HA.out (by simp [zbl.l0])
  | succ k1 =>
   have H := HA.out
   clear HA
   simp only [zbl.l0] at H
   by_cases c2 : x8_1 < (l0.length : Int)
   ·rw [if_pos c2] at H
    have c2b0 := decide_eq_true c2
    clear c2
    obtain ⟨c3b0, H⟩ := xq H
    obtain ⟨c4b0, H⟩ := xq H
    have H' := ax H
    clear H
    have p316 : 0 ≤ (x8_1 : Int) := xd
    have q316 : x8_1 < (l0.length : Int) := xd
    obtain ⟨ad316, e316, hx316_0⟩ := Kd.zbK HR0.out x8_1 p316 q316
    cases e316
    replace p316 := eq_true p316
    replace q316 := eq_true q316
    go_wp2
    go_roundg k1
    case measure => have := HK1.out; omega
    case rel => exact ⟨(wrap64 (x3_1 + (rd l0 x8_1))), (wrap64 (x8_1 + 1)), xr, xr, H', ⟨by have := HK1.out; omega⟩, by repeat (first | exact zaE.refl _ | apply zaE.step)⟩
   ·rw [if_neg c2] at H
    have c2b0 := decide_eq_false c2
    clear c2
    obtain rfl := Option.some.inj H
    go_wp2
    go_ret
    exact ⟨by first | rfl | (simp; done) | (simp [*]; done), by repeat (first | exact zaE.refl _ | apply zaE.step)⟩

/-! ### zbo: function 72 -/
def zbo.f (k : Nat) (l0_0 : List Int) (l0_1 : List Int) : Option (Int) := (za1.f k l0_0 l0_1).bind fun t318 => (if t318 = true then ((zbl.f k l0_0).bind fun t319 => ((zbl.f k l0_1).bind fun t320 => (some (wrap64 (t319 - t320))))) else (some (-1)))
theorem zbo.mono : ∀ a0 a1 k, LeO (zbo.f k a0 a1) (zbo.f (k + 1) a0 a1) := by
 intro a0 a1 k
 unfold zbo.f
 repeat' with_reducible first | exact za1.mono _ _ _ | exact zbl.mono _ _ | exact xl | refine LeO.ite ?_ ?_ | refine LeO.bind ?_ fun _ => ?_
theorem zbo.calls (k : Nat) (A0_0 : Option Addr) (c0_0 : Nat) (l0_0 : List Int) (A0_1 : Option Addr) (c0_1 : Nat) (l0_1 : List Int) (r : Int) (w : World) (hr0_0 : Kd.C (Kd.int .i64) w A0_0 l0_0.length l0_0) (hc0_0 : l0_0.length ≤ c0_0) (hr0_1 : Kd.C (Kd.int .i64) w A0_1 l0_1.length l0_1) (hc0_1 : l0_1.length ≤ c0_1) (h : zbo.f k l0_0 l0_1 = some r) :
  Calls Try.prog 72 #[.agg #[.slice A0_0 l0_0.length c0_0, .slice A0_1 l0_1.length c0_1]] w fun e w' => e = .returned (.int .i64 r) ∧ Below w.heap.size w w' := by
 have hu40 := Try.underlying40
 have HR0_0 := ax hr0_0
 have HC0_0 := ax hc0_0
 clear hr0_0 hc0_0
 have HR0_1 := ax hr0_1
 have HC0_1 := ax hc0_1
 clear hr0_1 hc0_1
 have HB := ax (Below.refl w.heap.size w)
 have H : ((za1.f k l0_0 l0_1).bind fun t318 => (if t318 = true then ((zbl.f k l0_0).bind fun t319 => ((zbl.f k l0_1).bind fun t320 => (some (wrap64 (t319 - t320))))) else (some (-1)))) = some r := h
 clear h
 obtain ⟨t318, A2, H⟩ := xI H
 by_cases c3 : t318 = true
 ·subst c3
  rw [if_pos rfl] at H
  obtain ⟨t319, A4, H⟩ := xI H
  obtain ⟨t320, A5, H⟩ := xI H
  obtain rfl := Option.some.inj H
  go_enter Try.func72, Try.ntmps72
  go_wp2_with (first | ((with_reducible refine zaG (N := 1) rfl ?_); refine zaK ?hg (N := 1) ?hd (cs := #[.slice A0_0 l0_0.length c0_0, .slice A0_1 l0_1.length c0_1]) (t := 40) ?hr ?_; (case hd => rfl); (case hg => rfl); (case hr => first | (go_simp; done) | (go_simp; rfl)); intro gb317 hg w6 hbox hb; have BK317 := ax (hbox); have GW317 := ax ((by rw [hg]; exact (zaf (xb HB.out)) : w.heap.size ≤ gb317)); have GE317 := ax ((by rw [hg]; exact (zaf (xb HB.out)) : w.heap.size ≤ gb317)); replace HB := yB HB hb; clear hb hbox hg; have hcz7_0 := bc0 BK317.out; have hcz7_1 := bc1 BK317.out; have hfz7_0 := zae BK317.out 0; have hfz7_1 := zae BK317.out 1) | (go_at_call 41; (with_reducible refine (za1.calls k _ _ l0_0 _ _ l0_1 true _ ?side1 ?side2 ?side3 ?side4 A2.out).mono ?_); (case side1 => exact xz HR0_0.out HB.out); (case side2 => exact HC0_0.out); (case side3 => exact xz HR0_1.out HB.out); (case side4 => exact HC0_1.out); rintro e w8 ⟨rfl, hb⟩; replace BK317 := ax (bb BK317.out hb); replace HB := ax (zat (xs HB.out GE317.out) hb); (try clear hb); have hcz9_0 := bc0 BK317.out; have hcz9_1 := bc1 BK317.out; have hfz9_0 := zae BK317.out 0; have hfz9_1 := zae BK317.out 1) | (go_at_call 86; (with_reducible refine (zbl.calls k _ _ l0_0 t319 _ ?side1 ?side2 A4.out).mono ?_); (case side1 => exact xz HR0_0.out HB.out); (case side2 => exact HC0_0.out); rintro e w' ⟨rfl, ⟨nd, rfl⟩⟩; (try first | exact ⟨rfl, _, World.drewN_drewN _ _ _⟩ | exact ⟨rfl, _, Eq.trans (World.drewN_drewN _ _ _) (congrArg (World.drewN _) (Nat.add_assoc _ _ _))⟩)) | (go_at_call 86; (with_reducible refine (zbl.calls k _ _ l0_1 t320 _ ?side1 ?side2 A5.out).mono ?_); (case side1 => repeat (first | exact (Kd.za8 HR0_1.out (xs HB.out GE317.out)) | (with_reducible refine Kd.zbR ?_ _) | (with_reducible refine Kd.zbQ ?_ _) | (with_reducible refine Kd.zb2 ?_))); (case side2 => exact HC0_1.out); rintro e w' ⟨rfl, ⟨nd, rfl⟩⟩; (try first | exact ⟨rfl, _, World.drewN_drewN _ _ _⟩ | exact ⟨rfl, _, Eq.trans (World.drewN_drewN _ _ _) (congrArg (World.drewN _) (Nat.add_assoc _ _ _))⟩)))
  repeat (go_quiet (first | ((with_reducible refine zaG (N := 1) rfl ?_); refine zaK ?hg (N := 1) ?hd (cs := #[.slice A0_0 l0_0.length c0_0, .slice A0_1 l0_1.length c0_1]) (t := 40) ?hr ?_; (case hd => rfl); (case hg => rfl); (case hr => first | (go_simp; done) | (go_simp; rfl)); intro gb317 hg w6 hbox hb; have BK317 := ax (hbox); have GW317 := ax ((by rw [hg]; exact (zaf (xb HB.out)) : w.heap.size ≤ gb317)); have GE317 := ax ((by rw [hg]; exact (zaf (xb HB.out)) : w.heap.size ≤ gb317)); replace HB := yB HB hb; clear hb hbox hg; have hcz7_0 := bc0 BK317.out; have hcz7_1 := bc1 BK317.out; have hfz7_0 := zae BK317.out 0; have hfz7_1 := zae BK317.out 1) | (go_at_call 41; (with_reducible refine (za1.calls k _ _ l0_0 _ _ l0_1 true _ ?side1 ?side2 ?side3 ?side4 A2.out).mono ?_); (case side1 => exact xz HR0_0.out HB.out); (case side2 => exact HC0_0.out); (case side3 => exact xz HR0_1.out HB.out); (case side4 => exact HC0_1.out); rintro e w8 ⟨rfl, hb⟩; replace BK317 := ax (bb BK317.out hb); replace HB := ax (zat (xs HB.out GE317.out) hb); (try clear hb); have hcz9_0 := bc0 BK317.out; have hcz9_1 := bc1 BK317.out; have hfz9_0 := zae BK317.out 0; have hfz9_1 := zae BK317.out 1) | (go_at_call 86; (with_reducible refine (zbl.calls k _ _ l0_0 t319 _ ?side1 ?side2 A4.out).mono ?_); (case side1 => exact xz HR0_0.out HB.out); (case side2 => exact HC0_0.out); rintro e w' ⟨rfl, ⟨nd, rfl⟩⟩; (try first | exact ⟨rfl, _, World.drewN_drewN _ _ _⟩ | exact ⟨rfl, _, Eq.trans (World.drewN_drewN _ _ _) (congrArg (World.drewN _) (Nat.add_assoc _ _ _))⟩)) | (go_at_call 86; (with_reducible refine (zbl.calls k _ _ l0_1 t320 _ ?side1 ?side2 A5.out).mono ?_); (case side1 => repeat (first | exact (Kd.za8 HR0_1.out (xs HB.out GE317.out)) | (with_reducible refine Kd.zbR ?_ _) | (with_reducible refine Kd.zbQ ?_ _) | (with_reducible refine Kd.zb2 ?_))); (case side2 => exact HC0_1.out); rintro e w' ⟨rfl, ⟨nd, rfl⟩⟩; (try first | exact ⟨rfl, _, World.drewN_drewN _ _ _⟩ | exact ⟨rfl, _, Eq.trans (World.drewN_drewN _ _ _) (congrArg (World.drewN _) (Nat.add_assoc _ _ _))⟩))); try go_wp2_with (first | ((with_reducible refine zaG (N := 1) rfl ?_); refine zaK ?hg (N := 1) ?hd (cs := #[.slice A0_0 l0_0.length c0_0, .slice A0_1 l0_1.length c0_1]) (t := 40) ?hr ?_; (case hd => rfl); (case hg => rfl); (case hr => first | (go_simp; done) | (go_simp; rfl)); intro gb317 hg w6 hbox hb; have BK317 := ax (hbox); have GW317 := ax ((by rw [hg]; exact (zaf (xb HB.out)) : w.heap.size ≤ gb317)); have GE317 := ax ((by rw [hg]; exact (zaf (xb HB.out)) : w.heap.size ≤ gb317)); replace HB := yB HB hb; clear hb hbox hg; have hcz7_0 := bc0 BK317.out; have hcz7_1 := bc1 BK317.out; have hfz7_0 := zae BK317.out 0; have hfz7_1 := zae BK317.out 1) | (go_at_call 41; (with_reducible refine (za1.calls k _ _ l0_0 _ _ l0_1 true _ ?side1 ?side2 ?side3 ?side4 A2.out).mono ?_); (case side1 => exact xz HR0_0.out HB.out); (case side2 => exact HC0_0.out); (case side3 => exact xz HR0_1.out HB.out); (case side4 => exact HC0_1.out); rintro e w8 ⟨rfl, hb⟩; replace BK317 := ax (bb BK317.out hb); replace HB := ax (zat (xs HB.out GE317.out) hb); (try clear hb); have hcz9_0 := bc0 BK317.out; have hcz9_1 := bc1 BK317.out; have hfz9_0 := zae BK317.out 0; have hfz9_1 := zae BK317.out 1) | (go_at_call 86; (with_reducible refine (zbl.calls k _ _ l0_0 t319 _ ?side1 ?side2 A4.out).mono ?_); (case side1 => exact xz HR0_0.out HB.out); (case side2 => exact HC0_0.out); rintro e w' ⟨rfl, ⟨nd, rfl⟩⟩; (try first | exact ⟨rfl, _, World.drewN_drewN _ _ _⟩ | exact ⟨rfl, _, Eq.trans (World.drewN_drewN _ _ _) (congrArg (World.drewN _) (Nat.add_assoc _ _ _))⟩)) | (go_at_call 86; (with_reducible refine (zbl.calls k _ _ l0_1 t320 _ ?side1 ?side2 A5.out).mono ?_); (case side1 => repeat (first | exact (Kd.za8 HR0_1.out (xs HB.out GE317.out)) | (with_reducible refine Kd.zbR ?_ _) | (with_reducible refine Kd.zbQ ?_ _) | (with_reducible refine Kd.zb2 ?_))); (case side2 => exact HC0_1.out); rintro e w' ⟨rfl, ⟨nd, rfl⟩⟩; (try first | exact ⟨rfl, _, World.drewN_drewN _ _ _⟩ | exact ⟨rfl, _, Eq.trans (World.drewN_drewN _ _ _) (congrArg (World.drewN _) (Nat.add_assoc _ _ _))⟩))))
  go_ret
  exact ⟨xe, xs HB.out GE317.out⟩
 ·replace c3 := Bool.eq_false_iff.mpr c3
  subst c3
  rw [if_neg (show ¬ (false = true) by decide)] at H
  obtain rfl := Option.some.inj H
  go_enter Try.func72, Try.ntmps72
  go_wp2_with (first | ((with_reducible refine zaG (N := 1) rfl ?_); refine zaK ?hg (N := 1) ?hd (cs := #[.slice A0_0 l0_0.length c0_0, .slice A0_1 l0_1.length c0_1]) (t := 40) ?hr ?_; (case hd => rfl); (case hg => rfl); (case hr => first | (go_simp; done) | (go_simp; rfl)); intro gb317 hg w10 hbox hb; have BK317 := ax (hbox); have GW317 := ax ((by rw [hg]; exact (zaf (xb HB.out)) : w.heap.size ≤ gb317)); have GE317 := ax ((by rw [hg]; exact (zaf (xb HB.out)) : w.heap.size ≤ gb317)); replace HB := yB HB hb; clear hb hbox hg; have hcz11_0 := bc0 BK317.out; have hcz11_1 := bc1 BK317.out; have hfz11_0 := zae BK317.out 0; have hfz11_1 := zae BK317.out 1) | (go_at_call 41; (with_reducible refine (za1.calls k _ _ l0_0 _ _ l0_1 false _ ?side1 ?side2 ?side3 ?side4 A2.out).mono ?_); (case side1 => exact xz HR0_0.out HB.out); (case side2 => exact HC0_0.out); (case side3 => exact xz HR0_1.out HB.out); (case side4 => exact HC0_1.out); rintro e w12 ⟨rfl, hb⟩; replace BK317 := ax (bb BK317.out hb); replace HB := ax (zat (xs HB.out GE317.out) hb); (try clear hb)))
  repeat (go_quiet (first | ((with_reducible refine zaG (N := 1) rfl ?_); refine zaK ?hg (N := 1) ?hd (cs := #[.slice A0_0 l0_0.length c0_0, .slice A0_1 l0_1.length c0_1]) (t := 40) ?hr ?_; (case hd => rfl); (case hg => rfl); (case hr => first | (go_simp; done) | (go_simp; rfl)); intro gb317 hg w10 hbox hb; have BK317 := ax (hbox); have GW317 := ax ((by rw [hg]; exact (zaf (xb HB.out)) : w.heap.size ≤ gb317)); have GE317 := ax ((by rw [hg]; exact (zaf (xb HB.out)) : w.heap.size ≤ gb317)); replace HB := yB HB hb; clear hb hbox hg; have hcz11_0 := bc0 BK317.out; have hcz11_1 := bc1 BK317.out; have hfz11_0 := zae BK317.out 0; have hfz11_1 := zae BK317.out 1) | (go_at_call 41; (with_reducible refine (za1.calls k _ _ l0_0 _ _ l0_1 false _ ?side1 ?side2 ?side3 ?side4 A2.out).mono ?_); (case side1 => exact xz HR0_0.out HB.out); (case side2 => exact HC0_0.out); (case side3 => exact xz HR0_1.out HB.out); (case side4 => exact HC0_1.out); rintro e w12 ⟨rfl, hb⟩; replace BK317 := ax (bb BK317.out hb); replace HB := ax (zat (xs HB.out GE317.out) hb); (try clear hb))); try go_wp2_with (first | ((with_reducible refine zaG (N := 1) rfl ?_); refine zaK ?hg (N := 1) ?hd (cs := #[.slice A0_0 l0_0.length c0_0, .slice A0_1 l0_1.length c0_1]) (t := 40) ?hr ?_; (case hd => rfl); (case hg => rfl); (case hr => first | (go_simp; done) | (go_simp; rfl)); intro gb317 hg w10 hbox hb; have BK317 := ax (hbox); have GW317 := ax ((by rw [hg]; exact (zaf (xb HB.out)) : w.heap.size ≤ gb317)); have GE317 := ax ((by rw [hg]; exact (zaf (xb HB.out)) : w.heap.size ≤ gb317)); replace HB := yB HB hb; clear hb hbox hg; have hcz11_0 := bc0 BK317.out; have hcz11_1 := bc1 BK317.out; have hfz11_0 := zae BK317.out 0; have hfz11_1 := zae BK317.out 1) | (go_at_call 41; (with_reducible refine (za1.calls k _ _ l0_0 _ _ l0_1 false _ ?side1 ?side2 ?side3 ?side4 A2.out).mono ?_); (case side1 => exact xz HR0_0.out HB.out); (case side2 => exact HC0_0.out); (case side3 => exact xz HR0_1.out HB.out); (case side4 => exact HC0_1.out); rintro e w12 ⟨rfl, hb⟩; replace BK317 := ax (bb BK317.out hb); replace HB := ax (zat (xs HB.out GE317.out) hb); (try clear hb))))
  go_ret
  exact ⟨xe, xs HB.out GE317.out⟩

end Go.Proofs.Ytneipehcmmigeaa.PFnExactSchurPoly
