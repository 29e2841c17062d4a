import Derived.Test.YtneipehcmmigeaaPFnExactSchurPolyx3
namespace Go.Proofs.Ytneipehcmmigeaa.PFnExactSchurPoly
open Go.RowKit Go.Proofs.YtneipehcmmigeaaW.PrintWords Go.Proofs.YtneipehcmmigeaaW.PrintLast Go.Proofs.YtneipehcmmigeaaW.PrintMore
set_option linter.unusedVariables false
set_option linter.unusedSimpArgs false
set_option maxHeartbeats 8000000
set_option maxRecDepth 100000
/-! ### zaL: function 66 -/
mutual
def zaL.j0 : Nat → List Int → List Int → Bool → Option (Bool)
 | 0, _, _, _ => none
 | k + 1, x0, x1, x20 => if x20 = true then (some false) else (zaL.l0 k x0 x1 0)
def zaL.l0 : Nat → List Int → List Int → Int → Option (Bool)
 | 0, _, _, _ => none
 | k + 1, x0, x1, x5 => if x5 < (x0.length : Int) then (if 0 ≤ x5 then (if x5 < (x1.length : Int) then (if (rd x0 x5) > (rd x1 x5) then (some false) else (zaL.l0 k x0 x1 (wrap64 (x5 + 1)))) else (none)) else (none)) else (some true)
end
def zaL.f (k : Nat) (l0 : List Int) (l1 : List Int) : Option (Bool) := (zaq.f k l0).bind fun t145 => (if t145 = true then ((zaq.f k l1).bind fun t146 => (if t146 = true then (zaL.j0 k l0 l1 (decide ((l0.length : Int) > (l1.length : Int)))) else (zaL.j0 k l0 l1 true))) else (zaL.j0 k l0 l1 true))
theorem zaL.zaZ : ∀ k, (∀ y0 y1 y2, LeO (zaL.j0 k y0 y1 y2) (zaL.j0 (k + 1) y0 y1 y2)) ∧ (∀ y0 y1 y2, LeO (zaL.l0 k y0 y1 y2) (zaL.l0 (k + 1) y0 y1 y2))
 | 0 => ⟨fun _ _ _ r h => by simp [zaL.j0] at h, fun _ _ _ r h => by simp [zaL.l0] at h⟩
 | k + 1 => by
  obtain ⟨ih0, ih1⟩ := zaL.zaZ k
  refine ⟨?_, ?_⟩ <;> intros <;> (first | unfold zaL.j0 | unfold zaL.l0) <;> repeat' with_reducible first | exact ih0 _ _ _ | exact ih1 _ _ _ | exact zaq.mono _ _ | exact xl | refine LeO.ite ?_ ?_ | refine LeO.bind ?_ fun _ => ?_
theorem zaL.mono : ∀ a0 a1 k, LeO (zaL.f k a0 a1) (zaL.f (k + 1) a0 a1) := by
 intro a0 a1 k
 obtain ⟨ih0, ih1⟩ := zaL.zaZ k
 unfold zaL.f
 repeat' with_reducible first | exact ih0 _ _ _ | exact ih1 _ _ _ | exact zaq.mono _ _ | exact xl | refine LeO.ite ?_ ?_ | refine LeO.bind ?_ fun _ => ?_
theorem zaL.calls (k : Nat) (A0 : Option Addr) (c0 : Nat) (l0 : List Int) (A1 : Option Addr) (c1 : Nat) (l1 : List Int) (r : Bool) (w : World) (hr0 : Kd.C (Kd.int .i64) w A0 l0.length l0) (hc0 : l0.length ≤ c0) (hr1 : Kd.C (Kd.int .i64) w A1 l1.length l1) (hc1 : l1.length ≤ c1) (h : zaL.f k l0 l1 = some r) :
  Calls Try.prog 66 #[.slice A0 l0.length c0, .slice A1 l1.length c1] w fun e w' => e = .returned (.bool r) ∧ Below w.heap.size w w' := by
 have HR0 := ax hr0
 have HC0 := ax hc0
 clear hr0 hc0
 have HR1 := ax hr1
 have HC1 := ax hc1
 clear hr1 hc1
 have HB := ax (Below.refl w.heap.size w)
 have H : ((zaq.f k l0).bind fun t145 => (if t145 = true then ((zaq.f k l1).bind fun t146 => (if t146 = true then (zaL.j0 k l0 l1 (decide ((l0.length : Int) > (l1.length : Int)))) else (zaL.j0 k l0 l1 true))) else (zaL.j0 k l0 l1 true))) = some r := h
 clear h
 have HC3 := ax H
 clear H
 go_enter Try.func66, Try.ntmps66
 go_upto_region 1 with (fail)
 repeat (go_quiet (fail); go_upto_region 1 with (fail))
 go_cut [20] (fun v20 wc => ∃ (kq : Nat) (x20_2 : Bool), v20 = .bool x20_2 ∧ zao (zaL.j0 kq l0 l1 x20_2 = some r) ∧ zao (kq ≤ k) ∧ zao (Below w.heap.size w wc))
 case first =>
  have H := HC3.out
  clear HC3
  obtain ⟨t145, A4, H⟩ := xI H
  by_cases c5 : t145 = true
  ·subst c5
   rw [if_pos rfl] at H
   obtain ⟨t146, A6, H⟩ := xI H
   by_cases c7 : t146 = true
   ·subst c7
    rw [if_pos rfl] at H
    have H' := ax H
    clear H
    go_wp2_with (first | (go_at_call 81; (with_reducible refine (zaq.calls k _ _ l0 true _ ?side1 ?side2 A4.out).mono ?_); (case side1 => exact xz HR0.out HB.out); (case side2 => exact HC0.out); rintro e w8 ⟨rfl, hb⟩; replace HB := yB HB hb; (try clear hb)) | (go_at_call 81; (with_reducible refine (zaq.calls k _ _ l1 true _ ?side1 ?side2 A6.out).mono ?_); (case side1 => exact xz HR1.out HB.out); (case side2 => exact HC1.out); rintro e w9 ⟨rfl, hb⟩; replace HB := yB HB hb; (try clear hb)))
    repeat (go_quiet (first | (go_at_call 81; (with_reducible refine (zaq.calls k _ _ l0 true _ ?side1 ?side2 A4.out).mono ?_); (case side1 => exact xz HR0.out HB.out); (case side2 => exact HC0.out); rintro e w8 ⟨rfl, hb⟩; replace HB := yB HB hb; (try clear hb)) | (go_at_call 81; (with_reducible refine (zaq.calls k _ _ l1 true _ ?side1 ?side2 A6.out).mono ?_); (case side1 => exact xz HR1.out HB.out); (case side2 => exact HC1.out); rintro e w9 ⟨rfl, hb⟩; replace HB := yB HB hb; (try clear hb))); try go_wp2_with (first | (go_at_call 81; (with_reducible refine (zaq.calls k _ _ l0 true _ ?side1 ?side2 A4.out).mono ?_); (case side1 => exact xz HR0.out HB.out); (case side2 => exact HC0.out); rintro e w8 ⟨rfl, hb⟩; replace HB := yB HB hb; (try clear hb)) | (go_at_call 81; (with_reducible refine (zaq.calls k _ _ l1 true _ ?side1 ?side2 A6.out).mono ?_); (case side1 => exact xz HR1.out HB.out); (case side2 => exact HC1.out); rintro e w9 ⟨rfl, hb⟩; replace HB := yB HB hb; (try clear hb))))
    go_meet
    case rel => exact ⟨_, (decide ((l0.length : Int) > (l1.length : Int))), xr, H', ⟨by first | omega | exact Nat.le_refl _⟩, ⟨xb HB.out⟩⟩
   ·replace c7 := Bool.eq_false_iff.mpr c7
    subst c7
    rw [if_neg (show ¬ (false = true) by decide)] at H
    have H' := ax H
    clear H
    go_wp2_with (first | (go_at_call 81; (with_reducible refine (zaq.calls k _ _ l0 true _ ?side1 ?side2 A4.out).mono ?_); (case side1 => exact xz HR0.out HB.out); (case side2 => exact HC0.out); rintro e w10 ⟨rfl, hb⟩; replace HB := yB HB hb; (try clear hb)) | (go_at_call 81; (with_reducible refine (zaq.calls k _ _ l1 false _ ?side1 ?side2 A6.out).mono ?_); (case side1 => exact xz HR1.out HB.out); (case side2 => exact HC1.out); rintro e w11 ⟨rfl, hb⟩; replace HB := yB HB hb; (try clear hb)))
    repeat (go_quiet (first | (go_at_call 81; (with_reducible refine (zaq.calls k _ _ l0 true _ ?side1 ?side2 A4.out).mono ?_); (case side1 => exact xz HR0.out HB.out); (case side2 => exact HC0.out); rintro e w10 ⟨rfl, hb⟩; replace HB := yB HB hb; (try clear hb)) | (go_at_call 81; (with_reducible refine (zaq.calls k _ _ l1 false _ ?side1 ?side2 A6.out).mono ?_); (case side1 => exact xz HR1.out HB.out); (case side2 => exact HC1.out); rintro e w11 ⟨rfl, hb⟩; replace HB := yB HB hb; (try clear hb))); try go_wp2_with (first | (go_at_call 81; (with_reducible refine (zaq.calls k _ _ l0 true _ ?side1 ?side2 A4.out).mono ?_); (case side1 => exact xz HR0.out HB.out); (case side2 => exact HC0.out); rintro e w10 ⟨rfl, hb⟩; replace HB := yB HB hb; (try clear hb)) | (go_at_call 81; (with_reducible refine (zaq.calls k _ _ l1 false _ ?side1 ?side2 A6.out).mono ?_); (case side1 => exact xz HR1.out HB.out); (case side2 => exact HC1.out); rintro e w11 ⟨rfl, hb⟩; replace HB := yB HB hb; (try clear hb))))
    go_meet
    case rel => exact ⟨_, (true), xr, H', ⟨by first | omega | exact Nat.le_refl _⟩, ⟨xb HB.out⟩⟩
  ·replace c5 := Bool.eq_false_iff.mpr c5
   subst c5
   rw [if_neg (show ¬ (false = true) by decide)] at H
   have H' := ax H
   clear H
   go_wp2_with (first | (go_at_call 81; (with_reducible refine (zaq.calls k _ _ l0 false _ ?side1 ?side2 A4.out).mono ?_); (case side1 => exact xz HR0.out HB.out); (case side2 => exact HC0.out); rintro e w12 ⟨rfl, hb⟩; replace HB := yB HB hb; (try clear hb)))
   repeat (go_quiet (first | (go_at_call 81; (with_reducible refine (zaq.calls k _ _ l0 false _ ?side1 ?side2 A4.out).mono ?_); (case side1 => exact xz HR0.out HB.out); (case side2 => exact HC0.out); rintro e w12 ⟨rfl, hb⟩; replace HB := yB HB hb; (try clear hb))); try go_wp2_with (first | (go_at_call 81; (with_reducible refine (zaq.calls k _ _ l0 false _ ?side1 ?side2 A4.out).mono ?_); (case side1 => exact xz HR0.out HB.out); (case side2 => exact HC0.out); rintro e w12 ⟨rfl, hb⟩; replace HB := yB HB hb; (try clear hb))))
   go_meet
   case rel => exact ⟨_, (true), xr, H', ⟨by first | omega | exact Nat.le_refl _⟩, ⟨xb HB.out⟩⟩
 case rest =>
  clear HC3
  (try clear c1); (try clear c5); (try clear c7)
  obtain ⟨kq, x20_2, rfl, HA, HJ2, HB⟩ := hcut
  cases kq with
  | zero => exact absurd HA.out (by simp [zaL.j0])
  | succ kj2 =>
   have H := HA.out
   clear HA
   simp only [zaL.j0] at H
   by_cases c13 : x20_2 = true
   ·subst c13
    rw [if_pos rfl] at H
    obtain rfl := Option.some.inj H
    go_wp2
    repeat (go_quiet (fail); try go_wp2)
    go_ret
    exact ⟨xe, xb HB.out⟩
   ·replace c13 := Bool.eq_false_iff.mpr c13
    subst c13
    rw [if_neg (show ¬ (false = true) by decide)] at H
    have H' := ax H
    clear H
    go_wp2
    repeat (go_quiet (fail); try go_wp2)
    go_loopg [5] kj2 (fun kq v5 w' => ∃ (x5_2 : Int), v5 = .int .i64 x5_2 ∧ zao (zaL.l0 kq l0 l1 x5_2 = some r) ∧ zao (kq ≤ kj2) ∧ zao (Below w.heap.size w w'))
    case atStart => exact ⟨(0), xr, H', ⟨Nat.le_refl _⟩, ⟨xb HB.out⟩⟩
    case round =>
     clear H'
     (try clear c1); (try clear c5); (try clear c7); (try clear c13)
     obtain ⟨x5_2, rfl, HA, HK2, HB⟩ := hrel
     cases gk with
     | zero => exact absurd HA.out (by simp [zaL.l0])
     | succ k2 =>
      have H := HA.out
      clear HA
      simp only [zaL.l0] at H
      by_cases c14 : x5_2 < (l0.length : Int)
      ·rw [if_pos c14] at H
       have c14b0 := decide_eq_true c14
       clear c14
       obtain ⟨c15b0, H⟩ := xq H
       obtain ⟨c16b0, H⟩ := xq H
       by_cases c17 : (rd l0 x5_2) > (rd l1 x5_2)
       ·rw [if_pos c17] at H
        have c17b0 : decide ((rd l1 x5_2) < (rd l0 x5_2)) = true := decide_eq_true c17
        clear c17
        obtain rfl := Option.some.inj H
        have p147 : 0 ≤ (x5_2 : Int) := xd
        have q147 : x5_2 < (l0.length : Int) := xd
        obtain ⟨ad147, e147, hx147_0⟩ := Kd.zbK HR0.out x5_2 p147 q147
        cases e147
        (try replace hx147_0 := (HB.out.cell (World.block_lt_of_cell? w _ hx147_0)).trans hx147_0)
        replace p147 := eq_true p147
        replace q147 := eq_true q147
        have p148 : 0 ≤ (x5_2 : Int) := xd
        have q148 : x5_2 < (l1.length : Int) := xd
        obtain ⟨ad148, e148, hx148_0⟩ := Kd.zbK HR1.out x5_2 p148 q148
        cases e148
        (try replace hx148_0 := (HB.out.cell (World.block_lt_of_cell? w _ hx148_0)).trans hx148_0)
        replace p148 := eq_true p148
        replace q148 := eq_true q148
        go_wp2
        repeat (go_quiet (fail); try go_wp2)
        go_ret
        exact ⟨xe, xb HB.out⟩
       ·rw [if_neg c17] at H
        have c17b0 : decide ((rd l1 x5_2) < (rd l0 x5_2)) = false := decide_eq_false c17
        clear c17
        have H' := ax H
        clear H
        have p147 : 0 ≤ (x5_2 : Int) := xd
        have q147 : x5_2 < (l0.length : Int) := xd
        obtain ⟨ad147, e147, hx147_0⟩ := Kd.zbK HR0.out x5_2 p147 q147
        cases e147
        (try replace hx147_0 := (HB.out.cell (World.block_lt_of_cell? w _ hx147_0)).trans hx147_0)
        replace p147 := eq_true p147
        replace q147 := eq_true q147
        have p148 : 0 ≤ (x5_2 : Int) := xd
        have q148 : x5_2 < (l1.length : Int) := xd
        obtain ⟨ad148, e148, hx148_0⟩ := Kd.zbK HR1.out x5_2 p148 q148
        cases e148
        (try replace hx148_0 := (HB.out.cell (World.block_lt_of_cell? w _ hx148_0)).trans hx148_0)
        replace p148 := eq_true p148
        replace q148 := eq_true q148
        go_wp2
        repeat (go_quiet (fail); try go_wp2)
        go_roundg k2
        case measure => have := HJ2.out; have := HK2.out; omega
        case rel => exact ⟨(wrap64 (x5_2 + 1)), xr, H', ⟨by have := HJ2.out; have := HK2.out; omega⟩, ⟨xb HB.out⟩⟩
      ·rw [if_neg c14] at H
       have c14b0 := decide_eq_false c14
       clear c14
       obtain rfl := Option.some.inj H
       go_wp2
       repeat (go_quiet (fail); try go_wp2)
       go_ret
       exact ⟨xe, xb HB.out⟩

/-! ### za9: function 37 -/
def za9.f (k : Nat) (l0_0 : List Int) (l0_1 : List Int) : Option (Bool) := (zaL.f k l0_1 l0_0).bind fun t150 => (some t150)
theorem za9.mono : ∀ a0 a1 k, LeO (za9.f k a0 a1) (za9.f (k + 1) a0 a1) := by
 intro a0 a1 k
 unfold za9.f
 repeat' with_reducible first | exact zaL.mono _ _ _ | exact xl | refine LeO.ite ?_ ?_ | refine LeO.bind ?_ fun _ => ?_
theorem za9.calls (k : Nat) (A0_0 : Option Addr) (c0_0 : Nat) (l0_0 : List Int) (A0_1 : Option Addr) (c0_1 : Nat) (l0_1 : List Int) (r : Bool) (w : World) (hr0_0 : Kd.C (Kd.int .i64) w A0_0 l0_0.length l0_0) (hc0_0 : l0_0.length ≤ c0_0) (hr0_1 : Kd.C (Kd.int .i64) w A0_1 l0_1.length l0_1) (hc0_1 : l0_1.length ≤ c0_1) (h : za9.f k l0_0 l0_1 = some r) :
  Calls Try.prog 37 #[.agg #[.slice A0_0 l0_0.length c0_0, .slice A0_1 l0_1.length c0_1]] w fun e w' => e = .returned (.bool r) ∧ Below w.heap.size w w' := by
 have hu40 := Try.underlying40
 have HR0_0 := ax hr0_0
 have HC0_0 := ax hc0_0
 clear hr0_0 hc0_0
 have HR0_1 := ax hr0_1
 have HC0_1 := ax hc0_1
 clear hr0_1 hc0_1
 have HB := ax (Below.refl w.heap.size w)
 have H : ((zaL.f k l0_1 l0_0).bind fun t150 => (some t150)) = some r := h
 clear h
 obtain ⟨t150, A2, H⟩ := xI H
 obtain rfl := Option.some.inj H
 go_enter Try.func37, Try.ntmps37
 go_wp2_with (first | ((with_reducible refine zaG (N := 1) rfl ?_); refine zaK ?hg (N := 1) ?hd (cs := #[.slice A0_0 l0_0.length c0_0, .slice A0_1 l0_1.length c0_1]) (t := 40) ?hr ?_; (case hd => rfl); (case hg => rfl); (case hr => first | (go_simp; done) | (go_simp; rfl)); intro gb149 hg w3 hbox hb; have BK149 := ax (hbox); have GW149 := ax ((by rw [hg]; exact (zaf (xb HB.out)) : w.heap.size ≤ gb149)); have GE149 := ax ((by rw [hg]; exact (zaf (xb HB.out)) : w.heap.size ≤ gb149)); replace HB := yB HB hb; clear hb hbox hg; have hcz4_0 := bc0 BK149.out; have hcz4_1 := bc1 BK149.out; have hfz4_0 := zae BK149.out 0; have hfz4_1 := zae BK149.out 1) | ((with_reducible refine zan (f := 66) rfl ?_); refine zaM (some 7) rfl rfl Try.func66 (by kernel_rfl) rfl #[.slice A0_1 l0_1.length c0_1, .slice A0_0 l0_0.length c0_0] rfl xm ?_; (with_reducible refine (zaL.calls k _ _ l0_1 _ _ l0_0 t150 _ ?side1 ?side2 ?side3 ?side4 A2.out).mono ?_); (case side1 => exact xz HR0_1.out HB.out); (case side2 => exact HC0_1.out); (case side3 => exact xz HR0_0.out HB.out); (case side4 => exact HC0_0.out); rintro e w5 ⟨rfl, hb⟩; refine ⟨_, rfl, ?_⟩; replace BK149 := ax (bb BK149.out hb); replace HB := ax (zat (xs HB.out GE149.out) hb); (try clear hb)))
 go_ret
 exact ⟨xe, xs HB.out GE149.out⟩

/-! ### zaD: function 46 -/
mutual
def zaD.l0 : Nat → Int → Int → List (List Int) → Int → Option ((List (List Int)))
 | 0, _, _, _, _ => none
 | k + 1, x0, x1, x5, x6 => if x6 ≥ 0 then ((zaD.f k (wrap64 (x0 - 1)) (wrap64 (x1 - x6))).bind fun t160 => (zaD.l1 k x0 x1 x5 x6 t160 0)) else (some x5)
def zaD.l1 : Nat → Int → Int → List (List Int) → Int → List (List Int) → Int → Option ((List (List Int)))
 | 0, _, _, _, _, _, _ => none
 | k + 1, x0, x1, x5, x6, x7, x8 => if x8 < (x7.length : Int) then ((some (([x6] : List Int) : List Int)).bind fun y163 => (if 0 ≤ x8 then (if y163.length + (zbX x7 x8).length < 17592186044416 then (if x5.length < 5864062014805 then (zaD.l1 k x0 x1 (x5 ++ [(y163 ++ (zbX x7 x8))]) x6 x7 (wrap64 (x8 + 1))) else (none)) else (none)) else (none))) else (zaD.l0 k x0 x1 x5 (wrap64 (x6 - 1)))
def zaD.f : Nat → Int → Int → Option ((List (List Int)))
 | 0, _, _ => none
 | k + 1, a0, a1 => (some (([] : List (List Int)) : List (List Int))).bind fun y151 => (if a0 = 1 then (if y151.length < 5864062014805 then (some (y151 ++ [(([a1] : List Int))])) else (none)) else (zaD.l0 k a0 a1 y151 a1))
end
theorem zaD.zaZ : ∀ k, (∀ y0 y1, LeO (zaD.f k y0 y1) (zaD.f (k + 1) y0 y1)) ∧ (∀ y0 y1 y2 y3, LeO (zaD.l0 k y0 y1 y2 y3) (zaD.l0 (k + 1) y0 y1 y2 y3)) ∧ (∀ y0 y1 y2 y3 y4 y5, LeO (zaD.l1 k y0 y1 y2 y3 y4 y5) (zaD.l1 (k + 1) y0 y1 y2 y3 y4 y5))
 | 0 => ⟨fun _ _ r h => by simp [zaD.f] at h, fun _ _ _ _ r h => by simp [zaD.l0] at h, fun _ _ _ _ _ _ r h => by simp [zaD.l1] at h⟩
 | k + 1 => by
  obtain ⟨ih0, ih1, ih2⟩ := zaD.zaZ k
  refine ⟨?_, ?_, ?_⟩ <;> intros <;> (first | unfold zaD.f | unfold zaD.l0 | unfold zaD.l1) <;> repeat' with_reducible first | exact ih0 _ _ | exact ih1 _ _ _ _ | exact ih2 _ _ _ _ _ _ | exact xl | refine LeO.ite ?_ ?_ | refine LeO.bind ?_ fun _ => ?_
theorem zaD.mono : ∀ a0 a1 k, LeO (zaD.f k a0 a1) (zaD.f (k + 1) a0 a1) := by
 intro a0 a1 k
 obtain ⟨ih0, ih1, ih2⟩ := zaD.zaZ k
 exact ih0 a0 a1
theorem zaD.calls (k : Nat) : ∀ (a0 : Int) (a1 : Int) (r : List (List Int)) (w : World) (h : zaD.f k a0 a1 = some r),
  Calls Try.prog 46 #[.int .i64 a0, .int .i64 a1] w fun e w' => ∃ v0_ : Value, e = .returned (v0_) ∧ Kd.S (Kd.slice 3 (Kd.int .i64)) 35 w' w.heap.size (fun _ => True) v0_ r ∧ Below w.heap.size w w' := by
 induction k using Nat.strongRecOn with
 | _ k ih =>
 intro a0 a1 r w h
 cases k with
 | zero => exact absurd h (by simp [zaD.f])
 | succ k =>
 simp only [zaD.f] at h
 have HB := ax (Below.refl w.heap.size w)
 have H : ((some (([] : List (List Int)) : List (List Int))).bind fun y151 => (if a0 = 1 then (if y151.length < 5864062014805 then (some (y151 ++ [(([a1] : List Int))])) else (none)) else (zaD.l0 k a0 a1 y151 a1))) = some r := h
 clear h
 obtain ⟨y151, Ny151, H⟩ := xg H
 by_cases c3 : a0 = 1
 ·rw [if_pos c3] at H
  have c3b0 : (a0 == 1) = true := beq_iff_eq.mpr c3
  have c3b1 : (a0 != 1) = false := bne_eq_false_iff_eq.mpr c3
  clear c3
  obtain ⟨y154, hy154⟩ : ∃ y_ : List Int, y_ = (([a1] : List Int)) := ⟨_, rfl⟩
  replace H : (if y151.length < 5864062014805 then (some (y151 ++ [y154])) else (none)) = some r := xv hy154 H
  have Ny154 := ax hy154
  clear hy154
  obtain ⟨c4, H⟩ := xp H
  have LMc4 := ax c4
  clear c4
  obtain ⟨y157, hy157⟩ : ∃ y_ : List (List Int), y_ = (y151 ++ [y154]) := ⟨_, rfl⟩
  replace H : (some y157) = some r := xv hy157 H
  have Ny157 := ax hy157
  clear hy157
  obtain rfl := Option.some.inj H
  go_enter Try.func46, Try.ntmps46
  go_wp2_with (first | ((with_reducible refine zaG (N := 9) rfl ?_); refine Kd.ziS (Kd.slice 3 (Kd.int .i64)) _ 35 ?hg (N := 9) ?hd (xs := ([] : List (List Int))) (inner := []) (ok := fun _ => True) (okp := fun _ => True) ?hr ?hp (fun _ hk => hk) trivial (Below.refl _ _) (Nat.le_refl _) (by simp) ?_; (case hd => rfl); (case hg => rfl); (case hr => first | (go_simp; done) | (go_simp; rfl)); (case hp => exact (Reps.none _ _)); intro v152 w5 ho6 hb hg_ hnew_; clear hg_ hnew_; (first | rw [← Ny151.out] at ho6 | (simp only [Int.reduceToNat] at ho6; rw [← Ny151.out] at ho6)); have HO153 := ax (Kd.zcZ ho6 (zaf (xb HB.out))); replace HB := yB HB hb; clear hb ho6) | ((with_reducible refine zaG (N := 14) rfl ?_); refine Kd.zes (Kd.int .i64) _ 3 ?hg (N := 14) ?hd (xs := ([a1] : List Int)) (inner := [.int .i64 a1]) (ok := fun _ => True) (okp := fun _ => True) ?hr ?hp (fun _ hk => hk) trivial (Below.refl _ _) (Nat.le_refl _) (by simp) ?_; (case hd => rfl); (case hg => rfl); (case hr => first | (go_simp; done) | (go_simp; rfl)); (case hp => exact (Reps.one (show Kd.M (Kd.int .i64) _ _ _ a1 [.int .i64 a1] from rfl) (Reps.none _ _))); intro v155 w7 ho8 hb hg_ hnew_; clear hg_ hnew_; (first | rw [← Ny154.out] at ho8 | (simp only [Int.reduceToNat] at ho8; rw [← Ny154.out] at ho8)); replace HO153 := ax (Kd.zc2 (xS HO153.out) (Kd.zbh ho8) hb); have HO156 := ax (Kd.zbL ho8 (zaf (xb HB.out))); replace HB := yB HB hb; clear hb ho8; obtain ⟨Ao10, co10, eo10⟩ := Kd.zbT HO156.out; subst eo10) | ((with_reducible refine zbN (b := .append) (xs := #[.tmp 12, .tmp 15]) rfl ?_); at_builtin; refine Kd.zeP (Kd.slice 3 (Kd.int .i64)) (w0 := w) w.heap.size rfl (.tmp 12) (.tmp 15) 64 35 (.slice none 0 0) 24 rfl Try.underlying64 zfr rfl (by decide) (by omega) v152 y151 y154 [.slice Ao10 y154.length co10] (fun _ => True) (fun k_ => some k_ = (.slice Ao10 y154.length co10 : Value).ownBlock) rfl rfl ?aP (fun k_ hk_ => ((Kd.za7 (ok' := fun k_ => ((fun _ => True)) k_ ∧ some k_ ≠ (v152 : Value).ownBlock) (Kd.zbP (HO156.out) (Kd.zc7 HO153.out) (by decide)) (fun k_ hk => ⟨trivial, hk.2⟩))).1 k_ hk_.symm) ?aF ?aO ?aB ?aS ?aL ?_; (case aP => exact Kd.zjD (Kd.za7 (Kd.zdi rfl (Kd.za7 (ok' := fun k_ => ((fun _ => True)) k_ ∧ some k_ ≠ (v152 : Value).ownBlock) (Kd.zbP (HO156.out) (Kd.zc7 HO153.out) (by decide)) (fun k_ hk => ⟨trivial, hk.2⟩))) (fun _ h_ => h_))); (case aB => exact (xb HB.out)); (case aF => exact (fun _ _ => trivial)); (case aO => exact (by (with_reducible repeat (first | apply Kd.zbk | apply Kd.zbf | apply Kd.zbw)); exact Kd.zbr HO153.out (fun k_ hk => ⟨trivial, fun e_ => hk.2 e_⟩))); (case aS => exact (zaf (xb HB.out))); (case aL => have := LMc4.out; omega); intro v158 w9 ho hb hg hat; rw [← Ny157.out] at ho; have n0_ := ax (hb); have n1_ := ax (ho); clear HB; clear HO153; clear HO156; have HB := n0_; have HO159 := n1_; clear n0_ n1_; clear ho hb hg hat))
  go_ret
  exact ⟨_, xe, xS HO159.out, xb HB.out⟩
 ·rw [if_neg c3] at H
  have c3b0 : (a0 == 1) = false := beq_eq_false_iff_ne.mpr c3
  have c3b1 : (a0 != 1) = true := bne_iff_ne.mpr c3
  have H' := ax H
  clear H
  go_enter Try.func46, Try.ntmps46
  go_wp2_with (first | ((with_reducible refine zaG (N := 9) rfl ?_); refine Kd.ziS (Kd.slice 3 (Kd.int .i64)) _ 35 ?hg (N := 9) ?hd (xs := ([] : List (List Int))) (inner := []) (ok := fun _ => True) (okp := fun _ => True) ?hr ?hp (fun _ hk => hk) trivial (Below.refl _ _) (Nat.le_refl _) (by simp) ?_; (case hd => rfl); (case hg => rfl); (case hr => first | (go_simp; done) | (go_simp; rfl)); (case hp => exact (Reps.none _ _)); intro v152 w11 ho12 hb hg_ hnew_; clear hg_ hnew_; (first | rw [← Ny151.out] at ho12 | (simp only [Int.reduceToNat] at ho12; rw [← Ny151.out] at ho12)); have HO153 := ax (Kd.zcZ ho12 (zaf (xb HB.out))); replace HB := yB HB hb; clear hb ho12))
  go_loopg [5, 6] k (fun kq v5 v6 w' => ∃ (x5_1 : List (List Int)) (x6_1 : Int), v6 = .int .i64 x6_1 ∧ zao (zaD.l0 kq a0 a1 x5_1 x6_1 = some r) ∧ zao (kq ≤ k) ∧ zao (Kd.S (Kd.slice 3 (Kd.int .i64)) 35 w' w.heap.size (fun _ => True) v5 x5_1) ∧ zao (Below w.heap.size w w'))
  case atStart => exact ⟨(y151), (a1), xr, H', ⟨Nat.le_refl _⟩, ⟨xS HO153.out⟩, ⟨xb HB.out⟩⟩
  case round =>
   clear H'
   (try clear c3); (try clear c3b0); (try clear c3b1); (try clear c4)
   obtain ⟨x5_1, x6_1, rfl, HA, HK1, HO_5, HB⟩ := hrel
   cases gk with
   | zero => exact absurd HA.out (by simp [zaD.l0])
   | succ k1 =>
    have H := HA.out
    clear HA
    simp only [zaD.l0] at H
    by_cases c13 : x6_1 ≥ 0
    ·rw [if_pos c13] at H
     have c13b0 : decide (0 ≤ x6_1) = true := decide_eq_true c13
     clear c13
     obtain ⟨t160, A14, H⟩ := xI H
     have H' := ax H
     clear H
     go_wp2_with (first | ((with_reducible refine zan (f := 46) rfl ?_); refine zaM (some 27) rfl rfl Try.func46 (by kernel_rfl) rfl #[.int .i64 (wrap64 (a0 - 1)), .int .i64 (wrap64 (a1 - x6_1))] rfl xm ?_; (with_reducible refine (ih k1 (by have := HK1.out; omega) (wrap64 (a0 - 1)) (wrap64 (a1 - x6_1)) t160 _ A14.out).mono ?_); rintro e w15 ⟨v161, rfl, ho0, hb⟩; refine ⟨_, rfl, ?_⟩; have HO162 := ax (Kd.zcZ (Kd.zdg ho0 (Kd.S_lt (xS HO_5.out))) (zaf (xb HB.out))); replace HO_5 := ax (Kd.zc2 (xS HO_5.out) (Kd.zcT ho0) hb); replace HB := yB HB hb; (try clear hb); (try clear ho0)))
     go_loopg [5, 8] k1 (fun kq v5 v8 w' => ∃ (x5_2 : List (List Int)) (x8_2 : Int), v8 = .int .i64 x8_2 ∧ zao (zaD.l1 kq a0 a1 x5_2 x6_1 t160 x8_2 = some r) ∧ zao (kq ≤ k1) ∧ zao (Kd.S (Kd.slice 3 (Kd.int .i64)) 35 w' w.heap.size (fun k_ => some k_ ≠ (v161 : Value).ownBlock) v5 x5_2) ∧ zao (Kd.S (Kd.slice 3 (Kd.int .i64)) 35 w' w.heap.size (fun k_ => some k_ ≠ (v5 : Value).ownBlock) v161 t160) ∧ zao (Below w.heap.size w w'))
     case atStart => exact ⟨(x5_1), (0), xr, H', ⟨Nat.le_refl _⟩, ⟨by (with_reducible repeat (first | apply Kd.zbk | apply Kd.zbf | apply Kd.zbw)); exact Kd.zbr HO_5.out (fun _ hk => hk.2)⟩, ⟨by (with_reducible repeat (first | apply Kd.zbk | apply Kd.zbf | apply Kd.zbw)); exact Kd.zbr HO162.out (fun _ hk => hk.2)⟩, ⟨xb HB.out⟩⟩
     case round =>
      clear H'
      (try clear c3); (try clear c3b0); (try clear c3b1); (try clear c4); (try clear c13); (try clear c13b0)
      obtain ⟨x5_2, x8_2, rfl, HA, HK2, HO_5, HO_7, HB⟩ := hrel
      cases gk with
      | zero => exact absurd HA.out (by simp [zaD.l1])
      | succ k2 =>
       have H := HA.out
       clear HA
       simp only [zaD.l1] at H
       by_cases c16 : x8_2 < (t160.length : Int)
       ·rw [if_pos c16] at H
        have c16b0 := decide_eq_true c16
        clear c16
        obtain ⟨y163, Ny163, H⟩ := xg H
        obtain ⟨c17b0, H⟩ := xq H
        obtain ⟨c18, H⟩ := xp H
        have LMc18 := ax c18
        clear c18
        obtain ⟨y167, hy167⟩ : ∃ y_ : List Int, y_ = (y163 ++ (zbX t160 x8_2)) := ⟨_, rfl⟩
        replace H : (if x5_2.length < 5864062014805 then (zaD.l1 k2 a0 a1 (x5_2 ++ [y167]) x6_1 t160 (wrap64 (x8_2 + 1))) else (none)) = some r := xv hy167 H
        have Ny167 := ax hy167
        clear hy167
        obtain ⟨c19, H⟩ := xp H
        have LMc19 := ax c19
        clear c19
        obtain ⟨y170, hy170⟩ : ∃ y_ : List (List Int), y_ = (x5_2 ++ [y167]) := ⟨_, rfl⟩
        replace H : (zaD.l1 k2 a0 a1 y170 x6_1 t160 (wrap64 (x8_2 + 1))) = some r := xv hy170 H
        have Ny170 := ax hy170
        clear hy170
        have H' := ax H
        clear H
        obtain ⟨Ao20, co20, eo20⟩ := Kd.zcY HO_7.out
        subst eo20
        go_wp2_with (first | ((with_reducible refine zaG (N := 36) rfl ?_); refine Kd.zes (Kd.int .i64) _ 3 ?hg (N := 36) ?hd (xs := ([x6_1] : List Int)) (inner := [.int .i64 x6_1]) (ok := fun _ => True) (okp := fun _ => True) ?hr ?hp (fun _ hk => hk) trivial (Below.refl _ _) (Nat.le_refl _) (by simp) ?_; (case hd => rfl); (case hg => rfl); (case hr => first | (go_simp; done) | (go_simp; rfl)); (case hp => exact (Reps.one (show Kd.M (Kd.int .i64) _ _ _ x6_1 [.int .i64 x6_1] from rfl) (Reps.none _ _))); intro v164 w21 ho22 hb hg_ hnew_; clear hg_ hnew_; (first | rw [← Ny163.out] at ho22 | (simp only [Int.reduceToNat] at ho22; rw [← Ny163.out] at ho22)); replace HO_5 := ax (Kd.zc2 (xS HO_5.out) (Kd.zbh ho22) hb); replace HO_7 := ax (Kd.zc2 (xS HO_7.out) (Kd.zbh ho22) hb); have HO165 := ax (Kd.zbL ho22 (zaf (xb HB.out))); replace HB := yB HB hb; clear hb ho22; have p166 : 0 ≤ (x8_2 : Int) := xd; have q166 : x8_2 < (t160.length : Int) := xd; obtain ⟨ad166, A166_0, c166_0, e166, hx166_0, hl166_0, hi166_0⟩ := zfa (Kd.zbg HO_7.out).2.2 x8_2 p166 q166; cases e166; obtain ⟨ce166, hce166, hMe166, hcc166⟩ := Kd.zkx HO_7.out [] x8_2 p166 (by first | exact q166 | exact xd | (have e_ := (Kd.zbg HO_7.out).1; omega)); obtain ⟨ve166_0, rfl, ge166_0⟩ := hMe166; have hv166_0 := hcc166 0 _ rfl; rw [Nat.add_zero, show ((Kd.slice 3 (Kd.int .i64))).sz = 1 from rfl, Nat.mul_one] at hv166_0; replace hv166_0 := Option.some.inj (hv166_0.symm.trans hx166_0); rw [hv166_0] at ge166_0; have HL166_0 := ax (show Kd.R (Kd.int .i64) 3 _ _ _ _ (zbX t160 x8_2) from ge166_0); clear hv166_0 ge166_0; clear hcc166 hce166; have HR166_0 := ax hi166_0; have HC166_0 := ax hl166_0; clear hi166_0 hl166_0; replace p166 := eq_true p166; replace q166 := eq_true q166) | ((with_reducible refine zbN (b := .append) (xs := #[.tmp 36, .tmp 40]) rfl ?_); at_builtin; refine Kd.zcu (Kd.int .i64) (w0 := w) w.heap.size rfl (.tmp 36) (.tmp 40) 35 3 (.int .i64 0) 8 rfl Try.underlying35 zfj rfl (by decide) (by omega) v164 y163 (zbX t160 x8_2) _ _ _ (fun _ => True) (fun _ => False) rfl rfl ?aO ?aR (fun _ _ h => h) (fun _ h => h.elim) ?aF ?aB ?aS ?aL ?_; (case aR => exact xw HR166_0.out); (case aB => exact (xb HB.out)); (case aF => exact (fun _ _ => trivial)); (case aO => exact (xR HO165.out)); (case aS => exact (zaf (xb HB.out))); (case aL => have := LMc18.out; omega); intro v168 w23 ho hb hg hat; rw [← Ny167.out] at ho; have n0_ := ax (Kd.zeq (ok := (fun k_ => some k_ ≠ (.slice (some ad166) t160.length co20 : Value).ownBlock)) (xS HO_5.out) hg hat); have n1_ := ax (Kd.zeq (ok := (fun k_ => some k_ ≠ (u5 : Value).ownBlock)) (xS HO_7.out) hg hat); have n2_ := ax (Kd.zet (ok := (fun k_ => some k_ ≠ (u5 : Value).ownBlock ∧ some k_ ≠ (.slice (some ad166) t160.length co20 : Value).ownBlock)) (by (with_reducible repeat (first | apply Kd.zbd | apply Kd.zbc | apply Kd.zbq)); exact Kd.za7 HL166_0.out (fun _ hk => ⟨⟨hk.1.1, hk.2⟩, hk.1.2⟩)) hg hat); have n3_ := ax (hb); have n4_ := ax (ho); clear HO_5; clear HO_7; clear HL166_0; clear HB; clear HO165; have HO_5 := n0_; have HO_7 := n1_; have HL166_0 := n2_; have HB := n3_; have HO169 := n4_; clear n0_ n1_ n2_ n3_ n4_; clear ho hb hg hat; obtain ⟨Ao25, co25, eo25⟩ := Kd.zbT HO169.out; subst eo25) | ((with_reducible refine zbN (b := .append) (xs := #[.tmp 34, .tmp 42]) rfl ?_); at_builtin; refine Kd.zeP (Kd.slice 3 (Kd.int .i64)) (w0 := w) w.heap.size rfl (.tmp 34) (.tmp 42) 64 35 (.slice none 0 0) 24 rfl Try.underlying64 zfr rfl (by decide) (by omega) u5 x5_2 y167 [.slice Ao25 y167.length co25] (fun k_ => some k_ ≠ (.slice (some ad166) t160.length co20 : Value).ownBlock) (fun k_ => some k_ = (.slice Ao25 y167.length co25 : Value).ownBlock) rfl rfl ?aP (fun k_ hk_ => ((Kd.za7 (ok' := fun k_ => ((fun k_ => some k_ ≠ (.slice (some ad166) t160.length co20 : Value).ownBlock)) k_ ∧ some k_ ≠ (u5 : Value).ownBlock) (Kd.zbP (Kd.zbP (HO169.out) (Kd.zc7 HO_7.out) (by decide)) (Kd.zc7 HO_5.out) (by decide)) (fun k_ hk => ⟨hk.1.2, hk.2⟩))).1 k_ hk_.symm) ?aF ?aO ?aB ?aS ?aL ?_; (case aP => exact Kd.zjD (Kd.za7 (Kd.zdi rfl (Kd.za7 (ok' := fun k_ => ((fun k_ => some k_ ≠ (.slice (some ad166) t160.length co20 : Value).ownBlock)) k_ ∧ some k_ ≠ (u5 : Value).ownBlock) (Kd.zbP (Kd.zbP (HO169.out) (Kd.zc7 HO_7.out) (by decide)) (Kd.zc7 HO_5.out) (by decide)) (fun k_ hk => ⟨hk.1.2, hk.2⟩))) (fun _ h_ => h_))); (case aB => exact (xb HB.out)); (case aF => exact (fun k_ hk => Kd.fresh' (Kd.S_lt (xS HO_7.out)) k_ hk)); (case aO => exact (by (with_reducible repeat (first | apply Kd.zbk | apply Kd.zbf | apply Kd.zbw)); exact Kd.zbr HO_5.out (fun k_ hk => ⟨hk.1, fun e_ => hk.2 e_⟩))); (case aS => exact (zaf (xb HB.out))); (case aL => have := LMc19.out; omega); intro v171 w24 ho hb hg hat; rw [← Ny170.out] at ho; have n0_ := ax (Kd.zeq (ok := (fun k_ => some k_ ≠ (.slice Ao25 y167.length co25 : Value).ownBlock)) (by (with_reducible repeat (first | apply Kd.zbk | apply Kd.zbf | apply Kd.zbw)); exact Kd.zbr HO_7.out (fun _ hk => ⟨hk.2, hk.1⟩)) hg hat); have n1_ := ax (Kd.zet (ok := (fun k_ => some k_ ≠ (.slice (some ad166) t160.length co20 : Value).ownBlock ∧ some k_ ≠ (.slice Ao25 y167.length co25 : Value).ownBlock)) (by (with_reducible repeat (first | apply Kd.zbd | apply Kd.zbc | apply Kd.zbq)); exact Kd.za7 HL166_0.out (fun _ hk => ⟨⟨hk.1.2, hk.2⟩, hk.1.1⟩)) hg hat); have n2_ := ax (hb); have n3_ := ax (ho); clear HO_7; clear HL166_0; clear HB; clear HO_5; clear HO169; have HO_7 := n0_; have HL166_0 := n1_; have HB := n2_; have HO172 := n3_; clear n0_ n1_ n2_ n3_; clear ho hb hg hat))
        go_roundg k2
        case measure => have := HK1.out; have := HK2.out; omega
        case rel => exact ⟨(y170), (wrap64 (x8_2 + 1)), xr, H', ⟨by have := HK1.out; have := HK2.out; omega⟩, ⟨xS HO172.out⟩, ⟨by (with_reducible repeat (first | apply Kd.zbk | apply Kd.zbf | apply Kd.zbw)); exact Kd.zbr HO_7.out (fun _ hk => hk.2)⟩, ⟨xb HB.out⟩⟩
       ·rw [if_neg c16] at H
        have c16b0 := decide_eq_false c16
        clear c16
        have H' := ax H
        clear H
        obtain ⟨Ao26, co26, eo26⟩ := Kd.zcY HO_7.out
        subst eo26
        go_wp2
        go_roundg k2
        case measure => have := HK1.out; have := HK2.out; omega
        case rel => exact ⟨(x5_2), (wrap64 (x6_1 - 1)), xr, H', ⟨by have := HK1.out; have := HK2.out; omega⟩, ⟨by (with_reducible repeat (first | apply Kd.zbk | apply Kd.zbf | apply Kd.zbw)); exact Kd.zbr HO_5.out (fun _ hk => trivial)⟩, ⟨xb HB.out⟩⟩
    ·rw [if_neg c13] at H
     have c13b0 : decide (0 ≤ x6_1) = false := decide_eq_false c13
     clear c13
     obtain rfl := Option.some.inj H
     go_wp2
     go_ret
     exact ⟨_, xe, xS HO_5.out, xb HB.out⟩

/-! ### zaS: function 68 -/
def zaS.l0 : Nat → List Int → Int → Int → Option (Int)
 | 0, _, _, _ => none
 | k + 1, x0, x3, x4 => if x4 < (x0.length : Int) then (if 0 ≤ x4 then (zaS.l0 k x0 (wrap64 (x3 + (rd x0 x4))) (wrap64 (x4 + 1))) else (none)) else (some x3)
def zaS.f (k : Nat) (l0 : List Int) : Option (Int) := zaS.l0 k l0 0 0
theorem zaS.zaZ : ∀ k, (∀ y0 y1 y2, LeO (zaS.l0 k y0 y1 y2) (zaS.l0 (k + 1) y0 y1 y2))
 | 0 => fun _ _ _ r h => by simp [zaS.l0] at h
 | k + 1 => by
  have ih0 := zaS.zaZ k
  ·intro y0 y1 y2
   unfold zaS.l0
   repeat' with_reducible first | exact ih0 _ _ _ | exact xl | refine LeO.ite ?_ ?_ | refine LeO.bind ?_ fun _ => ?_
theorem zaS.mono : ∀ a0 k, LeO (zaS.f k a0) (zaS.f (k + 1) a0) := by
 intro a0 k
 have ih0 := zaS.zaZ k
 unfold zaS.f
 repeat' with_reducible first | exact ih0 _ _ _ | exact xl | refine LeO.ite ?_ ?_ | refine LeO.bind ?_ fun _ => ?_
theorem zaS.calls (k : Nat) (A0 : Option Addr) (c0 : Nat) (l0 : List Int) (r : Int) (w : World) (hr0 : Kd.C (Kd.int .i64) w A0 l0.length l0) (hc0 : l0.length ≤ c0) (h : zaS.f k l0 = some r) :
  Calls Try.prog 68 #[.slice A0 l0.length c0] w fun e w' => e = .returned (.int .i64 r) ∧ zaE w w' := by
 have HR0 := ax hr0
 have HC0 := ax hc0
 clear hr0 hc0
 have H : (zaS.l0 k l0 0 0) = some r := h
 clear h
 have H' := ax H
 clear H
 go_enter Try.func68, Try.ntmps68
 go_wp2
 go_loopg [3, 4] k (fun kq v3 v4 w' => ∃ (x3_1 : Int) (x4_1 : Int), v3 = .int .i64 x3_1 ∧ v4 = .int .i64 x4_1 ∧ zao (zaS.l0 kq l0 x3_1 x4_1 = some r) ∧ zao (kq ≤ k) ∧ zaE w w')
 case atStart => exact ⟨(0), (0), xr, xr, H', ⟨Nat.le_refl _⟩, by repeat (first | exact zaE.refl _ | apply zaE.step)⟩
 case round =>
  clear H'
  obtain ⟨x3_1, x4_1, rfl, rfl, HA, HK1, ⟨m1, rfl⟩⟩ := hrel
  cases gk with
  | zero => exact absurd HA.out (by simp [zaS.l0])
  | succ k1 =>
   have H := HA.out
   clear HA
   simp only [zaS.l0] at H
   by_cases c2 : x4_1 < (l0.length : Int)
   ·rw [if_pos c2] at H
    have c2b0 := decide_eq_true c2
    clear c2
    obtain ⟨c3b0, H⟩ := xq H
    have H' := ax H
    clear H
    have p173 : 0 ≤ (x4_1 : Int) := xd
    have q173 : x4_1 < (l0.length : Int) := xd
    obtain ⟨ad173, e173, hx173_0⟩ := Kd.zbK HR0.out x4_1 p173 q173
    cases e173
    replace p173 := eq_true p173
    replace q173 := eq_true q173
    go_wp2
    go_roundg k1
    case measure => have := HK1.out; omega
    case rel => exact ⟨(wrap64 (x3_1 + (rd l0 x4_1))), (wrap64 (x4_1 + 1)), xr, xr, H', ⟨by have := HK1.out; omega⟩, by repeat (first | exact zaE.refl _ | apply zaE.step)⟩
   ·rw [if_neg c2] at H
    have c2b0 := decide_eq_false c2
    clear c2
    obtain rfl := Option.some.inj H
    go_wp2
    go_ret
    exact ⟨by first | rfl | (simp; done) | (simp [*]; done), by repeat (first | exact zaE.refl _ | apply zaE.step)⟩

/-! ### zbF: function 47 -/
def zbF.f (k : Nat) (l0_0 : List Int) (l0_1 : List Int) : Option (Int) := (za9.f k l0_0 l0_1).bind fun t175 => (if t175 = true then ((zaS.f k l0_0).bind fun t176 => ((zaS.f k l0_1).bind fun t177 => (some (wrap64 (t176 - t177))))) else (some (-1)))
theorem zbF.mono : ∀ a0 a1 k, LeO (zbF.f k a0 a1) (zbF.f (k + 1) a0 a1) := by
 intro a0 a1 k
 unfold zbF.f
 repeat' with_reducible first | exact za9.mono _ _ _ | exact zaS.mono _ _ | exact xl | refine LeO.ite ?_ ?_ | refine LeO.bind ?_ fun _ => ?_
theorem zbF.calls (k : Nat) (A0_0 : Option Addr) (c0_0 : Nat) (l0_0 : List Int) (A0_1 : Option Addr) (c0_1 : Nat) (l0_1 : List Int) (r : Int) (w : World) (hr0_0 : Kd.C (Kd.int .i64) w A0_0 l0_0.length l0_0) (hc0_0 : l0_0.length ≤ c0_0) (hr0_1 : Kd.C (Kd.int .i64) w A0_1 l0_1.length l0_1) (hc0_1 : l0_1.length ≤ c0_1) (h : zbF.f k l0_0 l0_1 = some r) :
  Calls Try.prog 47 #[.agg #[.slice A0_0 l0_0.length c0_0, .slice A0_1 l0_1.length c0_1]] w fun e w' => e = .returned (.int .i64 r) ∧ Below w.heap.size w w' := by
 have hu40 := Try.underlying40
 have HR0_0 := ax hr0_0
 have HC0_0 := ax hc0_0
 clear hr0_0 hc0_0
 have HR0_1 := ax hr0_1
 have HC0_1 := ax hc0_1
 clear hr0_1 hc0_1
 have HB := ax (Below.refl w.heap.size w)
 have H : ((za9.f k l0_0 l0_1).bind fun t175 => (if t175 = true then ((zaS.f k l0_0).bind fun t176 => ((zaS.f k l0_1).bind fun t177 => (some (wrap64 (t176 - t177))))) else (some (-1)))) = some r := h
 clear h
 obtain ⟨t175, A2, H⟩ := xI H
 by_cases c3 : t175 = true
 ·subst c3
  rw [if_pos rfl] at H
  obtain ⟨t176, A4, H⟩ := xI H
  obtain ⟨t177, A5, H⟩ := xI H
  obtain rfl := Option.some.inj H
  go_enter Try.func47, Try.ntmps47
  go_wp2_with (first | ((with_reducible refine zaG (N := 1) rfl ?_); refine zaK ?hg (N := 1) ?hd (cs := #[.slice A0_0 l0_0.length c0_0, .slice A0_1 l0_1.length c0_1]) (t := 40) ?hr ?_; (case hd => rfl); (case hg => rfl); (case hr => first | (go_simp; done) | (go_simp; rfl)); intro gb174 hg w6 hbox hb; have BK174 := ax (hbox); have GW174 := ax ((by rw [hg]; exact (zaf (xb HB.out)) : w.heap.size ≤ gb174)); have GE174 := ax ((by rw [hg]; exact (zaf (xb HB.out)) : w.heap.size ≤ gb174)); replace HB := yB HB hb; clear hb hbox hg; have hcz7_0 := bc0 BK174.out; have hcz7_1 := bc1 BK174.out; have hfz7_0 := zae BK174.out 0; have hfz7_1 := zae BK174.out 1) | (go_at_call 37; (with_reducible refine (za9.calls k _ _ l0_0 _ _ l0_1 true _ ?side1 ?side2 ?side3 ?side4 A2.out).mono ?_); (case side1 => exact xz HR0_0.out HB.out); (case side2 => exact HC0_0.out); (case side3 => exact xz HR0_1.out HB.out); (case side4 => exact HC0_1.out); rintro e w8 ⟨rfl, hb⟩; replace BK174 := ax (bb BK174.out hb); replace HB := ax (zat (xs HB.out GE174.out) hb); (try clear hb); have hcz9_0 := bc0 BK174.out; have hcz9_1 := bc1 BK174.out; have hfz9_0 := zae BK174.out 0; have hfz9_1 := zae BK174.out 1) | (go_at_call 68; (with_reducible refine (zaS.calls k _ _ l0_0 t176 _ ?side1 ?side2 A4.out).mono ?_); (case side1 => exact xz HR0_0.out HB.out); (case side2 => exact HC0_0.out); rintro e w' ⟨rfl, ⟨nd, rfl⟩⟩; (try first | exact ⟨rfl, _, World.drewN_drewN _ _ _⟩ | exact ⟨rfl, _, Eq.trans (World.drewN_drewN _ _ _) (congrArg (World.drewN _) (Nat.add_assoc _ _ _))⟩)) | (go_at_call 68; (with_reducible refine (zaS.calls k _ _ l0_1 t177 _ ?side1 ?side2 A5.out).mono ?_); (case side1 => repeat (first | exact (Kd.za8 HR0_1.out (xs HB.out GE174.out)) | (with_reducible refine Kd.zbR ?_ _) | (with_reducible refine Kd.zbQ ?_ _) | (with_reducible refine Kd.zb2 ?_))); (case side2 => exact HC0_1.out); rintro e w' ⟨rfl, ⟨nd, rfl⟩⟩; (try first | exact ⟨rfl, _, World.drewN_drewN _ _ _⟩ | exact ⟨rfl, _, Eq.trans (World.drewN_drewN _ _ _) (congrArg (World.drewN _) (Nat.add_assoc _ _ _))⟩)))
  repeat (go_quiet (first | ((with_reducible refine zaG (N := 1) rfl ?_); refine zaK ?hg (N := 1) ?hd (cs := #[.slice A0_0 l0_0.length c0_0, .slice A0_1 l0_1.length c0_1]) (t := 40) ?hr ?_; (case hd => rfl); (case hg => rfl); (case hr => first | (go_simp; done) | (go_simp; rfl)); intro gb174 hg w6 hbox hb; have BK174 := ax (hbox); have GW174 := ax ((by rw [hg]; exact (zaf (xb HB.out)) : w.heap.size ≤ gb174)); have GE174 := ax ((by rw [hg]; exact (zaf (xb HB.out)) : w.heap.size ≤ gb174)); replace HB := yB HB hb; clear hb hbox hg; have hcz7_0 := bc0 BK174.out; have hcz7_1 := bc1 BK174.out; have hfz7_0 := zae BK174.out 0; have hfz7_1 := zae BK174.out 1) | (go_at_call 37; (with_reducible refine (za9.calls k _ _ l0_0 _ _ l0_1 true _ ?side1 ?side2 ?side3 ?side4 A2.out).mono ?_); (case side1 => exact xz HR0_0.out HB.out); (case side2 => exact HC0_0.out); (case side3 => exact xz HR0_1.out HB.out); (case side4 => exact HC0_1.out); rintro e w8 ⟨rfl, hb⟩; replace BK174 := ax (bb BK174.out hb); replace HB := ax (zat (xs HB.out GE174.out) hb); (try clear hb); have hcz9_0 := bc0 BK174.out; have hcz9_1 := bc1 BK174.out; have hfz9_0 := zae BK174.out 0; have hfz9_1 := zae BK174.out 1) | (go_at_call 68; (with_reducible refine (zaS.calls k _ _ l0_0 t176 _ ?side1 ?side2 A4.out).mono ?_); (case side1 => exact xz HR0_0.out HB.out); (case side2 => exact HC0_0.out); rintro e w' ⟨rfl, ⟨nd, rfl⟩⟩; (try first | exact ⟨rfl, _, World.drewN_drewN _ _ _⟩ | exact ⟨rfl, _, Eq.trans (World.drewN_drewN _ _ _) (congrArg (World.drewN _) (Nat.add_assoc _ _ _))⟩)) | (go_at_call 68; (with_reducible refine (zaS.calls k _ _ l0_1 t177 _ ?side1 ?side2 A5.out).mono ?_); (case side1 => repeat (first | exact (Kd.za8 HR0_1.out (xs HB.out GE174.out)) | (with_reducible refine Kd.zbR ?_ _) | (with_reducible refine Kd.zbQ ?_ _) | (with_reducible refine Kd.zb2 ?_))); (case side2 => exact HC0_1.out); rintro e w' ⟨rfl, ⟨nd, rfl⟩⟩; (try first | exact ⟨rfl, _, World.drewN_drewN _ _ _⟩ | exact ⟨rfl, _, Eq.trans (World.drewN_drewN _ _ _) (congrArg (World.drewN _) (Nat.add_assoc _ _ _))⟩))); try go_wp2_with (first | ((with_reducible refine zaG (N := 1) rfl ?_); refine zaK ?hg (N := 1) ?hd (cs := #[.slice A0_0 l0_0.length c0_0, .slice A0_1 l0_1.length c0_1]) (t := 40) ?hr ?_; (case hd => rfl); (case hg => rfl); (case hr => first | (go_simp; done) | (go_simp; rfl)); intro gb174 hg w6 hbox hb; have BK174 := ax (hbox); have GW174 := ax ((by rw [hg]; exact (zaf (xb HB.out)) : w.heap.size ≤ gb174)); have GE174 := ax ((by rw [hg]; exact (zaf (xb HB.out)) : w.heap.size ≤ gb174)); replace HB := yB HB hb; clear hb hbox hg; have hcz7_0 := bc0 BK174.out; have hcz7_1 := bc1 BK174.out; have hfz7_0 := zae BK174.out 0; have hfz7_1 := zae BK174.out 1) | (go_at_call 37; (with_reducible refine (za9.calls k _ _ l0_0 _ _ l0_1 true _ ?side1 ?side2 ?side3 ?side4 A2.out).mono ?_); (case side1 => exact xz HR0_0.out HB.out); (case side2 => exact HC0_0.out); (case side3 => exact xz HR0_1.out HB.out); (case side4 => exact HC0_1.out); rintro e w8 ⟨rfl, hb⟩; replace BK174 := ax (bb BK174.out hb); replace HB := ax (zat (xs HB.out GE174.out) hb); (try clear hb); have hcz9_0 := bc0 BK174.out; have hcz9_1 := bc1 BK174.out; have hfz9_0 := zae BK174.out 0; have hfz9_1 := zae BK174.out 1) | (go_at_call 68; (with_reducible refine (zaS.calls k _ _ l0_0 t176 _ ?side1 ?side2 A4.out).mono ?_); (case side1 => exact xz HR0_0.out HB.out); (case side2 => exact HC0_0.out); rintro e w' ⟨rfl, ⟨nd, rfl⟩⟩; (try first | exact ⟨rfl, _, World.drewN_drewN _ _ _⟩ | exact ⟨rfl, _, Eq.trans (World.drewN_drewN _ _ _) (congrArg (World.drewN _) (Nat.add_assoc _ _ _))⟩)) | (go_at_call 68; (with_reducible refine (zaS.calls k _ _ l0_1 t177 _ ?side1 ?side2 A5.out).mono ?_); (case side1 => repeat (first | exact (Kd.za8 HR0_1.out (xs HB.out GE174.out)) | (with_reducible refine Kd.zbR ?_ _) | (with_reducible refine Kd.zbQ ?_ _) | (with_reducible refine Kd.zb2 ?_))); (case side2 => exact HC0_1.out); rintro e w' ⟨rfl, ⟨nd, rfl⟩⟩; (try first | exact ⟨rfl, _, World.drewN_drewN _ _ _⟩ | exact ⟨rfl, _, Eq.trans (World.drewN_drewN _ _ _) (congrArg (World.drewN _) (Nat.add_assoc _ _ _))⟩))))
  go_ret
  exact ⟨xe, xs HB.out GE174.out⟩
 ·replace c3 := Bool.eq_false_iff.mpr c3
  subst c3
  rw [if_neg (show ¬ (false = true) by decide)] at H
  obtain rfl := Option.some.inj H
  go_enter Try.func47, Try.ntmps47
  go_wp2_with (first | ((with_reducible refine zaG (N := 1) rfl ?_); refine zaK ?hg (N := 1) ?hd (cs := #[.slice A0_0 l0_0.length c0_0, .slice A0_1 l0_1.length c0_1]) (t := 40) ?hr ?_; (case hd => rfl); (case hg => rfl); (case hr => first | (go_simp; done) | (go_simp; rfl)); intro gb174 hg w10 hbox hb; have BK174 := ax (hbox); have GW174 := ax ((by rw [hg]; exact (zaf (xb HB.out)) : w.heap.size ≤ gb174)); have GE174 := ax ((by rw [hg]; exact (zaf (xb HB.out)) : w.heap.size ≤ gb174)); replace HB := yB HB hb; clear hb hbox hg; have hcz11_0 := bc0 BK174.out; have hcz11_1 := bc1 BK174.out; have hfz11_0 := zae BK174.out 0; have hfz11_1 := zae BK174.out 1) | (go_at_call 37; (with_reducible refine (za9.calls k _ _ l0_0 _ _ l0_1 false _ ?side1 ?side2 ?side3 ?side4 A2.out).mono ?_); (case side1 => exact xz HR0_0.out HB.out); (case side2 => exact HC0_0.out); (case side3 => exact xz HR0_1.out HB.out); (case side4 => exact HC0_1.out); rintro e w12 ⟨rfl, hb⟩; replace BK174 := ax (bb BK174.out hb); replace HB := ax (zat (xs HB.out GE174.out) hb); (try clear hb)))
  repeat (go_quiet (first | ((with_reducible refine zaG (N := 1) rfl ?_); refine zaK ?hg (N := 1) ?hd (cs := #[.slice A0_0 l0_0.length c0_0, .slice A0_1 l0_1.length c0_1]) (t := 40) ?hr ?_; (case hd => rfl); (case hg => rfl); (case hr => first | (go_simp; done) | (go_simp; rfl)); intro gb174 hg w10 hbox hb; have BK174 := ax (hbox); have GW174 := ax ((by rw [hg]; exact (zaf (xb HB.out)) : w.heap.size ≤ gb174)); have GE174 := ax ((by rw [hg]; exact (zaf (xb HB.out)) : w.heap.size ≤ gb174)); replace HB := yB HB hb; clear hb hbox hg; have hcz11_0 := bc0 BK174.out; have hcz11_1 := bc1 BK174.out; have hfz11_0 := zae BK174.out 0; have hfz11_1 := zae BK174.out 1) | (go_at_call 37; (with_reducible refine (za9.calls k _ _ l0_0 _ _ l0_1 false _ ?side1 ?side2 ?side3 ?side4 A2.out).mono ?_); (case side1 => exact xz HR0_0.out HB.out); (case side2 => exact HC0_0.out); (case side3 => exact xz HR0_1.out HB.out); (case side4 => exact HC0_1.out); rintro e w12 ⟨rfl, hb⟩; replace BK174 := ax (bb BK174.out hb); replace HB := ax (zat (xs HB.out GE174.out) hb); (try clear hb))); try go_wp2_with (first | ((with_reducible refine zaG (N := 1) rfl ?_); refine zaK ?hg (N := 1) ?hd (cs := #[.slice A0_0 l0_0.length c0_0, .slice A0_1 l0_1.length c0_1]) (t := 40) ?hr ?_; (case hd => rfl); (case hg => rfl); (case hr => first | (go_simp; done) | (go_simp; rfl)); intro gb174 hg w10 hbox hb; have BK174 := ax (hbox); have GW174 := ax ((by rw [hg]; exact (zaf (xb HB.out)) : w.heap.size ≤ gb174)); have GE174 := ax ((by rw [hg]; exact (zaf (xb HB.out)) : w.heap.size ≤ gb174)); replace HB := yB HB hb; clear hb hbox hg; have hcz11_0 := bc0 BK174.out; have hcz11_1 := bc1 BK174.out; have hfz11_0 := zae BK174.out 0; have hfz11_1 := zae BK174.out 1) | (go_at_call 37; (with_reducible refine (za9.calls k _ _ l0_0 _ _ l0_1 false _ ?side1 ?side2 ?side3 ?side4 A2.out).mono ?_); (case side1 => exact xz HR0_0.out HB.out); (case side2 => exact HC0_0.out); (case side3 => exact xz HR0_1.out HB.out); (case side4 => exact HC0_1.out); rintro e w12 ⟨rfl, hb⟩; replace BK174 := ax (bb BK174.out hb); replace HB := ax (zat (xs HB.out GE174.out) hb); (try clear hb))))
  go_ret
  exact ⟨xe, xs HB.out GE174.out⟩

/-! ### za2: function 75 -/
def za2.l0 : Nat → List Int → Int → Option (Bool)
 | 0, _, _ => none
 | k + 1, x0, x3 => if x3 < (x0.length : Int) then (if 0 ≤ x3 then ((zch.f (rd x0 x3) 0 9).bind fun t179 => (if t179 = true then (za2.l0 k x0 (wrap64 (x3 + 1))) else (some false))) else (none)) else (some (decide ((x0.length : Int) ≤ 9)))
def za2.f (k : Nat) (l0 : List Int) : Option (Bool) := za2.l0 k l0 0
theorem za2.zaZ : ∀ k, (∀ y0 y1, LeO (za2.l0 k y0 y1) (za2.l0 (k + 1) y0 y1))
 | 0 => fun _ _ r h => by simp [za2.l0] at h
 | k + 1 => by
  have ih0 := za2.zaZ k
  ·intro y0 y1
   unfold za2.l0
   repeat' with_reducible first | exact ih0 _ _ | exact xl | refine LeO.ite ?_ ?_ | refine LeO.bind ?_ fun _ => ?_
theorem za2.mono : ∀ a0 k, LeO (za2.f k a0) (za2.f (k + 1) a0) := by
 intro a0 k
 have ih0 := za2.zaZ k
 unfold za2.f
 repeat' with_reducible first | exact ih0 _ _ | exact xl | refine LeO.ite ?_ ?_ | refine LeO.bind ?_ fun _ => ?_
theorem za2.calls (k : Nat) (A0 : Option Addr) (c0 : Nat) (l0 : List Int) (r : Bool) (w : World) (hr0 : Kd.C (Kd.int .i64) w A0 l0.length l0) (hc0 : l0.length ≤ c0) (h : za2.f k l0 = some r) :
  Calls Try.prog 75 #[.slice A0 l0.length c0] w fun e w' => e = .returned (.bool r) ∧ zaE w w' := by
 have HR0 := ax hr0
 have HC0 := ax hc0
 clear hr0 hc0
 have H : (za2.l0 k l0 0) = some r := h
 clear h
 have H' := ax H
 clear H
 go_enter Try.func75, Try.ntmps75
 go_wp2
 go_loopg [3] k (fun kq v3 w' => ∃ (x3_1 : Int), v3 = .int .i64 x3_1 ∧ zao (za2.l0 kq l0 x3_1 = some r) ∧ zao (kq ≤ k) ∧ zaE w w')
 case atStart => exact ⟨(0), xr, H', ⟨Nat.le_refl _⟩, by repeat (first | exact zaE.refl _ | apply zaE.step)⟩
 case round =>
  clear H'
  obtain ⟨x3_1, rfl, HA, HK1, ⟨m1, rfl⟩⟩ := hrel
  cases gk with
  | zero => exact absurd HA.out (by simp [za2.l0])
  | succ k1 =>
   have H := HA.out
   clear HA
   simp only [za2.l0] at H
   by_cases c2 : x3_1 < (l0.length : Int)
   ·rw [if_pos c2] at H
    have c2b0 := decide_eq_true c2
    clear c2
    obtain ⟨c3b0, H⟩ := xq H
    obtain ⟨t179, A4, H⟩ := xI H
    by_cases c5 : t179 = true
    ·subst c5
     rw [if_pos rfl] at H
     have H' := ax H
     clear H
     have p178 : 0 ≤ (x3_1 : Int) := xd
     have q178 : x3_1 < (l0.length : Int) := xd
     obtain ⟨ad178, e178, hx178_0⟩ := Kd.zbK HR0.out x3_1 p178 q178
     cases e178
     replace p178 := eq_true p178
     replace q178 := eq_true q178
     go_wp2_with (first | ((with_reducible refine zan (f := 38) rfl ?_); refine zaM (some 14) rfl rfl Try.func38 (by kernel_rfl) rfl #[.int .i64 (rd l0 x3_1), .int .i64 0, .int .i64 9] rfl xm ?_; (with_reducible refine (zch.calls (rd l0 x3_1) 0 9 true _ A4.out).mono ?_); rintro e w' ⟨rfl, ⟨nd, rfl⟩⟩; refine ⟨_, rfl, ?_⟩))
     go_roundg k1
     case measure => have := HK1.out; omega
     case rel => exact ⟨(wrap64 (x3_1 + 1)), xr, H', ⟨by have := HK1.out; omega⟩, by repeat (first | exact zaE.refl _ | apply zaE.step)⟩
    ·replace c5 := Bool.eq_false_iff.mpr c5
     subst c5
     rw [if_neg (show ¬ (false = true) by decide)] at H
     obtain rfl := Option.some.inj H
     have p178 : 0 ≤ (x3_1 : Int) := xd
     have q178 : x3_1 < (l0.length : Int) := xd
     obtain ⟨ad178, e178, hx178_0⟩ := Kd.zbK HR0.out x3_1 p178 q178
     cases e178
     replace p178 := eq_true p178
     replace q178 := eq_true q178
     go_wp2_with (first | ((with_reducible refine zan (f := 38) rfl ?_); refine zaM (some 14) rfl rfl Try.func38 (by kernel_rfl) rfl #[.int .i64 (rd l0 x3_1), .int .i64 0, .int .i64 9] rfl xm ?_; (with_reducible refine (zch.calls (rd l0 x3_1) 0 9 false _ A4.out).mono ?_); rintro e w' ⟨rfl, ⟨nd, rfl⟩⟩; refine ⟨_, rfl, ?_⟩))
     go_ret
     exact ⟨by first | rfl | (simp; done) | (simp [*]; done), by repeat (first | exact zaE.refl _ | apply zaE.step)⟩
   ·rw [if_neg c2] at H
    have c2b0 := decide_eq_false c2
    clear c2
    obtain rfl := Option.some.inj H
    go_wp2
    go_ret
    exact ⟨by first | rfl | (simp; done) | (simp [*]; done), by repeat (first | exact zaE.refl _ | apply zaE.step)⟩

/-! ### zcU: function 67 -/
def zcU.f (a0 : Bool) : Option (Int) := if a0 = true then (some 1) else (some 0)
theorem zcU.calls (a0 : Bool) (r : Int) (w : World) (h : zcU.f a0 = some r) :
  Calls Try.prog 67 #[.bool a0] w fun e w' => e = .returned (.int .i64 r) ∧ zaE w w' := by
 have H : (if a0 = true then (some 1) else (some 0)) = some r := h
 clear h
 by_cases c2 : a0 = true
 ·subst c2
  rw [if_pos rfl] at H
  obtain rfl := Option.some.inj H
  go_enter Try.func67, Try.ntmps67
  go_wp2
  go_ret
  exact ⟨by first | rfl | (simp; done) | (simp [*]; done), by repeat (first | exact zaE.refl _ | apply zaE.step)⟩
 ·replace c2 := Bool.eq_false_iff.mpr c2
  subst c2
  rw [if_neg (show ¬ (false = true) by decide)] at H
  obtain rfl := Option.some.inj H
  go_enter Try.func67, Try.ntmps67
  go_wp2
  go_ret
  exact ⟨by first | rfl | (simp; done) | (simp [*]; done), by repeat (first | exact zaE.refl _ | apply zaE.step)⟩

/-! ### zda: function 82 -/
def zda.f (a0 : Int) (a1 : Int) : Option (Int) := if a0 < a1 then (some a0) else (some a1)
theorem zda.calls (a0 : Int) (a1 : Int) (r : Int) (w : World) (h : zda.f a0 a1 = some r) :
  Calls Try.prog 82 #[.int .i64 a0, .int .i64 a1] w fun e w' => e = .returned (.int .i64 r) ∧ zaE w w' := by
 have H : (if a0 < a1 then (some a0) else (some a1)) = some r := h
 clear h
 by_cases c3 : a0 < a1
 ·rw [if_pos c3] at H
  have c3b0 := decide_eq_true c3
  clear c3
  obtain rfl := Option.some.inj H
  go_enter Try.func82, Try.ntmps82
  go_wp2
  go_ret
  exact ⟨by first | rfl | (simp; done) | (simp [*]; done), by repeat (first | exact zaE.refl _ | apply zaE.step)⟩
 ·rw [if_neg c3] at H
  have c3b0 := decide_eq_false c3
  clear c3
  obtain rfl := Option.some.inj H
  go_enter Try.func82, Try.ntmps82
  go_wp2
  go_ret
  exact ⟨by first | rfl | (simp; done) | (simp [*]; done), by repeat (first | exact zaE.refl _ | apply zaE.step)⟩

end Go.Proofs.Ytneipehcmmigeaa.PFnExactSchurPoly
