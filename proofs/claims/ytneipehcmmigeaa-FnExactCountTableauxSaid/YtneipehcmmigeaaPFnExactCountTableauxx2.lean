import Derived.Test.YtneipehcmmigeaaPFnExactCountTableauxx1
namespace Go.Proofs.Ytneipehcmmigeaa.PFnExactCountTableaux
open Go.RowKit Go.Proofs.YtneipehcmmigeaaW.PrintWords Go.Proofs.YtneipehcmmigeaaW.PrintLast Go.Proofs.YtneipehcmmigeaaW.PrintMore
set_option linter.unusedVariables false
set_option linter.unusedSimpArgs false
set_option maxHeartbeats 8000000
set_option maxRecDepth 100000
/-! ### spec_IsInside: function 66 -/
mutual
def spec_IsInside.j0 : Nat → List Int → List Int → Bool → Option (Bool)
 | 0, _, _, _ => none
 | k + 1, x0, x1, x20 => if x20 = true then (some false) else (spec_IsInside.l0 k x0 x1 0)
def spec_IsInside.l0 : Nat → List Int → List Int → Int → Option (Bool)
 | 0, _, _, _ => none
 | k + 1, x0, x1, x5 => if x5 < (x0.length : Int) then (if 0 ≤ x5 then (if x5 < (x1.length : Int) then (if (rd x0 x5) > (rd x1 x5) then (some false) else (spec_IsInside.l0 k x0 x1 (wrap64 (x5 + 1)))) else (none)) else (none)) else (some true)
end
def spec_IsInside.f (k : Nat) (l0 : List Int) (l1 : List Int) : Option (Bool) := (spec_IsPartition.f k l0).bind fun t109 => (if t109 = true then ((spec_IsPartition.f k l1).bind fun t110 => (if t110 = true then (spec_IsInside.j0 k l0 l1 (decide ((l0.length : Int) > (l1.length : Int)))) else (spec_IsInside.j0 k l0 l1 true))) else (spec_IsInside.j0 k l0 l1 true))
theorem spec_IsInside.mono_l : ∀ k, (∀ y0 y1 y2, LeO (spec_IsInside.j0 k y0 y1 y2) (spec_IsInside.j0 (k + 1) y0 y1 y2)) ∧ (∀ y0 y1 y2, LeO (spec_IsInside.l0 k y0 y1 y2) (spec_IsInside.l0 (k + 1) y0 y1 y2))
 | 0 => ⟨fun _ _ _ r h => by simp [spec_IsInside.j0] at h, fun _ _ _ r h => by simp [spec_IsInside.l0] at h⟩
 | k + 1 => by
  obtain ⟨ih0, ih1⟩ := spec_IsInside.mono_l k
  refine ⟨?_, ?_⟩
  ·intro y0 y1 y2
   unfold spec_IsInside.j0
   repeat' with_reducible first | exact ih0 _ _ _ | exact ih1 _ _ _ | exact spec_IsPartition.mono _ _ | exact xl | refine LeO.ite ?_ ?_ | refine LeO.bind ?_ fun _ => ?_
  ·intro y0 y1 y2
   unfold spec_IsInside.l0
   repeat' with_reducible first | exact ih0 _ _ _ | exact ih1 _ _ _ | exact spec_IsPartition.mono _ _ | exact xl | refine LeO.ite ?_ ?_ | refine LeO.bind ?_ fun _ => ?_
theorem spec_IsInside.mono : ∀ a0 a1 k, LeO (spec_IsInside.f k a0 a1) (spec_IsInside.f (k + 1) a0 a1) := by
 intro a0 a1 k
 obtain ⟨ih0, ih1⟩ := spec_IsInside.mono_l k
 unfold spec_IsInside.f
 repeat' with_reducible first | exact ih0 _ _ _ | exact ih1 _ _ _ | exact spec_IsPartition.mono _ _ | exact xl | refine LeO.ite ?_ ?_ | refine LeO.bind ?_ fun _ => ?_
theorem spec_IsInside.calls (k : Nat) (A0 : Option Addr) (c0 : Nat) (l0 : List Int) (A1 : Option Addr) (c1 : Nat) (l1 : List Int) (r : Bool) (w : World) (hr0 : Kd.C (Kd.int .i64) w A0 l0.length l0) (hc0 : l0.length ≤ c0) (hr1 : Kd.C (Kd.int .i64) w A1 l1.length l1) (hc1 : l1.length ≤ c1) (h : spec_IsInside.f k l0 l1 = some r) :
  Calls Try.prog 66 #[.slice A0 l0.length c0, .slice A1 l1.length c1] w fun e w' => e = .returned (.bool r) ∧ Below w.heap.size w w' := by
 have HR0 := ax hr0
 have HC0 := ax hc0
 clear hr0 hc0
 have HR1 := ax hr1
 have HC1 := ax hc1
 clear hr1 hc1
 have HB := ax (Below.refl w.heap.size w)
 have H : ((spec_IsPartition.f k l0).bind fun t109 => (if t109 = true then ((spec_IsPartition.f k l1).bind fun t110 => (if t110 = true then (spec_IsInside.j0 k l0 l1 (decide ((l0.length : Int) > (l1.length : Int)))) else (spec_IsInside.j0 k l0 l1 true))) else (spec_IsInside.j0 k l0 l1 true))) = some r := h
 clear h
 have HC3 := ax H
 clear H
 go_enter Try.func66, Try.ntmps66
 go_upto_region 1 with (fail)
 repeat (go_quiet (fail); go_upto_region 1 with (fail))
 go_cut [20] (fun v20 wc => ∃ (kq : Nat) (x20_2 : Bool), v20 = .bool x20_2 ∧ Aside0 (spec_IsInside.j0 kq l0 l1 x20_2 = some r) ∧ Aside0 (kq ≤ k) ∧ Aside0 (Below w.heap.size w wc))
 case first =>
  have H := HC3.out
  clear HC3
  obtain ⟨t109, A4, H⟩ := xI H
  by_cases c5 : t109 = true
  ·subst c5
   rw [if_pos rfl] at H
   obtain ⟨t110, A6, H⟩ := xI H
   by_cases c7 : t110 = true
   ·subst c7
    rw [if_pos rfl] at H
    have H' := ax H
    clear H
    go_wp2_with (first | (go_at_call 81; (with_reducible refine (spec_IsPartition.calls k _ _ l0 true _ ?side1 ?side2 A4.out).mono ?_); (case side1 => exact xz HR0.out HB.out); (case side2 => exact HC0.out); rintro e w8 ⟨rfl, hb⟩; replace HB := yB HB hb; (try clear hb)) | (go_at_call 81; (with_reducible refine (spec_IsPartition.calls k _ _ l1 true _ ?side1 ?side2 A6.out).mono ?_); (case side1 => exact xz HR1.out HB.out); (case side2 => exact HC1.out); rintro e w9 ⟨rfl, hb⟩; replace HB := yB HB hb; (try clear hb)))
    repeat (go_quiet (first | (go_at_call 81; (with_reducible refine (spec_IsPartition.calls k _ _ l0 true _ ?side1 ?side2 A4.out).mono ?_); (case side1 => exact xz HR0.out HB.out); (case side2 => exact HC0.out); rintro e w8 ⟨rfl, hb⟩; replace HB := yB HB hb; (try clear hb)) | (go_at_call 81; (with_reducible refine (spec_IsPartition.calls k _ _ l1 true _ ?side1 ?side2 A6.out).mono ?_); (case side1 => exact xz HR1.out HB.out); (case side2 => exact HC1.out); rintro e w9 ⟨rfl, hb⟩; replace HB := yB HB hb; (try clear hb))); try go_wp2_with (first | (go_at_call 81; (with_reducible refine (spec_IsPartition.calls k _ _ l0 true _ ?side1 ?side2 A4.out).mono ?_); (case side1 => exact xz HR0.out HB.out); (case side2 => exact HC0.out); rintro e w8 ⟨rfl, hb⟩; replace HB := yB HB hb; (try clear hb)) | (go_at_call 81; (with_reducible refine (spec_IsPartition.calls k _ _ l1 true _ ?side1 ?side2 A6.out).mono ?_); (case side1 => exact xz HR1.out HB.out); (case side2 => exact HC1.out); rintro e w9 ⟨rfl, hb⟩; replace HB := yB HB hb; (try clear hb))))
    go_meet
    case rel => exact ⟨_, (decide ((l0.length : Int) > (l1.length : Int))), xr, H', ⟨by first | omega | exact Nat.le_refl _⟩, ⟨xb HB.out⟩⟩
   ·replace c7 := Bool.eq_false_iff.mpr c7
    subst c7
    rw [if_neg (show ¬ (false = true) by decide)] at H
    have H' := ax H
    clear H
    go_wp2_with (first | (go_at_call 81; (with_reducible refine (spec_IsPartition.calls k _ _ l0 true _ ?side1 ?side2 A4.out).mono ?_); (case side1 => exact xz HR0.out HB.out); (case side2 => exact HC0.out); rintro e w10 ⟨rfl, hb⟩; replace HB := yB HB hb; (try clear hb)) | (go_at_call 81; (with_reducible refine (spec_IsPartition.calls k _ _ l1 false _ ?side1 ?side2 A6.out).mono ?_); (case side1 => exact xz HR1.out HB.out); (case side2 => exact HC1.out); rintro e w11 ⟨rfl, hb⟩; replace HB := yB HB hb; (try clear hb)))
    repeat (go_quiet (first | (go_at_call 81; (with_reducible refine (spec_IsPartition.calls k _ _ l0 true _ ?side1 ?side2 A4.out).mono ?_); (case side1 => exact xz HR0.out HB.out); (case side2 => exact HC0.out); rintro e w10 ⟨rfl, hb⟩; replace HB := yB HB hb; (try clear hb)) | (go_at_call 81; (with_reducible refine (spec_IsPartition.calls k _ _ l1 false _ ?side1 ?side2 A6.out).mono ?_); (case side1 => exact xz HR1.out HB.out); (case side2 => exact HC1.out); rintro e w11 ⟨rfl, hb⟩; replace HB := yB HB hb; (try clear hb))); try go_wp2_with (first | (go_at_call 81; (with_reducible refine (spec_IsPartition.calls k _ _ l0 true _ ?side1 ?side2 A4.out).mono ?_); (case side1 => exact xz HR0.out HB.out); (case side2 => exact HC0.out); rintro e w10 ⟨rfl, hb⟩; replace HB := yB HB hb; (try clear hb)) | (go_at_call 81; (with_reducible refine (spec_IsPartition.calls k _ _ l1 false _ ?side1 ?side2 A6.out).mono ?_); (case side1 => exact xz HR1.out HB.out); (case side2 => exact HC1.out); rintro e w11 ⟨rfl, hb⟩; replace HB := yB HB hb; (try clear hb))))
    go_meet
    case rel => exact ⟨_, (true), xr, H', ⟨by first | omega | exact Nat.le_refl _⟩, ⟨xb HB.out⟩⟩
  ·replace c5 := Bool.eq_false_iff.mpr c5
   subst c5
   rw [if_neg (show ¬ (false = true) by decide)] at H
   have H' := ax H
   clear H
   go_wp2_with (first | (go_at_call 81; (with_reducible refine (spec_IsPartition.calls k _ _ l0 false _ ?side1 ?side2 A4.out).mono ?_); (case side1 => exact xz HR0.out HB.out); (case side2 => exact HC0.out); rintro e w12 ⟨rfl, hb⟩; replace HB := yB HB hb; (try clear hb)))
   repeat (go_quiet (first | (go_at_call 81; (with_reducible refine (spec_IsPartition.calls k _ _ l0 false _ ?side1 ?side2 A4.out).mono ?_); (case side1 => exact xz HR0.out HB.out); (case side2 => exact HC0.out); rintro e w12 ⟨rfl, hb⟩; replace HB := yB HB hb; (try clear hb))); try go_wp2_with (first | (go_at_call 81; (with_reducible refine (spec_IsPartition.calls k _ _ l0 false _ ?side1 ?side2 A4.out).mono ?_); (case side1 => exact xz HR0.out HB.out); (case side2 => exact HC0.out); rintro e w12 ⟨rfl, hb⟩; replace HB := yB HB hb; (try clear hb))))
   go_meet
   case rel => exact ⟨_, (true), xr, H', ⟨by first | omega | exact Nat.le_refl _⟩, ⟨xb HB.out⟩⟩
 case rest =>
  clear HC3
  (try clear c1); (try clear c5); (try clear c7)
  obtain ⟨kq, x20_2, rfl, HA, HJ2, HB⟩ := hcut
  cases kq with
  | zero => exact absurd HA.out (by simp [spec_IsInside.j0])
  | succ kj2 =>
   have H := HA.out
   clear HA
   simp only [spec_IsInside.j0] at H
   by_cases c13 : x20_2 = true
   ·subst c13
    rw [if_pos rfl] at H
    obtain rfl := Option.some.inj H
    go_wp2
    repeat (go_quiet (fail); try go_wp2)
    go_ret
    exact ⟨xe, xb HB.out⟩
   ·replace c13 := Bool.eq_false_iff.mpr c13
    subst c13
    rw [if_neg (show ¬ (false = true) by decide)] at H
    have H' := ax H
    clear H
    go_wp2
    repeat (go_quiet (fail); try go_wp2)
    go_loopg [5] kj2 (fun kq v5 w' => ∃ (x5_2 : Int), v5 = .int .i64 x5_2 ∧ Aside0 (spec_IsInside.l0 kq l0 l1 x5_2 = some r) ∧ Aside0 (kq ≤ kj2) ∧ Aside0 (Below w.heap.size w w'))
    case atStart => exact ⟨(0), xr, H', ⟨Nat.le_refl _⟩, ⟨xb HB.out⟩⟩
    case round =>
     clear H'
     (try clear c1); (try clear c5); (try clear c7); (try clear c13)
     obtain ⟨x5_2, rfl, HA, HK2, HB⟩ := hrel
     cases gk with
     | zero => exact absurd HA.out (by simp [spec_IsInside.l0])
     | succ k2 =>
      have H := HA.out
      clear HA
      simp only [spec_IsInside.l0] at H
      by_cases c14 : x5_2 < (l0.length : Int)
      ·rw [if_pos c14] at H
       have c14b0 := decide_eq_true c14
       clear c14
       obtain ⟨c15b0, H⟩ := xq H
       obtain ⟨c16b0, H⟩ := xq H
       by_cases c17 : (rd l0 x5_2) > (rd l1 x5_2)
       ·rw [if_pos c17] at H
        have c17b0 : decide ((rd l1 x5_2) < (rd l0 x5_2)) = true := decide_eq_true c17
        clear c17
        obtain rfl := Option.some.inj H
        have p111 : 0 ≤ (x5_2 : Int) := xd
        have q111 : x5_2 < (l0.length : Int) := xd
        obtain ⟨ad111, e111, hx111_0⟩ := Kd.at_int HR0.out x5_2 p111 q111
        cases e111
        (try replace hx111_0 := (HB.out.cell (World.block_lt_of_cell? w _ hx111_0)).trans hx111_0)
        replace p111 := eq_true p111
        replace q111 := eq_true q111
        have p112 : 0 ≤ (x5_2 : Int) := xd
        have q112 : x5_2 < (l1.length : Int) := xd
        obtain ⟨ad112, e112, hx112_0⟩ := Kd.at_int HR1.out x5_2 p112 q112
        cases e112
        (try replace hx112_0 := (HB.out.cell (World.block_lt_of_cell? w _ hx112_0)).trans hx112_0)
        replace p112 := eq_true p112
        replace q112 := eq_true q112
        go_wp2
        repeat (go_quiet (fail); try go_wp2)
        go_ret
        exact ⟨xe, xb HB.out⟩
       ·rw [if_neg c17] at H
        have c17b0 : decide ((rd l1 x5_2) < (rd l0 x5_2)) = false := decide_eq_false c17
        clear c17
        have H' := ax H
        clear H
        have p111 : 0 ≤ (x5_2 : Int) := xd
        have q111 : x5_2 < (l0.length : Int) := xd
        obtain ⟨ad111, e111, hx111_0⟩ := Kd.at_int HR0.out x5_2 p111 q111
        cases e111
        (try replace hx111_0 := (HB.out.cell (World.block_lt_of_cell? w _ hx111_0)).trans hx111_0)
        replace p111 := eq_true p111
        replace q111 := eq_true q111
        have p112 : 0 ≤ (x5_2 : Int) := xd
        have q112 : x5_2 < (l1.length : Int) := xd
        obtain ⟨ad112, e112, hx112_0⟩ := Kd.at_int HR1.out x5_2 p112 q112
        cases e112
        (try replace hx112_0 := (HB.out.cell (World.block_lt_of_cell? w _ hx112_0)).trans hx112_0)
        replace p112 := eq_true p112
        replace q112 := eq_true q112
        go_wp2
        repeat (go_quiet (fail); try go_wp2)
        go_roundg k2
        case measure => have := HJ2.out; have := HK2.out; omega
        case rel => exact ⟨(wrap64 (x5_2 + 1)), xr, H', ⟨by have := HJ2.out; have := HK2.out; omega⟩, ⟨xb HB.out⟩⟩
      ·rw [if_neg c14] at H
       have c14b0 := decide_eq_false c14
       clear c14
       obtain rfl := Option.some.inj H
       go_wp2
       repeat (go_quiet (fail); try go_wp2)
       go_ret
       exact ⟨xe, xb HB.out⟩

/-! ### spec_IsShape: function 37 -/
def spec_IsShape.f (k : Nat) (l0_0 : List Int) (l0_1 : List Int) : Option (Bool) := (spec_IsInside.f k l0_1 l0_0).bind fun t114 => (some t114)
theorem spec_IsShape.mono : ∀ a0 a1 k, LeO (spec_IsShape.f k a0 a1) (spec_IsShape.f (k + 1) a0 a1) := by
 intro a0 a1 k
 unfold spec_IsShape.f
 repeat' with_reducible first | exact spec_IsInside.mono _ _ _ | exact xl | refine LeO.ite ?_ ?_ | refine LeO.bind ?_ fun _ => ?_
theorem spec_IsShape.calls (k : Nat) (A0_0 : Option Addr) (c0_0 : Nat) (l0_0 : List Int) (A0_1 : Option Addr) (c0_1 : Nat) (l0_1 : List Int) (r : Bool) (w : World) (hr0_0 : Kd.C (Kd.int .i64) w A0_0 l0_0.length l0_0) (hc0_0 : l0_0.length ≤ c0_0) (hr0_1 : Kd.C (Kd.int .i64) w A0_1 l0_1.length l0_1) (hc0_1 : l0_1.length ≤ c0_1) (h : spec_IsShape.f k l0_0 l0_1 = some r) :
  Calls Try.prog 37 #[.agg #[.slice A0_0 l0_0.length c0_0, .slice A0_1 l0_1.length c0_1]] w fun e w' => e = .returned (.bool r) ∧ Below w.heap.size w w' := by
 have hu40 := Try.underlying40
 have HR0_0 := ax hr0_0
 have HC0_0 := ax hc0_0
 clear hr0_0 hc0_0
 have HR0_1 := ax hr0_1
 have HC0_1 := ax hc0_1
 clear hr0_1 hc0_1
 have HB := ax (Below.refl w.heap.size w)
 have H : ((spec_IsInside.f k l0_1 l0_0).bind fun t114 => (some t114)) = some r := h
 clear h
 obtain ⟨t114, A2, H⟩ := xI H
 obtain rfl := Option.some.inj H
 go_enter Try.func37, Try.ntmps37
 go_wp2_with (first | ((with_reducible refine gate_dst (N := 1) rfl ?_); refine box_event ?hg (N := 1) ?hd (cs := #[.slice A0_0 l0_0.length c0_0, .slice A0_1 l0_1.length c0_1]) (t := 40) ?hr ?_; (case hd => rfl); (case hg => rfl); (case hr => first | (go_simp; done) | (go_simp; rfl)); intro gb113 hg w3 hbox hb; have BK113 := ax (hbox); have GW113 := ax ((by rw [hg]; exact (below_size (xb HB.out)) : w.heap.size ≤ gb113)); have GE113 := ax ((by rw [hg]; exact (below_size (xb HB.out)) : w.heap.size ≤ gb113)); replace HB := yB HB hb; clear hb hbox hg; have hcz4_0 : w3.cell? ⟨gb113, 0, none⟩ = some (.slice A0_0 l0_0.length c0_0) := (blk_cell BK113.out 0).trans rfl; have hcz4_1 : w3.cell? ⟨gb113, 1, none⟩ = some (.slice A0_1 l0_1.length c0_1) := (blk_cell BK113.out 1).trans rfl; have hfz4_0 := blk_frozen BK113.out 0; have hfz4_1 := blk_frozen BK113.out 1) | ((with_reducible refine gate_callee (f := 66) rfl ?_); refine goesL_ (some 7) rfl rfl Try.func66 (by kernel_rfl) rfl #[.slice A0_1 l0_1.length c0_1, .slice A0_0 l0_0.length c0_0] rfl xm ?_; (with_reducible refine (spec_IsInside.calls k _ _ l0_1 _ _ l0_0 t114 _ ?side1 ?side2 ?side3 ?side4 A2.out).mono ?_); (case side1 => exact xz HR0_1.out HB.out); (case side2 => exact HC0_1.out); (case side3 => exact xz HR0_0.out HB.out); (case side4 => exact HC0_0.out); rintro e w5 ⟨rfl, hb⟩; refine ⟨_, rfl, ?_⟩; replace BK113 := ax (blk_below (g := gb113) (o := .cells #[.slice A0_0 l0_0.length c0_0, .slice A0_1 l0_1.length c0_1] 40 (0, 0)) (xk BK113.out) hb); replace HB := ax (below_step (xs HB.out GE113.out) hb); (try clear hb)))
 go_ret
 exact ⟨xe, xs HB.out GE113.out⟩

/-! ### spec_l1Bit: function 67 -/
def spec_l1Bit.f (a0 : Bool) : Option (Int) := if a0 = true then (some 1) else (some 0)
theorem spec_l1Bit.calls (a0 : Bool) (r : Int) (w : World) (h : spec_l1Bit.f a0 = some r) :
  Calls Try.prog 67 #[.bool a0] w fun e w' => e = .returned (.int .i64 r) ∧ Drawn0 w w' := by
 have H : (if a0 = true then (some 1) else (some 0)) = some r := h
 clear h
 by_cases c2 : a0 = true
 ·subst c2
  rw [if_pos rfl] at H
  obtain rfl := Option.some.inj H
  go_enter Try.func67, Try.ntmps67
  go_wp2
  go_ret
  exact ⟨by first | rfl | (simp; done) | (simp [*]; done), by repeat (first | exact Drawn0.refl _ | apply Drawn0.step)⟩
 ·replace c2 := Bool.eq_false_iff.mpr c2
  subst c2
  rw [if_neg (show ¬ (false = true) by decide)] at H
  obtain rfl := Option.some.inj H
  go_enter Try.func67, Try.ntmps67
  go_wp2
  go_ret
  exact ⟨by first | rfl | (simp; done) | (simp [*]; done), by repeat (first | exact Drawn0.refl _ | apply Drawn0.step)⟩

/-! ### spec_l2Size: function 68 -/
def spec_l2Size.l0 : Nat → List Int → Int → Int → Option (Int)
 | 0, _, _, _ => none
 | k + 1, x0, x3, x4 => if x4 < (x0.length : Int) then (if 0 ≤ x4 then (spec_l2Size.l0 k x0 (wrap64 (x3 + (rd x0 x4))) (wrap64 (x4 + 1))) else (none)) else (some x3)
def spec_l2Size.f (k : Nat) (l0 : List Int) : Option (Int) := spec_l2Size.l0 k l0 0 0
theorem spec_l2Size.mono_l : ∀ k, (∀ y0 y1 y2, LeO (spec_l2Size.l0 k y0 y1 y2) (spec_l2Size.l0 (k + 1) y0 y1 y2))
 | 0 => fun _ _ _ r h => by simp [spec_l2Size.l0] at h
 | k + 1 => by
  have ih0 := spec_l2Size.mono_l k
  ·intro y0 y1 y2
   unfold spec_l2Size.l0
   repeat' with_reducible first | exact ih0 _ _ _ | exact xl | refine LeO.ite ?_ ?_ | refine LeO.bind ?_ fun _ => ?_
theorem spec_l2Size.mono : ∀ a0 k, LeO (spec_l2Size.f k a0) (spec_l2Size.f (k + 1) a0) := by
 intro a0 k
 have ih0 := spec_l2Size.mono_l k
 unfold spec_l2Size.f
 repeat' with_reducible first | exact ih0 _ _ _ | exact xl | refine LeO.ite ?_ ?_ | refine LeO.bind ?_ fun _ => ?_
theorem spec_l2Size.calls (k : Nat) (A0 : Option Addr) (c0 : Nat) (l0 : List Int) (r : Int) (w : World) (hr0 : Kd.C (Kd.int .i64) w A0 l0.length l0) (hc0 : l0.length ≤ c0) (h : spec_l2Size.f k l0 = some r) :
  Calls Try.prog 68 #[.slice A0 l0.length c0] w fun e w' => e = .returned (.int .i64 r) ∧ Drawn0 w w' := by
 have HR0 := ax hr0
 have HC0 := ax hc0
 clear hr0 hc0
 have H : (spec_l2Size.l0 k l0 0 0) = some r := h
 clear h
 have H' := ax H
 clear H
 go_enter Try.func68, Try.ntmps68
 go_wp2
 go_loopg [3, 4] k (fun kq v3 v4 w' => ∃ (x3_1 : Int) (x4_1 : Int), v3 = .int .i64 x3_1 ∧ v4 = .int .i64 x4_1 ∧ Aside0 (spec_l2Size.l0 kq l0 x3_1 x4_1 = some r) ∧ Aside0 (kq ≤ k) ∧ Drawn0 w w')
 case atStart => exact ⟨(0), (0), xr, xr, H', ⟨Nat.le_refl _⟩, by repeat (first | exact Drawn0.refl _ | apply Drawn0.step)⟩
 case round =>
  clear H'
  obtain ⟨x3_1, x4_1, rfl, rfl, HA, HK1, ⟨m1, rfl⟩⟩ := hrel
  cases gk with
  | zero => exact absurd HA.out (by simp [spec_l2Size.l0])
  | succ k1 =>
   have H := HA.out
   clear HA
   simp only [spec_l2Size.l0] at H
   by_cases c2 : x4_1 < (l0.length : Int)
   ·rw [if_pos c2] at H
    have c2b0 := decide_eq_true c2
    clear c2
    obtain ⟨c3b0, H⟩ := xq H
    have H' := ax H
    clear H
    have p115 : 0 ≤ (x4_1 : Int) := xd
    have q115 : x4_1 < (l0.length : Int) := xd
    obtain ⟨ad115, e115, hx115_0⟩ := Kd.at_int HR0.out x4_1 p115 q115
    cases e115
    replace p115 := eq_true p115
    replace q115 := eq_true q115
    go_wp2
    go_roundg k1
    case measure => have := HK1.out; omega
    case rel => exact ⟨(wrap64 (x3_1 + (rd l0 x4_1))), (wrap64 (x4_1 + 1)), xr, xr, H', ⟨by have := HK1.out; omega⟩, by repeat (first | exact Drawn0.refl _ | apply Drawn0.step)⟩
   ·rw [if_neg c2] at H
    have c2b0 := decide_eq_false c2
    clear c2
    obtain rfl := Option.some.inj H
    go_wp2
    go_ret
    exact ⟨by first | rfl | (simp; done) | (simp [*]; done), by repeat (first | exact Drawn0.refl _ | apply Drawn0.step)⟩

/-! ### spec_l1Min: function 82 -/
def spec_l1Min.f (a0 : Int) (a1 : Int) : Option (Int) := if a0 < a1 then (some a0) else (some a1)
theorem spec_l1Min.calls (a0 : Int) (a1 : Int) (r : Int) (w : World) (h : spec_l1Min.f a0 a1 = some r) :
  Calls Try.prog 82 #[.int .i64 a0, .int .i64 a1] w fun e w' => e = .returned (.int .i64 r) ∧ Drawn0 w w' := by
 have H : (if a0 < a1 then (some a0) else (some a1)) = some r := h
 clear h
 by_cases c3 : a0 < a1
 ·rw [if_pos c3] at H
  have c3b0 := decide_eq_true c3
  clear c3
  obtain rfl := Option.some.inj H
  go_enter Try.func82, Try.ntmps82
  go_wp2
  go_ret
  exact ⟨by first | rfl | (simp; done) | (simp [*]; done), by repeat (first | exact Drawn0.refl _ | apply Drawn0.step)⟩
 ·rw [if_neg c3] at H
  have c3b0 := decide_eq_false c3
  clear c3
  obtain rfl := Option.some.inj H
  go_enter Try.func82, Try.ntmps82
  go_wp2
  go_ret
  exact ⟨by first | rfl | (simp; done) | (simp [*]; done), by repeat (first | exact Drawn0.refl _ | apply Drawn0.step)⟩

/-! ### spec_l2At: function 83 -/
def spec_l2At.f (l0 : List Int) (a1 : Int) : Option (Int) := if a1 < 0 then (some 0) else (if a1 ≥ (l0.length : Int) then (some 0) else (if 0 ≤ a1 then (if a1 < (l0.length : Int) then (some (rd l0 a1)) else (none)) else (none)))
theorem spec_l2At.calls (A0 : Option Addr) (c0 : Nat) (l0 : List Int) (a1 : Int) (r : Int) (w : World) (hr0 : Kd.C (Kd.int .i64) w A0 l0.length l0) (hc0 : l0.length ≤ c0) (h : spec_l2At.f l0 a1 = some r) :
  Calls Try.prog 83 #[.slice A0 l0.length c0, .int .i64 a1] w fun e w' => e = .returned (.int .i64 r) ∧ Drawn0 w w' := by
 have HR0 := ax hr0
 have HC0 := ax hc0
 clear hr0 hc0
 have H : (if a1 < 0 then (some 0) else (if a1 ≥ (l0.length : Int) then (some 0) else (if 0 ≤ a1 then (if a1 < (l0.length : Int) then (some (rd l0 a1)) else (none)) else (none)))) = some r := h
 clear h
 by_cases c3 : a1 < 0
 ·rw [if_pos c3] at H
  have c3b0 := decide_eq_true c3
  clear c3
  obtain rfl := Option.some.inj H
  go_enter Try.func83, Try.ntmps83
  go_wp2
  go_ret
  exact ⟨by first | rfl | (simp; done) | (simp [*]; done), by repeat (first | exact Drawn0.refl _ | apply Drawn0.step)⟩
 ·rw [if_neg c3] at H
  have c3b0 := decide_eq_false c3
  clear c3
  by_cases c4 : a1 ≥ (l0.length : Int)
  ·rw [if_pos c4] at H
   have c4b0 : decide ((l0.length : Int) ≤ a1) = true := decide_eq_true c4
   clear c4
   obtain rfl := Option.some.inj H
   go_enter Try.func83, Try.ntmps83
   go_wp2
   go_ret
   exact ⟨by first | rfl | (simp; done) | (simp [*]; done), by repeat (first | exact Drawn0.refl _ | apply Drawn0.step)⟩
  ·rw [if_neg c4] at H
   have c4b0 : decide ((l0.length : Int) ≤ a1) = false := decide_eq_false c4
   clear c4
   obtain ⟨c5b0, H⟩ := xq H
   obtain ⟨c6b0, H⟩ := xq H
   obtain rfl := Option.some.inj H
   have p116 : 0 ≤ (a1 : Int) := xd
   have q116 : a1 < (l0.length : Int) := xd
   obtain ⟨ad116, e116, hx116_0⟩ := Kd.at_int HR0.out a1 p116 q116
   cases e116
   replace p116 := eq_true p116
   replace q116 := eq_true q116
   go_enter Try.func83, Try.ntmps83
   go_wp2
   go_ret
   exact ⟨by first | rfl | (simp; done) | (simp [*]; done), by repeat (first | exact Drawn0.refl _ | apply Drawn0.step)⟩

end Go.Proofs.Ytneipehcmmigeaa.PFnExactCountTableaux
