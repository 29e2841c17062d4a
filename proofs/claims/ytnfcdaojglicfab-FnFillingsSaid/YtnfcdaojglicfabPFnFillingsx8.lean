import Derived.Test.YtnfcdaojglicfabPFnFillingsx7
namespace Go.Proofs.Ytnfcdaojglicfab.PFnFillings
open Go.RowKit Go.Proofs.YtnfcdaojglicfabW.PrintWords Go.Proofs.YtnfcdaojglicfabW.PrintLast Go.Proofs.YtnfcdaojglicfabW.PrintMore
set_option linter.unusedVariables false
set_option linter.unusedSimpArgs false
set_option maxHeartbeats 8000000
set_option maxRecDepth 100000
/-! ### spec_IsFilling: function 17 -/
mutual
def spec_IsFilling.j0 : Nat → List Int → List (List Int) → Bool → Option (Bool)
 | 0, _, _, _ => none
 | k + 1, x0, x1, x16 => if x16 = true then (some false) else (spec_IsFilling.l0 k x0 x1 0)
def spec_IsFilling.l0 : Nat → List Int → List (List Int) → Int → Option (Bool)
 | 0, _, _, _ => none
 | k + 1, x0, x1, x5 => if x5 < (x0.length : Int) then (if 0 ≤ x5 then (if x5 < (x1.length : Int) then (if ((rd_L2 x1 x5).length : Int) = (rd x0 x5) then (spec_IsFilling.l1 k x0 x1 x5 0) else (some false)) else (none)) else (none)) else (some true)
def spec_IsFilling.l1 : Nat → List Int → List (List Int) → Int → Int → Option (Bool)
 | 0, _, _, _, _ => none
 | k + 1, x0, x1, x5, x6 => if 0 ≤ x5 then (if x5 < (x0.length : Int) then (if x6 < (rd x0 x5) then (if x5 < (x1.length : Int) then (if 0 ≤ x6 then (if x6 < ((rd_L2 x1 x5).length : Int) then ((spec_l1In.f (rd (rd_L2 x1 x5) x6) 0 9).bind fun t346 => (if t346 = true then (spec_IsFilling.l1 k x0 x1 x5 (wrap64 (x6 + 1))) else (some false))) else (none)) else (none)) else (none)) else (spec_IsFilling.l0 k x0 x1 (wrap64 (x5 + 1)))) else (none)) else (none)
end
def spec_IsFilling.f (k : Nat) (l0 : List Int) (l1 : List (List Int)) : Option (Bool) := (spec_IsPartition.f k l0).bind fun t340 => (if t340 = true then (spec_IsFilling.j0 k l0 l1 ((l1.length : Int) != (l0.length : Int))) else (spec_IsFilling.j0 k l0 l1 true))
theorem spec_IsFilling.mono_l : ∀ k, (∀ y0 y1 y2, LeO (spec_IsFilling.j0 k y0 y1 y2) (spec_IsFilling.j0 (k + 1) y0 y1 y2)) ∧ (∀ y0 y1 y2, LeO (spec_IsFilling.l0 k y0 y1 y2) (spec_IsFilling.l0 (k + 1) y0 y1 y2)) ∧ (∀ y0 y1 y2 y3, LeO (spec_IsFilling.l1 k y0 y1 y2 y3) (spec_IsFilling.l1 (k + 1) y0 y1 y2 y3))
 | 0 => ⟨fun _ _ _ r h => by simp [spec_IsFilling.j0] at h, fun _ _ _ r h => by simp [spec_IsFilling.l0] at h, fun _ _ _ _ r h => by simp [spec_IsFilling.l1] at h⟩
 | k + 1 => by
  obtain ⟨ih0, ih1, ih2⟩ := spec_IsFilling.mono_l k
  refine ⟨?_, ?_, ?_⟩
  ·intro y0 y1 y2
   unfold spec_IsFilling.j0
   repeat' with_reducible first | exact ih0 _ _ _ | exact ih1 _ _ _ | exact ih2 _ _ _ _ | exact spec_IsPartition.mono _ _ | exact xl | refine LeO.ite ?_ ?_ | refine LeO.bind ?_ fun _ => ?_
  ·intro y0 y1 y2
   unfold spec_IsFilling.l0
   repeat' with_reducible first | exact ih0 _ _ _ | exact ih1 _ _ _ | exact ih2 _ _ _ _ | exact spec_IsPartition.mono _ _ | exact xl | refine LeO.ite ?_ ?_ | refine LeO.bind ?_ fun _ => ?_
  ·intro y0 y1 y2 y3
   unfold spec_IsFilling.l1
   repeat' with_reducible first | exact ih0 _ _ _ | exact ih1 _ _ _ | exact ih2 _ _ _ _ | exact spec_IsPartition.mono _ _ | exact xl | refine LeO.ite ?_ ?_ | refine LeO.bind ?_ fun _ => ?_
theorem spec_IsFilling.mono : ∀ a0 a1 k, LeO (spec_IsFilling.f k a0 a1) (spec_IsFilling.f (k + 1) a0 a1) := by
 intro a0 a1 k
 obtain ⟨ih0, ih1, ih2⟩ := spec_IsFilling.mono_l k
 unfold spec_IsFilling.f
 repeat' with_reducible first | exact ih0 _ _ _ | exact ih1 _ _ _ | exact ih2 _ _ _ _ | exact spec_IsPartition.mono _ _ | exact xl | refine LeO.ite ?_ ?_ | refine LeO.bind ?_ fun _ => ?_
theorem spec_IsFilling.calls (k : Nat) (A0 : Option Addr) (c0 : Nat) (l0 : List Int) (A1 : Option Addr) (c1 : Nat) (l1 : List (List Int)) (r : Bool) (w : World) (hr0 : Kd.C (Kd.int .i64) w A0 l0.length l0) (hc0 : l0.length ≤ c0) (hr1 : Kd.C (Kd.slice 3 (Kd.int .i64)) w A1 l1.length l1) (hc1 : l1.length ≤ c1) (h : spec_IsFilling.f k l0 l1 = some r) :
  Calls Try.prog 17 #[.slice A0 l0.length c0, .slice A1 l1.length c1] w fun e w' => e = .returned (.bool r) ∧ Below w.heap.size w w' := by
 have HR0 := ax hr0
 have HC0 := ax hc0
 clear hr0 hc0
 have HR1 := ax hr1
 have HC1 := ax hc1
 clear hr1 hc1
 have HB := ax (Below.refl w.heap.size w)
 have H : ((spec_IsPartition.f k l0).bind fun t340 => (if t340 = true then (spec_IsFilling.j0 k l0 l1 ((l1.length : Int) != (l0.length : Int))) else (spec_IsFilling.j0 k l0 l1 true))) = some r := h
 clear h
 have HC3 := ax H
 clear H
 go_enter Try.func17, Try.ntmps17
 go_upto_region 1 with (fail)
 repeat (go_quiet (fail); go_upto_region 1 with (fail))
 go_cut [16] (fun v16 wc => ∃ (kq : Nat) (x16_2 : Bool), v16 = .bool x16_2 ∧ Aside0 (spec_IsFilling.j0 kq l0 l1 x16_2 = some r) ∧ Aside0 (kq ≤ k) ∧ Aside0 (Below w.heap.size w wc))
 case first =>
  have H := HC3.out
  clear HC3
  obtain ⟨t340, A4, H⟩ := xI H
  by_cases c5 : t340 = true
  ·subst c5
   rw [if_pos rfl] at H
   have H' := ax H
   clear H
   go_wp2_with (first | (go_at_call 40; (with_reducible refine (spec_IsPartition.calls k _ _ l0 true _ ?side1 ?side2 A4.out).mono ?_); (case side1 => exact xz HR0.out HB.out); (case side2 => exact HC0.out); rintro e w6 ⟨rfl, hb⟩; replace HB := yB HB hb; (try clear hb)))
   repeat (go_quiet (first | (go_at_call 40; (with_reducible refine (spec_IsPartition.calls k _ _ l0 true _ ?side1 ?side2 A4.out).mono ?_); (case side1 => exact xz HR0.out HB.out); (case side2 => exact HC0.out); rintro e w6 ⟨rfl, hb⟩; replace HB := yB HB hb; (try clear hb))); try go_wp2_with (first | (go_at_call 40; (with_reducible refine (spec_IsPartition.calls k _ _ l0 true _ ?side1 ?side2 A4.out).mono ?_); (case side1 => exact xz HR0.out HB.out); (case side2 => exact HC0.out); rintro e w6 ⟨rfl, hb⟩; replace HB := yB HB hb; (try clear hb))))
   go_meet
   case rel => exact ⟨_, (((l1.length : Int) != (l0.length : Int))), xr, H', ⟨by first | omega | exact Nat.le_refl _⟩, ⟨xb HB.out⟩⟩
  ·replace c5 := Bool.eq_false_iff.mpr c5
   subst c5
   rw [if_neg (show ¬ (false = true) by decide)] at H
   have H' := ax H
   clear H
   go_wp2_with (first | (go_at_call 40; (with_reducible refine (spec_IsPartition.calls k _ _ l0 false _ ?side1 ?side2 A4.out).mono ?_); (case side1 => exact xz HR0.out HB.out); (case side2 => exact HC0.out); rintro e w7 ⟨rfl, hb⟩; replace HB := yB HB hb; (try clear hb)))
   repeat (go_quiet (first | (go_at_call 40; (with_reducible refine (spec_IsPartition.calls k _ _ l0 false _ ?side1 ?side2 A4.out).mono ?_); (case side1 => exact xz HR0.out HB.out); (case side2 => exact HC0.out); rintro e w7 ⟨rfl, hb⟩; replace HB := yB HB hb; (try clear hb))); try go_wp2_with (first | (go_at_call 40; (with_reducible refine (spec_IsPartition.calls k _ _ l0 false _ ?side1 ?side2 A4.out).mono ?_); (case side1 => exact xz HR0.out HB.out); (case side2 => exact HC0.out); rintro e w7 ⟨rfl, hb⟩; replace HB := yB HB hb; (try clear hb))))
   go_meet
   case rel => exact ⟨_, (true), xr, H', ⟨by first | omega | exact Nat.le_refl _⟩, ⟨xb HB.out⟩⟩
 case rest =>
  clear HC3
  (try clear c1); (try clear c5)
  obtain ⟨kq, x16_2, rfl, HA, HJ2, HB⟩ := hcut
  cases kq with
  | zero => exact absurd HA.out (by simp [spec_IsFilling.j0])
  | succ kj2 =>
   have H := HA.out
   clear HA
   simp only [spec_IsFilling.j0] at H
   by_cases c8 : x16_2 = true
   ·subst c8
    rw [if_pos rfl] at H
    obtain rfl := Option.some.inj H
    go_wp2
    repeat (go_quiet (fail); try go_wp2)
    go_ret
    exact ⟨xe, xb HB.out⟩
   ·replace c8 := Bool.eq_false_iff.mpr c8
    subst c8
    rw [if_neg (show ¬ (false = true) by decide)] at H
    have H' := ax H
    clear H
    go_wp2
    repeat (go_quiet (fail); try go_wp2)
    go_loopg [5] kj2 (fun kq v5 w' => ∃ (x5_2 : Int), v5 = .int .i64 x5_2 ∧ Aside0 (spec_IsFilling.l0 kq l0 l1 x5_2 = some r) ∧ Aside0 (kq ≤ kj2) ∧ Aside0 (Below w.heap.size w w'))
    case atStart => exact ⟨(0), xr, H', ⟨Nat.le_refl _⟩, ⟨xb HB.out⟩⟩
    case round =>
     clear H'
     (try clear c1); (try clear c5); (try clear c8)
     obtain ⟨x5_2, rfl, HA, HK2, HB⟩ := hrel
     cases gk with
     | zero => exact absurd HA.out (by simp [spec_IsFilling.l0])
     | succ k2 =>
      have H := HA.out
      clear HA
      simp only [spec_IsFilling.l0] at H
      by_cases c9 : x5_2 < (l0.length : Int)
      ·rw [if_pos c9] at H
       have c9b0 := decide_eq_true c9
       clear c9
       obtain ⟨c10b0, H⟩ := xq H
       obtain ⟨c11b0, H⟩ := xq H
       by_cases c12 : ((rd_L2 l1 x5_2).length : Int) = (rd l0 x5_2)
       ·rw [if_pos c12] at H
        have c12b0 : (((rd_L2 l1 x5_2).length : Int) == (rd l0 x5_2)) = true := beq_iff_eq.mpr c12
        have c12b1 : (((rd_L2 l1 x5_2).length : Int) != (rd l0 x5_2)) = false := bne_eq_false_iff_eq.mpr c12
        clear c12
        have H' := ax H
        clear H
        have p341 : 0 ≤ (x5_2 : Int) := xd
        have q341 : x5_2 < (l1.length : Int) := xd
        obtain ⟨ad341, A341_0, c341_0, e341, hx341_0, hl341_0, hi341_0⟩ := at_L2 HR1.out x5_2 p341 q341
        cases e341
        (try replace hx341_0 := (HB.out.cell (World.block_lt_of_cell? w _ hx341_0)).trans hx341_0)
        have HR341_0 := ax hi341_0
        have HC341_0 := ax hl341_0
        clear hi341_0 hl341_0
        replace p341 := eq_true p341
        replace q341 := eq_true q341
        have p342 : 0 ≤ (x5_2 : Int) := xd
        have q342 : x5_2 < (l0.length : Int) := xd
        obtain ⟨ad342, e342, hx342_0⟩ := Kd.at_int HR0.out x5_2 p342 q342
        cases e342
        (try replace hx342_0 := (HB.out.cell (World.block_lt_of_cell? w _ hx342_0)).trans hx342_0)
        replace p342 := eq_true p342
        replace q342 := eq_true q342
        go_wp2
        repeat (go_quiet (fail); try go_wp2)
        go_loopg [6] k2 (fun kq v6 w' => ∃ (x6_3 : Int), v6 = .int .i64 x6_3 ∧ Aside0 (spec_IsFilling.l1 kq l0 l1 x5_2 x6_3 = some r) ∧ Aside0 (kq ≤ k2) ∧ Aside0 (Below w.heap.size w w'))
        case atStart => exact ⟨(0), xr, H', ⟨Nat.le_refl _⟩, ⟨xb HB.out⟩⟩
        case round =>
         clear H'
         (try clear c1); (try clear c5); (try clear c8); (try clear c9); (try clear c9b0); (try clear c10); (try clear c10b0); (try clear c11); (try clear c11b0); (try clear c12); (try clear c12b0); (try clear c12b1); (try clear hx341_0); (try clear hx342_0); (try clear p341); (try clear p342); (try clear q341); (try clear q342)
         obtain ⟨x6_3, rfl, HA, HK3, HB⟩ := hrel
         cases gk with
         | zero => exact absurd HA.out (by simp [spec_IsFilling.l1])
         | succ k3 =>
          have H := HA.out
          clear HA
          simp only [spec_IsFilling.l1] at H
          obtain ⟨c13b0, H⟩ := xq H
          obtain ⟨c14b0, H⟩ := xq H
          by_cases c15 : x6_3 < (rd l0 x5_2)
          ·rw [if_pos c15] at H
           have c15b0 := decide_eq_true c15
           clear c15
           obtain ⟨c16b0, H⟩ := xq H
           obtain ⟨c17b0, H⟩ := xq H
           obtain ⟨c18b0, H⟩ := xq H
           obtain ⟨t346, A19, H⟩ := xI H
           by_cases c20 : t346 = true
           ·subst c20
            rw [if_pos rfl] at H
            have H' := ax H
            clear H
            have p343 : 0 ≤ (x5_2 : Int) := xd
            have q343 : x5_2 < (l0.length : Int) := xd
            obtain ⟨ad343, e343, hx343_0⟩ := Kd.at_int HR0.out x5_2 p343 q343
            obtain rfl : ad342 = ad343 := (by injection e343)
            (try replace hx343_0 := (HB.out.cell (World.block_lt_of_cell? w _ hx343_0)).trans hx343_0)
            replace p343 := eq_true p343
            replace q343 := eq_true q343
            have p344 : 0 ≤ (x5_2 : Int) := xd
            have q344 : x5_2 < (l1.length : Int) := xd
            obtain ⟨ad344, A344_0, c344_0, e344, hx344_0, hl344_0, hi344_0⟩ := at_L2 HR1.out x5_2 p344 q344
            obtain rfl : ad341 = ad344 := (by injection e344)
            (try replace hx344_0 := (HB.out.cell (World.block_lt_of_cell? w _ hx344_0)).trans hx344_0)
            have HR344_0 := ax hi344_0
            have HC344_0 := ax hl344_0
            clear hi344_0 hl344_0
            replace p344 := eq_true p344
            replace q344 := eq_true q344
            have p345 : 0 ≤ (x6_3 : Int) := xd
            have q345 : x6_3 < ((rd_L2 l1 x5_2).length : Int) := xd
            obtain ⟨ad345, e345, hx345_0⟩ := Kd.at_int HR344_0.out x6_3 p345 q345
            cases e345
            (try replace hx345_0 := (HB.out.cell (World.block_lt_of_cell? w _ hx345_0)).trans hx345_0)
            replace p345 := eq_true p345
            replace q345 := eq_true q345
            go_wp2_with (first | (go_at_call 33; (with_reducible refine (spec_l1In.calls (rd (rd_L2 l1 x5_2) x6_3) 0 9 true _ A19.out).mono ?_); rintro e w' ⟨rfl, ⟨nd, rfl⟩⟩; (try first | exact ⟨rfl, _, World.drewN_drewN _ _ _⟩ | exact ⟨rfl, _, Eq.trans (World.drewN_drewN _ _ _) (congrArg (World.drewN _) (Nat.add_assoc _ _ _))⟩)))
            repeat (go_quiet (first | (go_at_call 33; (with_reducible refine (spec_l1In.calls (rd (rd_L2 l1 x5_2) x6_3) 0 9 true _ A19.out).mono ?_); rintro e w' ⟨rfl, ⟨nd, rfl⟩⟩; (try first | exact ⟨rfl, _, World.drewN_drewN _ _ _⟩ | exact ⟨rfl, _, Eq.trans (World.drewN_drewN _ _ _) (congrArg (World.drewN _) (Nat.add_assoc _ _ _))⟩))); try go_wp2_with (first | (go_at_call 33; (with_reducible refine (spec_l1In.calls (rd (rd_L2 l1 x5_2) x6_3) 0 9 true _ A19.out).mono ?_); rintro e w' ⟨rfl, ⟨nd, rfl⟩⟩; (try first | exact ⟨rfl, _, World.drewN_drewN _ _ _⟩ | exact ⟨rfl, _, Eq.trans (World.drewN_drewN _ _ _) (congrArg (World.drewN _) (Nat.add_assoc _ _ _))⟩))))
            go_roundg k3
            case measure => have := HJ2.out; have := HK2.out; have := HK3.out; omega
            case rel => exact ⟨(wrap64 (x6_3 + 1)), xr, H', ⟨by have := HJ2.out; have := HK2.out; have := HK3.out; omega⟩, ⟨xb HB.out⟩⟩
           ·replace c20 := Bool.eq_false_iff.mpr c20
            subst c20
            rw [if_neg (show ¬ (false = true) by decide)] at H
            obtain rfl := Option.some.inj H
            have p343 : 0 ≤ (x5_2 : Int) := xd
            have q343 : x5_2 < (l0.length : Int) := xd
            obtain ⟨ad343, e343, hx343_0⟩ := Kd.at_int HR0.out x5_2 p343 q343
            obtain rfl : ad342 = ad343 := (by injection e343)
            (try replace hx343_0 := (HB.out.cell (World.block_lt_of_cell? w _ hx343_0)).trans hx343_0)
            replace p343 := eq_true p343
            replace q343 := eq_true q343
            have p344 : 0 ≤ (x5_2 : Int) := xd
            have q344 : x5_2 < (l1.length : Int) := xd
            obtain ⟨ad344, A344_0, c344_0, e344, hx344_0, hl344_0, hi344_0⟩ := at_L2 HR1.out x5_2 p344 q344
            obtain rfl : ad341 = ad344 := (by injection e344)
            (try replace hx344_0 := (HB.out.cell (World.block_lt_of_cell? w _ hx344_0)).trans hx344_0)
            have HR344_0 := ax hi344_0
            have HC344_0 := ax hl344_0
            clear hi344_0 hl344_0
            replace p344 := eq_true p344
            replace q344 := eq_true q344
            have p345 : 0 ≤ (x6_3 : Int) := xd
            have q345 : x6_3 < ((rd_L2 l1 x5_2).length : Int) := xd
            obtain ⟨ad345, e345, hx345_0⟩ := Kd.at_int HR344_0.out x6_3 p345 q345
            cases e345
            (try replace hx345_0 := (HB.out.cell (World.block_lt_of_cell? w _ hx345_0)).trans hx345_0)
            replace p345 := eq_true p345
            replace q345 := eq_true q345
            go_wp2_with (first | (go_at_call 33; (with_reducible refine (spec_l1In.calls (rd (rd_L2 l1 x5_2) x6_3) 0 9 false _ A19.out).mono ?_); rintro e w' ⟨rfl, ⟨nd, rfl⟩⟩; (try first | exact ⟨rfl, _, World.drewN_drewN _ _ _⟩ | exact ⟨rfl, _, Eq.trans (World.drewN_drewN _ _ _) (congrArg (World.drewN _) (Nat.add_assoc _ _ _))⟩)))
            repeat (go_quiet (first | (go_at_call 33; (with_reducible refine (spec_l1In.calls (rd (rd_L2 l1 x5_2) x6_3) 0 9 false _ A19.out).mono ?_); rintro e w' ⟨rfl, ⟨nd, rfl⟩⟩; (try first | exact ⟨rfl, _, World.drewN_drewN _ _ _⟩ | exact ⟨rfl, _, Eq.trans (World.drewN_drewN _ _ _) (congrArg (World.drewN _) (Nat.add_assoc _ _ _))⟩))); try go_wp2_with (first | (go_at_call 33; (with_reducible refine (spec_l1In.calls (rd (rd_L2 l1 x5_2) x6_3) 0 9 false _ A19.out).mono ?_); rintro e w' ⟨rfl, ⟨nd, rfl⟩⟩; (try first | exact ⟨rfl, _, World.drewN_drewN _ _ _⟩ | exact ⟨rfl, _, Eq.trans (World.drewN_drewN _ _ _) (congrArg (World.drewN _) (Nat.add_assoc _ _ _))⟩))))
            go_ret
            exact ⟨xe, xb HB.out⟩
          ·rw [if_neg c15] at H
           have c15b0 := decide_eq_false c15
           clear c15
           have H' := ax H
           clear H
           have p343 : 0 ≤ (x5_2 : Int) := xd
           have q343 : x5_2 < (l0.length : Int) := xd
           obtain ⟨ad343, e343, hx343_0⟩ := Kd.at_int HR0.out x5_2 p343 q343
           obtain rfl : ad342 = ad343 := (by injection e343)
           (try replace hx343_0 := (HB.out.cell (World.block_lt_of_cell? w _ hx343_0)).trans hx343_0)
           replace p343 := eq_true p343
           replace q343 := eq_true q343
           go_wp2
           repeat (go_quiet (fail); try go_wp2)
           go_roundg k3
           case measure => have := HJ2.out; have := HK2.out; have := HK3.out; omega
           case rel => exact ⟨(wrap64 (x5_2 + 1)), xr, H', ⟨by have := HJ2.out; have := HK2.out; have := HK3.out; omega⟩, ⟨xb HB.out⟩⟩
       ·rw [if_neg c12] at H
        have c12b0 : (((rd_L2 l1 x5_2).length : Int) == (rd l0 x5_2)) = false := beq_eq_false_iff_ne.mpr c12
        have c12b1 : (((rd_L2 l1 x5_2).length : Int) != (rd l0 x5_2)) = true := bne_iff_ne.mpr c12
        obtain rfl := Option.some.inj H
        have p341 : 0 ≤ (x5_2 : Int) := xd
        have q341 : x5_2 < (l1.length : Int) := xd
        obtain ⟨ad341, A341_0, c341_0, e341, hx341_0, hl341_0, hi341_0⟩ := at_L2 HR1.out x5_2 p341 q341
        cases e341
        (try replace hx341_0 := (HB.out.cell (World.block_lt_of_cell? w _ hx341_0)).trans hx341_0)
        have HR341_0 := ax hi341_0
        have HC341_0 := ax hl341_0
        clear hi341_0 hl341_0
        replace p341 := eq_true p341
        replace q341 := eq_true q341
        have p342 : 0 ≤ (x5_2 : Int) := xd
        have q342 : x5_2 < (l0.length : Int) := xd
        obtain ⟨ad342, e342, hx342_0⟩ := Kd.at_int HR0.out x5_2 p342 q342
        cases e342
        (try replace hx342_0 := (HB.out.cell (World.block_lt_of_cell? w _ hx342_0)).trans hx342_0)
        replace p342 := eq_true p342
        replace q342 := eq_true q342
        go_wp2
        repeat (go_quiet (fail); try go_wp2)
        go_ret
        exact ⟨xe, xb HB.out⟩
      ·rw [if_neg c9] at H
       have c9b0 := decide_eq_false c9
       clear c9
       obtain rfl := Option.some.inj H
       go_wp2
       repeat (go_quiet (fail); try go_wp2)
       go_ret
       exact ⟨xe, xb HB.out⟩

end Go.Proofs.Ytnfcdaojglicfab.PFnFillings
