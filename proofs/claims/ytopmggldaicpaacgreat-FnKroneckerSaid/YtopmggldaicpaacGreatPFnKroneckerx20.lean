import Derived.Test.YtopmggldaicpaacGreatPFnKroneckerx14
import Derived.Test.YtopmggldaicpaacGreatPFnKroneckerx19
namespace Go.Proofs.YtopmggldaicpaacGreat.PFnKronecker
open Go.RowKit Go.Proofs.YtopmggldaicpaacGreatW.PrintWords Go.Proofs.YtopmggldaicpaacGreatW.PrintLast Go.Proofs.YtopmggldaicpaacGreatW.PrintMore
set_option linter.unusedVariables false
set_option linter.unusedSimpArgs false
set_option maxHeartbeats 8000000
set_option maxRecDepth 100000
/-! ### impl_classSum: function 31 -/
mutual
def impl_classSum.l0 : Nat → List (List Int) → Int → List (List Int) → Int → Int → Option (Int)
 | 0, _, _, _, _, _ => none
 | k + 1, x0, x3, x16, x17, x18 => if x18 < x17 then (if 0 ≤ x18 then (if x18 < (x16.length : Int) then ((impl_SizeOf.f k (rd_L2 x16 x18)).bind fun t595 => (if t595 = x3 then ((impl_within.f x3 0 6).bind fun t596 => (if t596 = true then (impl_classSum.l0 k x0 x3 x16 x17 (wrap64 (x18 + 1))) else (some 0))) else (some 0))) else (none)) else (none)) else ((impl_PartitionsOf.f k x3).bind fun t597 => (impl_classSum.l1 k x0 x3 0 t597 (t597.length : Int) 0))
def impl_classSum.l1 : Nat → List (List Int) → Int → Int → List (List Int) → Int → Int → Option (Int)
 | 0, _, _, _, _, _, _ => none
 | k + 1, x0, x3, x6, x33, x34, x35 => if x35 < x34 then (if 0 ≤ x35 then (if x35 < (x33.length : Int) then ((impl_ClassSize.f k (rd_L2 x33 x35)).bind fun t602 => (impl_classSum.l2 k x0 x3 x6 (rd_L2 x33 x35) t602 x33 x34 x35 x0 (x0.length : Int) 0)) else (none)) else (none)) else ((impl_factorial.f k x3).bind fun t600 => (if t600 = 0 then (none) else (some (wrap64 (Int.tdiv x6 t600)))))
def impl_classSum.l2 : Nat → List (List Int) → Int → Int → List Int → Int → List (List Int) → Int → Int → List (List Int) → Int → Int → Option (Int)
 | 0, _, _, _, _, _, _, _, _, _, _, _ => none
 | k + 1, x0, x3, x6, x8, x9, x33, x34, x35, x41, x42, x43 => if x43 < x42 then (if 0 ≤ x43 then (if x43 < (x41.length : Int) then ((impl_CharacterOf.f k (rd_L2 x41 x43) x8).bind fun t604 => (impl_classSum.l2 k x0 x3 x6 x8 (wrap64 (x9 * t604)) x33 x34 x35 x41 x42 (wrap64 (x43 + 1)))) else (none)) else (none)) else (impl_classSum.l1 k x0 x3 (wrap64 (x6 + x9)) x33 x34 (wrap64 (x35 + 1)))
end
def impl_classSum.f (k : Nat) (l0 : List (List Int)) : Option (Int) := if 0 < (l0.length : Int) then ((impl_SizeOf.f k (rd_L2 l0 0)).bind fun t593 => (impl_classSum.l0 k l0 t593 l0 (l0.length : Int) 0)) else (none)
theorem impl_classSum.mono_l : ∀ k, (∀ y0 y1 y2 y3 y4, LeO (impl_classSum.l0 k y0 y1 y2 y3 y4) (impl_classSum.l0 (k + 1) y0 y1 y2 y3 y4)) ∧ (∀ y0 y1 y2 y3 y4 y5, LeO (impl_classSum.l1 k y0 y1 y2 y3 y4 y5) (impl_classSum.l1 (k + 1) y0 y1 y2 y3 y4 y5)) ∧ (∀ y0 y1 y2 y3 y4 y5 y6 y7 y8 y9 y10, LeO (impl_classSum.l2 k y0 y1 y2 y3 y4 y5 y6 y7 y8 y9 y10) (impl_classSum.l2 (k + 1) y0 y1 y2 y3 y4 y5 y6 y7 y8 y9 y10))
 | 0 => ⟨fun _ _ _ _ _ r h => by simp [impl_classSum.l0] at h, fun _ _ _ _ _ _ r h => by simp [impl_classSum.l1] at h, fun _ _ _ _ _ _ _ _ _ _ _ r h => by simp [impl_classSum.l2] at h⟩
 | k + 1 => by
  obtain ⟨ih0, ih1, ih2⟩ := impl_classSum.mono_l k
  refine ⟨?_, ?_, ?_⟩
  ·intro y0 y1 y2 y3 y4
   unfold impl_classSum.l0
   repeat' with_reducible first | exact ih0 _ _ _ _ _ | exact ih1 _ _ _ _ _ _ | exact ih2 _ _ _ _ _ _ _ _ _ _ _ | exact impl_CharacterOf.mono _ _ _ | exact impl_ClassSize.mono _ _ | exact impl_PartitionsOf.mono _ _ | exact impl_SizeOf.mono _ _ | exact impl_factorial.mono _ _ | exact xl | refine LeO.ite ?_ ?_ | refine LeO.bind ?_ fun _ => ?_
  ·intro y0 y1 y2 y3 y4 y5
   unfold impl_classSum.l1
   repeat' with_reducible first | exact ih0 _ _ _ _ _ | exact ih1 _ _ _ _ _ _ | exact ih2 _ _ _ _ _ _ _ _ _ _ _ | exact impl_CharacterOf.mono _ _ _ | exact impl_ClassSize.mono _ _ | exact impl_PartitionsOf.mono _ _ | exact impl_SizeOf.mono _ _ | exact impl_factorial.mono _ _ | exact xl | refine LeO.ite ?_ ?_ | refine LeO.bind ?_ fun _ => ?_
  ·intro y0 y1 y2 y3 y4 y5 y6 y7 y8 y9 y10
   unfold impl_classSum.l2
   repeat' with_reducible first | exact ih0 _ _ _ _ _ | exact ih1 _ _ _ _ _ _ | exact ih2 _ _ _ _ _ _ _ _ _ _ _ | exact impl_CharacterOf.mono _ _ _ | exact impl_ClassSize.mono _ _ | exact impl_PartitionsOf.mono _ _ | exact impl_SizeOf.mono _ _ | exact impl_factorial.mono _ _ | exact xl | refine LeO.ite ?_ ?_ | refine LeO.bind ?_ fun _ => ?_
theorem impl_classSum.mono : ∀ a0 k, LeO (impl_classSum.f k a0) (impl_classSum.f (k + 1) a0) := by
 intro a0 k
 obtain ⟨ih0, ih1, ih2⟩ := impl_classSum.mono_l k
 unfold impl_classSum.f
 repeat' with_reducible first | exact ih0 _ _ _ _ _ | exact ih1 _ _ _ _ _ _ | exact ih2 _ _ _ _ _ _ _ _ _ _ _ | exact impl_CharacterOf.mono _ _ _ | exact impl_ClassSize.mono _ _ | exact impl_PartitionsOf.mono _ _ | exact impl_SizeOf.mono _ _ | exact impl_factorial.mono _ _ | exact xl | refine LeO.ite ?_ ?_ | refine LeO.bind ?_ fun _ => ?_
theorem impl_classSum.calls (k : Nat) (A0 : Option Addr) (c0 : Nat) (l0 : List (List Int)) (r : Int) (w : World) (hr0 : Kd.C (Kd.slice 3 (Kd.int .i64)) w A0 l0.length l0) (hc0 : l0.length ≤ c0) (h : impl_classSum.f k l0 = some r) :
  Calls Tryz.prog 31 #[.slice A0 l0.length c0] w fun e w' => e = .returned (.int .i64 r) ∧ Below w.heap.size w w' := by
 have HR0 := ax hr0
 have HC0 := ax hc0
 clear hr0 hc0
 have HB := ax (Below.refl w.heap.size w)
 have H : (if 0 < (l0.length : Int) then ((impl_SizeOf.f k (rd_L2 l0 0)).bind fun t593 => (impl_classSum.l0 k l0 t593 l0 (l0.length : Int) 0)) else (none)) = some r := h
 clear h
 obtain ⟨c2, H⟩ := xp H
 have c2b0 := decide_eq_true c2
 have c2b1 : decide (0 < l0.length) = true := decide_eq_true (by omega)
 clear c2
 obtain ⟨t593, A3, H⟩ := xI H
 have H' := ax H
 clear H
 have p592 : 0 ≤ (0 : Int) := (by omega)
 have q592 : 0 < (l0.length : Int) := xd
 obtain ⟨ad592, A592_0, c592_0, e592, hx592_0, hl592_0, hi592_0⟩ := at_L2 HR0.out 0 p592 q592
 cases e592
 have qi592 : (0 < l0.length) = True := eq_true (by omega)
 (try rw [show ((0 : Int)).toNat = 0 from rfl] at hx592_0)
 (try rw [Addr.add_zero'] at hx592_0)
 have HR592_0 := ax hi592_0
 have HC592_0 := ax hl592_0
 clear hi592_0 hl592_0
 replace p592 := eq_true p592
 replace q592 := eq_true q592
 go_enter Tryz.func31, Tryz.ntmps31
 go_wp2_with (first | ((with_reducible refine gate_callee (f := 54) rfl ?_); refine goesL_ (some 15) rfl rfl Tryz.func54 (by kernel_rfl) rfl #[.slice A592_0 (rd_L2 l0 0).length c592_0] rfl xm ?_; (with_reducible refine (impl_SizeOf.calls k _ _ (rd_L2 l0 0) t593 _ ?side1 ?side2 A3.out).mono ?_); (case side1 => exact xc HR592_0.out); (case side2 => exact HC592_0.out); rintro e w' ⟨rfl, ⟨nd, rfl⟩⟩; refine ⟨_, rfl, ?_⟩))
 go_loopg [18] k (fun kq v18 w' => ∃ (x18_1 : Int), v18 = .int .i64 x18_1 ∧ Aside0 (impl_classSum.l0 kq l0 t593 l0 (l0.length : Int) x18_1 = some r) ∧ Aside0 (kq ≤ k) ∧ Aside0 (Below w.heap.size w w'))
 case atStart => exact ⟨(0), xr, H', ⟨Nat.le_refl _⟩, ⟨xb HB.out⟩⟩
 case round =>
  clear H'
  (try clear c2); (try clear c2b0); (try clear c2b1); (try clear hx592_0); (try clear p592); (try clear q592)
  obtain ⟨x18_1, rfl, HA, HK1, HB⟩ := hrel
  cases gk with
  | zero => exact absurd HA.out (by simp [impl_classSum.l0])
  | succ k1 =>
   have H := HA.out
   clear HA
   simp only [impl_classSum.l0] at H
   by_cases c4 : x18_1 < (l0.length : Int)
   ·rw [if_pos c4] at H
    have c4b0 := decide_eq_true c4
    clear c4
    obtain ⟨c5b0, H⟩ := xq H
    obtain ⟨c6b0, H⟩ := xq H
    obtain ⟨t595, A7, H⟩ := xI H
    by_cases c8 : t595 = t593
    ·rw [if_pos c8] at H
     have c8b0 : (t595 == t593) = true := beq_iff_eq.mpr c8
     have c8b1 : (t595 != t593) = false := bne_eq_false_iff_eq.mpr c8
     clear c8
     obtain ⟨t596, A9, H⟩ := xI H
     by_cases c10 : t596 = true
     ·subst c10
      rw [if_pos rfl] at H
      have H' := ax H
      clear H
      have p594 : 0 ≤ (x18_1 : Int) := xd
      have q594 : x18_1 < (l0.length : Int) := xd
      obtain ⟨ad594, A594_0, c594_0, e594, hx594_0, hl594_0, hi594_0⟩ := at_L2 HR0.out x18_1 p594 q594
      obtain rfl : ad592 = ad594 := (by injection e594)
      (try replace hx594_0 := (HB.out.cell (World.block_lt_of_cell? w _ hx594_0)).trans hx594_0)
      have HR594_0 := ax hi594_0
      have HC594_0 := ax hl594_0
      clear hi594_0 hl594_0
      replace p594 := eq_true p594
      replace q594 := eq_true q594
      go_wp2_with (first | ((with_reducible refine gate_callee (f := 54) rfl ?_); refine goesL_ (some 23) rfl rfl Tryz.func54 (by kernel_rfl) rfl #[.slice A594_0 (rd_L2 l0 x18_1).length c594_0] rfl xm ?_; (with_reducible refine (impl_SizeOf.calls k1 _ _ (rd_L2 l0 x18_1) t595 _ ?side1 ?side2 A7.out).mono ?_); (case side1 => exact xz HR594_0.out HB.out); (case side2 => exact HC594_0.out); rintro e w' ⟨rfl, ⟨nd, rfl⟩⟩; refine ⟨_, rfl, ?_⟩) | (go_at_call 55; (with_reducible refine (impl_within.calls t593 0 6 true _ A9.out).mono ?_); rintro e w' ⟨rfl, ⟨nd, rfl⟩⟩))
      go_roundg k1
      case measure => have := HK1.out; omega
      case rel => exact ⟨(wrap64 (x18_1 + 1)), xr, H', ⟨by have := HK1.out; omega⟩, ⟨xb HB.out⟩⟩
     ·replace c10 := Bool.eq_false_iff.mpr c10
      subst c10
      rw [if_neg (show ¬ (false = true) by decide)] at H
      obtain rfl := Option.some.inj H
      have p594 : 0 ≤ (x18_1 : Int) := xd
      have q594 : x18_1 < (l0.length : Int) := xd
      obtain ⟨ad594, A594_0, c594_0, e594, hx594_0, hl594_0, hi594_0⟩ := at_L2 HR0.out x18_1 p594 q594
      obtain rfl : ad592 = ad594 := (by injection e594)
      (try replace hx594_0 := (HB.out.cell (World.block_lt_of_cell? w _ hx594_0)).trans hx594_0)
      have HR594_0 := ax hi594_0
      have HC594_0 := ax hl594_0
      clear hi594_0 hl594_0
      replace p594 := eq_true p594
      replace q594 := eq_true q594
      go_wp2_with (first | ((with_reducible refine gate_callee (f := 54) rfl ?_); refine goesL_ (some 23) rfl rfl Tryz.func54 (by kernel_rfl) rfl #[.slice A594_0 (rd_L2 l0 x18_1).length c594_0] rfl xm ?_; (with_reducible refine (impl_SizeOf.calls k1 _ _ (rd_L2 l0 x18_1) t595 _ ?side1 ?side2 A7.out).mono ?_); (case side1 => exact xz HR594_0.out HB.out); (case side2 => exact HC594_0.out); rintro e w' ⟨rfl, ⟨nd, rfl⟩⟩; refine ⟨_, rfl, ?_⟩) | (go_at_call 55; (with_reducible refine (impl_within.calls t593 0 6 false _ A9.out).mono ?_); rintro e w' ⟨rfl, ⟨nd, rfl⟩⟩))
      go_ret
      exact ⟨xe, xb HB.out⟩
    ·rw [if_neg c8] at H
     have c8b0 : (t595 == t593) = false := beq_eq_false_iff_ne.mpr c8
     have c8b1 : (t595 != t593) = true := bne_iff_ne.mpr c8
     obtain rfl := Option.some.inj H
     have p594 : 0 ≤ (x18_1 : Int) := xd
     have q594 : x18_1 < (l0.length : Int) := xd
     obtain ⟨ad594, A594_0, c594_0, e594, hx594_0, hl594_0, hi594_0⟩ := at_L2 HR0.out x18_1 p594 q594
     obtain rfl : ad592 = ad594 := (by injection e594)
     (try replace hx594_0 := (HB.out.cell (World.block_lt_of_cell? w _ hx594_0)).trans hx594_0)
     have HR594_0 := ax hi594_0
     have HC594_0 := ax hl594_0
     clear hi594_0 hl594_0
     replace p594 := eq_true p594
     replace q594 := eq_true q594
     go_wp2_with (first | ((with_reducible refine gate_callee (f := 54) rfl ?_); refine goesL_ (some 23) rfl rfl Tryz.func54 (by kernel_rfl) rfl #[.slice A594_0 (rd_L2 l0 x18_1).length c594_0] rfl xm ?_; (with_reducible refine (impl_SizeOf.calls k1 _ _ (rd_L2 l0 x18_1) t595 _ ?side1 ?side2 A7.out).mono ?_); (case side1 => exact xz HR594_0.out HB.out); (case side2 => exact HC594_0.out); rintro e w' ⟨rfl, ⟨nd, rfl⟩⟩; refine ⟨_, rfl, ?_⟩))
     go_ret
     exact ⟨xe, xb HB.out⟩
   ·rw [if_neg c4] at H
    have c4b0 := decide_eq_false c4
    clear c4
    obtain ⟨t597, A11, H⟩ := xI H
    have H' := ax H
    clear H
    go_wp2_with (first | ((with_reducible refine gate_callee (f := 56) rfl ?_); refine goesL_ (some 33) rfl rfl Tryz.func56 (by kernel_rfl) rfl #[.int .i64 t593] rfl xm ?_; (with_reducible refine (impl_PartitionsOf.calls k1 t593 t597 _ A11.out).mono ?_); rintro e w12 ⟨v598, rfl, ho0, hb⟩; refine ⟨_, rfl, ?_⟩; have HO599 := ax (Kd.N_lower (Kd.N_mono (ok' := fun k_ => True) ho0 (fun k_ hk_ => trivial)) (below_size (xb HB.out))); replace HB := yB HB hb; (try clear hb); (try clear ho0); obtain ⟨Ao13, co13, eo13⟩ := Kd.N_slice HO599.out; subst eo13))
    go_loopg [6, 35] k1 (fun kq v6 v35 w' => ∃ (x6_2 : Int) (x35_2 : Int), v6 = .int .i64 x6_2 ∧ v35 = .int .i64 x35_2 ∧ Aside0 (impl_classSum.l1 kq l0 t593 x6_2 t597 (t597.length : Int) x35_2 = some r) ∧ Aside0 (kq ≤ k1) ∧ Aside0 (Kd.N (Kd.slice 3 (Kd.int .i64)) 24 w' w.heap.size (fun _ => True) (.slice Ao13 t597.length co13) t597) ∧ Aside0 (Below w.heap.size w w'))
    case atStart => exact ⟨(0), (0), xr, xr, H', ⟨Nat.le_refl _⟩, ⟨xN HO599.out⟩, ⟨xb HB.out⟩⟩
    case round =>
     clear H'
     (try clear c2); (try clear c2b0); (try clear c2b1); (try clear c4); (try clear c4b0); (try clear c5); (try clear c5b0); (try clear c6); (try clear c6b0); (try clear c8); (try clear c8b0); (try clear c8b1); (try clear c10); (try clear hx592_0); (try clear hx594_0); (try clear p592); (try clear p594); (try clear q592); (try clear q594)
     obtain ⟨x6_2, x35_2, rfl, rfl, HA, HK2, HO_33, HB⟩ := hrel
     cases gk with
     | zero => exact absurd HA.out (by simp [impl_classSum.l1])
     | succ k2 =>
      have H := HA.out
      clear HA
      simp only [impl_classSum.l1] at H
      by_cases c14 : x35_2 < (t597.length : Int)
      ·rw [if_pos c14] at H
       have c14b0 := decide_eq_true c14
       clear c14
       obtain ⟨c15b0, H⟩ := xq H
       obtain ⟨c16b0, H⟩ := xq H
       obtain ⟨t602, A17, H⟩ := xI H
       have H' := ax H
       clear H
       have p601 : 0 ≤ (x35_2 : Int) := xd
       have q601 : x35_2 < (t597.length : Int) := xd
       obtain ⟨ad601, A601_0, c601_0, e601, hx601_0, hl601_0, hi601_0⟩ := at_L2 (Kd.N_reads' HO_33.out).2.2 x35_2 p601 q601
       cases e601
       obtain ⟨ce601, hce601, hMe601, hcc601⟩ := Kd.N_get HO_33.out [] x35_2 p601 (by first | exact q601 | exact xd | (have e_ := (Kd.N_reads' HO_33.out).1; omega))
       obtain ⟨ua601_0, uc601_0, rfl, ul601_0, ge601_0⟩ := Kd.FK_slice_open hMe601
       have hv601_0 := hcc601 0 _ rfl
       rw [Nat.add_zero, show ((Kd.slice 3 (Kd.int .i64))).sz = 1 from rfl, Nat.mul_one] at hv601_0
       replace hv601_0 := Option.some.inj (hv601_0.symm.trans hx601_0)
       injection hv601_0 with hva_ hvn_ hvc_
       rw [hva_] at ge601_0
       rw [hvc_] at ul601_0
       have HL601_0 := ax (show Kd.V (Kd.int .i64) 3 _ w.heap.size _ _ (rd_L2 t597 x35_2) from Kd.V_mk ul601_0 ge601_0)
       clear hva_ hvn_ hvc_ ge601_0 ul601_0 hcc601 hce601
       have HR601_0 := ax hi601_0
       have HC601_0 := ax hl601_0
       clear hi601_0 hl601_0
       replace p601 := eq_true p601
       replace q601 := eq_true q601
       go_wp2_with (first | ((with_reducible refine gate_callee (f := 11) rfl ?_); refine goesL_ (some 40) rfl rfl Tryz.func11 (by kernel_rfl) rfl #[.slice A601_0 (rd_L2 t597 x35_2).length c601_0] rfl xm ?_; (with_reducible refine (impl_ClassSize.calls k2 _ _ (rd_L2 t597 x35_2) t602 _ ?side1 ?side2 A17.out).mono ?_); (case side1 => exact xw HR601_0.out); (case side2 => exact HC601_0.out); rintro e w18 ⟨rfl, hb⟩; refine ⟨_, rfl, ?_⟩; replace HO_33 := ax (Kd.N_below (xN HO_33.out) hb); replace HL601_0 := yV HL601_0 hb; replace HR601_0 := ax (Kd.C_below (xw HR601_0.out) hb); replace HB := yB HB hb; (try clear hb)))
       go_loopg [9, 43] k2 (fun kq v9 v43 w' => ∃ (x9_3 : Int) (x43_3 : Int), v9 = .int .i64 x9_3 ∧ v43 = .int .i64 x43_3 ∧ Aside0 (impl_classSum.l2 kq l0 t593 x6_2 (rd_L2 t597 x35_2) x9_3 t597 (t597.length : Int) x35_2 l0 (l0.length : Int) x43_3 = some r) ∧ Aside0 (kq ≤ k2) ∧ Aside0 (Kd.N (Kd.slice 3 (Kd.int .i64)) 24 w' w.heap.size (fun _ => True) (.slice (some ad601) t597.length co13) t597) ∧ Aside0 (Kd.C (Kd.int .i64) w' A601_0 (rd_L2 t597 x35_2).length (rd_L2 t597 x35_2)) ∧ Aside0 (Below w.heap.size w w'))
       case atStart => exact ⟨(t602), (0), xr, xr, H', ⟨Nat.le_refl _⟩, ⟨xN HO_33.out⟩, ⟨by repeat (first | (with_reducible exact HR601_0.out) | (with_reducible refine Kd.C_alloc ?_ _) | (with_reducible refine Kd.C_drewN ?_ _) | (with_reducible refine Kd.C_drew ?_) | exact HR601_0.out)⟩, ⟨xb HB.out⟩⟩
       case round =>
        clear H'
        (try clear c2); (try clear c2b0); (try clear c2b1); (try clear c4); (try clear c4b0); (try clear c5); (try clear c5b0); (try clear c6); (try clear c6b0); (try clear c8); (try clear c8b0); (try clear c8b1); (try clear c10); (try clear c14); (try clear c14b0); (try clear c15); (try clear c15b0); (try clear c16); (try clear c16b0); (try clear hx592_0); (try clear hx594_0); (try clear hx601_0); (try clear p592); (try clear p594); (try clear p601); (try clear q592); (try clear q594); (try clear q601)
        obtain ⟨x9_3, x43_3, rfl, rfl, HA, HK3, HO_33, HR601_0, HB⟩ := hrel
        cases gk with
        | zero => exact absurd HA.out (by simp [impl_classSum.l2])
        | succ k3 =>
         have H := HA.out
         clear HA
         simp only [impl_classSum.l2] at H
         by_cases c19 : x43_3 < (l0.length : Int)
         ·rw [if_pos c19] at H
          have c19b0 := decide_eq_true c19
          clear c19
          obtain ⟨c20b0, H⟩ := xq H
          obtain ⟨c21b0, H⟩ := xq H
          obtain ⟨t604, A22, H⟩ := xI H
          have H' := ax H
          clear H
          have p603 : 0 ≤ (x43_3 : Int) := xd
          have q603 : x43_3 < (l0.length : Int) := xd
          obtain ⟨ad603, A603_0, c603_0, e603, hx603_0, hl603_0, hi603_0⟩ := at_L2 HR0.out x43_3 p603 q603
          obtain rfl : ad592 = ad603 := (by injection e603)
          (try replace hx603_0 := (HB.out.cell (World.block_lt_of_cell? w _ hx603_0)).trans hx603_0)
          have HR603_0 := ax hi603_0
          have HC603_0 := ax hl603_0
          clear hi603_0 hl603_0
          replace p603 := eq_true p603
          replace q603 := eq_true q603
          go_wp2_with (first | ((with_reducible refine gate_callee (f := 57) rfl ?_); refine goesL_ (some 50) rfl rfl Tryz.func57 (by kernel_rfl) rfl #[.slice A603_0 (rd_L2 l0 x43_3).length c603_0, .slice A601_0 (rd_L2 t597 x35_2).length c601_0] rfl xm ?_; (with_reducible refine (impl_CharacterOf.calls k3 _ _ (rd_L2 l0 x43_3) _ _ (rd_L2 t597 x35_2) t604 _ ?side1 ?side2 ?side3 ?side4 A22.out).mono ?_); (case side1 => exact xz HR603_0.out HB.out); (case side2 => exact HC603_0.out); (case side3 => exact xz HR601_0.out HB.out); (case side4 => exact HC601_0.out); rintro e w23 ⟨rfl, hb⟩; refine ⟨_, rfl, ?_⟩; replace HO_33 := ax (Kd.N_below (xN HO_33.out) hb); replace HR601_0 := ax (Kd.C_below (xw HR601_0.out) hb); replace HB := yB HB hb; (try clear hb)))
          go_roundg k3
          case measure => have := HK1.out; have := HK2.out; have := HK3.out; omega
          case rel => exact ⟨(wrap64 (x9_3 * t604)), (wrap64 (x43_3 + 1)), xr, xr, H', ⟨by have := HK1.out; have := HK2.out; have := HK3.out; omega⟩, ⟨xN HO_33.out⟩, ⟨by repeat (first | (with_reducible exact HR601_0.out) | (with_reducible refine Kd.C_alloc ?_ _) | (with_reducible refine Kd.C_drewN ?_ _) | (with_reducible refine Kd.C_drew ?_) | exact HR601_0.out)⟩, ⟨xb HB.out⟩⟩
         ·rw [if_neg c19] at H
          have c19b0 := decide_eq_false c19
          clear c19
          have H' := ax H
          clear H
          go_wp2
          go_roundg k3
          case measure => have := HK1.out; have := HK2.out; have := HK3.out; omega
          case rel => exact ⟨(wrap64 (x6_2 + x9_3)), (wrap64 (x35_2 + 1)), xr, xr, H', ⟨by have := HK1.out; have := HK2.out; have := HK3.out; omega⟩, ⟨xN HO_33.out⟩, ⟨xb HB.out⟩⟩
      ·rw [if_neg c14] at H
       have c14b0 := decide_eq_false c14
       clear c14
       obtain ⟨t600, A24, H⟩ := xI H
       by_cases c25 : t600 = 0
       ·rw [if_pos c25] at H
        exact absurd H (by simp)
       ·rw [if_neg c25] at H
        have c25b0 : (t600 == 0) = false := beq_eq_false_iff_ne.mpr c25
        have c25b1 : (t600 != 0) = true := bne_iff_ne.mpr c25
        obtain rfl := Option.some.inj H
        go_wp2_with (first | ((with_reducible refine gate_callee (f := 33) rfl ?_); refine goesL_ (some 59) rfl rfl Tryz.func33 (by kernel_rfl) rfl #[.int .i64 t593] rfl xm ?_; (with_reducible refine (impl_factorial.calls k2 t593 t600 _ A24.out).mono ?_); rintro e w' ⟨rfl, ⟨nd, rfl⟩⟩; refine ⟨_, rfl, ?_⟩))
        go_ret
        exact ⟨xe, xb HB.out⟩

/-! ### impl_KroneckerOf: function 9 -/
def impl_KroneckerOf.f (k : Nat) (l0 : List Int) (l1 : List Int) (l2 : List Int) : Option (Int) := (impl_classSum.f k (([l0, l1, l2] : List (List Int)))).bind fun t608 => (some t608)
theorem impl_KroneckerOf.mono : ∀ a0 a1 a2 k, LeO (impl_KroneckerOf.f k a0 a1 a2) (impl_KroneckerOf.f (k + 1) a0 a1 a2) := by
 intro a0 a1 a2 k
 unfold impl_KroneckerOf.f
 repeat' with_reducible first | exact impl_classSum.mono _ _ | exact xl | refine LeO.ite ?_ ?_ | refine LeO.bind ?_ fun _ => ?_
theorem impl_KroneckerOf.calls (k : Nat) (P0_ : Nat → Prop) (A0 : Option Addr) (c0 : Nat) (l0 : List Int) (P1_ : Nat → Prop) (A1 : Option Addr) (c1 : Nat) (l1 : List Int) (P2_ : Nat → Prop) (A2 : Option Addr) (c2 : Nat) (l2 : List Int) (r : Int) (w : World) (hs0 : Kd.V (Kd.int .i64) 3 w w.heap.size (fun k_ => P0_ k_) (.slice A0 l0.length c0) l0) (hs1 : Kd.V (Kd.int .i64) 3 w w.heap.size (fun k_ => P1_ k_) (.slice A1 l1.length c1) l1) (hs2 : Kd.V (Kd.int .i64) 3 w w.heap.size (fun k_ => P2_ k_) (.slice A2 l2.length c2) l2) (h : impl_KroneckerOf.f k l0 l1 l2 = some r) :
  Calls Tryz.prog 9 #[.slice A0 l0.length c0, .slice A1 l1.length c1, .slice A2 l2.length c2] w fun e w' => e = .returned (.int .i64 r) ∧ Below w.heap.size w w' := by
 have HO0 := ax (show Kd.V (Kd.int .i64) 3 w w.heap.size (fun k_ => ((P0_ k_ ∨ P1_ k_ ∨ P2_ k_) ∨ w.heap.size ≤ k_)) (.slice A0 l0.length c0) l0 from Kd.V_mono hs0 (fun k_ hk => .inl (.inl hk)))
 have HO1 := ax (show Kd.V (Kd.int .i64) 3 w w.heap.size (fun k_ => ((P0_ k_ ∨ P1_ k_ ∨ P2_ k_) ∨ w.heap.size ≤ k_)) (.slice A1 l1.length c1) l1 from Kd.V_mono hs1 (fun k_ hk => .inl (.inr (.inl hk))))
 have HO2 := ax (show Kd.V (Kd.int .i64) 3 w w.heap.size (fun k_ => ((P0_ k_ ∨ P1_ k_ ∨ P2_ k_) ∨ w.heap.size ≤ k_)) (.slice A2 l2.length c2) l2 from Kd.V_mono hs2 (fun k_ hk => .inl (.inr (.inr hk))))
 have HB := ax (Below.refl w.heap.size w)
 have H : ((impl_classSum.f k (([l0, l1, l2] : List (List Int)))).bind fun t608 => (some t608)) = some r := h
 clear h
 obtain ⟨y605, hy605⟩ : ∃ y_ : List (List Int), y_ = (([l0, l1, l2] : List (List Int))) := ⟨_, rfl⟩
 replace H : ((impl_classSum.f k y605).bind fun t608 => (some t608)) = some r := xv hy605 H
 have Ny605 := ax hy605
 clear hy605
 obtain ⟨t608, A4, H⟩ := xI H
 obtain rfl := Option.some.inj H
 go_enter Tryz.func9, Tryz.ntmps9
 go_wp2_with (first | ((with_reducible refine gate_dst (N := 10) rfl ?_); refine Kd.N_lit (Kd.slice 3 (Kd.int .i64)) _ 24 ?hg (N' := 10) ?hd (xs := ([l0, l1, l2] : List (List Int))) (inner := [.slice A0 l0.length c0, .slice A1 l1.length c1, .slice A2 l2.length c2]) (ok := (fun k_ => ((P0_ k_ ∨ P1_ k_ ∨ P2_ k_) ∨ w.heap.size ≤ k_))) (okp := (fun k_ => ((P0_ k_ ∨ P1_ k_ ∨ P2_ k_) ∨ w.heap.size ≤ k_))) ?hr ?hp (fun _ hk => hk) ((show ∀ k_, w.heap.size ≤ k_ → (fun k_ => ((P0_ k_ ∨ P1_ k_ ∨ P2_ k_) ∨ w.heap.size ≤ k_)) k_ from fun k_ hk => (.inr (Nat.le_trans (below_size (xb HB.out)) hk))) _ (Nat.le_refl _)) (Below.refl _ _) (Nat.le_refl _) (by simp) ?_; (case hd => rfl); (case hg => rfl); (case hr => first | (go_simp; done) | (go_simp; rfl)); (case hp => exact (Reps.one (show Kd.FK (Kd.slice 3 (Kd.int .i64)) _ _ l0 [.slice A0 l0.length c0] from (Kd.FK_slice_mk (Kd.V_reads' (Kd.V_mono (ok' := (fun k_ => ((P0_ k_ ∨ P1_ k_ ∨ P2_ k_) ∨ w.heap.size ≤ k_))) (HO0.out) (fun k_ hk => hk))).2.1 (Kd.V_F (Kd.V_mono (ok' := (fun k_ => ((P0_ k_ ∨ P1_ k_ ∨ P2_ k_) ∨ w.heap.size ≤ k_))) (HO0.out) (fun k_ hk => hk))))) (Reps.one (show Kd.FK (Kd.slice 3 (Kd.int .i64)) _ _ l1 [.slice A1 l1.length c1] from (Kd.FK_slice_mk (Kd.V_reads' (Kd.V_mono (ok' := (fun k_ => ((P0_ k_ ∨ P1_ k_ ∨ P2_ k_) ∨ w.heap.size ≤ k_))) (HO1.out) (fun k_ hk => hk))).2.1 (Kd.V_F (Kd.V_mono (ok' := (fun k_ => ((P0_ k_ ∨ P1_ k_ ∨ P2_ k_) ∨ w.heap.size ≤ k_))) (HO1.out) (fun k_ hk => hk))))) (Reps.one (show Kd.FK (Kd.slice 3 (Kd.int .i64)) _ _ l2 [.slice A2 l2.length c2] from (Kd.FK_slice_mk (Kd.V_reads' (Kd.V_mono (ok' := (fun k_ => ((P0_ k_ ∨ P1_ k_ ∨ P2_ k_) ∨ w.heap.size ≤ k_))) (HO2.out) (fun k_ hk => hk))).2.1 (Kd.V_F (Kd.V_mono (ok' := (fun k_ => ((P0_ k_ ∨ P1_ k_ ∨ P2_ k_) ∨ w.heap.size ≤ k_))) (HO2.out) (fun k_ hk => hk))))) (Reps.none _ _))))); intro v606 w5 ho6 hb hg_ hnew_; clear hg_ hnew_; (first | rw [← Ny605.out] at ho6 | (simp only [Int.reduceToNat] at ho6; rw [← Ny605.out] at ho6)); replace HO0 := ax (Kd.V_elder' (xV HO0.out) (by first | exact Kd.N_base ho6 | exact Kd.S_base ho6 | exact Kd.R_base ho6) hb); replace HO1 := ax (Kd.V_elder' (xV HO1.out) (by first | exact Kd.N_base ho6 | exact Kd.S_base ho6 | exact Kd.R_base ho6) hb); replace HO2 := ax (Kd.V_elder' (xV HO2.out) (by first | exact Kd.N_base ho6 | exact Kd.S_base ho6 | exact Kd.R_base ho6) hb); have HO607 := ax (Kd.N_lower ho6 (below_size (xb HB.out))); replace HB := yB HB hb; clear hb ho6; obtain ⟨Ao7, co7, eo7⟩ := Kd.N_slice HO607.out; subst eo7) | ((with_reducible refine gate_callee (f := 31) rfl ?_); refine goesL_ (some 11) rfl rfl Tryz.func31 (by kernel_rfl) rfl #[.slice Ao7 y605.length co7] rfl xm ?_; (with_reducible refine (impl_classSum.calls k _ _ y605 t608 _ ?side1 ?side2 A4.out).mono ?_); (case side1 => exact xc (Kd.N_reads' HO607.out).2.2); (case side2 => exact (Kd.N_reads' HO607.out).2.1); rintro e w8 ⟨rfl, hb⟩; refine ⟨_, rfl, ?_⟩; replace HO0 := yV HO0 hb; replace HO1 := yV HO1 hb; replace HO2 := yV HO2 hb; replace HO607 := ax (Kd.N_below (xN HO607.out) hb); replace HB := yB HB hb; (try clear hb)))
 go_ret
 exact ⟨xe, xb HB.out⟩

/-! ### spec_DrawPairingOf: function 10 -/
def spec_DrawPairingOf.f (k : Nat) (l0 : List Int) : Option (List Int × List Int) := (spec_l23Three.f k l0).bind fun bt609 => (some (bt609.1, bt609.2.2))
theorem spec_DrawPairingOf.mono : ∀ a0 k, LeO (spec_DrawPairingOf.f k a0) (spec_DrawPairingOf.f (k + 1) a0) := by
 intro a0 k
 unfold spec_DrawPairingOf.f
 repeat' with_reducible first | exact spec_l23Three.mono _ _ | exact xl | refine LeO.ite ?_ ?_ | refine LeO.bind ?_ fun _ => ?_
theorem spec_DrawPairingOf.calls (k : Nat) (A0 : Option Addr) (c0 : Nat) (l0 : List Int) (r1 : List Int) (r2 : List Int) (w : World) (hr0 : Kd.C (Kd.int .u8) w A0 l0.length l0) (hc0 : l0.length ≤ c0) (h : spec_DrawPairingOf.f k l0 = some (r1, r2)) :
  Calls Tryz.prog 10 #[.slice A0 l0.length c0] w fun e w' => ∃ v0_ v1_ : Value, e = .returned (.tuple #[v0_, v1_]) ∧ Kd.V (Kd.int .i64) 3 w' w.heap.size (fun k_ => (w.heap.size ≤ k_)) v0_ r1 ∧ Kd.V (Kd.int .i64) 3 w' w.heap.size (fun k_ => (w.heap.size ≤ k_)) v1_ r2 ∧ Below w.heap.size w w' := by
 have HR0 := ax hr0
 have HC0 := ax hc0
 clear hr0 hc0
 have HB := ax (Below.refl w.heap.size w)
 have H : ((spec_l23Three.f k l0).bind fun bt609 => (some (bt609.1, bt609.2.2))) = some (r1, r2) := h
 clear h
 obtain ⟨⟨t609, t612, t615⟩, A2, H⟩ := xI H
 dsimp only at H
 simp only [Option.some.injEq, Prod.mk.injEq] at H
 obtain ⟨rfl, rfl⟩ := H
 go_enter Tryz.func10, Tryz.ntmps10
 go_wp2_with (first | ((with_reducible refine gate_callee (f := 30) rfl ?_); refine goesL_ (some 9) rfl rfl Tryz.func30 (by kernel_rfl) rfl #[.slice A0 l0.length c0] rfl xm ?_; (with_reducible refine (spec_l23Three.calls k _ _ l0 t609 t612 t615 _ ?side1 ?side2 A2.out).mono ?_); (case side1 => exact xc HR0.out); (case side2 => exact HC0.out); rintro e w3 ⟨v610, v613, v616, rfl, ho0, ho1, ho2, hb⟩; refine ⟨_, rfl, ?_⟩; have HO611 := ax (Kd.V_lower (Kd.V_mono (ok' := fun k_ => (w.heap.size ≤ k_)) ho0 (fun k_ hk_ => (Nat.le_trans (below_size (xb HB.out)) hk_))) (below_size (xb HB.out))); have HO614 := ax (Kd.V_lower (Kd.V_mono (ok' := fun k_ => (w.heap.size ≤ k_)) ho1 (fun k_ hk_ => (Nat.le_trans (below_size (xb HB.out)) hk_))) (below_size (xb HB.out))); have HO617 := ax (Kd.V_lower (Kd.V_mono (ok' := fun k_ => (w.heap.size ≤ k_)) ho2 (fun k_ hk_ => (Nat.le_trans (below_size (xb HB.out)) hk_))) (below_size (xb HB.out))); replace HB := yB HB hb; (try clear hb); (try clear ho0); (try clear ho1); (try clear ho2)))
 go_ret2
 exact ⟨_, _, xe, xV HO611.out, xV HO617.out, xb HB.out⟩

end Go.Proofs.YtopmggldaicpaacGreat.PFnKronecker
