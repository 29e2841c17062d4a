-- Written by a program of this session (wip/print/xprint.py).
import Derived.Test.YtopmggldaicpaabPFnCharactersx0
import Derived.Test.YtopmggldaicpaabPFnCharactersx1
import Derived.Test.YtopmggldaicpaabPFnCharactersx2
import Derived.Test.YtopmggldaicpaabPFnCharactersx14
namespace Go.Proofs.Ytopmggldaicpaab.PFnCharacters
open Go.RowKit Go.Proofs.YtopmggldaicpaabW.PrintWords Go.Proofs.YtopmggldaicpaabW.PrintLast Go.Proofs.YtopmggldaicpaabW.PrintMore
attribute [local go_sem] max2_int min2_int max_two min_two max_three min_three max_four min_four   -- for this text's walks alone
set_option linter.unusedVariables false
set_option linter.unusedSimpArgs false

/-! ### spec_SchurOfPower: function 14 -/
def spec_SchurOfPower.l0 : Nat → List Int → List Int → List (List Int) → Int → Option (List Int)
 | 0, _, _, _, _ => none
 | k + 1, x0, x3, x4, x5 => if x5 < (x4.length : Int) then (if 0 ≤ x5 then ((spec_l22Character.f k (rd_L2 x4 x5) x0).bind fun t545 => (if x3.length < 17592186044416 then (spec_SchurOfPower.l0 k x0 (x3 ++ [t545]) x4 (wrap64 (x5 + 1))) else (none))) else (none)) else (some x3)
def spec_SchurOfPower.f (k : Nat) (l0 : List Int) : Option (List Int) := (some (([] : List Int) : List Int)).bind fun y536 => ((spec_l21Fine.f k l0).bind fun t539 => (if t539 = true then ((spec_l2Size.f k l0).bind fun t540 => ((spec_PartitionsOf.f k t540).bind fun t541 => (spec_SchurOfPower.l0 k l0 y536 t541 0))) else (some y536)))
theorem spec_SchurOfPower.mono_l : ∀ k, (∀ y0 y1 y2 y3, LeO (spec_SchurOfPower.l0 k y0 y1 y2 y3) (spec_SchurOfPower.l0 (k + 1) y0 y1 y2 y3))
 | 0 => fun _ _ _ _ r h => by simp [spec_SchurOfPower.l0] at h
 | k + 1 => by
  have ih0 := spec_SchurOfPower.mono_l k
  ·intro y0 y1 y2 y3
   unfold spec_SchurOfPower.l0
   repeat' with_reducible first | exact ih0 _ _ _ _ | exact spec_PartitionsOf.mono _ _ | exact spec_l21Fine.mono _ _ | exact spec_l22Character.mono _ _ _ | exact spec_l2Size.mono _ _ | exact xl | refine LeO.ite ?_ ?_ | refine LeO.bind ?_ fun _ => ?_
theorem spec_SchurOfPower.mono : ∀ a0 k, LeO (spec_SchurOfPower.f k a0) (spec_SchurOfPower.f (k + 1) a0) := by
 intro a0 k
 have ih0 := spec_SchurOfPower.mono_l k
 unfold spec_SchurOfPower.f
 repeat' with_reducible first | exact ih0 _ _ _ _ | exact spec_PartitionsOf.mono _ _ | exact spec_l21Fine.mono _ _ | exact spec_l22Character.mono _ _ _ | exact spec_l2Size.mono _ _ | exact xl | refine LeO.ite ?_ ?_ | refine LeO.bind ?_ fun _ => ?_
set_option maxHeartbeats 8000000 in
set_option maxRecDepth 100000 in
theorem spec_SchurOfPower.calls (k : Nat) (A0 : Option Addr) (c0 : Nat) (l0 : List Int) (r : List Int) (w : World) (hr0 : Kd.C (Kd.int .i64) w A0 l0.length l0) (hc0 : l0.length ≤ c0) (h : spec_SchurOfPower.f k l0 = some r) :
  Calls Try.prog 14 #[.slice A0 l0.length c0] w fun e w' => ∃ v0_ : Value, e = .returned (v0_) ∧ Kd.R (Kd.int .i64) 3 w' w.heap.size (fun _ => True) v0_ r ∧ Below w.heap.size w w' := by
 have HR0 := ax hr0
 have HC0 := ax hc0
 clear hr0 hc0
 have HB := ax (Below.refl w.heap.size w)
 have H : ((some (([] : List Int) : List Int)).bind fun y536 => ((spec_l21Fine.f k l0).bind fun t539 => (if t539 = true then ((spec_l2Size.f k l0).bind fun t540 => ((spec_PartitionsOf.f k t540).bind fun t541 => (spec_SchurOfPower.l0 k l0 y536 t541 0))) else (some y536)))) = some r := h
 clear h
 obtain ⟨y536, Ny536, H⟩ := xg H
 obtain ⟨t539, A2, H⟩ := xI H
 by_cases c3 : t539 = true
 ·subst c3
  rw [if_pos rfl] at H
  obtain ⟨t540, A4, H⟩ := xI H
  obtain ⟨t541, A5, H⟩ := xI H
  have H' := ax H
  clear H
  go_enter Try.func14, Try.ntmps14
  go_wp2_with (first | ((with_reducible refine gate_dst (N := 6) rfl ?_); refine Kd.R_lit (Kd.int .i64) _ 3 ?hg (N := 6) ?hd (xs := ([] : List Int)) (inner := []) (ok := fun _ => True) (okp := fun _ => True) ?hr ?hp (fun _ hk => hk) trivial (Below.refl _ _) (Nat.le_refl _) (by simp) ?_; (case hd => rfl); (case hg => rfl); (case hr => first | (go_simp; done) | (go_simp; rfl)); (case hp => exact (Reps.none _ _)); intro v537 w6 ho7 hb hg_ hnew_; clear hg_ hnew_; (first | rw [← Ny536.out] at ho7 | (simp only [Int.reduceToNat] at ho7; rw [← Ny536.out] at ho7)); have HO538 := ax (Kd.R_lower ho7 (below_size (xb HB.out))); replace HB := ax (below_step (xb HB.out) hb); clear hb ho7) | ((with_reducible refine gate_callee (f := 43) rfl ?_); refine goesL_ (some 8) rfl rfl Try.func43 (by kernel_rfl) rfl #[.slice A0 l0.length c0] rfl xm ?_; (with_reducible refine (spec_l21Fine.calls k _ _ l0 true _ ?side1 ?side2 A2.out).mono ?_); (case side1 => exact xz HR0.out (Kd.C_below · HB.out)); (case side2 => exact HC0.out); rintro e w8 ⟨rfl, hb⟩; refine ⟨_, rfl, ?_⟩; replace HO538 := ax (Kd.R_below (xR HO538.out) hb); replace HB := ax (below_step (xb HB.out) hb); (try clear hb); (try clear hb2); (try clear hk); (try clear hi)) | ((with_reducible refine gate_callee (f := 28) rfl ?_); refine goesL_ (some 12) rfl rfl Try.func28 (by kernel_rfl) rfl #[.slice A0 l0.length c0] rfl xm ?_; (with_reducible refine (spec_l2Size.calls k _ _ l0 t540 _ ?side1 ?side2 A4.out).mono ?_); (case side1 => exact xz HR0.out (Kd.C_below · HB.out)); (case side2 => exact HC0.out); rintro e w' ⟨rfl, ⟨nd, rfl⟩⟩; refine ⟨_, rfl, ?_⟩) | ((with_reducible refine gate_callee (f := 23) rfl ?_); refine goesL_ (some 13) rfl rfl Try.func23 (by kernel_rfl) rfl #[.int .i64 t540] rfl xm ?_; (with_reducible refine (spec_PartitionsOf.calls k t540 t541 _ A5.out).mono ?_); rintro e w9 ⟨v542, rfl, ho0, hb⟩; refine ⟨_, rfl, ?_⟩; have HO543 := ax (Kd.S_lower (Kd.S_new' ho0 (Kd.R_lt (xR HO538.out))) (below_size (xb HB.out))); replace HO538 := ax (Kd.R_below (xR HO538.out) hb); replace HB := ax (below_step (xb HB.out) hb); (try clear hb); (try clear hb2); (try clear hk); (try clear hi); (try clear ho0)))
  go_loopg [3, 5] k (fun kq v3 v5 w' => ∃ (x3_1 : List Int) (x5_1 : Int), v5 = .int .i64 x5_1 ∧ Aside0 (spec_SchurOfPower.l0 kq l0 x3_1 t541 x5_1 = some r) ∧ Aside0 (kq ≤ k) ∧ Aside0 (Kd.R (Kd.int .i64) 3 w' w.heap.size (fun _ => True) v3 x3_1) ∧ Aside0 (Kd.S (Kd.slice 3 (Kd.int .i64)) 24 w' w.heap.size (fun k_ => some k_ ≠ (v3 : Value).ownBlock) v542 t541) ∧ Aside0 (Below w.heap.size w w'))
  case atStart => exact ⟨(y536), (0), xr, H', ⟨Nat.le_refl _⟩, ⟨xR HO538.out⟩, ⟨by (with_reducible repeat (first | apply Kd.S_alloc | apply Kd.S_drewN | apply Kd.S_drew)); exact Kd.S_mono HO543.out (fun _ hk => hk.2)⟩, ⟨xb HB.out⟩⟩
  case round =>
   clear H'
   (try clear c1); (try clear c2); (try clear p2); (try clear c3); (try clear c4)
   obtain ⟨x3_1, x5_1, rfl, HA, HK1, HO_3, HO_4, HB⟩ := hrel
   cases gk with
   | zero => exact absurd HA.out (by simp [spec_SchurOfPower.l0])
   | succ k1 =>
    have H := HA.out
    clear HA
    simp only [spec_SchurOfPower.l0] at H
    by_cases c10 : x5_1 < (t541.length : Int)
    ·rw [if_pos c10] at H
     have c10b0 := decide_eq_true c10
     clear c10
     obtain ⟨c11, H⟩ := xp H
     have c11b0 := decide_eq_true c11
     clear c11
     obtain ⟨t545, A12, H⟩ := xI H
     obtain ⟨c13, H⟩ := xp H
     have LMc13 := ax c13
     clear c13
     obtain ⟨y546, hy546⟩ : ∃ y_ : List Int, y_ = (x3_1 ++ [t545]) := ⟨_, rfl⟩
     replace H : (spec_SchurOfPower.l0 k1 l0 y546 t541 (wrap64 (x5_1 + 1))) = some r := by first | (rw [hy546]; with_reducible exact H) | (have H2_ := (Option.bind_some _ _).symm.trans H; rw [hy546]; with_reducible exact H2_) | (have H2_ := (Option.bind_some _ _).symm.trans H; with_reducible exact H2_) | with_reducible exact H | (rw [hy546]; exact H) | exact H
     have Ny546 := ax hy546
     clear hy546
     have H' := ax H
     clear H
     obtain ⟨Ao14, co14, eo14⟩ := Kd.S_slice HO_4.out
     subst eo14
     have p544 : 0 ≤ (x5_1 : Int) := xd
     have q544 : x5_1 < (t541.length : Int) := xd
     obtain ⟨ad544, A544_0, c544_0, e544, hx544_0, hl544_0, hi544_0⟩ := at_L2 (Kd.S_reads' HO_4.out).2.2 x5_1 p544 q544
     cases e544
     obtain ⟨ce544, hce544, hMe544, hcc544⟩ := Kd.S_get HO_4.out [] x5_1 p544 (by first | exact q544 | exact xd | (have e_ := (Kd.S_reads' HO_4.out).1; omega))
     obtain ⟨ve544_0, rfl, ge544_0⟩ := hMe544
     have hv544_0 := hcc544 0 _ rfl
     rw [Nat.add_zero, show ((Kd.slice 3 (Kd.int .i64))).sz = 1 from rfl, Nat.mul_one] at hv544_0
     replace hv544_0 := Option.some.inj (hv544_0.symm.trans hx544_0)
     rw [hv544_0] at ge544_0
     have HL544_0 := ax (show Kd.R (Kd.int .i64) 3 _ _ _ _ (rd_L2 t541 x5_1) from ge544_0)
     clear hv544_0 ge544_0 hcc544 hce544
     have HR544_0 := ax hi544_0
     have HC544_0 := ax hl544_0
     clear hi544_0 hl544_0
     replace p544 := eq_true p544
     replace q544 := eq_true q544
     go_wp2_with (first | ((with_reducible refine gate_callee (f := 42) rfl ?_); refine goesL_ (some 26) rfl rfl Try.func42 (by kernel_rfl) rfl #[.slice A544_0 (rd_L2 t541 x5_1).length c544_0, .slice A0 l0.length c0] rfl xm ?_; (with_reducible refine (spec_l22Character.calls k1 _ _ (rd_L2 t541 x5_1) _ _ l0 t545 _ ?side1 ?side2 ?side3 ?side4 A12.out).mono ?_); (case side1 => exact xw HR544_0.out); (case side2 => exact HC544_0.out); (case side3 => exact xz HR0.out (Kd.C_below · HB.out)); (case side4 => exact HC0.out); rintro e w15 ⟨rfl, hb⟩; refine ⟨_, rfl, ?_⟩; replace HO_3 := ax (Kd.R_below (xR HO_3.out) hb); replace HO_4 := ax (Kd.S_below (xS HO_4.out) hb); replace HL544_0 := ax (Kd.R_below (xR HL544_0.out) hb); replace HR544_0 := ax (Kd.C_below (xw HR544_0.out) hb); replace HB := ax (below_step (xb HB.out) hb); (try clear hb); (try clear hb2); (try clear hk); (try clear hi)) | ((with_reducible refine gate_builtin (b := .append) (xs := #[.tmp 20, .tmp 27]) rfl ?_); at_builtin; refine Kd.R_append (Kd.int .i64) (w0 := w) w.heap.size rfl (.tmp 20) (.tmp 27) 24 3 (.int .i64 0) 8 rfl Try.underlying24 info3 rfl (by decide) (by omega) u3 x3_1 t545 [.int .i64 t545] (fun _ => True) (fun _ => False) rfl rfl ?aP (fun _ hk => hk.elim) ?aF ?aO ?aB ?aS ?aL ?_; (case aP => exact rfl); (case aB => exact (xb HB.out)); (case aF => exact (fun _ _ => trivial)); (case aO => exact (xR HO_3.out)); (case aS => exact (below_size (xb HB.out))); (case aL => have := LMc13.out; omega); intro v547 w16 ho hb hg hat; rw [← Ny546.out] at ho; have n0_ := ax (Kd.S_after (ok := (fun _ => True)) (by (with_reducible repeat (first | apply Kd.S_alloc | apply Kd.S_drewN | apply Kd.S_drew)); exact Kd.S_mono HO_4.out (fun _ hk => ⟨trivial, by first | exact hk | simpa only [xw_own] using hk⟩)) hg hat); have n1_ := ax (Kd.R_after (ok := (fun k_ => some k_ ≠ (.slice (some ad544) t541.length co14 : Value).ownBlock)) (by (with_reducible repeat (first | apply Kd.R_alloc | apply Kd.R_drewN | apply Kd.R_drew)); exact Kd.R_mono HL544_0.out (fun _ hk => ⟨hk.2, hk.1⟩)) hg hat); have n2_ := ax (hb); have n3_ := ax (ho); clear HO_4; clear HL544_0; clear HB; clear HO_3; have HO_4 := n0_; have HL544_0 := n1_; have HB := n2_; have HO548 := n3_; clear n0_ n1_ n2_ n3_; clear ho hb hg hat))
     go_roundg k1
     case measure => have := HK1.out; omega
     case rel => exact ⟨(y546), (wrap64 (x5_1 + 1)), xr, H', ⟨by have := HK1.out; omega⟩, ⟨xR HO548.out⟩, ⟨by (with_reducible repeat (first | apply Kd.S_alloc | apply Kd.S_drewN | apply Kd.S_drew)); exact Kd.S_mono HO_4.out (fun _ hk => hk.2)⟩, ⟨xb HB.out⟩⟩
    ·rw [if_neg c10] at H
     have c10b0 := decide_eq_false c10
     clear c10
     obtain rfl := Option.some.inj H
     obtain ⟨Ao17, co17, eo17⟩ := Kd.S_slice HO_4.out
     subst eo17
     go_wp2
     go_ret
     exact ⟨_, xe, xR HO_3.out, xb HB.out⟩
 ·replace c3 := Bool.eq_false_iff.mpr c3
  subst c3
  rw [if_neg (show ¬ (false = true) by decide)] at H
  obtain rfl := Option.some.inj H
  go_enter Try.func14, Try.ntmps14
  go_wp2_with (first | ((with_reducible refine gate_dst (N := 6) rfl ?_); refine Kd.R_lit (Kd.int .i64) _ 3 ?hg (N := 6) ?hd (xs := ([] : List Int)) (inner := []) (ok := fun _ => True) (okp := fun _ => True) ?hr ?hp (fun _ hk => hk) trivial (Below.refl _ _) (Nat.le_refl _) (by simp) ?_; (case hd => rfl); (case hg => rfl); (case hr => first | (go_simp; done) | (go_simp; rfl)); (case hp => exact (Reps.none _ _)); intro v537 w18 ho19 hb hg_ hnew_; clear hg_ hnew_; (first | rw [← Ny536.out] at ho19 | (simp only [Int.reduceToNat] at ho19; rw [← Ny536.out] at ho19)); have HO538 := ax (Kd.R_lower ho19 (below_size (xb HB.out))); replace HB := ax (below_step (xb HB.out) hb); clear hb ho19) | ((with_reducible refine gate_callee (f := 43) rfl ?_); refine goesL_ (some 8) rfl rfl Try.func43 (by kernel_rfl) rfl #[.slice A0 l0.length c0] rfl xm ?_; (with_reducible refine (spec_l21Fine.calls k _ _ l0 false _ ?side1 ?side2 A2.out).mono ?_); (case side1 => exact xz HR0.out (Kd.C_below · HB.out)); (case side2 => exact HC0.out); rintro e w20 ⟨rfl, hb⟩; refine ⟨_, rfl, ?_⟩; replace HO538 := ax (Kd.R_below (xR HO538.out) hb); replace HB := ax (below_step (xb HB.out) hb); (try clear hb); (try clear hb2); (try clear hk); (try clear hi)))
  go_ret
  exact ⟨_, xe, xR HO538.out, xb HB.out⟩

/-! ### laws_sameLists: function 15 -/
def laws_sameLists.l0 : Nat → List (List Int) → List (List Int) → Int → Option (Bool)
 | 0, _, _, _ => none
 | k + 1, x0, x1, x5 => if x5 < (x0.length : Int) then (if 0 ≤ x5 then (if x5 < (x1.length : Int) then ((laws_sameInts.f k (rd_L2 x0 x5) (rd_L2 x1 x5)).bind fun t551 => (if t551 = true then (laws_sameLists.l0 k x0 x1 (wrap64 (x5 + 1))) else (some false))) else (none)) else (none)) else (some true)
def laws_sameLists.f (k : Nat) (l0 : List (List Int)) (l1 : List (List Int)) : Option (Bool) := if (l0.length : Int) = (l1.length : Int) then (laws_sameLists.l0 k l0 l1 0) else (some false)
theorem laws_sameLists.mono_l : ∀ k, (∀ y0 y1 y2, LeO (laws_sameLists.l0 k y0 y1 y2) (laws_sameLists.l0 (k + 1) y0 y1 y2))
 | 0 => fun _ _ _ r h => by simp [laws_sameLists.l0] at h
 | k + 1 => by
  have ih0 := laws_sameLists.mono_l k
  ·intro y0 y1 y2
   unfold laws_sameLists.l0
   repeat' with_reducible first | exact ih0 _ _ _ | exact laws_sameInts.mono _ _ _ | exact xl | refine LeO.ite ?_ ?_ | refine LeO.bind ?_ fun _ => ?_
theorem laws_sameLists.mono : ∀ a0 a1 k, LeO (laws_sameLists.f k a0 a1) (laws_sameLists.f (k + 1) a0 a1) := by
 intro a0 a1 k
 have ih0 := laws_sameLists.mono_l k
 unfold laws_sameLists.f
 repeat' with_reducible first | exact ih0 _ _ _ | exact laws_sameInts.mono _ _ _ | exact xl | refine LeO.ite ?_ ?_ | refine LeO.bind ?_ fun _ => ?_
set_option maxHeartbeats 8000000 in
set_option maxRecDepth 100000 in
theorem laws_sameLists.calls (k : Nat) (A0 : Option Addr) (c0 : Nat) (l0 : List (List Int)) (A1 : Option Addr) (c1 : Nat) (l1 : List (List Int)) (r : Bool) (w : World) (hr0 : Kd.C (Kd.slice 3 (Kd.int .i64)) w A0 l0.length l0) (hc0 : l0.length ≤ c0) (hr1 : Kd.C (Kd.slice 3 (Kd.int .i64)) w A1 l1.length l1) (hc1 : l1.length ≤ c1) (h : laws_sameLists.f k l0 l1 = some r) :
  Calls Try.prog 15 #[.slice A0 l0.length c0, .slice A1 l1.length c1] w fun e w' => e = .returned (.bool r) ∧ Drawn0 w w' := by
 have HR0 := ax hr0
 have HC0 := ax hc0
 clear hr0 hc0
 have HR1 := ax hr1
 have HC1 := ax hc1
 clear hr1 hc1
 have H : (if (l0.length : Int) = (l1.length : Int) then (laws_sameLists.l0 k l0 l1 0) else (some false)) = some r := h
 clear h
 by_cases c3 : (l0.length : Int) = (l1.length : Int)
 ·rw [if_pos c3] at H
  have c3b0 : ((l0.length : Int) == (l1.length : Int)) = true := beq_iff_eq.mpr c3
  have c3b1 : ((l0.length : Int) != (l1.length : Int)) = false := bne_eq_false_iff_eq.mpr c3
  have c3b2 : (l0.length == l1.length) = true := by first | simpa using c3 | (simp at c3 ⊢; omega)
  clear c3
  have H' := ax H
  clear H
  go_enter Try.func15, Try.ntmps15
  go_wp2
  repeat (go_quiet (fail); try go_wp2)
  go_loopg [5] k (fun kq v5 w' => ∃ (x5_1 : Int), v5 = .int .i64 x5_1 ∧ Aside0 (laws_sameLists.l0 kq l0 l1 x5_1 = some r) ∧ Aside0 (kq ≤ k) ∧ Drawn0 w w')
  case atStart => exact ⟨(0), xr, H', ⟨Nat.le_refl _⟩, by repeat (first | exact Drawn0.refl _ | apply Drawn0.step)⟩
  case round =>
   clear H'
   (try clear c1); (try clear p2); (try clear c3); (try clear c3b0); (try clear c3b1); (try clear c3b2)
   obtain ⟨x5_1, rfl, HA, HK1, ⟨m1, rfl⟩⟩ := hrel
   cases gk with
   | zero => exact absurd HA.out (by simp [laws_sameLists.l0])
   | succ k1 =>
    have H := HA.out
    clear HA
    simp only [laws_sameLists.l0] at H
    by_cases c4 : x5_1 < (l0.length : Int)
    ·rw [if_pos c4] at H
     have c4b0 := decide_eq_true c4
     clear c4
     obtain ⟨c5, H⟩ := xp H
     have c5b0 := decide_eq_true c5
     clear c5
     obtain ⟨c6, H⟩ := xp H
     have c6b0 := decide_eq_true c6
     clear c6
     obtain ⟨t551, A7, H⟩ := xI H
     by_cases c8 : t551 = true
     ·subst c8
      rw [if_pos rfl] at H
      have H' := ax H
      clear H
      have p549 : 0 ≤ (x5_1 : Int) := xd
      have q549 : x5_1 < (l0.length : Int) := xd
      obtain ⟨ad549, A549_0, c549_0, e549, hx549_0, hl549_0, hi549_0⟩ := at_L2 HR0.out x5_1 p549 q549
      cases e549
      have HR549_0 := ax hi549_0
      have HC549_0 := ax hl549_0
      clear hi549_0 hl549_0
      replace p549 := eq_true p549
      replace q549 := eq_true q549
      have p550 : 0 ≤ (x5_1 : Int) := xd
      have q550 : x5_1 < (l1.length : Int) := xd
      obtain ⟨ad550, A550_0, c550_0, e550, hx550_0, hl550_0, hi550_0⟩ := at_L2 HR1.out x5_1 p550 q550
      cases e550
      have HR550_0 := ax hi550_0
      have HC550_0 := ax hl550_0
      clear hi550_0 hl550_0
      replace p550 := eq_true p550
      replace q550 := eq_true q550
      go_wp2_with (first | (go_at_call 13; (with_reducible refine (laws_sameInts.calls k1 _ _ (rd_L2 l0 x5_1) _ _ (rd_L2 l1 x5_1) true _ ?side1 ?side2 ?side3 ?side4 A7.out).mono ?_); (case side1 => exact xc HR549_0.out); (case side2 => exact HC549_0.out); (case side3 => exact xc HR550_0.out); (case side4 => exact HC550_0.out); rintro e w' ⟨rfl, ⟨nd, rfl⟩⟩; (try first | exact ⟨rfl, _, World.drewN_drewN _ _ _⟩ | exact ⟨rfl, _, Eq.trans (World.drewN_drewN _ _ _) (congrArg (World.drewN _) (Nat.add_assoc _ _ _))⟩)))
      repeat (go_quiet (first | (go_at_call 13; (with_reducible refine (laws_sameInts.calls k1 _ _ (rd_L2 l0 x5_1) _ _ (rd_L2 l1 x5_1) true _ ?side1 ?side2 ?side3 ?side4 A7.out).mono ?_); (case side1 => exact xc HR549_0.out); (case side2 => exact HC549_0.out); (case side3 => exact xc HR550_0.out); (case side4 => exact HC550_0.out); rintro e w' ⟨rfl, ⟨nd, rfl⟩⟩; (try first | exact ⟨rfl, _, World.drewN_drewN _ _ _⟩ | exact ⟨rfl, _, Eq.trans (World.drewN_drewN _ _ _) (congrArg (World.drewN _) (Nat.add_assoc _ _ _))⟩))); try go_wp2_with (first | (go_at_call 13; (with_reducible refine (laws_sameInts.calls k1 _ _ (rd_L2 l0 x5_1) _ _ (rd_L2 l1 x5_1) true _ ?side1 ?side2 ?side3 ?side4 A7.out).mono ?_); (case side1 => exact xc HR549_0.out); (case side2 => exact HC549_0.out); (case side3 => exact xc HR550_0.out); (case side4 => exact HC550_0.out); rintro e w' ⟨rfl, ⟨nd, rfl⟩⟩; (try first | exact ⟨rfl, _, World.drewN_drewN _ _ _⟩ | exact ⟨rfl, _, Eq.trans (World.drewN_drewN _ _ _) (congrArg (World.drewN _) (Nat.add_assoc _ _ _))⟩))))
      go_roundg k1
      case measure => have := HK1.out; omega
      case rel => exact ⟨(wrap64 (x5_1 + 1)), xr, H', ⟨by have := HK1.out; omega⟩, by repeat (first | exact Drawn0.refl _ | apply Drawn0.step)⟩
     ·replace c8 := Bool.eq_false_iff.mpr c8
      subst c8
      rw [if_neg (show ¬ (false = true) by decide)] at H
      obtain rfl := Option.some.inj H
      have p549 : 0 ≤ (x5_1 : Int) := xd
      have q549 : x5_1 < (l0.length : Int) := xd
      obtain ⟨ad549, A549_0, c549_0, e549, hx549_0, hl549_0, hi549_0⟩ := at_L2 HR0.out x5_1 p549 q549
      cases e549
      have HR549_0 := ax hi549_0
      have HC549_0 := ax hl549_0
      clear hi549_0 hl549_0
      replace p549 := eq_true p549
      replace q549 := eq_true q549
      have p550 : 0 ≤ (x5_1 : Int) := xd
      have q550 : x5_1 < (l1.length : Int) := xd
      obtain ⟨ad550, A550_0, c550_0, e550, hx550_0, hl550_0, hi550_0⟩ := at_L2 HR1.out x5_1 p550 q550
      cases e550
      have HR550_0 := ax hi550_0
      have HC550_0 := ax hl550_0
      clear hi550_0 hl550_0
      replace p550 := eq_true p550
      replace q550 := eq_true q550
      go_wp2_with (first | (go_at_call 13; (with_reducible refine (laws_sameInts.calls k1 _ _ (rd_L2 l0 x5_1) _ _ (rd_L2 l1 x5_1) false _ ?side1 ?side2 ?side3 ?side4 A7.out).mono ?_); (case side1 => exact xc HR549_0.out); (case side2 => exact HC549_0.out); (case side3 => exact xc HR550_0.out); (case side4 => exact HC550_0.out); rintro e w' ⟨rfl, ⟨nd, rfl⟩⟩; (try first | exact ⟨rfl, _, World.drewN_drewN _ _ _⟩ | exact ⟨rfl, _, Eq.trans (World.drewN_drewN _ _ _) (congrArg (World.drewN _) (Nat.add_assoc _ _ _))⟩)))
      repeat (go_quiet (first | (go_at_call 13; (with_reducible refine (laws_sameInts.calls k1 _ _ (rd_L2 l0 x5_1) _ _ (rd_L2 l1 x5_1) false _ ?side1 ?side2 ?side3 ?side4 A7.out).mono ?_); (case side1 => exact xc HR549_0.out); (case side2 => exact HC549_0.out); (case side3 => exact xc HR550_0.out); (case side4 => exact HC550_0.out); rintro e w' ⟨rfl, ⟨nd, rfl⟩⟩; (try first | exact ⟨rfl, _, World.drewN_drewN _ _ _⟩ | exact ⟨rfl, _, Eq.trans (World.drewN_drewN _ _ _) (congrArg (World.drewN _) (Nat.add_assoc _ _ _))⟩))); try go_wp2_with (first | (go_at_call 13; (with_reducible refine (laws_sameInts.calls k1 _ _ (rd_L2 l0 x5_1) _ _ (rd_L2 l1 x5_1) false _ ?side1 ?side2 ?side3 ?side4 A7.out).mono ?_); (case side1 => exact xc HR549_0.out); (case side2 => exact HC549_0.out); (case side3 => exact xc HR550_0.out); (case side4 => exact HC550_0.out); rintro e w' ⟨rfl, ⟨nd, rfl⟩⟩; (try first | exact ⟨rfl, _, World.drewN_drewN _ _ _⟩ | exact ⟨rfl, _, Eq.trans (World.drewN_drewN _ _ _) (congrArg (World.drewN _) (Nat.add_assoc _ _ _))⟩))))
      go_ret
      exact ⟨by first | rfl | (simp; done) | (simp [*]; done), by repeat (first | exact Drawn0.refl _ | apply Drawn0.step)⟩
    ·rw [if_neg c4] at H
     have c4b0 := decide_eq_false c4
     clear c4
     obtain rfl := Option.some.inj H
     go_wp2
     repeat (go_quiet (fail); try go_wp2)
     go_ret
     exact ⟨by first | rfl | (simp; done) | (simp [*]; done), by repeat (first | exact Drawn0.refl _ | apply Drawn0.step)⟩
 ·rw [if_neg c3] at H
  have c3b0 : ((l0.length : Int) == (l1.length : Int)) = false := beq_eq_false_iff_ne.mpr c3
  have c3b1 : ((l0.length : Int) != (l1.length : Int)) = true := bne_iff_ne.mpr c3
  have c3b2 : (l0.length == l1.length) = false := by first | simpa using c3 | (simp at c3 ⊢; omega)
  obtain rfl := Option.some.inj H
  go_enter Try.func15, Try.ntmps15
  go_wp2
  repeat (go_quiet (fail); try go_wp2)
  go_ret
  exact ⟨by first | rfl | (simp; done) | (simp [*]; done), by repeat (first | exact Drawn0.refl _ | apply Drawn0.step)⟩

/-! ### spec_CharacterTable: function 16 -/
mutual
def spec_CharacterTable.l0 : Nat → List (List Int) → List (List Int) → Int → Option ((List (List Int)))
 | 0, _, _, _ => none
 | k + 1, x3, x4, x5 => if x5 < (x4.length : Int) then (spec_CharacterTable.l1 k x3 x4 x5 (([] : List Int)) 0) else (some x3)
def spec_CharacterTable.l1 : Nat → List (List Int) → List (List Int) → Int → List Int → Int → Option ((List (List Int)))
 | 0, _, _, _, _, _ => none
 | k + 1, x3, x4, x5, x6, x7 => if x7 < (x4.length : Int) then (if 0 ≤ x5 then (if x5 < (x4.length : Int) then (if 0 ≤ x7 then ((spec_l22Character.f k (rd_L2 x4 x5) (rd_L2 x4 x7)).bind fun t564 => (if x6.length < 17592186044416 then (spec_CharacterTable.l1 k x3 x4 x5 (x6 ++ [t564]) (wrap64 (x7 + 1))) else (none))) else (none)) else (none)) else (none)) else (if x3.length < 5864062014805 then (spec_CharacterTable.l0 k (x3 ++ [x6]) x4 (wrap64 (x5 + 1))) else (none))
end
def spec_CharacterTable.f (k : Nat) (a0 : Int) : Option ((List (List Int))) := (some (([] : List (List Int)) : List (List Int))).bind fun y552 => ((spec_l1In.f a0 0 6).bind fun t555 => (if t555 = true then ((spec_PartitionsOf.f k a0).bind fun t556 => (spec_CharacterTable.l0 k y552 t556 0)) else (some y552)))
theorem spec_CharacterTable.mono_l : ∀ k, (∀ y0 y1 y2, LeO (spec_CharacterTable.l0 k y0 y1 y2) (spec_CharacterTable.l0 (k + 1) y0 y1 y2)) ∧ (∀ y0 y1 y2 y3 y4, LeO (spec_CharacterTable.l1 k y0 y1 y2 y3 y4) (spec_CharacterTable.l1 (k + 1) y0 y1 y2 y3 y4))
 | 0 => ⟨fun _ _ _ r h => by simp [spec_CharacterTable.l0] at h, fun _ _ _ _ _ r h => by simp [spec_CharacterTable.l1] at h⟩
 | k + 1 => by
  obtain ⟨ih0, ih1⟩ := spec_CharacterTable.mono_l k
  refine ⟨?_, ?_⟩
  ·intro y0 y1 y2
   unfold spec_CharacterTable.l0
   repeat' with_reducible first | exact ih0 _ _ _ | exact ih1 _ _ _ _ _ | exact spec_PartitionsOf.mono _ _ | exact spec_l22Character.mono _ _ _ | exact xl | refine LeO.ite ?_ ?_ | refine LeO.bind ?_ fun _ => ?_
  ·intro y0 y1 y2 y3 y4
   unfold spec_CharacterTable.l1
   repeat' with_reducible first | exact ih0 _ _ _ | exact ih1 _ _ _ _ _ | exact spec_PartitionsOf.mono _ _ | exact spec_l22Character.mono _ _ _ | exact xl | refine LeO.ite ?_ ?_ | refine LeO.bind ?_ fun _ => ?_
theorem spec_CharacterTable.mono : ∀ a0 k, LeO (spec_CharacterTable.f k a0) (spec_CharacterTable.f (k + 1) a0) := by
 intro a0 k
 obtain ⟨ih0, ih1⟩ := spec_CharacterTable.mono_l k
 unfold spec_CharacterTable.f
 repeat' with_reducible first | exact ih0 _ _ _ | exact ih1 _ _ _ _ _ | exact spec_PartitionsOf.mono _ _ | exact spec_l22Character.mono _ _ _ | exact xl | refine LeO.ite ?_ ?_ | refine LeO.bind ?_ fun _ => ?_
def spec_CharacterTable.T12 : Bool × List (List Nat × List Nat) := (true, [([], []), ([], []), ([], []), ([1, 2], [1, 2]), ([3], [3]), ([], []), ([], []), ([5, 6], [5, 6]), ([7], [7]), ([4, 8], [4, 8]), ([9], [9]), ([0, 10, 9], [0, 10]), ([11, 11, 0, 1, 2, 3, 4, 5, 6, 7, 8, 9, 10, 11], [0, 11])])
def spec_CharacterTable.B12 : List Nat := [0, 0, 0, 6, 14, 0, 0, 96, 224, 510, 1022, 2047, 4095]
theorem spec_CharacterTable.tab12 : rtab .any (opsOf Try.f16 12) = spec_CharacterTable.T12 := by kernel_rfl
theorem spec_CharacterTable.bits12 : waitsOk spec_CharacterTable.T12.2 spec_CharacterTable.B12 = true := by kernel_rfl
set_option maxHeartbeats 8000000 in
set_option maxRecDepth 100000 in
theorem spec_CharacterTable.calls (k : Nat) (a0 : Int) (r : List (List Int)) (w : World) (h : spec_CharacterTable.f k a0 = some r) :
  Calls Try.prog 16 #[.int .i64 a0] w fun e w' => ∃ v0_ : Value, e = .returned (v0_) ∧ Kd.S (Kd.slice 3 (Kd.int .i64)) 24 w' w.heap.size (fun _ => True) v0_ r ∧ Below w.heap.size w w' := by
 have HB := ax (Below.refl w.heap.size w)
 have H : ((some (([] : List (List Int)) : List (List Int))).bind fun y552 => ((spec_l1In.f a0 0 6).bind fun t555 => (if t555 = true then ((spec_PartitionsOf.f k a0).bind fun t556 => (spec_CharacterTable.l0 k y552 t556 0)) else (some y552)))) = some r := h
 clear h
 obtain ⟨y552, Ny552, H⟩ := xg H
 obtain ⟨t555, A2, H⟩ := xI H
 by_cases c3 : t555 = true
 ·subst c3
  rw [if_pos rfl] at H
  obtain ⟨t556, A4, H⟩ := xI H
  have H' := ax H
  clear H
  go_enter Try.func16, Try.ntmps16
  go_wp2_with (first | ((with_reducible refine gate_dst (N := 8) rfl ?_); refine Kd.S_lit (Kd.slice 3 (Kd.int .i64)) _ 24 ?hg (N := 8) ?hd (xs := ([] : List (List Int))) (inner := []) (ok := fun _ => True) (okp := fun _ => True) ?hr ?hp (fun _ hk => hk) trivial (Below.refl _ _) (Nat.le_refl _) (by simp) ?_; (case hd => rfl); (case hg => rfl); (case hr => first | (go_simp; done) | (go_simp; rfl)); (case hp => exact (Reps.none _ _)); intro v553 w5 ho6 hb hg_ hnew_; clear hg_ hnew_; (first | rw [← Ny552.out] at ho6 | (simp only [Int.reduceToNat] at ho6; rw [← Ny552.out] at ho6)); have HO554 := ax (Kd.S_lower ho6 (below_size (xb HB.out))); replace HB := ax (below_step (xb HB.out) hb); clear hb ho6) | ((with_reducible refine gate_callee (f := 44) rfl ?_); refine goesL_ (some 10) rfl rfl Try.func44 (by kernel_rfl) rfl #[.int .i64 a0, .int .i64 0, .int .i64 6] rfl xm ?_; (with_reducible refine (spec_l1In.calls a0 0 6 true _ A2.out).mono ?_); rintro e w' ⟨rfl, ⟨nd, rfl⟩⟩; refine ⟨_, rfl, ?_⟩) | ((with_reducible refine gate_callee (f := 23) rfl ?_); refine goesL_ (some 14) rfl rfl Try.func23 (by kernel_rfl) rfl #[.int .i64 a0] rfl xm ?_; (with_reducible refine (spec_PartitionsOf.calls k a0 t556 _ A4.out).mono ?_); rintro e w7 ⟨v557, rfl, ho0, hb⟩; refine ⟨_, rfl, ?_⟩; have HO558 := ax (Kd.S_lower (Kd.S_new' ho0 (Kd.S_lt (xS HO554.out))) (below_size (xb HB.out))); replace HO554 := ax (Kd.S_elder' (xS HO554.out) (Kd.S_base ho0) hb); replace HB := ax (below_step (xb HB.out) hb); (try clear hb); (try clear hb2); (try clear hk); (try clear hi); (try clear ho0)))
  go_loopg [3, 5] k (fun kq v3 v5 w' => ∃ (x3_1 : List (List Int)) (x5_1 : Int), v5 = .int .i64 x5_1 ∧ Aside0 (spec_CharacterTable.l0 kq x3_1 t556 x5_1 = some r) ∧ Aside0 (kq ≤ k) ∧ Aside0 (Kd.S (Kd.slice 3 (Kd.int .i64)) 24 w' w.heap.size (fun k_ => some k_ ≠ (v557 : Value).ownBlock) v3 x3_1) ∧ Aside0 (Kd.S (Kd.slice 3 (Kd.int .i64)) 24 w' w.heap.size (fun k_ => some k_ ≠ (v3 : Value).ownBlock) v557 t556) ∧ Aside0 (Below w.heap.size w w'))
  case atStart => exact ⟨(y552), (0), xr, H', ⟨Nat.le_refl _⟩, ⟨by (with_reducible repeat (first | apply Kd.S_alloc | apply Kd.S_drewN | apply Kd.S_drew)); exact Kd.S_mono HO554.out (fun _ hk => hk.2)⟩, ⟨by (with_reducible repeat (first | apply Kd.S_alloc | apply Kd.S_drewN | apply Kd.S_drew)); exact Kd.S_mono HO558.out (fun _ hk => hk.2)⟩, ⟨xb HB.out⟩⟩
  case round =>
   clear H'
   (try clear c1); (try clear c2); (try clear p2); (try clear c3); (try clear c4)
   obtain ⟨x3_1, x5_1, rfl, HA, HK1, HO_3, HO_4, HB⟩ := hrel
   cases gk with
   | zero => exact absurd HA.out (by simp [spec_CharacterTable.l0])
   | succ k1 =>
    have H := HA.out
    clear HA
    simp only [spec_CharacterTable.l0] at H
    by_cases c8 : x5_1 < (t556.length : Int)
    ·rw [if_pos c8] at H
     have c8b0 := decide_eq_true c8
     clear c8
     obtain ⟨y559, hy559⟩ : ∃ y_ : List Int, y_ = (([] : List Int)) := ⟨_, rfl⟩
     replace H : (spec_CharacterTable.l1 k1 x3_1 t556 x5_1 y559 0) = some r := by first | (rw [hy559]; with_reducible exact H) | (have H2_ := (Option.bind_some _ _).symm.trans H; rw [hy559]; with_reducible exact H2_) | (have H2_ := (Option.bind_some _ _).symm.trans H; with_reducible exact H2_) | with_reducible exact H | (rw [hy559]; exact H) | exact H
     have Ny559 := ax hy559
     clear hy559
     have H' := ax H
     clear H
     obtain ⟨Ao9, co9, eo9⟩ := Kd.S_slice HO_4.out
     subst eo9
     go_wp2_with (first | ((with_reducible refine gate_dst (N := 21) rfl ?_); refine Kd.R_lit (Kd.int .i64) _ 3 ?hg (N := 21) ?hd (xs := ([] : List Int)) (inner := []) (ok := fun _ => True) (okp := fun _ => True) ?hr ?hp (fun _ hk => hk) trivial (Below.refl _ _) (Nat.le_refl _) (by simp) ?_; (case hd => rfl); (case hg => rfl); (case hr => first | (go_simp; done) | (go_simp; rfl)); (case hp => exact (Reps.none _ _)); intro v560 w10 ho11 hb hg_ hnew_; clear hg_ hnew_; (first | rw [← Ny559.out] at ho11 | (simp only [Int.reduceToNat] at ho11; rw [← Ny559.out] at ho11)); replace HO_3 := ax (Kd.S_elder' (xS HO_3.out) (Kd.R_base ho11) hb); replace HO_4 := ax (Kd.S_elder' (xS HO_4.out) (Kd.R_base ho11) hb); have HO561 := ax (Kd.R_lower ho11 (below_size (xb HB.out))); replace HB := ax (below_step (xb HB.out) hb); clear hb ho11))
     go_loopg [6, 7] k1 (fun kq v6 v7 w' => ∃ (x6_2 : List Int) (x7_2 : Int), v7 = .int .i64 x7_2 ∧ Aside0 (spec_CharacterTable.l1 kq x3_1 t556 x5_1 x6_2 x7_2 = some r) ∧ Aside0 (kq ≤ k1) ∧ Aside0 (Kd.S (Kd.slice 3 (Kd.int .i64)) 24 w' w.heap.size (fun k_ => some k_ ≠ ((.slice Ao9 t556.length co9) : Value).ownBlock ∧ some k_ ≠ (v6 : Value).ownBlock) u3 x3_1) ∧ Aside0 (Kd.S (Kd.slice 3 (Kd.int .i64)) 24 w' w.heap.size (fun k_ => some k_ ≠ (u3 : Value).ownBlock ∧ some k_ ≠ (v6 : Value).ownBlock) (.slice Ao9 t556.length co9) t556) ∧ Aside0 (Kd.R (Kd.int .i64) 3 w' w.heap.size (fun _ => True) v6 x6_2) ∧ Aside0 (Below w.heap.size w w'))
     case atStart => exact ⟨(y559), (0), xr, H', ⟨Nat.le_refl _⟩, ⟨xS HO_3.out⟩, ⟨xS HO_4.out⟩, ⟨xR HO561.out⟩, ⟨xb HB.out⟩⟩
     case round =>
      clear H'
      (try clear c1); (try clear c2); (try clear p2); (try clear c3); (try clear c4); (try clear c8); (try clear c8b0); (try clear p2)
      obtain ⟨x6_2, x7_2, rfl, HA, HK2, HO_3, HO_4, HO_6, HB⟩ := hrel
      cases gk with
      | zero => exact absurd HA.out (by simp [spec_CharacterTable.l1])
      | succ k2 =>
       have H := HA.out
       clear HA
       simp only [spec_CharacterTable.l1] at H
       by_cases c12 : x7_2 < (t556.length : Int)
       ·rw [if_pos c12] at H
        have c12b0 := decide_eq_true c12
        clear c12
        obtain ⟨c13, H⟩ := xp H
        have c13b0 := decide_eq_true c13
        clear c13
        obtain ⟨c14, H⟩ := xp H
        have c14b0 := decide_eq_true c14
        clear c14
        obtain ⟨c15, H⟩ := xp H
        have c15b0 := decide_eq_true c15
        clear c15
        obtain ⟨t564, A16, H⟩ := xI H
        obtain ⟨c17, H⟩ := xp H
        have LMc17 := ax c17
        clear c17
        obtain ⟨y565, hy565⟩ : ∃ y_ : List Int, y_ = (x6_2 ++ [t564]) := ⟨_, rfl⟩
        replace H : (spec_CharacterTable.l1 k2 x3_1 t556 x5_1 y565 (wrap64 (x7_2 + 1))) = some r := by first | (rw [hy565]; with_reducible exact H) | (have H2_ := (Option.bind_some _ _).symm.trans H; rw [hy565]; with_reducible exact H2_) | (have H2_ := (Option.bind_some _ _).symm.trans H; with_reducible exact H2_) | with_reducible exact H | (rw [hy565]; exact H) | exact H
        have Ny565 := ax hy565
        clear hy565
        have H' := ax H
        clear H
        try go_wp2
        replace HO_3 := ax (Kd.S_drew HO_3.out); replace HO_4 := ax (Kd.S_drew HO_4.out); replace HO_6 := ax (Kd.R_drew HO_6.out); replace HB := ax (below_drew1 HB.out)
        have p562 : 0 ≤ (x5_1 : Int) := xd
        have q562 : x5_1 < (t556.length : Int) := xd
        obtain ⟨ad562, A562_0, c562_0, e562, hx562_0, hl562_0, hi562_0⟩ := at_L2 (Kd.S_reads' HO_4.out).2.2 x5_1 p562 q562
        cases e562
        obtain ⟨ce562, hce562, hMe562, hcc562⟩ := Kd.S_get HO_4.out [] x5_1 p562 (by first | exact q562 | exact xd | (have e_ := (Kd.S_reads' HO_4.out).1; omega))
        obtain ⟨ve562_0, rfl, ge562_0⟩ := hMe562
        have hv562_0 := hcc562 0 _ rfl
        rw [Nat.add_zero, show ((Kd.slice 3 (Kd.int .i64))).sz = 1 from rfl, Nat.mul_one] at hv562_0
        replace hv562_0 := Option.some.inj (hv562_0.symm.trans hx562_0)
        rw [hv562_0] at ge562_0
        have HL562_0 := ax (show Kd.R (Kd.int .i64) 3 _ _ _ _ (rd_L2 t556 x5_1) from ge562_0)
        clear hv562_0 ge562_0 hcc562 hce562
        have HR562_0 := ax hi562_0
        have HC562_0 := ax hl562_0
        clear hi562_0 hl562_0
        replace p562 := eq_true p562
        replace q562 := eq_true q562
        have p563 : 0 ≤ (x7_2 : Int) := xd
        have q563 : x7_2 < (t556.length : Int) := xd
        obtain ⟨ad563, A563_0, c563_0, e563, hx563_0, hl563_0, hi563_0⟩ := at_L2 (Kd.S_reads' HO_4.out).2.2 x7_2 p563 q563
        obtain rfl : ad562 = ad563 := (by injection e563)
        obtain ⟨ce563, hce563, hMe563, hcc563⟩ := Kd.S_get HO_4.out [] x7_2 p563 (by first | exact q563 | exact xd | (have e_ := (Kd.S_reads' HO_4.out).1; omega))
        obtain ⟨ve563_0, rfl, ge563_0⟩ := hMe563
        have hv563_0 := hcc563 0 _ rfl
        rw [Nat.add_zero, show ((Kd.slice 3 (Kd.int .i64))).sz = 1 from rfl, Nat.mul_one] at hv563_0
        replace hv563_0 := Option.some.inj (hv563_0.symm.trans hx563_0)
        rw [hv563_0] at ge563_0
        have HL563_0 := ax (show Kd.R (Kd.int .i64) 3 _ _ _ _ (rd_L2 t556 x7_2) from ge563_0)
        clear hv563_0 ge563_0 hcc563 hce563
        have HR563_0 := ax hi563_0
        have HC563_0 := ax hl563_0
        clear hi563_0 hl563_0
        replace p563 := eq_true p563
        replace q563 := eq_true q563
        refine start_ (n := 13) (S := fun w' => w'.cell? (ad562.add (x5_1).toNat) = some (.slice A562_0 (rd_L2 t556 x5_1).length c562_0) ∧ w'.cell? (ad562.add (x7_2).toNat) = some (.slice A563_0 (rd_L2 t556 x7_2).length c563_0)) (ds := [10]) (xB 13 0) (by kernel_rfl) rfl (by kernel_rfl) ⟨hx562_0, hx563_0⟩ (fun hHeld => ?_); refine with_tabW spec_CharacterTable.tab12 spec_CharacterTable.bits12 (fun HT_ HW_ => ?_)
        generalize wr.drew = w18 at HO_3 HO_4 HO_6 HB HL562_0 HL563_0 HR562_0 HR563_0 hx562_0 hx563_0 hHeld ⊢
        refine pu (i := 0) (N := some 28) (xB 13 1) HT_.out ?_
        refine pu (i := 1) (N := some 29) (xB 13 3) HT_.out ?_
        refine pu (i := 2) (N := some 30) (xB 13 7) HT_.out ?_
        refine pu (i := 3) (N := some 31) (xB 13 15) HT_.out ?_
        refine pu (i := 5) (N := some 33) (xB 13 47) HT_.out ?_
        refine pu (i := 6) (N := some 34) (xB 13 111) HT_.out ?_
        refine pu (i := 7) (N := some 35) (xB 13 239) HT_.out ?_
        refine tk (i := 4) (N := some 32) (xB 13 255) HT_.out HW_.out hHeld ?_
        refine tk (i := 8) (N := some 36) (xB 13 511) HT_.out HW_.out hHeld ?_
        refine one_ (i := 9) (N := some 37) (xB 13 1023) rfl rfl (one_of HT_.out (by kernel_rfl)) (by decide) (fun K hK => ?_)
        refine goes_ Try.func42 (by kernel_rfl) rfl #[.slice A562_0 (rd_L2 t556 x5_1).length c562_0, .slice A563_0 (rd_L2 t556 x7_2).length c563_0] (by rfl) rfl rfl xm ?_
        with_reducible refine (spec_l22Character.calls k2 _ _ (rd_L2 t556 x5_1) _ _ (rd_L2 t556 x7_2) t564 _ ?side1 ?side2 ?side3 ?side4 A16.out).mono ?_
        (case side1 => exact xw HR562_0.out)
        (case side2 => exact HC562_0.out)
        (case side3 => exact xw HR563_0.out)
        (case side4 => exact HC563_0.out)
        rintro e w19 ⟨rfl, hb⟩
        have HS0_ := (hb.cell (World.block_lt_of_cell? _ _ (hHeld.1))).trans (hHeld.1)
        have HS1_ := (hb.cell (World.block_lt_of_cell? _ _ (hHeld.2))).trans (hHeld.2)
        refine ⟨_, rfl, ?_⟩
        replace HO_3 := ax (Kd.S_below (xS HO_3.out) hb); replace HO_4 := ax (Kd.S_below (xS HO_4.out) hb); replace HO_6 := ax (Kd.R_below (xR HO_6.out) hb); replace HL562_0 := ax (Kd.R_below (xR HL562_0.out) hb); replace HL563_0 := ax (Kd.R_below (xR HL563_0.out) hb); replace HR562_0 := ax (Kd.C_below (xw HR562_0.out) hb); replace HR563_0 := ax (Kd.C_below (xw HR563_0.out) hb); replace HB := ax (below_step (xb HB.out) hb)
        (try clear hb)
        (try clear hb2)
        (try clear hk)
        (try clear hi)
        refine hK.out _ _ ⟨HS0_, HS1_⟩ (fun hHeld => ?_)
        clear hK K
        refine norm_ (a' := ?_) ?_ ?_
        rotate_left
        ·show Act.put _ (some 37) _ = _
         simp only [Act.put, List.setIfInBounds_toArray, List.set_cons_zero, List.set_cons_succ, i64_w, i32_w]
         rfl
        refine last_ (i := 10) (N := some 38) (xB 13 2047) rfl rfl (one_of HT_.out (by kernel_rfl)) (by decide) (fun K hK => ?_)
        refine value_ (w1 := ?_) (v := ?_) (by rfl) rfl ?_ ?_
        rotate_left 2
        ·go_simp
         constructor
         ·rfl
         ·rfl
        refine hK.out _ _ ?_
        clear hK K
        refine norm_ (a' := ?_) ?_ ?_
        rotate_left
        ·show Act.put _ (some 38) _ = _
         simp only [Act.put, List.setIfInBounds_toArray, List.set_cons_zero, List.set_cons_succ, i64_w, i32_w]
         rfl
        refine one_ (i := 11) (N := some 39) (xB 13 4095) rfl rfl (one_of HT_.out (by kernel_rfl)) (by decide) (fun K hK => ?_)
        refine Kd.R_append_step (Kd.int .i64) (w0 := w) w.heap.size (by rfl) (.tmp 28) (.tmp 38) 24 3 (.int .i64 0) 8 rfl Try.underlying24 info3 rfl (by decide) (by omega) u6 x6_2 t564 [.int .i64 t564] (fun _ => True) (fun _ => False) rfl rfl ?aP (fun _ hk => hk.elim) ?aF ?aO ?aB ?aS ?aL ?_
        (case aP => exact rfl)
        (case aB => exact (xb HB.out))
        (case aF => exact (fun _ _ => trivial))
        (case aO => exact (xR HO_6.out))
        (case aS => exact (below_size (xb HB.out)))
        (case aL => have := LMc17.out; omega)
        intro v566 w20 ho hb hg hat
        have HS0_ := cell_grown hg (hHeld.1) (by first | (rw [add_block]; exact (fun e_ => by obtain ⟨cs_, hc_⟩ := Kd.S_typed HO_4.out _ rfl; exact Kd.R_ne HO_6.out hc_ (by decide) e_)) | (show some (Addr.add _ _).block ≠ _; rw [add_block]; exact (fun e_ => by obtain ⟨cs_, hc_⟩ := Kd.S_typed HO_4.out _ rfl; exact Kd.R_ne HO_6.out hc_ (by decide) e_)) | exact (fun e_ => by obtain ⟨cs_, hc_⟩ := Kd.S_typed HO_4.out _ rfl; exact Kd.R_ne HO_6.out hc_ (by decide) e_))
        have HS1_ := cell_grown hg (hHeld.2) (by first | (rw [add_block]; exact (fun e_ => by obtain ⟨cs_, hc_⟩ := Kd.S_typed HO_4.out _ rfl; exact Kd.R_ne HO_6.out hc_ (by decide) e_)) | (show some (Addr.add _ _).block ≠ _; rw [add_block]; exact (fun e_ => by obtain ⟨cs_, hc_⟩ := Kd.S_typed HO_4.out _ rfl; exact Kd.R_ne HO_6.out hc_ (by decide) e_)) | exact (fun e_ => by obtain ⟨cs_, hc_⟩ := Kd.S_typed HO_4.out _ rfl; exact Kd.R_ne HO_6.out hc_ (by decide) e_))
        rw [← Ny565.out] at ho
        have n0_ := ax (Kd.S_after (ok := (fun k_ => some k_ ≠ (.slice (some ad562) t556.length co9 : Value).ownBlock)) (xS HO_3.out) hg hat)
        have n1_ := ax (Kd.S_after (ok := (fun k_ => some k_ ≠ (u3 : Value).ownBlock)) (xS HO_4.out) hg hat)
        have n2_ := ax (Kd.R_after (ok := (fun k_ => some k_ ≠ (u3 : Value).ownBlock ∧ some k_ ≠ (.slice (some ad562) t556.length co9 : Value).ownBlock)) (by (with_reducible repeat (first | apply Kd.R_alloc | apply Kd.R_drewN | apply Kd.R_drew)); exact Kd.R_mono HL562_0.out (fun _ hk => ⟨⟨hk.1.1, hk.2⟩, hk.1.2⟩)) hg hat)
        have n3_ := ax (Kd.R_after (ok := (fun k_ => some k_ ≠ (u3 : Value).ownBlock ∧ some k_ ≠ (.slice (some ad562) t556.length co9 : Value).ownBlock)) (by (with_reducible repeat (first | apply Kd.R_alloc | apply Kd.R_drewN | apply Kd.R_drew)); exact Kd.R_mono HL563_0.out (fun _ hk => ⟨⟨hk.1.1, hk.2⟩, hk.1.2⟩)) hg hat)
        have n4_ := ax (hb)
        have n5_ := ax (ho)
        clear HO_3 HO_4 HL562_0 HL563_0 HB HO_6
        have HO_3 := n0_
        have HO_4 := n1_
        have HL562_0 := n2_
        have HL563_0 := n3_
        have HB := n4_
        have HO567 := n5_
        clear n0_ n1_ n2_ n3_ n4_ n5_ ho hb hg hat
        refine hK.out _ _ ⟨HS0_, HS1_⟩ (fun hHeld => ?_)
        clear hK K
        refine norm_ (a' := ?_) ?_ ?_
        rotate_left
        ·show Act.put _ (some 39) _ = _
         simp only [Act.put, List.setIfInBounds_toArray, List.set_cons_zero, List.set_cons_succ, i64_w, i32_w]
         rfl
        refine pu (i := 12) (N := some 6) (xB 13 8191) HT_.out ?_
        refine done_ (done_of HT_.out (by kernel_rfl)) ?_
        try go_wp2
        go_roundg k2
        case measure => have := HK1.out; have := HK2.out; omega
        case rel => exact ⟨(y565), (wrap64 (x7_2 + 1)), xr, H', ⟨by have := HK1.out; have := HK2.out; omega⟩, ⟨xS HO_3.out⟩, ⟨xS HO_4.out⟩, ⟨xR HO567.out⟩, ⟨xb HB.out⟩⟩
       ·rw [if_neg c12] at H
        have c12b0 := decide_eq_false c12
        clear c12
        obtain ⟨c21, H⟩ := xp H
        have LMc21 := ax c21
        clear c21
        obtain ⟨y568, hy568⟩ : ∃ y_ : List (List Int), y_ = (x3_1 ++ [x6_2]) := ⟨_, rfl⟩
        replace H : (spec_CharacterTable.l0 k2 y568 t556 (wrap64 (x5_1 + 1))) = some r := by first | (rw [hy568]; with_reducible exact H) | (have H2_ := (Option.bind_some _ _).symm.trans H; rw [hy568]; with_reducible exact H2_) | (have H2_ := (Option.bind_some _ _).symm.trans H; with_reducible exact H2_) | with_reducible exact H | (rw [hy568]; exact H) | exact H
        have Ny568 := ax hy568
        clear hy568
        have H' := ax H
        clear H
        obtain ⟨Ao23, co23, eo23⟩ := Kd.R_slice HO_6.out
        subst eo23
        go_wp2_with (first | ((with_reducible refine gate_builtin (b := .append) (xs := #[.tmp 40, .tmp 42]) rfl ?_); at_builtin; refine Kd.S_append (Kd.slice 3 (Kd.int .i64)) (w0 := w) w.heap.size rfl (.tmp 40) (.tmp 42) 31 24 (.slice none 0 0) 24 rfl Try.underlying31 info24 rfl (by decide) (by omega) u3 x3_1 x6_2 [.slice Ao23 x6_2.length co23] (fun k_ => some k_ ≠ (.slice Ao9 t556.length co9 : Value).ownBlock) (fun k_ => some k_ = (.slice Ao23 x6_2.length co23 : Value).ownBlock) rfl rfl ?aP (fun k_ hk_ => ((Kd.R_mono (ok' := fun k_ => ((fun k_ => some k_ ≠ (.slice Ao9 t556.length co9 : Value).ownBlock)) k_ ∧ some k_ ≠ (u3 : Value).ownBlock) (Kd.R_apart' (Kd.R_apart' (HO_6.out) (Kd.S_typed HO_4.out) (by decide)) (Kd.S_typed HO_3.out) (by decide)) (fun k_ hk => ⟨hk.1.2, hk.2⟩))).1 k_ hk_.symm) ?aF ?aO ?aB ?aS ?aL ?_; (case aP => exact Kd.M_row (Kd.R_mono (Kd.R_tight rfl (Kd.R_mono (ok' := fun k_ => ((fun k_ => some k_ ≠ (.slice Ao9 t556.length co9 : Value).ownBlock)) k_ ∧ some k_ ≠ (u3 : Value).ownBlock) (Kd.R_apart' (Kd.R_apart' (HO_6.out) (Kd.S_typed HO_4.out) (by decide)) (Kd.S_typed HO_3.out) (by decide)) (fun k_ hk => ⟨hk.1.2, hk.2⟩))) (fun _ h_ => h_))); (case aB => exact (xb HB.out)); (case aF => exact (fun k_ hk => Kd.fresh' (Kd.S_lt (xS HO_4.out)) k_ hk)); (case aO => exact (by (with_reducible repeat (first | apply Kd.S_alloc | apply Kd.S_drewN | apply Kd.S_drew)); exact Kd.S_mono HO_3.out (fun k_ hk => ⟨hk.1, fun e_ => hk.2 e_⟩))); (case aS => exact (below_size (xb HB.out))); (case aL => have := LMc21.out; omega); intro v569 w22 ho hb hg hat; rw [← Ny568.out] at ho; have n0_ := ax (Kd.S_after (ok := (fun k_ => some k_ ≠ (.slice Ao23 x6_2.length co23 : Value).ownBlock)) (by (with_reducible repeat (first | apply Kd.S_alloc | apply Kd.S_drewN | apply Kd.S_drew)); exact Kd.S_mono HO_4.out (fun _ hk => ⟨hk.2, hk.1⟩)) hg hat); have n1_ := ax (hb); have n2_ := ax (ho); clear HO_4; clear HB; clear HO_3; clear HO_6; have HO_4 := n0_; have HB := n1_; have HO570 := n2_; clear n0_ n1_ n2_; clear ho hb hg hat))
        go_roundg k2
        case measure => have := HK1.out; have := HK2.out; omega
        case rel => exact ⟨(y568), (wrap64 (x5_1 + 1)), xr, H', ⟨by have := HK1.out; have := HK2.out; omega⟩, ⟨xS HO570.out⟩, ⟨by (with_reducible repeat (first | apply Kd.S_alloc | apply Kd.S_drewN | apply Kd.S_drew)); exact Kd.S_mono HO_4.out (fun _ hk => hk.2)⟩, ⟨xb HB.out⟩⟩
    ·rw [if_neg c8] at H
     have c8b0 := decide_eq_false c8
     clear c8
     obtain rfl := Option.some.inj H
     obtain ⟨Ao24, co24, eo24⟩ := Kd.S_slice HO_4.out
     subst eo24
     go_wp2
     go_ret
     exact ⟨_, xe, by (with_reducible repeat (first | apply Kd.S_alloc | apply Kd.S_drewN | apply Kd.S_drew)); exact Kd.S_mono HO_3.out (fun _ hk => trivial), xb HB.out⟩
 ·replace c3 := Bool.eq_false_iff.mpr c3
  subst c3
  rw [if_neg (show ¬ (false = true) by decide)] at H
  obtain rfl := Option.some.inj H
  go_enter Try.func16, Try.ntmps16
  go_wp2_with (first | ((with_reducible refine gate_dst (N := 8) rfl ?_); refine Kd.S_lit (Kd.slice 3 (Kd.int .i64)) _ 24 ?hg (N := 8) ?hd (xs := ([] : List (List Int))) (inner := []) (ok := fun _ => True) (okp := fun _ => True) ?hr ?hp (fun _ hk => hk) trivial (Below.refl _ _) (Nat.le_refl _) (by simp) ?_; (case hd => rfl); (case hg => rfl); (case hr => first | (go_simp; done) | (go_simp; rfl)); (case hp => exact (Reps.none _ _)); intro v553 w25 ho26 hb hg_ hnew_; clear hg_ hnew_; (first | rw [← Ny552.out] at ho26 | (simp only [Int.reduceToNat] at ho26; rw [← Ny552.out] at ho26)); have HO554 := ax (Kd.S_lower ho26 (below_size (xb HB.out))); replace HB := ax (below_step (xb HB.out) hb); clear hb ho26) | ((with_reducible refine gate_callee (f := 44) rfl ?_); refine goesL_ (some 10) rfl rfl Try.func44 (by kernel_rfl) rfl #[.int .i64 a0, .int .i64 0, .int .i64 6] rfl xm ?_; (with_reducible refine (spec_l1In.calls a0 0 6 false _ A2.out).mono ?_); rintro e w' ⟨rfl, ⟨nd, rfl⟩⟩; refine ⟨_, rfl, ?_⟩))
  go_ret
  exact ⟨_, xe, xS HO554.out, xb HB.out⟩

/-! ### impl_SignOf: function 17 -/
def impl_SignOf.f (k : Nat) (l0 : List Int) : Option (Int) := (impl_IsPartition.f k l0).bind fun t571 => (if t571 = true then ((impl_sum.f k l0).bind fun t572 => (if (Int.tmod (wrap64 (t572 - (l0.length : Int))) 2) = 0 then (some 1) else (some (-1)))) else (some 0))
theorem impl_SignOf.mono : ∀ a0 k, LeO (impl_SignOf.f k a0) (impl_SignOf.f (k + 1) a0) := by
 intro a0 k
 unfold impl_SignOf.f
 repeat' with_reducible first | exact impl_IsPartition.mono _ _ | exact impl_sum.mono _ _ | exact xl | refine LeO.ite ?_ ?_ | refine LeO.bind ?_ fun _ => ?_
set_option maxHeartbeats 8000000 in
set_option maxRecDepth 100000 in
theorem impl_SignOf.calls (k : Nat) (A0 : Option Addr) (c0 : Nat) (l0 : List Int) (r : Int) (w : World) (hr0 : Kd.C (Kd.int .i64) w A0 l0.length l0) (hc0 : l0.length ≤ c0) (h : impl_SignOf.f k l0 = some r) :
  Calls Try.prog 17 #[.slice A0 l0.length c0] w fun e w' => e = .returned (.int .i64 r) ∧ Drawn0 w w' := by
 have HR0 := ax hr0
 have HC0 := ax hc0
 clear hr0 hc0
 have H : ((impl_IsPartition.f k l0).bind fun t571 => (if t571 = true then ((impl_sum.f k l0).bind fun t572 => (if (Int.tmod (wrap64 (t572 - (l0.length : Int))) 2) = 0 then (some 1) else (some (-1)))) else (some 0))) = some r := h
 clear h
 obtain ⟨t571, A2, H⟩ := xI H
 by_cases c3 : t571 = true
 ·subst c3
  rw [if_pos rfl] at H
  obtain ⟨t572, A4, H⟩ := xI H
  by_cases c5 : (Int.tmod (wrap64 (t572 - (l0.length : Int))) 2) = 0
  ·rw [if_pos c5] at H
   have c5b0 : ((Int.tmod (wrap64 (t572 - (l0.length : Int))) 2) == 0) = true := beq_iff_eq.mpr c5
   have c5b1 : ((Int.tmod (wrap64 (t572 - (l0.length : Int))) 2) != 0) = false := bne_eq_false_iff_eq.mpr c5
   clear c5
   obtain rfl := Option.some.inj H
   go_enter Try.func17, Try.ntmps17
   go_wp2_with (first | ((with_reducible refine gate_callee (f := 45) rfl ?_); refine goesL_ (some 5) rfl rfl Try.func45 (by kernel_rfl) rfl #[.slice A0 l0.length c0] rfl xm ?_; (with_reducible refine (impl_IsPartition.calls k _ _ l0 true _ ?side1 ?side2 A2.out).mono ?_); (case side1 => exact xc HR0.out); (case side2 => exact HC0.out); rintro e w' ⟨rfl, ⟨nd, rfl⟩⟩; refine ⟨_, rfl, ?_⟩) | ((with_reducible refine gate_callee (f := 46) rfl ?_); refine goesL_ (some 9) rfl rfl Try.func46 (by kernel_rfl) rfl #[.slice A0 l0.length c0] rfl xm ?_; (with_reducible refine (impl_sum.calls k _ _ l0 t572 _ ?side1 ?side2 A4.out).mono ?_); (case side1 => exact xc HR0.out); (case side2 => exact HC0.out); rintro e w' ⟨rfl, ⟨nd, rfl⟩⟩; refine ⟨_, rfl, ?_⟩))
   go_ret
   exact ⟨by first | rfl | (simp; done) | (simp [*]; done), by repeat (first | exact Drawn0.refl _ | apply Drawn0.step)⟩
  ·rw [if_neg c5] at H
   have c5b0 : ((Int.tmod (wrap64 (t572 - (l0.length : Int))) 2) == 0) = false := beq_eq_false_iff_ne.mpr c5
   have c5b1 : ((Int.tmod (wrap64 (t572 - (l0.length : Int))) 2) != 0) = true := bne_iff_ne.mpr c5
   obtain rfl := Option.some.inj H
   go_enter Try.func17, Try.ntmps17
   go_wp2_with (first | ((with_reducible refine gate_callee (f := 45) rfl ?_); refine goesL_ (some 5) rfl rfl Try.func45 (by kernel_rfl) rfl #[.slice A0 l0.length c0] rfl xm ?_; (with_reducible refine (impl_IsPartition.calls k _ _ l0 true _ ?side1 ?side2 A2.out).mono ?_); (case side1 => exact xc HR0.out); (case side2 => exact HC0.out); rintro e w' ⟨rfl, ⟨nd, rfl⟩⟩; refine ⟨_, rfl, ?_⟩) | ((with_reducible refine gate_callee (f := 46) rfl ?_); refine goesL_ (some 9) rfl rfl Try.func46 (by kernel_rfl) rfl #[.slice A0 l0.length c0] rfl xm ?_; (with_reducible refine (impl_sum.calls k _ _ l0 t572 _ ?side1 ?side2 A4.out).mono ?_); (case side1 => exact xc HR0.out); (case side2 => exact HC0.out); rintro e w' ⟨rfl, ⟨nd, rfl⟩⟩; refine ⟨_, rfl, ?_⟩))
   go_ret
   exact ⟨by first | rfl | (simp; done) | (simp [*]; done), by repeat (first | exact Drawn0.refl _ | apply Drawn0.step)⟩
 ·replace c3 := Bool.eq_false_iff.mpr c3
  subst c3
  rw [if_neg (show ¬ (false = true) by decide)] at H
  obtain rfl := Option.some.inj H
  go_enter Try.func17, Try.ntmps17
  go_wp2_with (first | ((with_reducible refine gate_callee (f := 45) rfl ?_); refine goesL_ (some 5) rfl rfl Try.func45 (by kernel_rfl) rfl #[.slice A0 l0.length c0] rfl xm ?_; (with_reducible refine (impl_IsPartition.calls k _ _ l0 false _ ?side1 ?side2 A2.out).mono ?_); (case side1 => exact xc HR0.out); (case side2 => exact HC0.out); rintro e w' ⟨rfl, ⟨nd, rfl⟩⟩; refine ⟨_, rfl, ?_⟩))
  go_ret
  exact ⟨by first | rfl | (simp; done) | (simp [*]; done), by repeat (first | exact Drawn0.refl _ | apply Drawn0.step)⟩

end Go.Proofs.Ytopmggldaicpaab.PFnCharacters
