-- Written by a program of this session (wip/print/xprint.py).
import Derived.Test.YtopmggldaicpaabPFnCharactersx0
import Derived.Test.YtopmggldaicpaabPFnCharactersx1
import Derived.Test.YtopmggldaicpaabPFnCharactersx2
import Derived.Test.YtopmggldaicpaabPFnCharactersx3
import Derived.Test.YtopmggldaicpaabPFnCharactersx6
namespace Go.Proofs.Ytopmggldaicpaab.PFnCharacters
open Go.RowKit Go.Proofs.YtopmggldaicpaabW.PrintWords Go.Proofs.YtopmggldaicpaabW.PrintLast Go.Proofs.YtopmggldaicpaabW.PrintMore
attribute [local go_sem] max2_int min2_int max_two min_two max_three min_three max_four min_four   -- for this text's walks alone
set_option linter.unusedVariables false
set_option linter.unusedSimpArgs false

/-! ### impl_vectorOf__impl_SchurOfPower_1: function 98 -/
def impl_vectorOf__impl_SchurOfPower_1.l0 : Nat → List Int → List (List Int) → Int → Int → List Int → Option (List Int)
 | 0, _, _, _, _, _ => none
 | k + 1, x5, x15, x16, x17, x336000 => if x17 < x16 then (if 0 ≤ x17 then (if x17 < (x15.length : Int) then ((impl_SchurOfPower_1__c.f k (rd_L2 x15 x17) x336000).bind fun t346 => (if x5.length < 17592186044416 then (impl_vectorOf__impl_SchurOfPower_1.l0 k (x5 ++ [t346]) x15 x16 (wrap64 (x17 + 1)) x336000) else (none))) else (none)) else (none)) else (some x5)
def impl_vectorOf__impl_SchurOfPower_1.f (k : Nat) (l0 : List Int) (l1_0 : List Int) : Option (List Int) := (impl_SizeOf.f k l0).bind fun t336 => ((impl_within.f t336 0 6).bind fun t337 => (if t337 = true then ((impl_SizeOf.f k l0).bind fun t341 => ((impl_PartitionsOf.f k t341).bind fun t342 => (impl_vectorOf__impl_SchurOfPower_1.l0 k (([] : List Int)) t342 (t342.length : Int) 0 l1_0))) else (some ([] : List Int))))
theorem impl_vectorOf__impl_SchurOfPower_1.mono_l : ∀ k, (∀ y0 y1 y2 y3 y4, LeO (impl_vectorOf__impl_SchurOfPower_1.l0 k y0 y1 y2 y3 y4) (impl_vectorOf__impl_SchurOfPower_1.l0 (k + 1) y0 y1 y2 y3 y4))
 | 0 => fun _ _ _ _ _ r h => by simp [impl_vectorOf__impl_SchurOfPower_1.l0] at h
 | k + 1 => by
  have ih0 := impl_vectorOf__impl_SchurOfPower_1.mono_l k
  ·intro y0 y1 y2 y3 y4
   unfold impl_vectorOf__impl_SchurOfPower_1.l0
   repeat' with_reducible first | exact ih0 _ _ _ _ _ | exact impl_PartitionsOf.mono _ _ | exact impl_SchurOfPower_1__c.mono _ _ _ | exact impl_SizeOf.mono _ _ | exact xl | refine LeO.ite ?_ ?_ | refine LeO.bind ?_ fun _ => ?_
theorem impl_vectorOf__impl_SchurOfPower_1.mono : ∀ a0 a1 k, LeO (impl_vectorOf__impl_SchurOfPower_1.f k a0 a1) (impl_vectorOf__impl_SchurOfPower_1.f (k + 1) a0 a1) := by
 intro a0 a1 k
 have ih0 := impl_vectorOf__impl_SchurOfPower_1.mono_l k
 unfold impl_vectorOf__impl_SchurOfPower_1.f
 repeat' with_reducible first | exact ih0 _ _ _ _ _ | exact impl_PartitionsOf.mono _ _ | exact impl_SchurOfPower_1__c.mono _ _ _ | exact impl_SizeOf.mono _ _ | exact xl | refine LeO.ite ?_ ?_ | refine LeO.bind ?_ fun _ => ?_
set_option maxHeartbeats 8000000 in
set_option maxRecDepth 100000 in
theorem impl_vectorOf__impl_SchurOfPower_1.calls (k : Nat) (A0 : Option Addr) (c0 : Nat) (l0 : List Int) (g1_0 : Nat) (A1_0 : Option Addr) (c1_0 : Nat) (l1_0 : List Int) (r : List Int) (w : World) (hr0 : Kd.C (Kd.int .i64) w A0 l0.length l0) (hc0 : l0.length ≤ c0) (hb1_0 : w.heap[g1_0]? = some (.cells #[.slice A1_0 l1_0.length c1_0] 24 (0, 0))) (hr1_0 : Kd.C (Kd.int .i64) w A1_0 l1_0.length l1_0) (hc1_0 : l1_0.length ≤ c1_0) (h : impl_vectorOf__impl_SchurOfPower_1.f k l0 l1_0 = some r) :
  Calls Try.prog 36 #[.slice A0 l0.length c0, .func (.func 37) #[] #[.pointer (some ⟨g1_0, 0, none⟩)]] w fun e w' => ∃ v0_ : Value, e = .returned (v0_) ∧ Kd.R (Kd.int .i64) 3 w' w.heap.size (fun _ => True) v0_ r ∧ Below w.heap.size w w' := by
 have HR0 := ax hr0
 have HC0 := ax hc0
 clear hr0 hc0
 have HR1_0 := ax hr1_0
 have HC1_0 := ax hc1_0
 clear hr1_0 hc1_0
 have HX1_0 := ax hb1_0
 clear hb1_0
 have HB := ax (Below.refl w.heap.size w)
 have H : ((impl_SizeOf.f k l0).bind fun t336 => ((impl_within.f t336 0 6).bind fun t337 => (if t337 = true then ((impl_SizeOf.f k l0).bind fun t341 => ((impl_PartitionsOf.f k t341).bind fun t342 => (impl_vectorOf__impl_SchurOfPower_1.l0 k (([] : List Int)) t342 (t342.length : Int) 0 l1_0))) else (some ([] : List Int))))) = some r := h
 clear h
 obtain ⟨t336, A3, H⟩ := xI H
 obtain ⟨t337, A4, H⟩ := xI H
 by_cases c5 : t337 = true
 ·subst c5
  rw [if_pos rfl] at H
  obtain ⟨y338, hy338⟩ : ∃ y_ : List Int, y_ = (([] : List Int)) := ⟨_, rfl⟩
  replace H : ((impl_SizeOf.f k l0).bind fun t341 => ((impl_PartitionsOf.f k t341).bind fun t342 => (impl_vectorOf__impl_SchurOfPower_1.l0 k y338 t342 (t342.length : Int) 0 l1_0))) = some r := by first | (rw [hy338]; with_reducible exact H) | (have H2_ := (Option.bind_some _ _).symm.trans H; rw [hy338]; with_reducible exact H2_) | (have H2_ := (Option.bind_some _ _).symm.trans H; with_reducible exact H2_) | with_reducible exact H | (rw [hy338]; exact H) | exact H
  have Ny338 := ax hy338
  clear hy338
  obtain ⟨t341, A6, H⟩ := xI H
  obtain ⟨t342, A7, H⟩ := xI H
  have H' := ax H
  clear H
  go_enter Try.func36, Try.ntmps36
  go_wp2_with (first | ((with_reducible refine gate_callee (f := 32) rfl ?_); refine goesL_ (some 9) rfl rfl Try.func32 (by kernel_rfl) rfl #[.slice A0 l0.length c0] rfl xm ?_; (with_reducible refine (impl_SizeOf.calls k _ _ l0 t336 _ ?side1 ?side2 A3.out).mono ?_); (case side1 => exact xc HR0.out); (case side2 => exact HC0.out); rintro e w' ⟨rfl, ⟨nd, rfl⟩⟩; refine ⟨_, rfl, ?_⟩) | ((with_reducible refine gate_callee (f := 39) rfl ?_); refine goesL_ (some 10) rfl rfl Try.func39 (by kernel_rfl) rfl #[.int .i64 t336, .int .i64 0, .int .i64 6] rfl xm ?_; (with_reducible refine (impl_within.calls t336 0 6 true _ A4.out).mono ?_); rintro e w' ⟨rfl, ⟨nd, rfl⟩⟩; refine ⟨_, rfl, ?_⟩) | ((with_reducible refine gate_dst (N := 12) rfl ?_); refine Kd.R_lit (Kd.int .i64) _ 3 ?hg (N := 12) ?hd (xs := ([] : List Int)) (inner := []) (ok := fun _ => True) (okp := fun _ => True) ?hr ?hp (fun _ hk => hk) trivial (Below.refl _ _) (Nat.le_refl _) (by simp) ?_; (case hd => rfl); (case hg => rfl); (case hr => first | (go_simp; done) | (go_simp; rfl)); (case hp => exact (Reps.none _ _)); intro v339 w8 ho9 hb hg_ hnew_; clear hg_ hnew_; (first | rw [← Ny338.out] at ho9 | (simp only [Int.reduceToNat] at ho9; rw [← Ny338.out] at ho9)); have HO340 := ax (Kd.R_lower ho9 (below_size (xb HB.out))); replace HX1_0 := ax (blk_below (g := g1_0) (o := .cells #[.slice A1_0 l1_0.length c1_0] 24 (0, 0)) (xk HX1_0.out) hb); replace HB := ax (below_step (xb HB.out) hb); clear hb ho9) | ((with_reducible refine gate_callee (f := 32) rfl ?_); refine goesL_ (some 14) rfl rfl Try.func32 (by kernel_rfl) rfl #[.slice A0 l0.length c0] rfl xm ?_; (with_reducible refine (impl_SizeOf.calls k _ _ l0 t341 _ ?side1 ?side2 A6.out).mono ?_); (case side1 => exact xz HR0.out (Kd.C_below · HB.out)); (case side2 => exact HC0.out); rintro e w' ⟨rfl, ⟨nd, rfl⟩⟩; refine ⟨_, rfl, ?_⟩) | ((with_reducible refine gate_callee (f := 40) rfl ?_); refine goesL_ (some 15) rfl rfl Try.func40 (by kernel_rfl) rfl #[.int .i64 t341] rfl xm ?_; (with_reducible refine (impl_PartitionsOf.calls k t341 t342 _ A7.out).mono ?_); rintro e w10 ⟨v343, rfl, ho0, hb⟩; refine ⟨_, rfl, ?_⟩; have HO344 := ax (Kd.N_lower (Kd.N_mono (ok' := fun k_ => some k_ ≠ (v339 : Value).ownBlock ∧ k_ ≠ g1_0) ho0 (fun k_ hk_ => ⟨(Kd.fresh' (Kd.R_lt (xR HO340.out)) k_ hk_), (Kd.freshB (g := g1_0) (o := .cells #[.slice A1_0 l1_0.length c1_0] 24 (0, 0)) (xk HX1_0.out) k_ hk_)⟩)) (below_size (xb HB.out))); replace HO340 := ax (Kd.R_below (xR HO340.out) hb); replace HX1_0 := ax (blk_below (g := g1_0) (o := .cells #[.slice A1_0 l1_0.length c1_0] 24 (0, 0)) (xk HX1_0.out) hb); replace HB := ax (below_step (xb HB.out) hb); (try clear hb); (try clear hb2); (try clear hk); (try clear hi); (try clear ho0); obtain ⟨Ao11, co11, eo11⟩ := Kd.N_slice HO344.out; subst eo11))
  go_loopg [5, 17] k (fun kq v5 v17 w' => ∃ (x5_1 : List Int) (x17_1 : Int), v17 = .int .i64 x17_1 ∧ Aside0 (impl_vectorOf__impl_SchurOfPower_1.l0 kq x5_1 t342 (t342.length : Int) x17_1 l1_0 = some r) ∧ Aside0 (kq ≤ k) ∧ Aside0 (Kd.R (Kd.int .i64) 3 w' w.heap.size (fun _ => True) v5 x5_1) ∧ Aside0 (Kd.N (Kd.slice 3 (Kd.int .i64)) 24 w' w.heap.size (fun k_ => some k_ ≠ (v5 : Value).ownBlock ∧ k_ ≠ g1_0) (.slice Ao11 t342.length co11) t342) ∧ Aside0 (w'.heap[g1_0]? = some (.cells #[(.slice A1_0 l1_0.length c1_0)] 24 (0, 0))) ∧ Aside0 (Below w.heap.size w w'))
  case atStart => exact ⟨(y338), (0), xr, H', ⟨Nat.le_refl _⟩, ⟨xR HO340.out⟩, ⟨xN HO344.out⟩, ⟨xk HX1_0.out⟩, ⟨xb HB.out⟩⟩
  case round =>
   clear H'
   (try clear c1); (try clear p2); (try clear c3); (try clear c4); (try clear c5)
   obtain ⟨x5_1, x17_1, rfl, HA, HK1, HO_5, HO_15, HX1_0, HB⟩ := hrel
   cases gk with
   | zero => exact absurd HA.out (by simp [impl_vectorOf__impl_SchurOfPower_1.l0])
   | succ k1 =>
    have H := HA.out
    clear HA
    simp only [impl_vectorOf__impl_SchurOfPower_1.l0] at H
    by_cases c12 : x17_1 < (t342.length : Int)
    ·rw [if_pos c12] at H
     have c12b0 := decide_eq_true c12
     clear c12
     obtain ⟨c13, H⟩ := xp H
     have c13b0 := decide_eq_true c13
     clear c13
     obtain ⟨c14, H⟩ := xp H
     have c14b0 := decide_eq_true c14
     clear c14
     obtain ⟨t346, A15, H⟩ := xI H
     obtain ⟨c16, H⟩ := xp H
     have LMc16 := ax c16
     clear c16
     obtain ⟨y347, hy347⟩ : ∃ y_ : List Int, y_ = (x5_1 ++ [t346]) := ⟨_, rfl⟩
     replace H : (impl_vectorOf__impl_SchurOfPower_1.l0 k1 y347 t342 (t342.length : Int) (wrap64 (x17_1 + 1)) l1_0) = some r := by first | (rw [hy347]; with_reducible exact H) | (have H2_ := (Option.bind_some _ _).symm.trans H; rw [hy347]; with_reducible exact H2_) | (have H2_ := (Option.bind_some _ _).symm.trans H; with_reducible exact H2_) | with_reducible exact H | (rw [hy347]; exact H) | exact H
     have Ny347 := ax hy347
     clear hy347
     have H' := ax H
     clear H
     have p345 : 0 ≤ (x17_1 : Int) := xd
     have q345 : x17_1 < (t342.length : Int) := xd
     obtain ⟨ad345, A345_0, c345_0, e345, hx345_0, hl345_0, hi345_0⟩ := at_L2 (Kd.N_reads' HO_15.out).2.2 x17_1 p345 q345
     cases e345
     obtain ⟨ce345, hce345, hMe345, hcc345⟩ := Kd.N_get HO_15.out [] x17_1 p345 (by first | exact q345 | exact xd | (have e_ := (Kd.N_reads' HO_15.out).1; omega))
     obtain ⟨ua345_0, uc345_0, rfl, ul345_0, ge345_0⟩ := Kd.FK_slice_open hMe345
     have hv345_0 := hcc345 0 _ rfl
     rw [Nat.add_zero, show ((Kd.slice 3 (Kd.int .i64))).sz = 1 from rfl, Nat.mul_one] at hv345_0
     replace hv345_0 := Option.some.inj (hv345_0.symm.trans hx345_0)
     injection hv345_0 with hva_ hvn_ hvc_
     rw [hva_] at ge345_0
     rw [hvc_] at ul345_0
     have HL345_0 := ax (show Kd.V (Kd.int .i64) 3 _ w.heap.size _ _ (rd_L2 t342 x17_1) from Kd.V_mk ul345_0 ge345_0)
     clear hva_ hvn_ hvc_ ge345_0 ul345_0 hcc345 hce345
     have HR345_0 := ax hi345_0
     have HC345_0 := ax hl345_0
     clear hi345_0 hl345_0
     replace p345 := eq_true p345
     replace q345 := eq_true q345
     go_wp2_with (first | (go_at_call 37; (with_reducible refine (impl_SchurOfPower_1__c.calls k1 _ _ (rd_L2 t342 x17_1) g1_0 A1_0 c1_0 l1_0 t346 _ ?side1 ?side2 ?side3 ?side4 ?side5 A15.out).mono ?_); (case side1 => exact xw HR345_0.out); (case side2 => exact HC345_0.out); (case side3 => (with_reducible repeat (first | refine blk_drewN ?_ _ | refine blk_drew ?_ | refine blk_alloc ?_ _)); exact HX1_0.out); (case side4 => exact xz HR1_0.out (Kd.C_below · HB.out)); (case side5 => exact HC1_0.out); rintro e w17 ⟨rfl, hb⟩; replace HO_5 := ax (Kd.R_below (xR HO_5.out) hb); replace HO_15 := ax (Kd.N_below (xN HO_15.out) hb); replace HL345_0 := ax (Kd.V_below (xV HL345_0.out) hb); replace HX1_0 := ax (blk_below (g := g1_0) (o := .cells #[.slice A1_0 l1_0.length c1_0] 24 (0, 0)) (xk HX1_0.out) hb); replace HR345_0 := ax (Kd.C_below (xw HR345_0.out) hb); replace HB := ax (below_step (xb HB.out) hb); (try clear hb); (try clear hb2); (try clear hk); (try clear hi)) | ((with_reducible refine gate_builtin (b := .append) (xs := #[.tmp 21, .tmp 25]) rfl ?_); at_builtin; refine Kd.R_append (Kd.int .i64) (w0 := w) w.heap.size rfl (.tmp 21) (.tmp 25) 24 3 (.int .i64 0) 8 rfl Try.underlying24 info3 rfl (by decide) (by omega) u5 x5_1 t346 [.int .i64 t346] (fun _ => True) (fun _ => False) rfl rfl ?aP (fun _ hk => hk.elim) ?aF ?aO ?aB ?aS ?aL ?_; (case aP => exact rfl); (case aB => exact (xb HB.out)); (case aF => exact (fun _ _ => trivial)); (case aO => exact (xR HO_5.out)); (case aS => exact (below_size (xb HB.out))); (case aL => have := LMc16.out; omega); intro v348 w18 ho hb hg hat; rw [← Ny347.out] at ho; have n0_ := ax (Kd.N_afterv (ok := (fun k_ => k_ ≠ g1_0)) (by (with_reducible repeat (first | apply Kd.N_alloc | apply Kd.N_drewN | apply Kd.N_drew)); exact Kd.N_mono HO_15.out (by first | exact (fun _ hk => ⟨hk.2, hk.1⟩) | exact xi)) hg hat); have n1_ := ax (blk_grown (g := g1_0) (o := .cells #[.slice A1_0 l1_0.length c1_0] 24 (0, 0)) (xk HX1_0.out) hg (Kd.R_ne HO_5.out HX1_0.out (by decide))); have n2_ := ax (Kd.V_afterv (ok := (fun k_ => some k_ ≠ (.slice (some ad345) t342.length co11 : Value).ownBlock ∧ k_ ≠ g1_0)) (by (with_reducible repeat (first | apply Kd.V_alloc | apply Kd.V_drewN | apply Kd.V_drew)); exact Kd.V_mono HL345_0.out (by first | exact (fun _ hk => ⟨⟨hk.2, hk.1.2⟩, hk.1.1⟩) | exact xi)) hg hat); have n3_ := ax (hb); have n4_ := ax (ho); clear HO_15; clear HX1_0; clear HL345_0; clear HB; clear HO_5; have HO_15 := n0_; have HX1_0 := n1_; have HL345_0 := n2_; have HB := n3_; have HO349 := n4_; clear n0_ n1_ n2_ n3_ n4_; clear ho hb hg hat))
     go_roundg k1
     case measure => have := HK1.out; omega
     case rel => exact ⟨(y347), (wrap64 (x17_1 + 1)), xr, H', ⟨by have := HK1.out; omega⟩, ⟨xR HO349.out⟩, ⟨by (with_reducible repeat (first | apply Kd.N_alloc | apply Kd.N_drewN | apply Kd.N_drew)); exact Kd.N_mono HO_15.out (fun _ hk => ⟨hk.2, hk.1⟩)⟩, ⟨xk HX1_0.out⟩, ⟨xb HB.out⟩⟩
    ·rw [if_neg c12] at H
     have c12b0 := decide_eq_false c12
     clear c12
     obtain rfl := Option.some.inj H
     go_wp2
     go_ret
     exact ⟨_, xe, xR HO_5.out, xb HB.out⟩
 ·replace c5 := Bool.eq_false_iff.mpr c5
  subst c5
  rw [if_neg (show ¬ (false = true) by decide)] at H
  obtain rfl := Option.some.inj H
  go_enter Try.func36, Try.ntmps36
  go_wp2_with (first | ((with_reducible refine gate_callee (f := 32) rfl ?_); refine goesL_ (some 9) rfl rfl Try.func32 (by kernel_rfl) rfl #[.slice A0 l0.length c0] rfl xm ?_; (with_reducible refine (impl_SizeOf.calls k _ _ l0 t336 _ ?side1 ?side2 A3.out).mono ?_); (case side1 => exact xc HR0.out); (case side2 => exact HC0.out); rintro e w' ⟨rfl, ⟨nd, rfl⟩⟩; refine ⟨_, rfl, ?_⟩) | ((with_reducible refine gate_callee (f := 39) rfl ?_); refine goesL_ (some 10) rfl rfl Try.func39 (by kernel_rfl) rfl #[.int .i64 t336, .int .i64 0, .int .i64 6] rfl xm ?_; (with_reducible refine (impl_within.calls t336 0 6 false _ A4.out).mono ?_); rintro e w' ⟨rfl, ⟨nd, rfl⟩⟩; refine ⟨_, rfl, ?_⟩))
  go_ret
  exact ⟨_, xe, by first | exact Kd.R_nil _ _ _ _ _ | exact Kd.N_nil _ _ _ _ _ | exact Kd.V_nil _ _ _ _ _ | exact Kd.Q_nil _ _ _ _ _ | exact Kd.S_nil _ _ _ _ _, xb HB.out⟩

/-! ### impl_SchurOfPower: function 8 -/
def impl_SchurOfPower.f (k : Nat) (l0 : List Int) : Option (List Int) := (impl_vectorOf__impl_SchurOfPower_1.f k l0 l0).bind fun t351 => (some t351)
theorem impl_SchurOfPower.mono : ∀ a0 k, LeO (impl_SchurOfPower.f k a0) (impl_SchurOfPower.f (k + 1) a0) := by
 intro a0 k
 unfold impl_SchurOfPower.f
 repeat' with_reducible first | exact impl_vectorOf__impl_SchurOfPower_1.mono _ _ _ | exact xl | refine LeO.ite ?_ ?_ | refine LeO.bind ?_ fun _ => ?_
set_option maxHeartbeats 8000000 in
set_option maxRecDepth 100000 in
theorem impl_SchurOfPower.calls (k : Nat) (A0 : Option Addr) (c0 : Nat) (l0 : List Int) (r : List Int) (w : World) (hr0 : Kd.C (Kd.int .i64) w A0 l0.length l0) (hc0 : l0.length ≤ c0) (h : impl_SchurOfPower.f k l0 = some r) :
  Calls Try.prog 8 #[.slice A0 l0.length c0] w fun e w' => ∃ v0_ : Value, e = .returned (v0_) ∧ Kd.R (Kd.int .i64) 3 w' w.heap.size (fun _ => True) v0_ r ∧ Below w.heap.size w w' := by
 have HR0 := ax hr0
 have HC0 := ax hc0
 clear hr0 hc0
 have HB := ax (Below.refl w.heap.size w)
 have H : ((impl_vectorOf__impl_SchurOfPower_1.f k l0 l0).bind fun t351 => (some t351)) = some r := h
 clear h
 obtain ⟨t351, A2, H⟩ := xI H
 obtain rfl := Option.some.inj H
 go_enter Try.func8, Try.ntmps8
 go_wp2_with (first | ((with_reducible refine gate_dst (N := 1) rfl ?_); refine box_event ?hg (N := 1) ?hd (cs := #[.slice A0 l0.length c0]) (t := 24) ?hr ?_; (case hd => rfl); (case hg => rfl); (case hr => first | (go_simp; done) | (go_simp; rfl)); intro gb350 hg w3 hbox hb; have BK350 := ax (hbox); have GW350 := ax ((by rw [hg]; exact (below_size (xb HB.out)) : w.heap.size ≤ gb350)); have GE350 := ax ((by rw [hg]; exact (below_size (xb HB.out)) : w.heap.size ≤ gb350)); replace HB := ax (below_step (xb HB.out) hb); clear hb hbox hg; have hcz4_0 : w3.cell? ⟨gb350, 0, none⟩ = some (.slice A0 l0.length c0) := (blk_cell BK350.out 0).trans rfl; have hfz4_0 := blk_frozen BK350.out 0) | ((with_reducible refine gate_callee (f := 36) rfl ?_); refine goesL_ (some 5) rfl rfl Try.func36 (by kernel_rfl) rfl #[.slice A0 l0.length c0, .func (.func 37) #[] #[.pointer (some ⟨gb350, 0, none⟩)]] rfl xm ?_; (with_reducible refine (impl_vectorOf__impl_SchurOfPower_1.calls k _ _ l0 gb350 A0 c0 l0 t351 _ ?side1 ?side2 ?side3 ?side4 ?side5 A2.out).mono ?_); (case side1 => exact xz HR0.out (Kd.C_below · HB.out)); (case side2 => exact HC0.out); (case side3 => (with_reducible repeat (first | refine blk_drewN ?_ _ | refine blk_drew ?_ | refine blk_alloc ?_ _)); exact BK350.out); (case side4 => exact xz HR0.out (Kd.C_below · HB.out)); (case side5 => exact HC0.out); rintro e w5 ⟨v352, rfl, ho0, hb⟩; refine ⟨_, rfl, ?_⟩; have HO353 := ax (Kd.R_lower ho0 (below_size (xs HB.out GE350.out))); replace BK350 := ax (blk_below (g := gb350) (o := .cells #[.slice A0 l0.length c0] 24 (0, 0)) (xk BK350.out) hb); replace HB := ax (below_step (xs HB.out GE350.out) hb); (try clear hb); (try clear hb2); (try clear hk); (try clear hi); (try clear ho0)))
 go_ret
 exact ⟨_, xe, xR HO353.out, xs HB.out GE350.out⟩

/-! ### spec_DrawCharacterTable: function 9 -/
def spec_DrawCharacterTable.f (k : Nat) (l0 : List Int) : Option (Int) := (spec_l1New.f k l0).bind fun bt354 => ((spec_l1PickInt.f bt354.1 bt354.2.1 bt354.2.2 (([0, 1, 2, 3, 4, 3, 4, (-1), 7] : List Int))).bind fun bt361 => (some bt361.1))
theorem spec_DrawCharacterTable.mono : ∀ a0 k, LeO (spec_DrawCharacterTable.f k a0) (spec_DrawCharacterTable.f (k + 1) a0) := by
 intro a0 k
 unfold spec_DrawCharacterTable.f
 repeat' with_reducible first | exact spec_l1New.mono _ _ | exact xl | refine LeO.ite ?_ ?_ | refine LeO.bind ?_ fun _ => ?_
set_option maxHeartbeats 8000000 in
set_option maxRecDepth 100000 in
theorem spec_DrawCharacterTable.calls (k : Nat) (A0 : Option Addr) (c0 : Nat) (l0 : List Int) (r : Int) (w : World) (hr0 : Kd.C (Kd.int .u8) w A0 l0.length l0) (hc0 : l0.length ≤ c0) (h : spec_DrawCharacterTable.f k l0 = some r) :
  Calls Try.prog 9 #[.slice A0 l0.length c0] w fun e w' => e = .returned (.int .i64 r) ∧ Below w.heap.size w w' := by
 have HR0 := ax hr0
 have HC0 := ax hc0
 clear hr0 hc0
 have HB := ax (Below.refl w.heap.size w)
 have H : ((spec_l1New.f k l0).bind fun bt354 => ((spec_l1PickInt.f bt354.1 bt354.2.1 bt354.2.2 (([0, 1, 2, 3, 4, 3, 4, (-1), 7] : List Int))).bind fun bt361 => (some bt361.1))) = some r := h
 clear h
 obtain ⟨⟨t354, t355, t356⟩, A2, H⟩ := xI H
 dsimp only at H
 obtain ⟨y358, hy358⟩ : ∃ y_ : List Int, y_ = (([0, 1, 2, 3, 4, 3, 4, (-1), 7] : List Int)) := ⟨_, rfl⟩
 replace H : ((spec_l1PickInt.f t354 t355 t356 y358).bind fun bt361 => (some bt361.1)) = some r := by first | (rw [hy358]; with_reducible exact H) | (have H2_ := (Option.bind_some _ _).symm.trans H; rw [hy358]; with_reducible exact H2_) | (have H2_ := (Option.bind_some _ _).symm.trans H; with_reducible exact H2_) | with_reducible exact H | (rw [hy358]; exact H) | exact H
 have Ny358 := ax hy358
 clear hy358
 obtain ⟨⟨t361, t362, t363⟩, A3, H⟩ := xI H
 dsimp only at H
 obtain rfl := Option.some.inj H
 go_enter Try.func9, Try.ntmps9
 go_wp2_with (first | ((with_reducible refine gate_callee (f := 26) rfl ?_); refine goesL_ (some 4) rfl rfl Try.func26 (by kernel_rfl) rfl #[.slice A0 l0.length c0] rfl xm ?_; (with_reducible refine (spec_l1New.calls k _ _ l0 t354 t355 t356 w _ ?side1 ?side2 ?side3 A2.out).mono ?_); (case side1 => exact xb HB.out); (case side2 => exact HR0.out); (case side3 => exact HC0.out); rintro e w4 ⟨g357, rfl, hi, hb, hb2⟩; refine ⟨_, rfl, ?_⟩; replace HB := ax (hb); have HI357 := ax (hi); (try clear hb); (try clear hb2); (try clear hk); (try clear hi)) | ((with_reducible refine gate_dst (N := 5) rfl ?_); refine Kd.R_lit (Kd.int .i64) _ 3 ?hg (N := 5) ?hd (xs := ([0, 1, 2, 3, 4, 3, 4, (-1), 7] : List Int)) (inner := [.int .i64 0, .int .i64 1, .int .i64 2, .int .i64 3, .int .i64 4, .int .i64 3, .int .i64 4, .int .i64 (-1), .int .i64 7]) (ok := fun _ => True) (okp := fun _ => True) ?hr ?hp (fun _ hk => hk) trivial (Below.refl _ _) (Nat.le_refl _) (by simp) ?_; (case hd => rfl); (case hg => rfl); (case hr => first | (go_simp; done) | (go_simp; rfl)); (case hp => exact (Reps.one (show Kd.M (Kd.int .i64) _ _ _ 0 [.int .i64 0] from rfl) (Reps.one (show Kd.M (Kd.int .i64) _ _ _ 1 [.int .i64 1] from rfl) (Reps.one (show Kd.M (Kd.int .i64) _ _ _ 2 [.int .i64 2] from rfl) (Reps.one (show Kd.M (Kd.int .i64) _ _ _ 3 [.int .i64 3] from rfl) (Reps.one (show Kd.M (Kd.int .i64) _ _ _ 4 [.int .i64 4] from rfl) (Reps.one (show Kd.M (Kd.int .i64) _ _ _ 3 [.int .i64 3] from rfl) (Reps.one (show Kd.M (Kd.int .i64) _ _ _ 4 [.int .i64 4] from rfl) (Reps.one (show Kd.M (Kd.int .i64) _ _ _ (-1) [.int .i64 (-1)] from rfl) (Reps.one (show Kd.M (Kd.int .i64) _ _ _ 7 [.int .i64 7] from rfl) (Reps.none _ _))))))))))); intro v359 w5 ho6 hb hg_ hnew_; clear hg_ hnew_; (first | rw [← Ny358.out] at ho6 | (simp only [Int.reduceToNat] at ho6; rw [← Ny358.out] at ho6)); have HO360 := ax (Kd.R_lower ho6 (below_size (xs HB.out (IsS54.ge HI357.out)))); replace HB := ax (below_step (xs HB.out (IsS54.ge HI357.out)) hb); replace HI357 := ax (IsS54.below (by repeat (first | (with_reducible first | exact HI357.out | apply IsS54.alloc | apply IsS54.drewN | apply IsS54.drew | apply IsS54.set_1 | apply IsS54.set_2) | exact HI357.out)) hb); clear hb ho6; obtain ⟨Ao7, co7, eo7⟩ := Kd.R_slice HO360.out; subst eo7) | ((with_reducible refine gate_callee (f := 38) rfl ?_); refine goesL_ (some 6) rfl rfl Try.func38 (by kernel_rfl) rfl #[.pointer (some ⟨g357, 0, none⟩), .slice Ao7 y358.length co7] rfl xm ?_; (with_reducible refine (spec_l1PickInt.calls g357 t354 t355 t356 _ _ y358 t361 t362 t363 w _ ?side1 ?side2 ?side3 ?side4 ?side5 A3.out).mono ?_); (case side1 => repeat (first | (with_reducible first | exact HI357.out | apply IsS54.alloc | apply IsS54.drewN | apply IsS54.drew | apply IsS54.set_1 | apply IsS54.set_2) | exact HI357.out)); (case side2 => exact xs HB.out (IsS54.ge HI357.out)); (case side3 => exact xc (Kd.R_reads' HO360.out).2.2); (case side4 => exact (Kd.R_reads' HO360.out).2.1); (case side5 => exact far_slice (IsS54.own_ne HI357.out HO360.out (by decide))); rintro e w8 ⟨rfl, hi, hb, hk⟩; refine ⟨_, rfl, ?_⟩; replace HO360 := ax (Kd.R_mono (Kd.R_keep (IsS54.apart (show IsS54 w _ g357 t354 t355 t356 from by repeat (first | (with_reducible first | exact HI357.out | apply IsS54.alloc | apply IsS54.drewN | apply IsS54.drew | apply IsS54.set_1 | apply IsS54.set_2) | exact HI357.out)) (xR HO360.out) (by decide)) hk (fun _ h => h.2)) (fun _ h => h.1)); replace HB := ax (hb); replace HI357 := ax (hi); (try clear hb); (try clear hb2); (try clear hk); (try clear hi)))
 go_ret
 exact ⟨xe, xs HB.out (IsS54.ge HI357.out)⟩

-- NOT PRINTED: function 41 (impl_CharacterTable_1)

/-! ### impl_CharacterTable_1__c: function 101 -/
def impl_CharacterTable_1__c.f (k : Nat) (l0 : List Int) (l1 : List Int) : Option (Int) := (impl_CharacterOf.f k l1 l0).bind fun t365 => (some t365)
theorem impl_CharacterTable_1__c.mono : ∀ a0 a1 k, LeO (impl_CharacterTable_1__c.f k a0 a1) (impl_CharacterTable_1__c.f (k + 1) a0 a1) := by
 intro a0 a1 k
 unfold impl_CharacterTable_1__c.f
 repeat' with_reducible first | exact impl_CharacterOf.mono _ _ _ | exact xl | refine LeO.ite ?_ ?_ | refine LeO.bind ?_ fun _ => ?_
set_option maxHeartbeats 8000000 in
set_option maxRecDepth 100000 in
theorem impl_CharacterTable_1__c.calls (k : Nat) (A0 : Option Addr) (c0 : Nat) (l0 : List Int) (g1 : Nat) (A1 : Option Addr) (c1 : Nat) (l1 : List Int) (r : Int) (w : World) (hr0 : Kd.C (Kd.int .i64) w A0 l0.length l0) (hc0 : l0.length ≤ c0) (hb1 : w.heap[g1]? = some (.cells #[.slice A1 l1.length c1] 24 (0, 0))) (hr1 : Kd.C (Kd.int .i64) w A1 l1.length l1) (hc1 : l1.length ≤ c1) (h : impl_CharacterTable_1__c.f k l0 l1 = some r) :
  Calls Try.prog 41 #[.slice A0 l0.length c0, .pointer (some ⟨g1, 0, none⟩)] w fun e w' => e = .returned (.int .i64 r) ∧ Below w.heap.size w w' := by
 have HR0 := ax hr0
 have HC0 := ax hc0
 clear hr0 hc0
 have HR1 := ax hr1
 have HC1 := ax hc1
 clear hr1 hc1
 have HX1 := ax hb1
 clear hb1
 have HB := ax (Below.refl w.heap.size w)
 have H : ((impl_CharacterOf.f k l1 l0).bind fun t365 => (some t365)) = some r := h
 clear h
 obtain ⟨t365, A3, H⟩ := xI H
 obtain rfl := Option.some.inj H
 have hcz4_0 : w.cell? ⟨g1, 0, none⟩ = some (.slice A1 l1.length c1) := (blk_cell HX1.out 0).trans rfl
 have hfz4_0 := blk_frozen HX1.out 0
 go_enter Try.func41, Try.ntmps41
 go_wp2_with (first | ((with_reducible refine gate_callee (f := 6) rfl ?_); refine goesL_ (some 6) rfl rfl Try.func6 (by kernel_rfl) rfl #[.slice A1 l1.length c1, .slice A0 l0.length c0] rfl xm ?_; (with_reducible refine (impl_CharacterOf.calls k _ _ l1 _ _ l0 t365 _ ?side1 ?side2 ?side3 ?side4 A3.out).mono ?_); (case side1 => exact xc HR1.out); (case side2 => exact HC1.out); (case side3 => exact xc HR0.out); (case side4 => exact HC0.out); rintro e w5 ⟨rfl, hb⟩; refine ⟨_, rfl, ?_⟩; replace HX1 := ax (blk_below (g := g1) (o := .cells #[.slice A1 l1.length c1] 24 (0, 0)) (xk HX1.out) hb); replace HB := ax (below_step (xb HB.out) hb); (try clear hb); (try clear hb2); (try clear hk); (try clear hi)))
 go_ret
 exact ⟨xe, xb HB.out⟩

/-! ### impl_vectorOf__impl_CharacterTable_1: function 100 -/
def impl_vectorOf__impl_CharacterTable_1.l0 : Nat → List Int → List (List Int) → Int → Int → List Int → Option (List Int)
 | 0, _, _, _, _, _ => none
 | k + 1, x5, x15, x16, x17, x367000 => if x17 < x16 then (if 0 ≤ x17 then (if x17 < (x15.length : Int) then ((impl_CharacterTable_1__c.f k (rd_L2 x15 x17) x367000).bind fun t377 => (if x5.length < 17592186044416 then (impl_vectorOf__impl_CharacterTable_1.l0 k (x5 ++ [t377]) x15 x16 (wrap64 (x17 + 1)) x367000) else (none))) else (none)) else (none)) else (some x5)
def impl_vectorOf__impl_CharacterTable_1.f (k : Nat) (l0 : List Int) (l1_0 : List Int) : Option (List Int) := (impl_SizeOf.f k l0).bind fun t367 => ((impl_within.f t367 0 6).bind fun t368 => (if t368 = true then ((impl_SizeOf.f k l0).bind fun t372 => ((impl_PartitionsOf.f k t372).bind fun t373 => (impl_vectorOf__impl_CharacterTable_1.l0 k (([] : List Int)) t373 (t373.length : Int) 0 l1_0))) else (some ([] : List Int))))
theorem impl_vectorOf__impl_CharacterTable_1.mono_l : ∀ k, (∀ y0 y1 y2 y3 y4, LeO (impl_vectorOf__impl_CharacterTable_1.l0 k y0 y1 y2 y3 y4) (impl_vectorOf__impl_CharacterTable_1.l0 (k + 1) y0 y1 y2 y3 y4))
 | 0 => fun _ _ _ _ _ r h => by simp [impl_vectorOf__impl_CharacterTable_1.l0] at h
 | k + 1 => by
  have ih0 := impl_vectorOf__impl_CharacterTable_1.mono_l k
  ·intro y0 y1 y2 y3 y4
   unfold impl_vectorOf__impl_CharacterTable_1.l0
   repeat' with_reducible first | exact ih0 _ _ _ _ _ | exact impl_CharacterTable_1__c.mono _ _ _ | exact impl_PartitionsOf.mono _ _ | exact impl_SizeOf.mono _ _ | exact xl | refine LeO.ite ?_ ?_ | refine LeO.bind ?_ fun _ => ?_
theorem impl_vectorOf__impl_CharacterTable_1.mono : ∀ a0 a1 k, LeO (impl_vectorOf__impl_CharacterTable_1.f k a0 a1) (impl_vectorOf__impl_CharacterTable_1.f (k + 1) a0 a1) := by
 intro a0 a1 k
 have ih0 := impl_vectorOf__impl_CharacterTable_1.mono_l k
 unfold impl_vectorOf__impl_CharacterTable_1.f
 repeat' with_reducible first | exact ih0 _ _ _ _ _ | exact impl_CharacterTable_1__c.mono _ _ _ | exact impl_PartitionsOf.mono _ _ | exact impl_SizeOf.mono _ _ | exact xl | refine LeO.ite ?_ ?_ | refine LeO.bind ?_ fun _ => ?_
set_option maxHeartbeats 8000000 in
set_option maxRecDepth 100000 in
theorem impl_vectorOf__impl_CharacterTable_1.calls (k : Nat) (A0 : Option Addr) (c0 : Nat) (l0 : List Int) (g1_0 : Nat) (A1_0 : Option Addr) (c1_0 : Nat) (l1_0 : List Int) (r : List Int) (w : World) (hr0 : Kd.C (Kd.int .i64) w A0 l0.length l0) (hc0 : l0.length ≤ c0) (hb1_0 : w.heap[g1_0]? = some (.cells #[.slice A1_0 l1_0.length c1_0] 24 (0, 0))) (hr1_0 : Kd.C (Kd.int .i64) w A1_0 l1_0.length l1_0) (hc1_0 : l1_0.length ≤ c1_0) (h : impl_vectorOf__impl_CharacterTable_1.f k l0 l1_0 = some r) :
  Calls Try.prog 36 #[.slice A0 l0.length c0, .func (.func 41) #[] #[.pointer (some ⟨g1_0, 0, none⟩)]] w fun e w' => ∃ v0_ : Value, e = .returned (v0_) ∧ Kd.R (Kd.int .i64) 3 w' w.heap.size (fun _ => True) v0_ r ∧ Below w.heap.size w w' := by
 have HR0 := ax hr0
 have HC0 := ax hc0
 clear hr0 hc0
 have HR1_0 := ax hr1_0
 have HC1_0 := ax hc1_0
 clear hr1_0 hc1_0
 have HX1_0 := ax hb1_0
 clear hb1_0
 have HB := ax (Below.refl w.heap.size w)
 have H : ((impl_SizeOf.f k l0).bind fun t367 => ((impl_within.f t367 0 6).bind fun t368 => (if t368 = true then ((impl_SizeOf.f k l0).bind fun t372 => ((impl_PartitionsOf.f k t372).bind fun t373 => (impl_vectorOf__impl_CharacterTable_1.l0 k (([] : List Int)) t373 (t373.length : Int) 0 l1_0))) else (some ([] : List Int))))) = some r := h
 clear h
 obtain ⟨t367, A3, H⟩ := xI H
 obtain ⟨t368, A4, H⟩ := xI H
 by_cases c5 : t368 = true
 ·subst c5
  rw [if_pos rfl] at H
  obtain ⟨y369, hy369⟩ : ∃ y_ : List Int, y_ = (([] : List Int)) := ⟨_, rfl⟩
  replace H : ((impl_SizeOf.f k l0).bind fun t372 => ((impl_PartitionsOf.f k t372).bind fun t373 => (impl_vectorOf__impl_CharacterTable_1.l0 k y369 t373 (t373.length : Int) 0 l1_0))) = some r := by first | (rw [hy369]; with_reducible exact H) | (have H2_ := (Option.bind_some _ _).symm.trans H; rw [hy369]; with_reducible exact H2_) | (have H2_ := (Option.bind_some _ _).symm.trans H; with_reducible exact H2_) | with_reducible exact H | (rw [hy369]; exact H) | exact H
  have Ny369 := ax hy369
  clear hy369
  obtain ⟨t372, A6, H⟩ := xI H
  obtain ⟨t373, A7, H⟩ := xI H
  have H' := ax H
  clear H
  go_enter Try.func36, Try.ntmps36
  go_wp2_with (first | ((with_reducible refine gate_callee (f := 32) rfl ?_); refine goesL_ (some 9) rfl rfl Try.func32 (by kernel_rfl) rfl #[.slice A0 l0.length c0] rfl xm ?_; (with_reducible refine (impl_SizeOf.calls k _ _ l0 t367 _ ?side1 ?side2 A3.out).mono ?_); (case side1 => exact xc HR0.out); (case side2 => exact HC0.out); rintro e w' ⟨rfl, ⟨nd, rfl⟩⟩; refine ⟨_, rfl, ?_⟩) | ((with_reducible refine gate_callee (f := 39) rfl ?_); refine goesL_ (some 10) rfl rfl Try.func39 (by kernel_rfl) rfl #[.int .i64 t367, .int .i64 0, .int .i64 6] rfl xm ?_; (with_reducible refine (impl_within.calls t367 0 6 true _ A4.out).mono ?_); rintro e w' ⟨rfl, ⟨nd, rfl⟩⟩; refine ⟨_, rfl, ?_⟩) | ((with_reducible refine gate_dst (N := 12) rfl ?_); refine Kd.R_lit (Kd.int .i64) _ 3 ?hg (N := 12) ?hd (xs := ([] : List Int)) (inner := []) (ok := fun _ => True) (okp := fun _ => True) ?hr ?hp (fun _ hk => hk) trivial (Below.refl _ _) (Nat.le_refl _) (by simp) ?_; (case hd => rfl); (case hg => rfl); (case hr => first | (go_simp; done) | (go_simp; rfl)); (case hp => exact (Reps.none _ _)); intro v370 w8 ho9 hb hg_ hnew_; clear hg_ hnew_; (first | rw [← Ny369.out] at ho9 | (simp only [Int.reduceToNat] at ho9; rw [← Ny369.out] at ho9)); have HO371 := ax (Kd.R_lower ho9 (below_size (xb HB.out))); replace HX1_0 := ax (blk_below (g := g1_0) (o := .cells #[.slice A1_0 l1_0.length c1_0] 24 (0, 0)) (xk HX1_0.out) hb); replace HB := ax (below_step (xb HB.out) hb); clear hb ho9) | ((with_reducible refine gate_callee (f := 32) rfl ?_); refine goesL_ (some 14) rfl rfl Try.func32 (by kernel_rfl) rfl #[.slice A0 l0.length c0] rfl xm ?_; (with_reducible refine (impl_SizeOf.calls k _ _ l0 t372 _ ?side1 ?side2 A6.out).mono ?_); (case side1 => exact xz HR0.out (Kd.C_below · HB.out)); (case side2 => exact HC0.out); rintro e w' ⟨rfl, ⟨nd, rfl⟩⟩; refine ⟨_, rfl, ?_⟩) | ((with_reducible refine gate_callee (f := 40) rfl ?_); refine goesL_ (some 15) rfl rfl Try.func40 (by kernel_rfl) rfl #[.int .i64 t372] rfl xm ?_; (with_reducible refine (impl_PartitionsOf.calls k t372 t373 _ A7.out).mono ?_); rintro e w10 ⟨v374, rfl, ho0, hb⟩; refine ⟨_, rfl, ?_⟩; have HO375 := ax (Kd.N_lower (Kd.N_mono (ok' := fun k_ => some k_ ≠ (v370 : Value).ownBlock ∧ k_ ≠ g1_0) ho0 (fun k_ hk_ => ⟨(Kd.fresh' (Kd.R_lt (xR HO371.out)) k_ hk_), (Kd.freshB (g := g1_0) (o := .cells #[.slice A1_0 l1_0.length c1_0] 24 (0, 0)) (xk HX1_0.out) k_ hk_)⟩)) (below_size (xb HB.out))); replace HO371 := ax (Kd.R_below (xR HO371.out) hb); replace HX1_0 := ax (blk_below (g := g1_0) (o := .cells #[.slice A1_0 l1_0.length c1_0] 24 (0, 0)) (xk HX1_0.out) hb); replace HB := ax (below_step (xb HB.out) hb); (try clear hb); (try clear hb2); (try clear hk); (try clear hi); (try clear ho0); obtain ⟨Ao11, co11, eo11⟩ := Kd.N_slice HO375.out; subst eo11))
  go_loopg [5, 17] k (fun kq v5 v17 w' => ∃ (x5_1 : List Int) (x17_1 : Int), v17 = .int .i64 x17_1 ∧ Aside0 (impl_vectorOf__impl_CharacterTable_1.l0 kq x5_1 t373 (t373.length : Int) x17_1 l1_0 = some r) ∧ Aside0 (kq ≤ k) ∧ Aside0 (Kd.R (Kd.int .i64) 3 w' w.heap.size (fun _ => True) v5 x5_1) ∧ Aside0 (Kd.N (Kd.slice 3 (Kd.int .i64)) 24 w' w.heap.size (fun k_ => some k_ ≠ (v5 : Value).ownBlock ∧ k_ ≠ g1_0) (.slice Ao11 t373.length co11) t373) ∧ Aside0 (w'.heap[g1_0]? = some (.cells #[(.slice A1_0 l1_0.length c1_0)] 24 (0, 0))) ∧ Aside0 (Below w.heap.size w w'))
  case atStart => exact ⟨(y369), (0), xr, H', ⟨Nat.le_refl _⟩, ⟨xR HO371.out⟩, ⟨xN HO375.out⟩, ⟨xk HX1_0.out⟩, ⟨xb HB.out⟩⟩
  case round =>
   clear H'
   (try clear c1); (try clear p2); (try clear c3); (try clear c4); (try clear c5)
   obtain ⟨x5_1, x17_1, rfl, HA, HK1, HO_5, HO_15, HX1_0, HB⟩ := hrel
   cases gk with
   | zero => exact absurd HA.out (by simp [impl_vectorOf__impl_CharacterTable_1.l0])
   | succ k1 =>
    have H := HA.out
    clear HA
    simp only [impl_vectorOf__impl_CharacterTable_1.l0] at H
    by_cases c12 : x17_1 < (t373.length : Int)
    ·rw [if_pos c12] at H
     have c12b0 := decide_eq_true c12
     clear c12
     obtain ⟨c13, H⟩ := xp H
     have c13b0 := decide_eq_true c13
     clear c13
     obtain ⟨c14, H⟩ := xp H
     have c14b0 := decide_eq_true c14
     clear c14
     obtain ⟨t377, A15, H⟩ := xI H
     obtain ⟨c16, H⟩ := xp H
     have LMc16 := ax c16
     clear c16
     obtain ⟨y378, hy378⟩ : ∃ y_ : List Int, y_ = (x5_1 ++ [t377]) := ⟨_, rfl⟩
     replace H : (impl_vectorOf__impl_CharacterTable_1.l0 k1 y378 t373 (t373.length : Int) (wrap64 (x17_1 + 1)) l1_0) = some r := by first | (rw [hy378]; with_reducible exact H) | (have H2_ := (Option.bind_some _ _).symm.trans H; rw [hy378]; with_reducible exact H2_) | (have H2_ := (Option.bind_some _ _).symm.trans H; with_reducible exact H2_) | with_reducible exact H | (rw [hy378]; exact H) | exact H
     have Ny378 := ax hy378
     clear hy378
     have H' := ax H
     clear H
     have p376 : 0 ≤ (x17_1 : Int) := xd
     have q376 : x17_1 < (t373.length : Int) := xd
     obtain ⟨ad376, A376_0, c376_0, e376, hx376_0, hl376_0, hi376_0⟩ := at_L2 (Kd.N_reads' HO_15.out).2.2 x17_1 p376 q376
     cases e376
     obtain ⟨ce376, hce376, hMe376, hcc376⟩ := Kd.N_get HO_15.out [] x17_1 p376 (by first | exact q376 | exact xd | (have e_ := (Kd.N_reads' HO_15.out).1; omega))
     obtain ⟨ua376_0, uc376_0, rfl, ul376_0, ge376_0⟩ := Kd.FK_slice_open hMe376
     have hv376_0 := hcc376 0 _ rfl
     rw [Nat.add_zero, show ((Kd.slice 3 (Kd.int .i64))).sz = 1 from rfl, Nat.mul_one] at hv376_0
     replace hv376_0 := Option.some.inj (hv376_0.symm.trans hx376_0)
     injection hv376_0 with hva_ hvn_ hvc_
     rw [hva_] at ge376_0
     rw [hvc_] at ul376_0
     have HL376_0 := ax (show Kd.V (Kd.int .i64) 3 _ w.heap.size _ _ (rd_L2 t373 x17_1) from Kd.V_mk ul376_0 ge376_0)
     clear hva_ hvn_ hvc_ ge376_0 ul376_0 hcc376 hce376
     have HR376_0 := ax hi376_0
     have HC376_0 := ax hl376_0
     clear hi376_0 hl376_0
     replace p376 := eq_true p376
     replace q376 := eq_true q376
     go_wp2_with (first | (go_at_call 41; (with_reducible refine (impl_CharacterTable_1__c.calls k1 _ _ (rd_L2 t373 x17_1) g1_0 A1_0 c1_0 l1_0 t377 _ ?side1 ?side2 ?side3 ?side4 ?side5 A15.out).mono ?_); (case side1 => exact xw HR376_0.out); (case side2 => exact HC376_0.out); (case side3 => (with_reducible repeat (first | refine blk_drewN ?_ _ | refine blk_drew ?_ | refine blk_alloc ?_ _)); exact HX1_0.out); (case side4 => exact xz HR1_0.out (Kd.C_below · HB.out)); (case side5 => exact HC1_0.out); rintro e w17 ⟨rfl, hb⟩; replace HO_5 := ax (Kd.R_below (xR HO_5.out) hb); replace HO_15 := ax (Kd.N_below (xN HO_15.out) hb); replace HL376_0 := ax (Kd.V_below (xV HL376_0.out) hb); replace HX1_0 := ax (blk_below (g := g1_0) (o := .cells #[.slice A1_0 l1_0.length c1_0] 24 (0, 0)) (xk HX1_0.out) hb); replace HR376_0 := ax (Kd.C_below (xw HR376_0.out) hb); replace HB := ax (below_step (xb HB.out) hb); (try clear hb); (try clear hb2); (try clear hk); (try clear hi)) | ((with_reducible refine gate_builtin (b := .append) (xs := #[.tmp 21, .tmp 25]) rfl ?_); at_builtin; refine Kd.R_append (Kd.int .i64) (w0 := w) w.heap.size rfl (.tmp 21) (.tmp 25) 24 3 (.int .i64 0) 8 rfl Try.underlying24 info3 rfl (by decide) (by omega) u5 x5_1 t377 [.int .i64 t377] (fun _ => True) (fun _ => False) rfl rfl ?aP (fun _ hk => hk.elim) ?aF ?aO ?aB ?aS ?aL ?_; (case aP => exact rfl); (case aB => exact (xb HB.out)); (case aF => exact (fun _ _ => trivial)); (case aO => exact (xR HO_5.out)); (case aS => exact (below_size (xb HB.out))); (case aL => have := LMc16.out; omega); intro v379 w18 ho hb hg hat; rw [← Ny378.out] at ho; have n0_ := ax (Kd.N_afterv (ok := (fun k_ => k_ ≠ g1_0)) (by (with_reducible repeat (first | apply Kd.N_alloc | apply Kd.N_drewN | apply Kd.N_drew)); exact Kd.N_mono HO_15.out (by first | exact (fun _ hk => ⟨hk.2, hk.1⟩) | exact xi)) hg hat); have n1_ := ax (blk_grown (g := g1_0) (o := .cells #[.slice A1_0 l1_0.length c1_0] 24 (0, 0)) (xk HX1_0.out) hg (Kd.R_ne HO_5.out HX1_0.out (by decide))); have n2_ := ax (Kd.V_afterv (ok := (fun k_ => some k_ ≠ (.slice (some ad376) t373.length co11 : Value).ownBlock ∧ k_ ≠ g1_0)) (by (with_reducible repeat (first | apply Kd.V_alloc | apply Kd.V_drewN | apply Kd.V_drew)); exact Kd.V_mono HL376_0.out (by first | exact (fun _ hk => ⟨⟨hk.2, hk.1.2⟩, hk.1.1⟩) | exact xi)) hg hat); have n3_ := ax (hb); have n4_ := ax (ho); clear HO_15; clear HX1_0; clear HL376_0; clear HB; clear HO_5; have HO_15 := n0_; have HX1_0 := n1_; have HL376_0 := n2_; have HB := n3_; have HO380 := n4_; clear n0_ n1_ n2_ n3_ n4_; clear ho hb hg hat))
     go_roundg k1
     case measure => have := HK1.out; omega
     case rel => exact ⟨(y378), (wrap64 (x17_1 + 1)), xr, H', ⟨by have := HK1.out; omega⟩, ⟨xR HO380.out⟩, ⟨by (with_reducible repeat (first | apply Kd.N_alloc | apply Kd.N_drewN | apply Kd.N_drew)); exact Kd.N_mono HO_15.out (fun _ hk => ⟨hk.2, hk.1⟩)⟩, ⟨xk HX1_0.out⟩, ⟨xb HB.out⟩⟩
    ·rw [if_neg c12] at H
     have c12b0 := decide_eq_false c12
     clear c12
     obtain rfl := Option.some.inj H
     go_wp2
     go_ret
     exact ⟨_, xe, xR HO_5.out, xb HB.out⟩
 ·replace c5 := Bool.eq_false_iff.mpr c5
  subst c5
  rw [if_neg (show ¬ (false = true) by decide)] at H
  obtain rfl := Option.some.inj H
  go_enter Try.func36, Try.ntmps36
  go_wp2_with (first | ((with_reducible refine gate_callee (f := 32) rfl ?_); refine goesL_ (some 9) rfl rfl Try.func32 (by kernel_rfl) rfl #[.slice A0 l0.length c0] rfl xm ?_; (with_reducible refine (impl_SizeOf.calls k _ _ l0 t367 _ ?side1 ?side2 A3.out).mono ?_); (case side1 => exact xc HR0.out); (case side2 => exact HC0.out); rintro e w' ⟨rfl, ⟨nd, rfl⟩⟩; refine ⟨_, rfl, ?_⟩) | ((with_reducible refine gate_callee (f := 39) rfl ?_); refine goesL_ (some 10) rfl rfl Try.func39 (by kernel_rfl) rfl #[.int .i64 t367, .int .i64 0, .int .i64 6] rfl xm ?_; (with_reducible refine (impl_within.calls t367 0 6 false _ A4.out).mono ?_); rintro e w' ⟨rfl, ⟨nd, rfl⟩⟩; refine ⟨_, rfl, ?_⟩))
  go_ret
  exact ⟨_, xe, by first | exact Kd.R_nil _ _ _ _ _ | exact Kd.N_nil _ _ _ _ _ | exact Kd.V_nil _ _ _ _ _ | exact Kd.Q_nil _ _ _ _ _ | exact Kd.S_nil _ _ _ _ _, xb HB.out⟩

/-! ### impl_CharacterTable: function 10 -/
def impl_CharacterTable.l0 : Nat → List (List Int) → List (List Int) → Int → Int → Option ((List (List Int)))
 | 0, _, _, _, _ => none
 | k + 1, x3, x11, x12, x13 => if x13 < x12 then (if 0 ≤ x13 then (if x13 < (x11.length : Int) then ((impl_vectorOf__impl_CharacterTable_1.f k (rd_L2 x11 x13) (rd_L2 x11 x13)).bind fun t390 => (if x3.length < 5864062014805 then (impl_CharacterTable.l0 k (x3 ++ [t390]) x11 x12 (wrap64 (x13 + 1))) else (none))) else (none)) else (none)) else (some x3)
def impl_CharacterTable.f (k : Nat) (a0 : Int) : Option ((List (List Int))) := (impl_within.f a0 0 6).bind fun t381 => (if t381 = true then ((impl_PartitionsOf.f k a0).bind fun t385 => (impl_CharacterTable.l0 k (([] : List (List Int))) t385 (t385.length : Int) 0)) else (some ([] : List (List Int))))
theorem impl_CharacterTable.mono_l : ∀ k, (∀ y0 y1 y2 y3, LeO (impl_CharacterTable.l0 k y0 y1 y2 y3) (impl_CharacterTable.l0 (k + 1) y0 y1 y2 y3))
 | 0 => fun _ _ _ _ r h => by simp [impl_CharacterTable.l0] at h
 | k + 1 => by
  have ih0 := impl_CharacterTable.mono_l k
  ·intro y0 y1 y2 y3
   unfold impl_CharacterTable.l0
   repeat' with_reducible first | exact ih0 _ _ _ _ | exact impl_PartitionsOf.mono _ _ | exact impl_vectorOf__impl_CharacterTable_1.mono _ _ _ | exact xl | refine LeO.ite ?_ ?_ | refine LeO.bind ?_ fun _ => ?_
theorem impl_CharacterTable.mono : ∀ a0 k, LeO (impl_CharacterTable.f k a0) (impl_CharacterTable.f (k + 1) a0) := by
 intro a0 k
 have ih0 := impl_CharacterTable.mono_l k
 unfold impl_CharacterTable.f
 repeat' with_reducible first | exact ih0 _ _ _ _ | exact impl_PartitionsOf.mono _ _ | exact impl_vectorOf__impl_CharacterTable_1.mono _ _ _ | exact xl | refine LeO.ite ?_ ?_ | refine LeO.bind ?_ fun _ => ?_
set_option maxHeartbeats 8000000 in
set_option maxRecDepth 100000 in
theorem impl_CharacterTable.calls (k : Nat) (a0 : Int) (r : List (List Int)) (w : World) (h : impl_CharacterTable.f k a0 = some r) :
  Calls Try.prog 10 #[.int .i64 a0] w fun e w' => ∃ v0_ : Value, e = .returned (v0_) ∧ Kd.N (Kd.slice 3 (Kd.int .i64)) 24 w' w.heap.size (fun k_ => (w.heap.size ≤ k_)) v0_ r ∧ Below w.heap.size w w' := by
 have HB := ax (Below.refl w.heap.size w)
 have H : ((impl_within.f a0 0 6).bind fun t381 => (if t381 = true then ((impl_PartitionsOf.f k a0).bind fun t385 => (impl_CharacterTable.l0 k (([] : List (List Int))) t385 (t385.length : Int) 0)) else (some ([] : List (List Int))))) = some r := h
 clear h
 obtain ⟨t381, A2, H⟩ := xI H
 by_cases c3 : t381 = true
 ·subst c3
  rw [if_pos rfl] at H
  obtain ⟨y382, hy382⟩ : ∃ y_ : List (List Int), y_ = (([] : List (List Int))) := ⟨_, rfl⟩
  replace H : ((impl_PartitionsOf.f k a0).bind fun t385 => (impl_CharacterTable.l0 k y382 t385 (t385.length : Int) 0)) = some r := by first | (rw [hy382]; with_reducible exact H) | (have H2_ := (Option.bind_some _ _).symm.trans H; rw [hy382]; with_reducible exact H2_) | (have H2_ := (Option.bind_some _ _).symm.trans H; with_reducible exact H2_) | with_reducible exact H | (rw [hy382]; exact H) | exact H
  have Ny382 := ax hy382
  clear hy382
  obtain ⟨t385, A4, H⟩ := xI H
  have H' := ax H
  clear H
  go_enter Try.func10, Try.ntmps10
  go_wp2_with (first | ((with_reducible refine gate_callee (f := 39) rfl ?_); refine goesL_ (some 7) rfl rfl Try.func39 (by kernel_rfl) rfl #[.int .i64 a0, .int .i64 0, .int .i64 6] rfl xm ?_; (with_reducible refine (impl_within.calls a0 0 6 true _ A2.out).mono ?_); rintro e w' ⟨rfl, ⟨nd, rfl⟩⟩; refine ⟨_, rfl, ?_⟩) | ((with_reducible refine gate_dst (N := 9) rfl ?_); refine Kd.N_lit (Kd.slice 3 (Kd.int .i64)) _ 24 ?hg (N' := 9) ?hd (xs := ([] : List (List Int))) (inner := []) (ok := (fun k_ => (w.heap.size ≤ k_))) (okp := (fun k_ => (w.heap.size ≤ k_))) ?hr ?hp (fun _ hk => hk) ((show ∀ k_, w.heap.size ≤ k_ → (fun k_ => (w.heap.size ≤ k_)) k_ from fun k_ hk => (Nat.le_trans (below_size (xb HB.out)) hk)) _ (Nat.le_refl _)) (Below.refl _ _) (Nat.le_refl _) (by simp) ?_; (case hd => rfl); (case hg => rfl); (case hr => first | (go_simp; done) | (go_simp; rfl)); (case hp => exact (Reps.none _ _)); intro v383 w5 ho6 hb hg_ hnew_; clear hg_ hnew_; (first | rw [← Ny382.out] at ho6 | (simp only [Int.reduceToNat] at ho6; rw [← Ny382.out] at ho6)); have HO384 := ax (Kd.N_lower ho6 (below_size (xb HB.out))); replace HB := ax (below_step (xb HB.out) hb); clear hb ho6) | ((with_reducible refine gate_callee (f := 40) rfl ?_); refine goesL_ (some 11) rfl rfl Try.func40 (by kernel_rfl) rfl #[.int .i64 a0] rfl xm ?_; (with_reducible refine (impl_PartitionsOf.calls k a0 t385 _ A4.out).mono ?_); rintro e w7 ⟨v386, rfl, ho0, hb⟩; refine ⟨_, rfl, ?_⟩; have HO387 := ax (Kd.N_lower (Kd.N_mono (ok' := fun k_ => (w.heap.size ≤ k_) ∧ some k_ ≠ (v383 : Value).ownBlock) ho0 (fun k_ hk_ => ⟨(Nat.le_trans (below_size (xb HB.out)) hk_), (Kd.fresh' (Kd.N_lt (xN HO384.out)) k_ hk_)⟩)) (below_size (xb HB.out))); replace HO384 := ax (Kd.N_elder' (xN HO384.out) (by first | exact Kd.N_base ho0 | exact Kd.S_base ho0 | exact Kd.R_base ho0) hb); replace HB := ax (below_step (xb HB.out) hb); (try clear hb); (try clear hb2); (try clear hk); (try clear hi); (try clear ho0); obtain ⟨Ao8, co8, eo8⟩ := Kd.N_slice HO387.out; subst eo8))
  go_loopg [3, 13] k (fun kq v3 v13 w' => ∃ (x3_1 : List (List Int)) (x13_1 : Int), v13 = .int .i64 x13_1 ∧ Aside0 (impl_CharacterTable.l0 kq x3_1 t385 (t385.length : Int) x13_1 = some r) ∧ Aside0 (kq ≤ k) ∧ Aside0 (Kd.N (Kd.slice 3 (Kd.int .i64)) 24 w' w.heap.size (fun k_ => (w.heap.size ≤ k_) ∧ some k_ ≠ ((.slice Ao8 t385.length co8) : Value).ownBlock) v3 x3_1) ∧ Aside0 (Kd.N (Kd.slice 3 (Kd.int .i64)) 24 w' w.heap.size (fun k_ => (w.heap.size ≤ k_) ∧ some k_ ≠ (v3 : Value).ownBlock) (.slice Ao8 t385.length co8) t385) ∧ Aside0 (Below w.heap.size w w'))
  case atStart => exact ⟨(y382), (0), xr, H', ⟨Nat.le_refl _⟩, ⟨xN HO384.out⟩, ⟨xN HO387.out⟩, ⟨xb HB.out⟩⟩
  case round =>
   clear H'
   (try clear c1); (try clear p2); (try clear c3); (try clear c4)
   obtain ⟨x3_1, x13_1, rfl, HA, HK1, HO_3, HO_11, HB⟩ := hrel
   cases gk with
   | zero => exact absurd HA.out (by simp [impl_CharacterTable.l0])
   | succ k1 =>
    have H := HA.out
    clear HA
    simp only [impl_CharacterTable.l0] at H
    by_cases c9 : x13_1 < (t385.length : Int)
    ·rw [if_pos c9] at H
     have c9b0 := decide_eq_true c9
     clear c9
     obtain ⟨c10, H⟩ := xp H
     have c10b0 := decide_eq_true c10
     clear c10
     obtain ⟨c11, H⟩ := xp H
     have c11b0 := decide_eq_true c11
     clear c11
     obtain ⟨t390, A12, H⟩ := xI H
     obtain ⟨c13, H⟩ := xp H
     have LMc13 := ax c13
     clear c13
     obtain ⟨y393, hy393⟩ : ∃ y_ : List (List Int), y_ = (x3_1 ++ [t390]) := ⟨_, rfl⟩
     replace H : (impl_CharacterTable.l0 k1 y393 t385 (t385.length : Int) (wrap64 (x13_1 + 1))) = some r := by first | (rw [hy393]; with_reducible exact H) | (have H2_ := (Option.bind_some _ _).symm.trans H; rw [hy393]; with_reducible exact H2_) | (have H2_ := (Option.bind_some _ _).symm.trans H; with_reducible exact H2_) | with_reducible exact H | (rw [hy393]; exact H) | exact H
     have Ny393 := ax hy393
     clear hy393
     have H' := ax H
     clear H
     have p388 : 0 ≤ (x13_1 : Int) := xd
     have q388 : x13_1 < (t385.length : Int) := xd
     obtain ⟨ad388, A388_0, c388_0, e388, hx388_0, hl388_0, hi388_0⟩ := at_L2 (Kd.N_reads' HO_11.out).2.2 x13_1 p388 q388
     cases e388
     obtain ⟨ce388, hce388, hMe388, hcc388⟩ := Kd.N_get HO_11.out [] x13_1 p388 (by first | exact q388 | exact xd | (have e_ := (Kd.N_reads' HO_11.out).1; omega))
     obtain ⟨ua388_0, uc388_0, rfl, ul388_0, ge388_0⟩ := Kd.FK_slice_open hMe388
     have hv388_0 := hcc388 0 _ rfl
     rw [Nat.add_zero, show ((Kd.slice 3 (Kd.int .i64))).sz = 1 from rfl, Nat.mul_one] at hv388_0
     replace hv388_0 := Option.some.inj (hv388_0.symm.trans hx388_0)
     injection hv388_0 with hva_ hvn_ hvc_
     rw [hva_] at ge388_0
     rw [hvc_] at ul388_0
     have HL388_0 := ax (show Kd.V (Kd.int .i64) 3 _ w.heap.size _ _ (rd_L2 t385 x13_1) from Kd.V_mk ul388_0 ge388_0)
     clear hva_ hvn_ hvc_ ge388_0 ul388_0 hcc388 hce388
     have HR388_0 := ax hi388_0
     have HC388_0 := ax hl388_0
     clear hi388_0 hl388_0
     replace p388 := eq_true p388
     replace q388 := eq_true q388
     go_wp2_with (first | ((with_reducible refine gate_dst (N := 5) rfl ?_); refine box_event ?hg (N := 5) ?hd (cs := #[.slice none 0 0]) (t := 24) ?hr ?_; (case hd => rfl); (case hg => rfl); (case hr => first | (go_simp; done) | (go_simp; rfl)); intro gb389 hg w14 hbox hb; replace HO_3 := ax (Kd.N_below (Kd.N_elderB (xN HO_3.out) gb389 (Nat.le_of_eq hg.symm)) hb); replace HO_11 := ax (Kd.N_below (Kd.N_elderB (xN HO_11.out) gb389 (Nat.le_of_eq hg.symm)) hb); replace HL388_0 := ax (Kd.V_below (Kd.V_elderB (xV HL388_0.out) gb389 (Nat.le_of_eq hg.symm)) hb); replace HR388_0 := ax (Kd.C_below (xw HR388_0.out) hb); have BK389 := ax (hbox); have GW389 := ax ((by rw [hg]; exact (below_size (xb HB.out)) : w.heap.size ≤ gb389)); have GE389 := ax ((by rw [hg]; exact (below_size (xb HB.out)) : w.heap.size ≤ gb389)); replace HB := ax (below_step (xb HB.out) hb); clear hb hbox hg; have hcz15_0 : w14.cell? ⟨gb389, 0, none⟩ = some (.slice none 0 0) := (blk_cell BK389.out 0).trans rfl; have hfz15_0 := blk_frozen BK389.out 0) | ((with_reducible refine gate_callee (f := 36) rfl ?_); refine goesL_ (some 20) rfl rfl Try.func36 (by kernel_rfl) rfl #[.slice A388_0 (rd_L2 t385 x13_1).length c388_0, .func (.func 41) #[] #[.pointer (some ⟨gb389, 0, none⟩)]] rfl xm ?_; (with_reducible refine (impl_vectorOf__impl_CharacterTable_1.calls k1 _ _ (rd_L2 t385 x13_1) gb389 A388_0 c388_0 (rd_L2 t385 x13_1) t390 _ ?side1 ?side2 ?side3 ?side4 ?side5 A12.out).mono ?_); (case side1 => repeat (first | exact ((Kd.V_reads' (by (with_reducible repeat (first | apply Kd.V_alloc | apply Kd.V_drewN | apply Kd.V_drew)); exact (Kd.V_mono (Kd.V_far (p := ⟨gb389, 0, none⟩) (Kd.V_mono HL388_0.out (fun k_ hk => (⟨hk, hk.2⟩ : _ ∧ k_ ≠ gb389))) (fun _ hk => hk.2) (.slice A388_0 (rd_L2 t385 x13_1).length c388_0)) (fun _ h_ => h_.1)))).2.2) | (with_reducible refine Kd.C_alloc ?_ _) | (with_reducible refine Kd.C_drewN ?_ _) | (with_reducible refine Kd.C_drew ?_))); (case side2 => exact HC388_0.out); (case side3 => (with_reducible repeat (first | refine blk_drewN ?_ _ | refine blk_drew ?_ | refine blk_alloc ?_ _)); refine blk_put (cs := #[.slice none 0 0]) ?_ 0 _ rfl; (with_reducible repeat (first | refine blk_drewN ?_ _ | refine blk_drew ?_ | refine blk_alloc ?_ _)); exact BK389.out); (case side4 => repeat (first | exact ((Kd.V_reads' (by (with_reducible repeat (first | apply Kd.V_alloc | apply Kd.V_drewN | apply Kd.V_drew)); exact (Kd.V_mono (Kd.V_far (p := ⟨gb389, 0, none⟩) (Kd.V_mono HL388_0.out (fun k_ hk => (⟨hk, hk.2⟩ : _ ∧ k_ ≠ gb389))) (fun _ hk => hk.2) (.slice A388_0 (rd_L2 t385 x13_1).length c388_0)) (fun _ h_ => h_.1)))).2.2) | (with_reducible refine Kd.C_alloc ?_ _) | (with_reducible refine Kd.C_drewN ?_ _) | (with_reducible refine Kd.C_drew ?_))); (case side5 => exact HC388_0.out); rintro e w16 ⟨v391, rfl, ho0, hb⟩; refine ⟨_, rfl, ?_⟩; replace HO_3 := ax (Kd.N_elder' (by (with_reducible repeat (first | apply Kd.N_alloc | apply Kd.N_drewN | apply Kd.N_drew)); exact (Kd.N_mono (Kd.N_far (p := ⟨gb389, 0, none⟩) (Kd.N_mono HO_3.out (fun k_ hk => (⟨hk, hk.2⟩ : _ ∧ k_ ≠ gb389))) (fun _ hk => hk.2) (.slice A388_0 (rd_L2 t385 x13_1).length c388_0)) (fun _ h_ => h_.1))) (Kd.R_base ho0) hb); replace HO_11 := ax (Kd.N_elder' (by (with_reducible repeat (first | apply Kd.N_alloc | apply Kd.N_drewN | apply Kd.N_drew)); exact (Kd.N_mono (Kd.N_far (p := ⟨gb389, 0, none⟩) (Kd.N_mono HO_11.out (fun k_ hk => (⟨hk, hk.2⟩ : _ ∧ k_ ≠ gb389))) (fun _ hk => hk.2) (.slice A388_0 (rd_L2 t385 x13_1).length c388_0)) (fun _ h_ => h_.1))) (Kd.R_base ho0) hb); have HO392 := ax (Kd.R_lower (Kd.R_newM (M := fun k_ => (w.heap.size ≤ k_)) ho0 (below_size (xs HB.out GE389.out)) (fun k_ h_ => h_)) (below_size (xs HB.out GE389.out))); replace HR388_0 := ax (Kd.C_below ((Kd.V_reads' (by (with_reducible repeat (first | apply Kd.V_alloc | apply Kd.V_drewN | apply Kd.V_drew)); exact (Kd.V_mono (Kd.V_far (p := ⟨gb389, 0, none⟩) (Kd.V_mono HL388_0.out (fun k_ hk => (⟨hk, hk.2⟩ : _ ∧ k_ ≠ gb389))) (fun _ hk => hk.2) (.slice A388_0 (rd_L2 t385 x13_1).length c388_0)) (fun _ h_ => h_.1)))).2.2) hb); replace HL388_0 := ax (Kd.V_elder' (by (with_reducible repeat (first | apply Kd.V_alloc | apply Kd.V_drewN | apply Kd.V_drew)); exact (Kd.V_mono (Kd.V_far (p := ⟨gb389, 0, none⟩) (Kd.V_mono HL388_0.out (fun k_ hk => (⟨hk, hk.2⟩ : _ ∧ k_ ≠ gb389))) (fun _ hk => hk.2) (.slice A388_0 (rd_L2 t385 x13_1).length c388_0)) (fun _ h_ => h_.1))) (Kd.R_base ho0) hb); replace BK389 := ax (blk_below (g := gb389) (o := .cells #[.slice A388_0 (rd_L2 t385 x13_1).length c388_0] 24 (0, 0)) (by (with_reducible repeat (first | refine blk_drewN ?_ _ | refine blk_drew ?_ | refine blk_alloc ?_ _)); refine blk_put (cs := #[.slice none 0 0]) ?_ 0 _ rfl; (with_reducible repeat (first | refine blk_drewN ?_ _ | refine blk_drew ?_ | refine blk_alloc ?_ _)); exact BK389.out) hb); replace HB := ax (below_step (xs HB.out GE389.out) hb); (try clear hb); (try clear hb2); (try clear hk); (try clear hi); (try clear ho0); obtain ⟨Ao18, co18, eo18⟩ := Kd.R_slice HO392.out; subst eo18) | ((with_reducible refine gate_builtin (b := .append) (xs := #[.tmp 17, .tmp 21]) rfl ?_); at_builtin; refine Kd.N_append (Kd.slice 3 (Kd.int .i64)) (w0 := w) w.heap.size rfl (.tmp 17) (.tmp 21) 31 24 (.slice none 0 0) 24 rfl Try.underlying31 info24 rfl (by decide) (by omega) u3 x3_1 t390 [.slice Ao18 t390.length co18] (fun k_ => (w.heap.size ≤ k_) ∧ some k_ ≠ (.slice (some ad388) t385.length co8 : Value).ownBlock ∧ k_ ≠ gb389) (fun k_ => ((fun k_ => (w.heap.size ≤ k_) ∧ some k_ ≠ (.slice (some ad388) t385.length co8 : Value).ownBlock ∧ k_ ≠ gb389)) k_ ∧ some k_ ≠ (u3 : Value).ownBlock) rfl rfl ?aP (fun _ hk => hk) ?aF ?aO ?aB ?aS ?aL ?_; (case aP => exact (Kd.FK_slice_mk (Kd.R_reads' (Kd.R_mono (ok' := (fun k_ => ((fun k_ => (w.heap.size ≤ k_) ∧ some k_ ≠ (.slice (some ad388) t385.length co8 : Value).ownBlock ∧ k_ ≠ gb389)) k_ ∧ some k_ ≠ (u3 : Value).ownBlock)) (Kd.R_types (Kd.R_apart' (Kd.R_apart' (HO392.out) (Kd.N_typed HO_11.out) (by decide)) (Kd.N_typed HO_3.out) (by decide)) BK389.out (by decide)) (fun k_ hk => ⟨⟨hk.1.1.1.1, ⟨hk.1.1.2, hk.2⟩⟩, hk.1.2⟩))).2.1 (Kd.R_F (Kd.R_mono (ok' := (fun k_ => ((fun k_ => (w.heap.size ≤ k_) ∧ some k_ ≠ (.slice (some ad388) t385.length co8 : Value).ownBlock ∧ k_ ≠ gb389)) k_ ∧ some k_ ≠ (u3 : Value).ownBlock)) (Kd.R_types (Kd.R_apart' (Kd.R_apart' (HO392.out) (Kd.N_typed HO_11.out) (by decide)) (Kd.N_typed HO_3.out) (by decide)) BK389.out (by decide)) (fun k_ hk => ⟨⟨hk.1.1.1.1, ⟨hk.1.1.2, hk.2⟩⟩, hk.1.2⟩))))); (case aB => exact (xs HB.out GE389.out)); (case aF => exact (fun k_ hk => ⟨(Nat.le_trans (below_size (xs HB.out GE389.out)) hk), Kd.fresh' (Kd.N_lt (xN HO_11.out)) k_ hk, Kd.freshB (g := gb389) (o := .cells #[.slice A388_0 (rd_L2 t385 x13_1).length c388_0] 24 (0, 0)) (xk BK389.out) k_ hk⟩)); (case aO => exact (by (with_reducible repeat (first | apply Kd.N_alloc | apply Kd.N_drewN | apply Kd.N_drew)); exact Kd.N_mono HO_3.out (by first | exact (fun _ hk => ⟨hk.1.1.1, ⟨hk.1.1.2, hk.1.2⟩⟩) | exact xi))); (case aS => exact (below_size (xs HB.out GE389.out))); (case aL => have := LMc13.out; omega); intro v394 w17 ho hb hg hat; rw [← Ny393.out] at ho; have n0_ := ax (Kd.N_afterv (ok := (fun k_ => (w.heap.size ≤ k_) ∧ some k_ ≠ (.slice Ao18 t390.length co18 : Value).ownBlock ∧ k_ ≠ gb389)) (by (with_reducible repeat (first | apply Kd.N_alloc | apply Kd.N_drewN | apply Kd.N_drew)); exact Kd.N_mono HO_11.out (by first | exact (fun _ hk => ⟨⟨hk.1.1.1, ⟨hk.2, hk.1.2⟩⟩, hk.1.1.2⟩) | exact xi)) hg hat); have n1_ := ax (Kd.V_afterv (ok := (fun k_ => (w.heap.size ≤ k_) ∧ some k_ ≠ (.slice (some ad388) t385.length co8 : Value).ownBlock ∧ some k_ ≠ (.slice Ao18 t390.length co18 : Value).ownBlock ∧ k_ ≠ gb389)) (by (with_reducible repeat (first | apply Kd.V_alloc | apply Kd.V_drewN | apply Kd.V_drew)); exact Kd.V_mono HL388_0.out (by first | exact (fun _ hk => ⟨⟨hk.1.1.1.1, ⟨hk.1.1.2, ⟨hk.2, hk.1.2⟩⟩⟩, hk.1.1.1.2⟩) | exact xi)) hg hat); have n2_ := ax (blk_grown (g := gb389) (o := .cells #[.slice A388_0 (rd_L2 t385 x13_1).length c388_0] 24 (0, 0)) (xk BK389.out) hg (Kd.N_away HO_3.out (fun _ hk => hk.1.2))); have n3_ := ax (hb); have n4_ := ax (ho); clear HO_11; clear HL388_0; clear BK389; clear HB; clear HO_3; clear HO392; have HO_11 := n0_; have HL388_0 := n1_; have BK389 := n2_; have HB := n3_; have HO395 := n4_; clear n0_ n1_ n2_ n3_ n4_; clear ho hb hg hat))
     go_roundg k1
     case measure => have := HK1.out; omega
     case rel => exact ⟨(y393), (wrap64 (x13_1 + 1)), xr, H', ⟨by have := HK1.out; omega⟩, ⟨by (with_reducible repeat (first | apply Kd.N_alloc | apply Kd.N_drewN | apply Kd.N_drew)); exact Kd.N_mono HO395.out (fun _ hk => ⟨hk.1, hk.2.1⟩)⟩, ⟨by (with_reducible repeat (first | apply Kd.N_alloc | apply Kd.N_drewN | apply Kd.N_drew)); exact Kd.N_mono HO_11.out (fun _ hk => ⟨hk.1.1, hk.2⟩)⟩, ⟨xs HB.out GE389.out⟩⟩
    ·rw [if_neg c9] at H
     have c9b0 := decide_eq_false c9
     clear c9
     obtain rfl := Option.some.inj H
     go_wp2
     go_ret
     exact ⟨_, xe, by (with_reducible repeat (first | apply Kd.N_alloc | apply Kd.N_drewN | apply Kd.N_drew)); exact Kd.N_mono HO_3.out (fun _ hk => hk.1), xb HB.out⟩
 ·replace c3 := Bool.eq_false_iff.mpr c3
  subst c3
  rw [if_neg (show ¬ (false = true) by decide)] at H
  obtain rfl := Option.some.inj H
  go_enter Try.func10, Try.ntmps10
  go_wp2_with (first | ((with_reducible refine gate_callee (f := 39) rfl ?_); refine goesL_ (some 7) rfl rfl Try.func39 (by kernel_rfl) rfl #[.int .i64 a0, .int .i64 0, .int .i64 6] rfl xm ?_; (with_reducible refine (impl_within.calls a0 0 6 false _ A2.out).mono ?_); rintro e w' ⟨rfl, ⟨nd, rfl⟩⟩; refine ⟨_, rfl, ?_⟩))
  go_ret
  exact ⟨_, xe, by first | exact Kd.S_nil _ _ _ _ _ | exact Kd.N_nil _ _ _ _ _ | exact Kd.V_nil _ _ _ _ _ | exact Kd.Q_nil _ _ _ _ _ | exact Kd.R_nil _ _ _ _ _, xb HB.out⟩

/-! ### spec_DrawSignOf: function 11 -/
def spec_DrawSignOf.f (k : Nat) (l0 : List Int) : Option (List Int) := (spec_l1New.f k l0).bind fun bt396 => ((spec_l2Bent.f k bt396.1 bt396.2.1 bt396.2.2 9).bind fun bt400 => (some bt400.1))
theorem spec_DrawSignOf.mono : ∀ a0 k, LeO (spec_DrawSignOf.f k a0) (spec_DrawSignOf.f (k + 1) a0) := by
 intro a0 k
 unfold spec_DrawSignOf.f
 repeat' with_reducible first | exact spec_l1New.mono _ _ | exact spec_l2Bent.mono _ _ _ _ _ | exact xl | refine LeO.ite ?_ ?_ | refine LeO.bind ?_ fun _ => ?_
set_option maxHeartbeats 8000000 in
set_option maxRecDepth 100000 in
theorem spec_DrawSignOf.calls (k : Nat) (A0 : Option Addr) (c0 : Nat) (l0 : List Int) (r : List Int) (w : World) (hr0 : Kd.C (Kd.int .u8) w A0 l0.length l0) (hc0 : l0.length ≤ c0) (h : spec_DrawSignOf.f k l0 = some r) :
  Calls Try.prog 11 #[.slice A0 l0.length c0] w fun e w' => ∃ v0_ : Value, e = .returned (v0_) ∧ Kd.R (Kd.int .i64) 3 w' w.heap.size (fun _ => True) v0_ r ∧ Below w.heap.size w w' := by
 have HR0 := ax hr0
 have HC0 := ax hc0
 clear hr0 hc0
 have HB := ax (Below.refl w.heap.size w)
 have H : ((spec_l1New.f k l0).bind fun bt396 => ((spec_l2Bent.f k bt396.1 bt396.2.1 bt396.2.2 9).bind fun bt400 => (some bt400.1))) = some r := h
 clear h
 obtain ⟨⟨t396, t397, t398⟩, A2, H⟩ := xI H
 dsimp only at H
 obtain ⟨⟨t400, t403, t404⟩, A3, H⟩ := xI H
 dsimp only at H
 obtain rfl := Option.some.inj H
 go_enter Try.func11, Try.ntmps11
 go_wp2_with (first | ((with_reducible refine gate_callee (f := 26) rfl ?_); refine goesL_ (some 4) rfl rfl Try.func26 (by kernel_rfl) rfl #[.slice A0 l0.length c0] rfl xm ?_; (with_reducible refine (spec_l1New.calls k _ _ l0 t396 t397 t398 w _ ?side1 ?side2 ?side3 A2.out).mono ?_); (case side1 => exact xb HB.out); (case side2 => exact HR0.out); (case side3 => exact HC0.out); rintro e w4 ⟨g399, rfl, hi, hb, hb2⟩; refine ⟨_, rfl, ?_⟩; replace HB := ax (hb); have HI399 := ax (hi); (try clear hb); (try clear hb2); (try clear hk); (try clear hi)) | ((with_reducible refine gate_callee (f := 30) rfl ?_); refine goesL_ (some 5) rfl rfl Try.func30 (by kernel_rfl) rfl #[.pointer (some ⟨g399, 0, none⟩), .int .i64 9] rfl xm ?_; (with_reducible refine (spec_l2Bent.calls k g399 t396 t397 t398 9 t400 t403 t404 w _ ?side1 ?side2 A3.out).mono ?_); (case side1 => repeat (first | (with_reducible first | exact HI399.out | apply IsS54.alloc | apply IsS54.drewN | apply IsS54.drew | apply IsS54.set_1 | apply IsS54.set_2) | exact HI399.out)); (case side2 => exact xs HB.out (IsS54.ge HI399.out)); rintro e w5 ⟨v401, rfl, ho0, hi, hb, hk⟩; refine ⟨_, rfl, ?_⟩; have HO402 := ax (Kd.R_lower ho0 (below_size (xs HB.out (IsS54.ge HI399.out)))); replace HB := ax (hb); replace HI399 := ax (hi); (try clear hb); (try clear hb2); (try clear hk); (try clear hi); (try clear ho0)))
 go_ret
 exact ⟨_, xe, xR HO402.out, xs HB.out (IsS54.ge HI399.out)⟩

end Go.Proofs.Ytopmggldaicpaab.PFnCharacters
