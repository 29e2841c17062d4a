import Derived.Test.YtnfcdaojglicfabPFnFillingsx4
import Derived.Test.YtnfcdaojglicfabPFnFillingsx5
namespace Go.Proofs.Ytnfcdaojglicfab.PFnFillings
open Go.RowKit Go.Proofs.YtnfcdaojglicfabW.PrintWords Go.Proofs.YtnfcdaojglicfabW.PrintLast Go.Proofs.YtnfcdaojglicfabW.PrintMore
set_option linter.unusedVariables false
set_option linter.unusedSimpArgs false
set_option maxHeartbeats 8000000
set_option maxRecDepth 100000
/-! ### spec_DrawReverseOfHooks: function 8 -/
def spec_DrawReverseOfHooks.f (k : Nat) (l0 : List Int) : Option (List Int × (List (List Int))) := (spec_l27Case.f k l0 false).bind fun bt412 => (some (bt412.1, bt412.2))
theorem spec_DrawReverseOfHooks.mono : ∀ a0 k, LeO (spec_DrawReverseOfHooks.f k a0) (spec_DrawReverseOfHooks.f (k + 1) a0) := by
 intro a0 k
 unfold spec_DrawReverseOfHooks.f
 repeat' with_reducible first | exact spec_l27Case.mono _ _ _ | exact xl | refine LeO.ite ?_ ?_ | refine LeO.bind ?_ fun _ => ?_
theorem spec_DrawReverseOfHooks.calls (k : Nat) (A0 : Option Addr) (c0 : Nat) (l0 : List Int) (r1 : List Int) (r2 : List (List Int)) (w : World) (hr0 : Kd.C (Kd.int .u8) w A0 l0.length l0) (hc0 : l0.length ≤ c0) (h : spec_DrawReverseOfHooks.f k l0 = some (r1, r2)) :
  Calls Try.prog 8 #[.slice A0 l0.length c0] w fun e w' => ∃ v0_ v1_ : Value, e = .returned (.tuple #[v0_, v1_]) ∧ Kd.R (Kd.int .i64) 3 w' w.heap.size (fun _ => True) v0_ r1 ∧ Kd.S (Kd.slice 3 (Kd.int .i64)) 24 w' w.heap.size (fun k_ => some k_ ≠ (v0_ : Value).ownBlock) v1_ r2 ∧ Below w.heap.size w w' := by
 have HR0 := ax hr0
 have HC0 := ax hc0
 clear hr0 hc0
 have HB := ax (Below.refl w.heap.size w)
 have H : ((spec_l27Case.f k l0 false).bind fun bt412 => (some (bt412.1, bt412.2))) = some (r1, r2) := h
 clear h
 obtain ⟨⟨t412, t413⟩, A2, H⟩ := xI H
 dsimp only at H
 simp only [Option.some.injEq, Prod.mk.injEq] at H
 obtain ⟨rfl, rfl⟩ := H
 go_enter Try.func8, Try.ntmps8
 go_wp2_with (first | ((with_reducible refine gate_callee (f := 21) rfl ?_); refine goesL_ (some 8) rfl rfl Try.func21 (by kernel_rfl) rfl #[.slice A0 l0.length c0, .bool false] rfl xm ?_; (with_reducible refine (spec_l27Case.calls k _ _ l0 false t412 t413 _ ?side1 ?side2 A2.out).mono ?_); (case side1 => exact xc HR0.out); (case side2 => exact HC0.out); rintro e w3 ⟨v414, v416, rfl, ho0, ho1, hb⟩; refine ⟨_, rfl, ?_⟩; have HO415 := ax (Kd.R_lower ho0 (below_size (xb HB.out))); have HO417 := ax (Kd.S_lower ho1 (below_size (xb HB.out))); replace HB := yB HB hb; (try clear hb); (try clear ho0); (try clear ho1)))
 go_ret2
 exact ⟨_, _, xe, xR HO415.out, xS HO417.out, xb HB.out⟩

/-! ### impl_hasCell: function 52 -/
def impl_hasCell.f (k : Nat) (l0 : List Int) (a1 : Int) (a2 : Int) : Option (Bool) := (impl_IsPartition.f k l0).bind fun t418 => (if t418 = true then ((impl_within.f a1 0 (wrap64 ((l0.length : Int) - 1))).bind fun t419 => (if t419 = true then (if 0 ≤ a1 then (if a1 < (l0.length : Int) then ((impl_within.f a2 0 (wrap64 ((rd l0 a1) - 1))).bind fun t421 => (some t421)) else (none)) else (none)) else (some false))) else (some false))
theorem impl_hasCell.mono : ∀ a0 a1 a2 k, LeO (impl_hasCell.f k a0 a1 a2) (impl_hasCell.f (k + 1) a0 a1 a2) := by
 intro a0 a1 a2 k
 unfold impl_hasCell.f
 repeat' with_reducible first | exact impl_IsPartition.mono _ _ | exact xl | refine LeO.ite ?_ ?_ | refine LeO.bind ?_ fun _ => ?_
theorem impl_hasCell.calls (k : Nat) (A0 : Option Addr) (c0 : Nat) (l0 : List Int) (a1 : Int) (a2 : Int) (r : Bool) (w : World) (hr0 : Kd.C (Kd.int .i64) w A0 l0.length l0) (hc0 : l0.length ≤ c0) (h : impl_hasCell.f k l0 a1 a2 = some r) :
  Calls Try.prog 52 #[.slice A0 l0.length c0, .int .i64 a1, .int .i64 a2] w fun e w' => e = .returned (.bool r) ∧ Drawn0 w w' := by
 have HR0 := ax hr0
 have HC0 := ax hc0
 clear hr0 hc0
 have H : ((impl_IsPartition.f k l0).bind fun t418 => (if t418 = true then ((impl_within.f a1 0 (wrap64 ((l0.length : Int) - 1))).bind fun t419 => (if t419 = true then (if 0 ≤ a1 then (if a1 < (l0.length : Int) then ((impl_within.f a2 0 (wrap64 ((rd l0 a1) - 1))).bind fun t421 => (some t421)) else (none)) else (none)) else (some false))) else (some false))) = some r := h
 clear h
 obtain ⟨t418, A4, H⟩ := xI H
 by_cases c5 : t418 = true
 ·subst c5
  rw [if_pos rfl] at H
  obtain ⟨t419, A6, H⟩ := xI H
  by_cases c7 : t419 = true
  ·subst c7
   rw [if_pos rfl] at H
   obtain ⟨c8b0, H⟩ := xq H
   obtain ⟨c9b0, H⟩ := xq H
   obtain ⟨t421, A10, H⟩ := xI H
   obtain rfl := Option.some.inj H
   go_enter Try.func52, Try.ntmps52
   go_wp2_with (first | ((with_reducible refine gate_callee (f := 36) rfl ?_); refine goesL_ (some 8) rfl rfl Try.func36 (by kernel_rfl) rfl #[.slice A0 l0.length c0] rfl xm ?_; (with_reducible refine (impl_IsPartition.calls k _ _ l0 true _ ?side1 ?side2 A4.out).mono ?_); (case side1 => exact xc HR0.out); (case side2 => exact HC0.out); rintro e w' ⟨rfl, ⟨nd, rfl⟩⟩; refine ⟨_, rfl, ?_⟩) | (go_at_call 39; (with_reducible refine (impl_within.calls a1 0 (wrap64 ((l0.length : Int) - 1)) true _ A6.out).mono ?_); rintro e w' ⟨rfl, ⟨nd, rfl⟩⟩; have p420 : 0 ≤ (a1 : Int) := xd; have q420 : a1 < (l0.length : Int) := xd; obtain ⟨ad420, e420, hx420_0⟩ := Kd.at_int HR0.out a1 p420 q420; cases e420; replace p420 := eq_true p420; replace q420 := eq_true q420) | (go_at_call 39; (with_reducible refine (impl_within.calls a2 0 (wrap64 ((rd l0 a1) - 1)) t421 _ A10.out).mono ?_); rintro e w' ⟨rfl, ⟨nd, rfl⟩⟩))
   go_ret
   exact ⟨by first | rfl | (simp; done) | (simp [*]; done), by repeat (first | exact Drawn0.refl _ | apply Drawn0.step)⟩
  ·replace c7 := Bool.eq_false_iff.mpr c7
   subst c7
   rw [if_neg (show ¬ (false = true) by decide)] at H
   obtain rfl := Option.some.inj H
   go_enter Try.func52, Try.ntmps52
   go_wp2_with (first | ((with_reducible refine gate_callee (f := 36) rfl ?_); refine goesL_ (some 8) rfl rfl Try.func36 (by kernel_rfl) rfl #[.slice A0 l0.length c0] rfl xm ?_; (with_reducible refine (impl_IsPartition.calls k _ _ l0 true _ ?side1 ?side2 A4.out).mono ?_); (case side1 => exact xc HR0.out); (case side2 => exact HC0.out); rintro e w' ⟨rfl, ⟨nd, rfl⟩⟩; refine ⟨_, rfl, ?_⟩) | (go_at_call 39; (with_reducible refine (impl_within.calls a1 0 (wrap64 ((l0.length : Int) - 1)) false _ A6.out).mono ?_); rintro e w' ⟨rfl, ⟨nd, rfl⟩⟩))
   go_ret
   exact ⟨by first | rfl | (simp; done) | (simp [*]; done), by repeat (first | exact Drawn0.refl _ | apply Drawn0.step)⟩
 ·replace c5 := Bool.eq_false_iff.mpr c5
  subst c5
  rw [if_neg (show ¬ (false = true) by decide)] at H
  obtain rfl := Option.some.inj H
  go_enter Try.func52, Try.ntmps52
  go_wp2_with (first | ((with_reducible refine gate_callee (f := 36) rfl ?_); refine goesL_ (some 8) rfl rfl Try.func36 (by kernel_rfl) rfl #[.slice A0 l0.length c0] rfl xm ?_; (with_reducible refine (impl_IsPartition.calls k _ _ l0 false _ ?side1 ?side2 A4.out).mono ?_); (case side1 => exact xc HR0.out); (case side2 => exact HC0.out); rintro e w' ⟨rfl, ⟨nd, rfl⟩⟩; refine ⟨_, rfl, ?_⟩))
  go_ret
  exact ⟨by first | rfl | (simp; done) | (simp [*]; done), by repeat (first | exact Drawn0.refl _ | apply Drawn0.step)⟩

/-! ### impl_ArmOf: function 53 -/
def impl_ArmOf.f (k : Nat) (l0 : List Int) (a1 : Int) (a2 : Int) : Option (Int) := (impl_hasCell.f k l0 a1 a2).bind fun t422 => (if t422 = true then (if 0 ≤ a1 then (if a1 < (l0.length : Int) then (some (wrap64 ((wrap64 ((rd l0 a1) - a2)) - 1))) else (none)) else (none)) else (some (-1)))
theorem impl_ArmOf.mono : ∀ a0 a1 a2 k, LeO (impl_ArmOf.f k a0 a1 a2) (impl_ArmOf.f (k + 1) a0 a1 a2) := by
 intro a0 a1 a2 k
 unfold impl_ArmOf.f
 repeat' with_reducible first | exact impl_hasCell.mono _ _ _ _ | exact xl | refine LeO.ite ?_ ?_ | refine LeO.bind ?_ fun _ => ?_
theorem impl_ArmOf.calls (k : Nat) (A0 : Option Addr) (c0 : Nat) (l0 : List Int) (a1 : Int) (a2 : Int) (r : Int) (w : World) (hr0 : Kd.C (Kd.int .i64) w A0 l0.length l0) (hc0 : l0.length ≤ c0) (h : impl_ArmOf.f k l0 a1 a2 = some r) :
  Calls Try.prog 53 #[.slice A0 l0.length c0, .int .i64 a1, .int .i64 a2] w fun e w' => e = .returned (.int .i64 r) ∧ Drawn0 w w' := by
 have HR0 := ax hr0
 have HC0 := ax hc0
 clear hr0 hc0
 have H : ((impl_hasCell.f k l0 a1 a2).bind fun t422 => (if t422 = true then (if 0 ≤ a1 then (if a1 < (l0.length : Int) then (some (wrap64 ((wrap64 ((rd l0 a1) - a2)) - 1))) else (none)) else (none)) else (some (-1)))) = some r := h
 clear h
 obtain ⟨t422, A4, H⟩ := xI H
 by_cases c5 : t422 = true
 ·subst c5
  rw [if_pos rfl] at H
  obtain ⟨c6b0, H⟩ := xq H
  obtain ⟨c7b0, H⟩ := xq H
  obtain rfl := Option.some.inj H
  go_enter Try.func53, Try.ntmps53
  go_wp2_with (first | ((with_reducible refine gate_callee (f := 52) rfl ?_); refine goesL_ (some 10) rfl rfl Try.func52 (by kernel_rfl) rfl #[.slice A0 l0.length c0, .int .i64 a1, .int .i64 a2] rfl xm ?_; (with_reducible refine (impl_hasCell.calls k _ _ l0 a1 a2 true _ ?side1 ?side2 A4.out).mono ?_); (case side1 => exact xc HR0.out); (case side2 => exact HC0.out); rintro e w' ⟨rfl, ⟨nd, rfl⟩⟩; refine ⟨_, rfl, ?_⟩; have p423 : 0 ≤ (a1 : Int) := xd; have q423 : a1 < (l0.length : Int) := xd; obtain ⟨ad423, e423, hx423_0⟩ := Kd.at_int HR0.out a1 p423 q423; cases e423; replace p423 := eq_true p423; replace q423 := eq_true q423))
  go_ret
  exact ⟨by first | rfl | (simp; done) | (simp [*]; done), by repeat (first | exact Drawn0.refl _ | apply Drawn0.step)⟩
 ·replace c5 := Bool.eq_false_iff.mpr c5
  subst c5
  rw [if_neg (show ¬ (false = true) by decide)] at H
  obtain rfl := Option.some.inj H
  go_enter Try.func53, Try.ntmps53
  go_wp2_with (first | ((with_reducible refine gate_callee (f := 52) rfl ?_); refine goesL_ (some 10) rfl rfl Try.func52 (by kernel_rfl) rfl #[.slice A0 l0.length c0, .int .i64 a1, .int .i64 a2] rfl xm ?_; (with_reducible refine (impl_hasCell.calls k _ _ l0 a1 a2 false _ ?side1 ?side2 A4.out).mono ?_); (case side1 => exact xc HR0.out); (case side2 => exact HC0.out); rintro e w' ⟨rfl, ⟨nd, rfl⟩⟩; refine ⟨_, rfl, ?_⟩))
  go_ret
  exact ⟨by first | rfl | (simp; done) | (simp [*]; done), by repeat (first | exact Drawn0.refl _ | apply Drawn0.step)⟩

/-! ### impl_LegOf: function 54 -/
def impl_LegOf.f (k : Nat) (l0 : List Int) (a1 : Int) (a2 : Int) : Option (Int) := (impl_hasCell.f k l0 a1 a2).bind fun t424 => (if t424 = true then ((impl_column.f k l0 a2).bind fun t425 => (some (wrap64 ((wrap64 (t425 - a1)) - 1)))) else (some (-1)))
theorem impl_LegOf.mono : ∀ a0 a1 a2 k, LeO (impl_LegOf.f k a0 a1 a2) (impl_LegOf.f (k + 1) a0 a1 a2) := by
 intro a0 a1 a2 k
 unfold impl_LegOf.f
 repeat' with_reducible first | exact impl_column.mono _ _ _ | exact impl_hasCell.mono _ _ _ _ | exact xl | refine LeO.ite ?_ ?_ | refine LeO.bind ?_ fun _ => ?_
theorem impl_LegOf.calls (k : Nat) (A0 : Option Addr) (c0 : Nat) (l0 : List Int) (a1 : Int) (a2 : Int) (r : Int) (w : World) (hr0 : Kd.C (Kd.int .i64) w A0 l0.length l0) (hc0 : l0.length ≤ c0) (h : impl_LegOf.f k l0 a1 a2 = some r) :
  Calls Try.prog 54 #[.slice A0 l0.length c0, .int .i64 a1, .int .i64 a2] w fun e w' => e = .returned (.int .i64 r) ∧ Drawn0 w w' := by
 have HR0 := ax hr0
 have HC0 := ax hc0
 clear hr0 hc0
 have H : ((impl_hasCell.f k l0 a1 a2).bind fun t424 => (if t424 = true then ((impl_column.f k l0 a2).bind fun t425 => (some (wrap64 ((wrap64 (t425 - a1)) - 1)))) else (some (-1)))) = some r := h
 clear h
 obtain ⟨t424, A4, H⟩ := xI H
 by_cases c5 : t424 = true
 ·subst c5
  rw [if_pos rfl] at H
  obtain ⟨t425, A6, H⟩ := xI H
  obtain rfl := Option.some.inj H
  go_enter Try.func54, Try.ntmps54
  go_wp2_with (first | ((with_reducible refine gate_callee (f := 52) rfl ?_); refine goesL_ (some 10) rfl rfl Try.func52 (by kernel_rfl) rfl #[.slice A0 l0.length c0, .int .i64 a1, .int .i64 a2] rfl xm ?_; (with_reducible refine (impl_hasCell.calls k _ _ l0 a1 a2 true _ ?side1 ?side2 A4.out).mono ?_); (case side1 => exact xc HR0.out); (case side2 => exact HC0.out); rintro e w' ⟨rfl, ⟨nd, rfl⟩⟩; refine ⟨_, rfl, ?_⟩) | ((with_reducible refine gate_callee (f := 26) rfl ?_); refine goesL_ (some 14) rfl rfl Try.func26 (by kernel_rfl) rfl #[.slice A0 l0.length c0, .int .i64 a2] rfl xm ?_; (with_reducible refine (impl_column.calls k _ _ l0 a2 t425 _ ?side1 ?side2 A6.out).mono ?_); (case side1 => exact xc HR0.out); (case side2 => exact HC0.out); rintro e w' ⟨rfl, ⟨nd, rfl⟩⟩; refine ⟨_, rfl, ?_⟩))
  go_ret
  exact ⟨by first | rfl | (simp; done) | (simp [*]; done), by repeat (first | exact Drawn0.refl _ | apply Drawn0.step)⟩
 ·replace c5 := Bool.eq_false_iff.mpr c5
  subst c5
  rw [if_neg (show ¬ (false = true) by decide)] at H
  obtain rfl := Option.some.inj H
  go_enter Try.func54, Try.ntmps54
  go_wp2_with (first | ((with_reducible refine gate_callee (f := 52) rfl ?_); refine goesL_ (some 10) rfl rfl Try.func52 (by kernel_rfl) rfl #[.slice A0 l0.length c0, .int .i64 a1, .int .i64 a2] rfl xm ?_; (with_reducible refine (impl_hasCell.calls k _ _ l0 a1 a2 false _ ?side1 ?side2 A4.out).mono ?_); (case side1 => exact xc HR0.out); (case side2 => exact HC0.out); rintro e w' ⟨rfl, ⟨nd, rfl⟩⟩; refine ⟨_, rfl, ?_⟩))
  go_ret
  exact ⟨by first | rfl | (simp; done) | (simp [*]; done), by repeat (first | exact Drawn0.refl _ | apply Drawn0.step)⟩

/-! ### impl_HookOf: function 41 -/
def impl_HookOf.f (k : Nat) (l0 : List Int) (a1 : Int) (a2 : Int) : Option (Int) := (impl_hasCell.f k l0 a1 a2).bind fun t426 => (if t426 = true then ((impl_ArmOf.f k l0 a1 a2).bind fun t427 => ((impl_LegOf.f k l0 a1 a2).bind fun t428 => (some (wrap64 ((wrap64 (t427 + t428)) + 1))))) else (some (-1)))
theorem impl_HookOf.mono : ∀ a0 a1 a2 k, LeO (impl_HookOf.f k a0 a1 a2) (impl_HookOf.f (k + 1) a0 a1 a2) := by
 intro a0 a1 a2 k
 unfold impl_HookOf.f
 repeat' with_reducible first | exact impl_ArmOf.mono _ _ _ _ | exact impl_LegOf.mono _ _ _ _ | exact impl_hasCell.mono _ _ _ _ | exact xl | refine LeO.ite ?_ ?_ | refine LeO.bind ?_ fun _ => ?_
theorem impl_HookOf.calls (k : Nat) (A0 : Option Addr) (c0 : Nat) (l0 : List Int) (a1 : Int) (a2 : Int) (r : Int) (w : World) (hr0 : Kd.C (Kd.int .i64) w A0 l0.length l0) (hc0 : l0.length ≤ c0) (h : impl_HookOf.f k l0 a1 a2 = some r) :
  Calls Try.prog 41 #[.slice A0 l0.length c0, .int .i64 a1, .int .i64 a2] w fun e w' => e = .returned (.int .i64 r) ∧ Drawn0 w w' := by
 have HR0 := ax hr0
 have HC0 := ax hc0
 clear hr0 hc0
 have H : ((impl_hasCell.f k l0 a1 a2).bind fun t426 => (if t426 = true then ((impl_ArmOf.f k l0 a1 a2).bind fun t427 => ((impl_LegOf.f k l0 a1 a2).bind fun t428 => (some (wrap64 ((wrap64 (t427 + t428)) + 1))))) else (some (-1)))) = some r := h
 clear h
 obtain ⟨t426, A4, H⟩ := xI H
 by_cases c5 : t426 = true
 ·subst c5
  rw [if_pos rfl] at H
  obtain ⟨t427, A6, H⟩ := xI H
  obtain ⟨t428, A7, H⟩ := xI H
  obtain rfl := Option.some.inj H
  go_enter Try.func41, Try.ntmps41
  go_wp2_with (first | ((with_reducible refine gate_callee (f := 52) rfl ?_); refine goesL_ (some 10) rfl rfl Try.func52 (by kernel_rfl) rfl #[.slice A0 l0.length c0, .int .i64 a1, .int .i64 a2] rfl xm ?_; (with_reducible refine (impl_hasCell.calls k _ _ l0 a1 a2 true _ ?side1 ?side2 A4.out).mono ?_); (case side1 => exact xc HR0.out); (case side2 => exact HC0.out); rintro e w' ⟨rfl, ⟨nd, rfl⟩⟩; refine ⟨_, rfl, ?_⟩) | ((with_reducible refine gate_callee (f := 53) rfl ?_); refine goesL_ (some 15) rfl rfl Try.func53 (by kernel_rfl) rfl #[.slice A0 l0.length c0, .int .i64 a1, .int .i64 a2] rfl xm ?_; (with_reducible refine (impl_ArmOf.calls k _ _ l0 a1 a2 t427 _ ?side1 ?side2 A6.out).mono ?_); (case side1 => exact xc HR0.out); (case side2 => exact HC0.out); rintro e w' ⟨rfl, ⟨nd, rfl⟩⟩; refine ⟨_, rfl, ?_⟩) | ((with_reducible refine gate_callee (f := 54) rfl ?_); refine goesL_ (some 19) rfl rfl Try.func54 (by kernel_rfl) rfl #[.slice A0 l0.length c0, .int .i64 a1, .int .i64 a2] rfl xm ?_; (with_reducible refine (impl_LegOf.calls k _ _ l0 a1 a2 t428 _ ?side1 ?side2 A7.out).mono ?_); (case side1 => exact xc HR0.out); (case side2 => exact HC0.out); rintro e w' ⟨rfl, ⟨nd, rfl⟩⟩; refine ⟨_, rfl, ?_⟩))
  go_ret
  exact ⟨by first | rfl | (simp; done) | (simp [*]; done), by repeat (first | exact Drawn0.refl _ | apply Drawn0.step)⟩
 ·replace c5 := Bool.eq_false_iff.mpr c5
  subst c5
  rw [if_neg (show ¬ (false = true) by decide)] at H
  obtain rfl := Option.some.inj H
  go_enter Try.func41, Try.ntmps41
  go_wp2_with (first | ((with_reducible refine gate_callee (f := 52) rfl ?_); refine goesL_ (some 10) rfl rfl Try.func52 (by kernel_rfl) rfl #[.slice A0 l0.length c0, .int .i64 a1, .int .i64 a2] rfl xm ?_; (with_reducible refine (impl_hasCell.calls k _ _ l0 a1 a2 false _ ?side1 ?side2 A4.out).mono ?_); (case side1 => exact xc HR0.out); (case side2 => exact HC0.out); rintro e w' ⟨rfl, ⟨nd, rfl⟩⟩; refine ⟨_, rfl, ?_⟩))
  go_ret
  exact ⟨by first | rfl | (simp; done) | (simp [*]; done), by repeat (first | exact Drawn0.refl _ | apply Drawn0.step)⟩

/-! ### impl_HookWeight: function 18 -/
mutual
def impl_HookWeight.l0 : Nat → List Int → Int → List (List Int) → Int → Int → Option (Int)
 | 0, _, _, _, _, _ => none
 | k + 1, x0, x5, x14, x15, x16 => if x16 < x15 then (if 0 ≤ x16 then (if x16 < (x14.length : Int) then (impl_HookWeight.l1 k x0 x5 x16 x14 x15 x16 (rd_L2 x14 x16) ((rd_L2 x14 x16).length : Int) 0) else (none)) else (none)) else (some x5)
def impl_HookWeight.l1 : Nat → List Int → Int → Int → List (List Int) → Int → Int → List Int → Int → Int → Option (Int)
 | 0, _, _, _, _, _, _, _, _, _ => none
 | k + 1, x0, x5, x6, x14, x15, x16, x21, x22, x23 => if x23 < x22 then (if 0 ≤ x23 then (if x23 < (x21.length : Int) then ((impl_HookOf.f k x0 x6 x23).bind fun t432 => (impl_HookWeight.l1 k x0 (wrap64 (x5 + (wrap64 ((rd x21 x23) * t432)))) x6 x14 x15 x16 x21 x22 (wrap64 (x23 + 1)))) else (none)) else (none)) else (impl_HookWeight.l0 k x0 x5 x14 x15 (wrap64 (x16 + 1)))
end
def impl_HookWeight.f (k : Nat) (l0 : List Int) (l1 : List (List Int)) : Option (Int) := (impl_IsFilling.f k l0 l1).bind fun t429 => (if t429 = true then (impl_HookWeight.l0 k l0 0 l1 (l1.length : Int) 0) else (some (-1)))
theorem impl_HookWeight.mono_l : ∀ k, (∀ y0 y1 y2 y3 y4, LeO (impl_HookWeight.l0 k y0 y1 y2 y3 y4) (impl_HookWeight.l0 (k + 1) y0 y1 y2 y3 y4)) ∧ (∀ y0 y1 y2 y3 y4 y5 y6 y7 y8, LeO (impl_HookWeight.l1 k y0 y1 y2 y3 y4 y5 y6 y7 y8) (impl_HookWeight.l1 (k + 1) y0 y1 y2 y3 y4 y5 y6 y7 y8))
 | 0 => ⟨fun _ _ _ _ _ r h => by simp [impl_HookWeight.l0] at h, fun _ _ _ _ _ _ _ _ _ r h => by simp [impl_HookWeight.l1] at h⟩
 | k + 1 => by
  obtain ⟨ih0, ih1⟩ := impl_HookWeight.mono_l k
  refine ⟨?_, ?_⟩
  ·intro y0 y1 y2 y3 y4
   unfold impl_HookWeight.l0
   repeat' with_reducible first | exact ih0 _ _ _ _ _ | exact ih1 _ _ _ _ _ _ _ _ _ | exact impl_HookOf.mono _ _ _ _ | exact impl_IsFilling.mono _ _ _ | exact xl | refine LeO.ite ?_ ?_ | refine LeO.bind ?_ fun _ => ?_
  ·intro y0 y1 y2 y3 y4 y5 y6 y7 y8
   unfold impl_HookWeight.l1
   repeat' with_reducible first | exact ih0 _ _ _ _ _ | exact ih1 _ _ _ _ _ _ _ _ _ | exact impl_HookOf.mono _ _ _ _ | exact impl_IsFilling.mono _ _ _ | exact xl | refine LeO.ite ?_ ?_ | refine LeO.bind ?_ fun _ => ?_
theorem impl_HookWeight.mono : ∀ a0 a1 k, LeO (impl_HookWeight.f k a0 a1) (impl_HookWeight.f (k + 1) a0 a1) := by
 intro a0 a1 k
 obtain ⟨ih0, ih1⟩ := impl_HookWeight.mono_l k
 unfold impl_HookWeight.f
 repeat' with_reducible first | exact ih0 _ _ _ _ _ | exact ih1 _ _ _ _ _ _ _ _ _ | exact impl_HookOf.mono _ _ _ _ | exact impl_IsFilling.mono _ _ _ | exact xl | refine LeO.ite ?_ ?_ | refine LeO.bind ?_ fun _ => ?_
theorem impl_HookWeight.calls (k : Nat) (A0 : Option Addr) (c0 : Nat) (l0 : List Int) (A1 : Option Addr) (c1 : Nat) (l1 : List (List Int)) (r : Int) (w : World) (hr0 : Kd.C (Kd.int .i64) w A0 l0.length l0) (hc0 : l0.length ≤ c0) (hr1 : Kd.C (Kd.slice 3 (Kd.int .i64)) w A1 l1.length l1) (hc1 : l1.length ≤ c1) (h : impl_HookWeight.f k l0 l1 = some r) :
  Calls Try.prog 18 #[.slice A0 l0.length c0, .slice A1 l1.length c1] w fun e w' => e = .returned (.int .i64 r) ∧ Drawn0 w w' := by
 have HR0 := ax hr0
 have HC0 := ax hc0
 clear hr0 hc0
 have HR1 := ax hr1
 have HC1 := ax hc1
 clear hr1 hc1
 have H : ((impl_IsFilling.f k l0 l1).bind fun t429 => (if t429 = true then (impl_HookWeight.l0 k l0 0 l1 (l1.length : Int) 0) else (some (-1)))) = some r := h
 clear h
 obtain ⟨t429, A3, H⟩ := xI H
 by_cases c4 : t429 = true
 ·subst c4
  rw [if_pos rfl] at H
  have H' := ax H
  clear H
  go_enter Try.func18, Try.ntmps18
  go_wp2_with (first | ((with_reducible refine gate_callee (f := 16) rfl ?_); refine goesL_ (some 12) rfl rfl Try.func16 (by kernel_rfl) rfl #[.slice A0 l0.length c0, .slice A1 l1.length c1] rfl xm ?_; (with_reducible refine (impl_IsFilling.calls k _ _ l0 _ _ l1 true _ ?side1 ?side2 ?side3 ?side4 A3.out).mono ?_); (case side1 => exact xc HR0.out); (case side2 => exact HC0.out); (case side3 => exact xc HR1.out); (case side4 => exact HC1.out); rintro e w' ⟨rfl, ⟨nd, rfl⟩⟩; refine ⟨_, rfl, ?_⟩))
  go_loopg [5, 16] k (fun kq v5 v16 w' => ∃ (x5_1 : Int) (x16_1 : Int), v5 = .int .i64 x5_1 ∧ v16 = .int .i64 x16_1 ∧ Aside0 (impl_HookWeight.l0 kq l0 x5_1 l1 (l1.length : Int) x16_1 = some r) ∧ Aside0 (kq ≤ k) ∧ Drawn0 w w')
  case atStart => exact ⟨(0), (0), xr, xr, H', ⟨Nat.le_refl _⟩, by repeat (first | exact Drawn0.refl _ | apply Drawn0.step)⟩
  case round =>
   clear H'
   (try clear c1); (try clear c4)
   obtain ⟨x5_1, x16_1, rfl, rfl, HA, HK1, ⟨m1, rfl⟩⟩ := hrel
   cases gk with
   | zero => exact absurd HA.out (by simp [impl_HookWeight.l0])
   | succ k1 =>
    have H := HA.out
    clear HA
    simp only [impl_HookWeight.l0] at H
    by_cases c5 : x16_1 < (l1.length : Int)
    ·rw [if_pos c5] at H
     have c5b0 := decide_eq_true c5
     clear c5
     obtain ⟨c6b0, H⟩ := xq H
     obtain ⟨c7b0, H⟩ := xq H
     have H' := ax H
     clear H
     have p430 : 0 ≤ (x16_1 : Int) := xd
     have q430 : x16_1 < (l1.length : Int) := xd
     obtain ⟨ad430, A430_0, c430_0, e430, hx430_0, hl430_0, hi430_0⟩ := at_L2 HR1.out x16_1 p430 q430
     cases e430
     have HR430_0 := ax hi430_0
     have HC430_0 := ax hl430_0
     clear hi430_0 hl430_0
     replace p430 := eq_true p430
     replace q430 := eq_true q430
     go_wp2
     go_loopg [5, 23] k1 (fun kq v5 v23 w' => ∃ (x5_2 : Int) (x23_2 : Int), v5 = .int .i64 x5_2 ∧ v23 = .int .i64 x23_2 ∧ Aside0 (impl_HookWeight.l1 kq l0 x5_2 x16_1 l1 (l1.length : Int) x16_1 (rd_L2 l1 x16_1) ((rd_L2 l1 x16_1).length : Int) x23_2 = some r) ∧ Aside0 (kq ≤ k1) ∧ Drawn0 w w')
     case atStart => exact ⟨(x5_1), (0), xr, xr, H', ⟨Nat.le_refl _⟩, by repeat (first | exact Drawn0.refl _ | apply Drawn0.step)⟩
     case round =>
      clear H'
      (try clear c1); (try clear c4); (try clear c5); (try clear c5b0); (try clear c6); (try clear c6b0); (try clear c7); (try clear c7b0); (try clear hx430_0); (try clear p430); (try clear q430)
      obtain ⟨x5_2, x23_2, rfl, rfl, HA, HK2, ⟨m2, rfl⟩⟩ := hrel
      cases gk with
      | zero => exact absurd HA.out (by simp [impl_HookWeight.l1])
      | succ k2 =>
       have H := HA.out
       clear HA
       simp only [impl_HookWeight.l1] at H
       by_cases c8 : x23_2 < ((rd_L2 l1 x16_1).length : Int)
       ·rw [if_pos c8] at H
        have c8b0 := decide_eq_true c8
        clear c8
        obtain ⟨c9b0, H⟩ := xq H
        obtain ⟨c10b0, H⟩ := xq H
        obtain ⟨t432, A11, H⟩ := xI H
        have H' := ax H
        clear H
        have p431 : 0 ≤ (x23_2 : Int) := xd
        have q431 : x23_2 < ((rd_L2 l1 x16_1).length : Int) := xd
        obtain ⟨ad431, e431, hx431_0⟩ := Kd.at_int HR430_0.out x23_2 p431 q431
        cases e431
        replace p431 := eq_true p431
        replace q431 := eq_true q431
        go_wp2_with (first | ((with_reducible refine gate_callee (f := 41) rfl ?_); refine goesL_ (some 33) rfl rfl Try.func41 (by kernel_rfl) rfl #[.slice A0 l0.length c0, .int .i64 x16_1, .int .i64 x23_2] rfl xm ?_; (with_reducible refine (impl_HookOf.calls k2 _ _ l0 x16_1 x23_2 t432 _ ?side1 ?side2 A11.out).mono ?_); (case side1 => exact xc HR0.out); (case side2 => exact HC0.out); rintro e w' ⟨rfl, ⟨nd, rfl⟩⟩; refine ⟨_, rfl, ?_⟩))
        go_roundg k2
        case measure => have := HK1.out; have := HK2.out; omega
        case rel => exact ⟨(wrap64 (x5_2 + (wrap64 ((rd (rd_L2 l1 x16_1) x23_2) * t432)))), (wrap64 (x23_2 + 1)), xr, xr, H', ⟨by have := HK1.out; have := HK2.out; omega⟩, by repeat (first | exact Drawn0.refl _ | apply Drawn0.step)⟩
       ·rw [if_neg c8] at H
        have c8b0 := decide_eq_false c8
        clear c8
        have H' := ax H
        clear H
        go_wp2
        go_roundg k2
        case measure => have := HK1.out; have := HK2.out; omega
        case rel => exact ⟨(x5_2), (wrap64 (x16_1 + 1)), xr, xr, H', ⟨by have := HK1.out; have := HK2.out; omega⟩, by repeat (first | exact Drawn0.refl _ | apply Drawn0.step)⟩
    ·rw [if_neg c5] at H
     have c5b0 := decide_eq_false c5
     clear c5
     obtain rfl := Option.some.inj H
     go_wp2
     go_ret
     exact ⟨by first | rfl | (simp; done) | (simp [*]; done), by repeat (first | exact Drawn0.refl _ | apply Drawn0.step)⟩
 ·replace c4 := Bool.eq_false_iff.mpr c4
  subst c4
  rw [if_neg (show ¬ (false = true) by decide)] at H
  obtain rfl := Option.some.inj H
  go_enter Try.func18, Try.ntmps18
  go_wp2_with (first | ((with_reducible refine gate_callee (f := 16) rfl ?_); refine goesL_ (some 12) rfl rfl Try.func16 (by kernel_rfl) rfl #[.slice A0 l0.length c0, .slice A1 l1.length c1] rfl xm ?_; (with_reducible refine (impl_IsFilling.calls k _ _ l0 _ _ l1 false _ ?side1 ?side2 ?side3 ?side4 A3.out).mono ?_); (case side1 => exact xc HR0.out); (case side2 => exact HC0.out); (case side3 => exact xc HR1.out); (case side4 => exact HC1.out); rintro e w' ⟨rfl, ⟨nd, rfl⟩⟩; refine ⟨_, rfl, ?_⟩))
  go_ret
  exact ⟨by first | rfl | (simp; done) | (simp [*]; done), by repeat (first | exact Drawn0.refl _ | apply Drawn0.step)⟩

def impl_raise.st (x1 : List (List Int)) (r c : Int) : List (List Int) := x1.set r.toNat ((rd_L2 x1 r).set c.toNat (wrap64 ((rd (rd_L2 x1 r) c) + 1)))
def impl_raise.up (k : Nat) (l0 : List Int) (y : List (List Int)) (r c x : Int) : Option Bool := (impl_column.f k l0 c).bind fun m => (if wrap64 (r + 1) < m then (if 0 ≤ wrap64 (r + 1) then (if wrap64 (r + 1) < (y.length : Int) ∧ c < ((rd_L2 y (wrap64 (r + 1))).length : Int) then (if (rd (rd_L2 y (wrap64 (r + 1))) c) = x then some true else some false) else none) else none) else some false)
theorem impl_raise.mono_up : ∀ k y0 y1 y2 y3 y4, LeO (impl_raise.up k y0 y1 y2 y3 y4) (impl_raise.up (k + 1) y0 y1 y2 y3 y4) := fun _ _ _ _ _ _ => LeO.bind (impl_column.mono _ _ _) (fun _ => LeO.refl _)
def impl_raise.l0 : Nat → List Int → List (List Int) → Int → Int → Int → Option (List (List Int))
 | 0, _, _, _, _, _ => none
 | k + 1, l0, x1, r, c, e => if (0 ≤ r ∧ r < (x1.length : Int)) ∧ (0 ≤ c ∧ c < ((rd_L2 x1 r).length : Int)) then ((impl_raise.up k l0 (impl_raise.st x1 r c) r c (rd (rd_L2 x1 r) c)).bind fun b => (if b = true then impl_raise.l0 k l0 (impl_raise.st x1 r c) (wrap64 (r + 1)) c e else (if c > e then impl_raise.l0 k l0 (impl_raise.st x1 r c) r (wrap64 (c - 1)) e else some (impl_raise.st x1 r c)))) else none
def impl_raise.f (k : Nat) (l0 : List Int) (l1 : List (List Int)) (a2 a3 : Int) : Option (List (List Int)) := if 0 ≤ a2 ∧ a2 < (l0.length : Int) then impl_raise.l0 k l0 l1 a2 (wrap64 ((rd l0 a2) - 1)) a3 else none
theorem impl_raise.mono_l : ∀ k, (∀ y0 y1 y2 y3 y4, LeO (impl_raise.l0 k y0 y1 y2 y3 y4) (impl_raise.l0 (k + 1) y0 y1 y2 y3 y4))
 | 0 => fun _ _ _ _ _ r h => by simp [impl_raise.l0] at h
 | k + 1 => by
  have ih0 := impl_raise.mono_l k
  intro y0 y1 y2 y3 y4
  unfold impl_raise.l0
  repeat' with_reducible first | exact ih0 _ _ _ _ _ | exact impl_raise.mono_up _ _ _ _ _ _ | exact xl | refine LeO.ite ?_ ?_ | refine LeO.bind ?_ fun _ => ?_
theorem impl_raise.mono : ∀ a0 a1 a2 a3 k, LeO (impl_raise.f k a0 a1 a2 a3) (impl_raise.f (k + 1) a0 a1 a2 a3) := by
 intro a0 a1 a2 a3 k
 unfold impl_raise.f
 exact LeO.ite (impl_raise.mono_l k _ _ _ _ _) (LeO.refl _)
theorem impl_raise.calls (k : Nat) (A0 : Option Addr) (c0 : Nat) (l0 : List Int) (u : Value) (l1 : List (List Int)) (a2 a3 : Int) (rr : List (List Int)) (w0 w : World) (hB : Below w0.heap.size w0 w) (hr0 : Kd.C (Kd.int .i64) w0 A0 l0.length l0) (hc0 : l0.length ≤ c0) (ho1 : Kd.S (Kd.slice 3 (Kd.int .i64)) 24 w w0.heap.size (fun _ => True) u l1) (h : impl_raise.f k l0 l1 a2 a3 = some rr) :
  Calls Try.prog 32 #[.slice A0 l0.length c0, u, .int .i64 a2, .int .i64 a3] w fun e w' => e = .returned (.tuple #[]) ∧ Kd.S (Kd.slice 3 (Kd.int .i64)) 24 w' w0.heap.size (fun _ => True) u rr ∧ Below w0.heap.size w0 w' := by
 unfold impl_raise.f at h
 by_cases ha : 0 ≤ a2 ∧ a2 < (l0.length : Int)
 ·rw [if_pos ha] at h
  obtain ⟨ha0, ha1⟩ := ha
  obtain ⟨A1, c1, e1⟩ := Kd.S_slice ho1
  obtain ⟨n1, hn1⟩ : ∃ n_ : Nat, n_ = l1.length := ⟨_, rfl⟩
  rw [← hn1] at e1
  subst e1
  clear hn1
  have HB := ax hB
  have HR0 := ax hr0
  have HC0 := ax hc0
  have HO1 := ax ho1
  have H' := ax h
  have hrw := Kd.C_below hr0 hB
  obtain ⟨ap, ep, hxp⟩ := Kd.at_int hrw a2 ha0 ha1
  subst ep
  clear hB hr0 hc0 ho1 h hrw
  have pa := eq_true ha0
  have qa := eq_true ha1
  clear ha0 ha1
  go_enter Try.func32, Try.ntmps32
  try go_wp2
  refine start_ (n := 8) (S := fun w' => w'.cell? (ap.add a2.toNat) = some (.int .i64 (rd l0 a2))) (ds := []) (xB 8 0) (by kernel_rfl) rfl (by kernel_rfl) hxp (fun hHeld => ?_)
  have n0_ := ax (below_drew1 HB.out)
  have n1_ := ax (Kd.S_drew HO1.out)
  clear HB HO1 hxp
  generalize w.drew = wd at n0_ n1_ hHeld ⊢
  have HB := n0_
  have HO1 := n1_
  clear n0_ n1_
  refine pure_ (i := 0) (N := some 11) (v := ?_) (a' := ?_) (xB 8 1) rfl rfl (by kernel_rfl) (fun _ _ _ h => h) (Or.inl ⟨by rfl, ?_⟩) ?_ ?_
  rotate_left
  ·intro w'
   go_simp
   with_reducible rfl
  rotate_left
  ·simp only [Act.put, List.setIfInBounds_toArray, List.set_cons_zero, List.set_cons_succ, i64_w, i32_w]
   rfl
  refine pure_ (i := 1) (N := some 12) (v := ?_) (a' := ?_) (xB 8 3) rfl rfl (by kernel_rfl) (fun _ _ _ h => h) (Or.inl ⟨by rfl, ?_⟩) ?_ ?_
  rotate_left
  ·intro w'
   go_simp
   with_reducible rfl
  rotate_left
  ·simp only [Act.put, List.setIfInBounds_toArray, List.set_cons_zero, List.set_cons_succ, i64_w, i32_w]
   rfl
  refine pure_ (i := 2) (N := some 13) (v := ?_) (a' := ?_) (xB 8 7) rfl rfl (by kernel_rfl) (fun _ _ _ h => h) (Or.inl ⟨by rfl, ?_⟩) ?_ ?_
  rotate_left
  ·intro w'
   go_simp
   with_reducible rfl
  rotate_left
  ·simp only [Act.put, List.setIfInBounds_toArray, List.set_cons_zero, List.set_cons_succ, i64_w, i32_w]
   rfl
  refine pure_ (i := 3) (N := some 14) (v := ?_) (a' := ?_) (xB 8 15) rfl rfl (by kernel_rfl) (fun _ _ _ h => h) (Or.inl ⟨by rfl, ?_⟩) ?_ ?_
  rotate_left
  ·intro w'
   go_simp
   with_reducible rfl
  rotate_left
  ·simp only [Act.put, List.setIfInBounds_toArray, List.set_cons_zero, List.set_cons_succ, i64_w, i32_w]
   rfl
  refine take_ (i := 4) (N := some 15) (v := ?_) (a' := ?_) (xB 8 31) rfl rfl (by kernel_rfl) (fun _ _ _ h => h) (Or.inl ⟨by rfl, ?_⟩) hHeld ?_ ?_
  rotate_left
  ·intro w' s0
   go_simp
   with_reducible rfl
  rotate_left
  ·simp only [Act.put, List.setIfInBounds_toArray, List.set_cons_zero, List.set_cons_succ, i64_w, i32_w]
   rfl
  refine pure_ (i := 5) (N := some 16) (v := ?_) (a' := ?_) (xB 8 63) rfl rfl (by kernel_rfl) (fun _ _ _ h => h) (Or.inl ⟨by rfl, ?_⟩) ?_ ?_
  rotate_left
  ·intro w'
   go_simp
   with_reducible rfl
  rotate_left
  ·simp only [Act.put, List.setIfInBounds_toArray, List.set_cons_zero, List.set_cons_succ, i64_w, i32_w]
   rfl
  refine pure_ (i := 6) (N := some 8) (v := ?_) (a' := ?_) (xB 8 127) rfl rfl (by kernel_rfl) (fun _ _ _ h => h) (Or.inl ⟨by rfl, ?_⟩) ?_ ?_
  rotate_left
  ·intro w'
   go_simp
   with_reducible rfl
  rotate_left
  ·simp only [Act.put, List.setIfInBounds_toArray, List.set_cons_zero, List.set_cons_succ, i64_w, i32_w]
   rfl
  refine pure_ (i := 7) (N := some 9) (v := ?_) (a' := ?_) (xB 8 255) rfl rfl (by kernel_rfl) (fun _ _ _ h => h) (Or.inl ⟨by rfl, ?_⟩) ?_ ?_
  rotate_left
  ·intro w'
   go_simp
   with_reducible rfl
  rotate_left
  ·simp only [Act.put, List.setIfInBounds_toArray, List.set_cons_zero, List.set_cons_succ, i64_w, i32_w]
   rfl
  refine done_ (by kernel_rfl) ?_
  clear hHeld
  go_wp2
  go_loopg [8, 9] k (fun kq v8 v9 w' => ∃ (x1 : List (List Int)) (r c : Int), v8 = .int .i64 r ∧ v9 = .int .i64 c ∧ Aside0 (impl_raise.l0 kq l0 x1 r c a3 = some rr) ∧ Aside0 (kq ≤ k) ∧ Aside0 (Kd.S (Kd.slice 3 (Kd.int .i64)) 24 w' w0.heap.size (fun _ => True) (.slice A1 n1 c1) x1) ∧ Aside0 (Below w0.heap.size w0 w'))
  case atStart => exact ⟨l1, a2, wrap64 ((rd l0 a2) - 1), xr, xr, H', ⟨Nat.le_refl _⟩, HO1, HB⟩
  case round =>
   clear H' HO1 HB pa qa
   (try clear hxp)
   obtain ⟨x1, r, c, rfl, rfl, HA, HK1, HO_1, HB⟩ := hrel
   cases gk with
   | zero => exact absurd HA.out (by simp [impl_raise.l0])
   | succ k1 =>
    have H := HA.out
    clear HA
    simp only [impl_raise.l0] at H
    by_cases hc : (0 ≤ r ∧ r < (x1.length : Int)) ∧ (0 ≤ c ∧ c < ((rd_L2 x1 r).length : Int))
    ·rw [if_pos hc] at H
     obtain ⟨⟨hr0, hr1⟩, hc0, hc1⟩ := hc
     obtain ⟨b, Ab, H⟩ := Option.bind_eq_some_iff.mp H
     obtain ⟨g1, cg, eg, _, _, _⟩ := Kd.S_form HO_1.out (by omega)
     injection eg with ea_ en_ ec_
     subst ea_
     subst ec_
     obtain ⟨oki, ce, hcl, hM, hcc, hfr, hoki, hH⟩ := Kd.S_elem HO_1.out ([] : List Int) r hr0 (by omega)
     obtain ⟨ve, rfl, ge⟩ := hM
     have hx5 := hcc 0 _ rfl
     rw [show (Kd.slice 3 (Kd.int .i64)).sz = 1 from rfl, Nat.mul_one, Nat.add_zero] at hx5
     have ge' : Kd.R (Kd.int .i64) 3 wr w0.heap.size oki ve (rd_L2 x1 r) := ge
     obtain ⟨gi, ci, ei, _, _, _⟩ := Kd.R_form ge' (by omega)
     subst ei
     obtain ⟨hx6, hf6⟩ := Kd.R_celln 0 ge' c hc0 hc1
     have hy6 : wr.cell? ⟨gi, c.toNat, none⟩ = some (.int .i64 (rd (rd_L2 x1 r) c)) := hx6
     have HP14 := Kd.R_putg ge' c (wrap64 ((rd (rd_L2 x1 r) c) + 1))
     have HH := ax hH
     have GE := ax ge'
     have EN := ax en_
     have p5 := eq_true hr0
     have q5 : (r < (n1 : Int)) = True := eq_true (by omega)
     have p6 := eq_true hc0
     have q6 := eq_true hc1
     have HRC := ax (show 0 ≤ r ∧ r < (n1 : Int) ∧ 0 ≤ c from ⟨hr0, by omega, hc0⟩)
     clear hH ge ge' hoki hcc hfr hcl hx6 en_ hr0 hr1 hc0 hc1
     obtain ⟨y, hy⟩ : ∃ y_ : List (List Int), y_ = impl_raise.st x1 r c := ⟨_, rfl⟩
     obtain ⟨xv, hxv⟩ : ∃ x_ : Int, x_ = rd (rd_L2 x1 r) c := ⟨_, rfl⟩
     rw [← hy, ← hxv] at Ab
     rw [← hy] at H
     have AB := ax Ab
     have HZ := ax H
     have Y := ax hy
     rw [← hxv] at hy6
     rw [← hxv] at HP14
     have XV := ax hxv
     clear Ab H hy hxv
     go_upto_region 3 with (first | ((with_reducible refine gate_store (t := 3) (p := 32) rfl ?_); refine store_event (t := 3) (p := 32) (v := ?vo_1) (w1 := (wr.setCell ⟨gi, c.toNat, none⟩ (.int .i64 (wrap64 (xv + 1))))) ?hg ?ho ?hn ?hr ?_; (case ho => rfl); (case hg => rfl); (case hn => rfl); (case hr => first | (go_simp; done) | (go_simp; rfl)); intro w15 hw; have n0_ : Aside0 (Kd.S (Kd.slice 3 (Kd.int .i64)) 24 w15 w0.heap.size (fun _ => True) (.slice (some ⟨g1, 0, none⟩) n1 c1) y) := ⟨by rw [Y.out]; unfold impl_raise.st; rw [← XV.out]; exact Kd.H_back (Kd.H_grown HH.out (row := some gi) (by rw [hw]; exact HP14.2) (fun k_ e_ => GE.out.1 k_ e_)) (x' := (rd_L2 x1 r).set c.toNat (wrap64 (xv + 1))) (show (Kd.slice 3 (Kd.int .i64)).M w15 w0.heap.size oki _ [_] from ⟨_, rfl, by rw [hw]; exact HP14.1⟩) (fun _ h_ => h_)⟩; have n1_ : Aside0 (Below w0.heap.size w0 w15) := ⟨by rw [hw]; exact below_set HB.out (Kd.R_base GE.out gi rfl)⟩; clear hw HP14 HH GE HO_1 HB; have HO_1 := n0_; have HB := n1_; clear n0_ n1_))
     clear p5 q5 hx5 hy6 hf6
     have A := AB.out
     unfold impl_raise.up at A
     obtain ⟨m, Am, A⟩ := Option.bind_eq_some_iff.mp A
     have AM := ax Am
     clear Am
     have d6 := eq_true HRC.out.2.2
     by_cases d1 : wrap64 (r + 1) < m
     ·rw [if_pos d1] at A
      have d1b : decide (wrap64 (r + 1) < m) = true := decide_eq_true d1
      by_cases d2 : 0 ≤ wrap64 (r + 1)
      ·rw [if_pos d2] at A
       by_cases d4 : wrap64 (r + 1) < (y.length : Int) ∧ c < ((rd_L2 y (wrap64 (r + 1))).length : Int)
       ·rw [if_pos d4] at A
        obtain ⟨d4a, d4b⟩ := d4
        have hyl : y.length = n1 := by have h2 := (Kd.S_slice HO_1.out); obtain ⟨_, _, h3⟩ := h2; injection h3 with _ h4 _; exact h4.symm
        obtain ⟨oki2, ce2, hcl2, hM2, hcc2, _, _, _⟩ := Kd.S_elem HO_1.out ([] : List Int) (wrap64 (r + 1)) d2 (by omega)
        obtain ⟨ve2, rfl, ge2⟩ := hM2
        have hx7 := hcc2 0 _ rfl
        rw [show (Kd.slice 3 (Kd.int .i64)).sz = 1 from rfl, Nat.mul_one, Nat.add_zero] at hx7
        have ge3 : Kd.R (Kd.int .i64) 3 w15 w0.heap.size oki2 ve2 (rd_L2 y (wrap64 (r + 1))) := ge2
        obtain ⟨gi2, ci2, ei2, _, _, _⟩ := Kd.R_form ge3 (by have := HRC.out; omega)
        subst ei2
        obtain ⟨hx8, _⟩ := Kd.R_celln 0 ge3 c HRC.out.2.2 d4b
        have hy8 : w15.cell? ⟨gi2, c.toNat, none⟩ = some (.int .i64 (rd (rd_L2 y (wrap64 (r + 1))) c)) := hx8
        have t1 : (wrap64 (r + 1) < (n1 : Int)) = True := eq_true (by omega)
        have t2 := eq_true d2
        have t3 := eq_true d4b
        clear hcc2 hcl2 ge2 ge3 hx8 d4a d4b hyl
        by_cases d5 : (rd (rd_L2 y (wrap64 (r + 1))) c) = xv
        ·rw [if_pos d5] at A
         have d5b : ((rd (rd_L2 y (wrap64 (r + 1))) c) == xv) = true := beq_iff_eq.mpr d5
         obtain rfl := Option.some.inj A
         have H := HZ.out
         rw [if_pos rfl] at H
         have H' := ax H
         clear H HZ d5
         go_wp2_with (first | ((with_reducible refine gate_callee (f := 26) rfl ?_); refine goesL_ (some 38) rfl rfl Try.func26 (by kernel_rfl) rfl #[.slice (some ap) l0.length c0, .int .i64 c] rfl xm ?_; (with_reducible refine (impl_column.calls k1 _ _ l0 c m _ ?side1 ?side2 AM.out).mono ?_); (case side1 => exact Kd.C_below HR0.out HB.out); (case side2 => exact HC0.out); rintro e w' ⟨rfl, ⟨nd, rfl⟩⟩; refine ⟨_, rfl, ?_⟩))
         go_roundg k1
         case measure => have := HK1.out; omega
         case rel => exact ⟨y, wrap64 (r + 1), c, xr, xr, H', ⟨by have := HK1.out; omega⟩, (by first | exact HO_1 | exact ⟨Kd.S_drewN HO_1.out _⟩), (by first | exact HB | exact ⟨pw_below_drewN HB.out _⟩)⟩
        ·rw [if_neg d5] at A
         have d5b : ((rd (rd_L2 y (wrap64 (r + 1))) c) == xv) = false := beq_eq_false_iff_ne.mpr d5
         clear d5
         obtain rfl := Option.some.inj A
         have H := HZ.out
         rw [if_neg Bool.false_ne_true] at H
         by_cases e9 : c > a3
         ·rw [if_pos e9] at H
          have e9b : decide (a3 < c) = true := decide_eq_true e9
          have H' := ax H
          clear H HZ
          go_wp2_with (first | ((with_reducible refine gate_callee (f := 26) rfl ?_); refine goesL_ (some 38) rfl rfl Try.func26 (by kernel_rfl) rfl #[.slice (some ap) l0.length c0, .int .i64 c] rfl xm ?_; (with_reducible refine (impl_column.calls k1 _ _ l0 c m _ ?side1 ?side2 AM.out).mono ?_); (case side1 => exact Kd.C_below HR0.out HB.out); (case side2 => exact HC0.out); rintro e w' ⟨rfl, ⟨nd, rfl⟩⟩; refine ⟨_, rfl, ?_⟩))
          go_roundg k1
          case measure => have := HK1.out; omega
          case rel => exact ⟨y, r, wrap64 (c - 1), xr, xr, H', ⟨by have := HK1.out; omega⟩, (by first | exact HO_1 | exact ⟨Kd.S_drewN HO_1.out _⟩), (by first | exact HB | exact ⟨pw_below_drewN HB.out _⟩)⟩
         ·rw [if_neg e9] at H
          have e9b : decide (a3 < c) = false := decide_eq_false e9
          clear HZ
          obtain rfl := Option.some.inj H
          go_wp2_with (first | ((with_reducible refine gate_callee (f := 26) rfl ?_); refine goesL_ (some 38) rfl rfl Try.func26 (by kernel_rfl) rfl #[.slice (some ap) l0.length c0, .int .i64 c] rfl xm ?_; (with_reducible refine (impl_column.calls k1 _ _ l0 c m _ ?side1 ?side2 AM.out).mono ?_); (case side1 => exact Kd.C_below HR0.out HB.out); (case side2 => exact HC0.out); rintro e w' ⟨rfl, ⟨nd, rfl⟩⟩; refine ⟨_, rfl, ?_⟩))
          refine bodyPost_ret (results_none rfl _ _ _) rfl ?_
          exact ⟨rfl, by first | exact HO_1.out | exact Kd.S_drewN HO_1.out _, by first | exact HB.out | exact pw_below_drewN HB.out _⟩
       ·rw [if_neg d4] at A; cases A
      ·rw [if_neg d2] at A; cases A
     ·rw [if_neg d1] at A
      have d1b : decide (wrap64 (r + 1) < m) = false := decide_eq_false d1
      obtain rfl := Option.some.inj A
      have H := HZ.out
      rw [if_neg Bool.false_ne_true] at H
      by_cases e9 : c > a3
      ·rw [if_pos e9] at H
       have e9b : decide (a3 < c) = true := decide_eq_true e9
       have H' := ax H
       clear H HZ
       go_wp2_with (first | ((with_reducible refine gate_callee (f := 26) rfl ?_); refine goesL_ (some 38) rfl rfl Try.func26 (by kernel_rfl) rfl #[.slice (some ap) l0.length c0, .int .i64 c] rfl xm ?_; (with_reducible refine (impl_column.calls k1 _ _ l0 c m _ ?side1 ?side2 AM.out).mono ?_); (case side1 => exact Kd.C_below HR0.out HB.out); (case side2 => exact HC0.out); rintro e w' ⟨rfl, ⟨nd, rfl⟩⟩; refine ⟨_, rfl, ?_⟩))
       go_roundg k1
       case measure => have := HK1.out; omega
       case rel => exact ⟨y, r, wrap64 (c - 1), xr, xr, H', ⟨by have := HK1.out; omega⟩, (by first | exact HO_1 | exact ⟨Kd.S_drewN HO_1.out _⟩), (by first | exact HB | exact ⟨pw_below_drewN HB.out _⟩)⟩
      ·rw [if_neg e9] at H
       have e9b : decide (a3 < c) = false := decide_eq_false e9
       clear HZ
       obtain rfl := Option.some.inj H
       go_wp2_with (first | ((with_reducible refine gate_callee (f := 26) rfl ?_); refine goesL_ (some 38) rfl rfl Try.func26 (by kernel_rfl) rfl #[.slice (some ap) l0.length c0, .int .i64 c] rfl xm ?_; (with_reducible refine (impl_column.calls k1 _ _ l0 c m _ ?side1 ?side2 AM.out).mono ?_); (case side1 => exact Kd.C_below HR0.out HB.out); (case side2 => exact HC0.out); rintro e w' ⟨rfl, ⟨nd, rfl⟩⟩; refine ⟨_, rfl, ?_⟩))
       refine bodyPost_ret (results_none rfl _ _ _) rfl ?_
       exact ⟨rfl, by first | exact HO_1.out | exact Kd.S_drewN HO_1.out _, by first | exact HB.out | exact pw_below_drewN HB.out _⟩
    ·rw [if_neg hc] at H; cases H
 ·rw [if_neg ha] at h; cases h


end Go.Proofs.Ytnfcdaojglicfab.PFnFillings
