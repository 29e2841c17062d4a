import Derived.Test.YtneipehcmmigeaaPFnExactCountTableauxx5
import Derived.Test.YtneipehcmmigeaaPFnExactCountTableauxx7
namespace Go.Proofs.Ytneipehcmmigeaa.PFnExactCountTableaux
open Go.RowKit Go.Proofs.YtneipehcmmigeaaW.PrintWords Go.Proofs.YtneipehcmmigeaaW.PrintLast Go.Proofs.YtneipehcmmigeaaW.PrintMore
set_option linter.unusedVariables false
set_option linter.unusedSimpArgs false
set_option maxHeartbeats 8000000
set_option maxRecDepth 100000
/-! ### slices_symMergeCmpFunc_Mono__impl_ordered_1: function 117 -/
mutual
def slices_symMergeCmpFunc_Mono__impl_ordered_1.l0 : Nat → List (S48) → Int → Int → Int → Option ((List (S48)))
 | 0, _, _, _, _ => none
 | k + 1, x0, x1, x10, x11 => if x10 < x11 then (if 0 ≤ (wrap64 ((IntKind.u64.wrap (wrap64 (x10 + x11))) / 2)) then (if (wrap64 ((IntKind.u64.wrap (wrap64 (x10 + x11))) / 2)) < (x0.length : Int) then (if 0 ≤ x1 then (if x1 < (x0.length : Int) then ((impl_ordered_1.f k ((rd_T48 x0 (wrap64 ((IntKind.u64.wrap (wrap64 (x10 + x11))) / 2))).f0) ((rd_T48 x0 (wrap64 ((IntKind.u64.wrap (wrap64 (x10 + x11))) / 2))).f1) ((rd_T48 x0 x1).f0) ((rd_T48 x0 x1).f1)).bind fun t230 => (if t230 < 0 then (slices_symMergeCmpFunc_Mono__impl_ordered_1.l0 k x0 x1 (wrap64 ((wrap64 ((IntKind.u64.wrap (wrap64 (x10 + x11))) / 2)) + 1)) x11) else (slices_symMergeCmpFunc_Mono__impl_ordered_1.l0 k x0 x1 x10 (wrap64 ((IntKind.u64.wrap (wrap64 (x10 + x11))) / 2))))) else (none)) else (none)) else (none)) else (none)) else (slices_symMergeCmpFunc_Mono__impl_ordered_1.l1 k x0 x10 x1)
def slices_symMergeCmpFunc_Mono__impl_ordered_1.l1 : Nat → List (S48) → Int → Int → Option ((List (S48)))
 | 0, _, _, _ => none
 | k + 1, x0, x10, x13 => if x13 < (wrap64 (x10 - 1)) then (if 0 ≤ (wrap64 (x13 + 1)) then (if (wrap64 (x13 + 1)) < (x0.length : Int) then (if 0 ≤ x13 then (if x13 < (x0.length : Int) then (slices_symMergeCmpFunc_Mono__impl_ordered_1.l1 k ((x0.set (x13 : Int).toNat (⟨(rd_T48 x0 (wrap64 (x13 + 1))).f0, (rd_T48 x0 (wrap64 (x13 + 1))).f1⟩ : S48)).set ((wrap64 (x13 + 1)) : Int).toNat (⟨(rd_T48 x0 x13).f0, (rd_T48 x0 x13).f1⟩ : S48)) x10 (wrap64 (x13 + 1))) else (none)) else (none)) else (none)) else (none)) else (some x0)
def slices_symMergeCmpFunc_Mono__impl_ordered_1.l2 : Nat → List (S48) → Int → Int → Int → Option ((List (S48)))
 | 0, _, _, _, _ => none
 | k + 1, x0, x2, x14, x15 => if x14 < x15 then (if 0 ≤ x2 then (if x2 < (x0.length : Int) then (if 0 ≤ (wrap64 ((IntKind.u64.wrap (wrap64 (x14 + x15))) / 2)) then (if (wrap64 ((IntKind.u64.wrap (wrap64 (x14 + x15))) / 2)) < (x0.length : Int) then ((impl_ordered_1.f k ((rd_T48 x0 x2).f0) ((rd_T48 x0 x2).f1) ((rd_T48 x0 (wrap64 ((IntKind.u64.wrap (wrap64 (x14 + x15))) / 2))).f0) ((rd_T48 x0 (wrap64 ((IntKind.u64.wrap (wrap64 (x14 + x15))) / 2))).f1)).bind fun t237 => (if t237 < 0 then (slices_symMergeCmpFunc_Mono__impl_ordered_1.l2 k x0 x2 x14 (wrap64 ((IntKind.u64.wrap (wrap64 (x14 + x15))) / 2))) else (slices_symMergeCmpFunc_Mono__impl_ordered_1.l2 k x0 x2 (wrap64 ((wrap64 ((IntKind.u64.wrap (wrap64 (x14 + x15))) / 2)) + 1)) x15))) else (none)) else (none)) else (none)) else (none)) else (slices_symMergeCmpFunc_Mono__impl_ordered_1.l3 k x0 x14 x2)
def slices_symMergeCmpFunc_Mono__impl_ordered_1.l3 : Nat → List (S48) → Int → Int → Option ((List (S48)))
 | 0, _, _, _ => none
 | k + 1, x0, x14, x17 => if x17 > x14 then (if 0 ≤ (wrap64 (x17 - 1)) then (if (wrap64 (x17 - 1)) < (x0.length : Int) then (if 0 ≤ x17 then (if x17 < (x0.length : Int) then (slices_symMergeCmpFunc_Mono__impl_ordered_1.l3 k ((x0.set (x17 : Int).toNat (⟨(rd_T48 x0 (wrap64 (x17 - 1))).f0, (rd_T48 x0 (wrap64 (x17 - 1))).f1⟩ : S48)).set ((wrap64 (x17 - 1)) : Int).toNat (⟨(rd_T48 x0 x17).f0, (rd_T48 x0 x17).f1⟩ : S48)) x14 (wrap64 (x17 - 1))) else (none)) else (none)) else (none)) else (none)) else (some x0)
def slices_symMergeCmpFunc_Mono__impl_ordered_1.j4 : Nat → List (S48) → Int → Int → Int → Int → Int → Int → Int → Option ((List (S48)))
 | 0, _, _, _, _, _, _, _, _ => none
 | k + 1, x0, x1, x2, x3, x18, x19, x20, x21 => slices_symMergeCmpFunc_Mono__impl_ordered_1.l4 k x0 x1 x2 x3 x18 x19 x20 x21 (wrap64 (x19 - 1))
def slices_symMergeCmpFunc_Mono__impl_ordered_1.l4 : Nat → List (S48) → Int → Int → Int → Int → Int → Int → Int → Int → Option ((List (S48)))
 | 0, _, _, _, _, _, _, _, _, _ => none
 | k + 1, x0, x1, x2, x3, x18, x19, x20, x21, x22 => if x20 < x21 then (if 0 ≤ (wrap64 (x22 - (wrap64 ((IntKind.u64.wrap (wrap64 (x20 + x21))) / 2)))) then (if (wrap64 (x22 - (wrap64 ((IntKind.u64.wrap (wrap64 (x20 + x21))) / 2)))) < (x0.length : Int) then (if 0 ≤ (wrap64 ((IntKind.u64.wrap (wrap64 (x20 + x21))) / 2)) then (if (wrap64 ((IntKind.u64.wrap (wrap64 (x20 + x21))) / 2)) < (x0.length : Int) then ((impl_ordered_1.f k ((rd_T48 x0 (wrap64 (x22 - (wrap64 ((IntKind.u64.wrap (wrap64 (x20 + x21))) / 2))))).f0) ((rd_T48 x0 (wrap64 (x22 - (wrap64 ((IntKind.u64.wrap (wrap64 (x20 + x21))) / 2))))).f1) ((rd_T48 x0 (wrap64 ((IntKind.u64.wrap (wrap64 (x20 + x21))) / 2))).f0) ((rd_T48 x0 (wrap64 ((IntKind.u64.wrap (wrap64 (x20 + x21))) / 2))).f1)).bind fun t244 => (if t244 < 0 then (slices_symMergeCmpFunc_Mono__impl_ordered_1.l4 k x0 x1 x2 x3 x18 x19 x20 (wrap64 ((IntKind.u64.wrap (wrap64 (x20 + x21))) / 2)) x22) else (slices_symMergeCmpFunc_Mono__impl_ordered_1.l4 k x0 x1 x2 x3 x18 x19 (wrap64 ((wrap64 ((IntKind.u64.wrap (wrap64 (x20 + x21))) / 2)) + 1)) x21 x22))) else (none)) else (none)) else (none)) else (none)) else (if x20 < x2 then (slices_symMergeCmpFunc_Mono__impl_ordered_1.j6 k x0 x1 x2 x3 x18 x20 (wrap64 (x19 - x20)) (decide (x2 < (wrap64 (x19 - x20))))) else (slices_symMergeCmpFunc_Mono__impl_ordered_1.j6 k x0 x1 x2 x3 x18 x20 (wrap64 (x19 - x20)) false))
def slices_symMergeCmpFunc_Mono__impl_ordered_1.j6 : Nat → List (S48) → Int → Int → Int → Int → Int → Int → Bool → Option ((List (S48)))
 | 0, _, _, _, _, _, _, _, _ => none
 | k + 1, x0, x1, x2, x3, x18, x20, x24, x185 => if x185 = true then ((slices_rotateCmpFunc_Mono__impl_ordered_1.f k x0 x20 x2 x24).bind fun t245 => (slices_symMergeCmpFunc_Mono__impl_ordered_1.j7 k t245 x1 x3 x18 x20 x24)) else (slices_symMergeCmpFunc_Mono__impl_ordered_1.j7 k x0 x1 x3 x18 x20 x24)
def slices_symMergeCmpFunc_Mono__impl_ordered_1.j7 : Nat → List (S48) → Int → Int → Int → Int → Int → Option ((List (S48)))
 | 0, _, _, _, _, _, _ => none
 | k + 1, x0, x1, x3, x18, x20, x24 => if x1 < x20 then (slices_symMergeCmpFunc_Mono__impl_ordered_1.j8 k x0 x1 x3 x18 x20 x24 (decide (x20 < x18))) else (slices_symMergeCmpFunc_Mono__impl_ordered_1.j8 k x0 x1 x3 x18 x20 x24 false)
def slices_symMergeCmpFunc_Mono__impl_ordered_1.j8 : Nat → List (S48) → Int → Int → Int → Int → Int → Bool → Option ((List (S48)))
 | 0, _, _, _, _, _, _, _ => none
 | k + 1, x0, x1, x3, x18, x20, x24, x199 => if x199 = true then ((slices_symMergeCmpFunc_Mono__impl_ordered_1.f k x0 x1 x20 x18).bind fun t246 => (if x18 < x24 then (if x24 < x3 then ((slices_symMergeCmpFunc_Mono__impl_ordered_1.f k t246 x18 x24 x3).bind fun t247 => (some t247)) else (some t246)) else (some t246))) else (if x18 < x24 then (if x24 < x3 then ((slices_symMergeCmpFunc_Mono__impl_ordered_1.f k x0 x18 x24 x3).bind fun t248 => (some t248)) else (some x0)) else (some x0))
def slices_symMergeCmpFunc_Mono__impl_ordered_1.f : Nat → List (S48) → Int → Int → Int → Option ((List (S48)))
 | 0, _, _, _, _ => none
 | k + 1, l0, a1, a2, a3 => if (wrap64 (a2 - a1)) = 1 then (slices_symMergeCmpFunc_Mono__impl_ordered_1.l0 k l0 a1 a2 a3) else (if (wrap64 (a3 - a2)) = 1 then (slices_symMergeCmpFunc_Mono__impl_ordered_1.l2 k l0 a2 a1 a2) else (if a2 > (wrap64 ((IntKind.u64.wrap (wrap64 (a1 + a3))) / 2)) then (slices_symMergeCmpFunc_Mono__impl_ordered_1.j4 k l0 a1 a2 a3 (wrap64 ((IntKind.u64.wrap (wrap64 (a1 + a3))) / 2)) (wrap64 ((wrap64 ((IntKind.u64.wrap (wrap64 (a1 + a3))) / 2)) + a2)) (wrap64 ((wrap64 ((wrap64 ((IntKind.u64.wrap (wrap64 (a1 + a3))) / 2)) + a2)) - a3)) (wrap64 ((IntKind.u64.wrap (wrap64 (a1 + a3))) / 2))) else (slices_symMergeCmpFunc_Mono__impl_ordered_1.j4 k l0 a1 a2 a3 (wrap64 ((IntKind.u64.wrap (wrap64 (a1 + a3))) / 2)) (wrap64 ((wrap64 ((IntKind.u64.wrap (wrap64 (a1 + a3))) / 2)) + a2)) a1 a2)))
end
theorem slices_symMergeCmpFunc_Mono__impl_ordered_1.mono_l : ∀ k, (∀ y0 y1 y2 y3, LeO (slices_symMergeCmpFunc_Mono__impl_ordered_1.f k y0 y1 y2 y3) (slices_symMergeCmpFunc_Mono__impl_ordered_1.f (k + 1) y0 y1 y2 y3)) ∧ (∀ y0 y1 y2 y3, LeO (slices_symMergeCmpFunc_Mono__impl_ordered_1.l0 k y0 y1 y2 y3) (slices_symMergeCmpFunc_Mono__impl_ordered_1.l0 (k + 1) y0 y1 y2 y3)) ∧ (∀ y0 y1 y2, LeO (slices_symMergeCmpFunc_Mono__impl_ordered_1.l1 k y0 y1 y2) (slices_symMergeCmpFunc_Mono__impl_ordered_1.l1 (k + 1) y0 y1 y2)) ∧ (∀ y0 y1 y2 y3, LeO (slices_symMergeCmpFunc_Mono__impl_ordered_1.l2 k y0 y1 y2 y3) (slices_symMergeCmpFunc_Mono__impl_ordered_1.l2 (k + 1) y0 y1 y2 y3)) ∧ (∀ y0 y1 y2, LeO (slices_symMergeCmpFunc_Mono__impl_ordered_1.l3 k y0 y1 y2) (slices_symMergeCmpFunc_Mono__impl_ordered_1.l3 (k + 1) y0 y1 y2)) ∧ (∀ y0 y1 y2 y3 y4 y5 y6 y7, LeO (slices_symMergeCmpFunc_Mono__impl_ordered_1.j4 k y0 y1 y2 y3 y4 y5 y6 y7) (slices_symMergeCmpFunc_Mono__impl_ordered_1.j4 (k + 1) y0 y1 y2 y3 y4 y5 y6 y7)) ∧ (∀ y0 y1 y2 y3 y4 y5 y6 y7 y8, LeO (slices_symMergeCmpFunc_Mono__impl_ordered_1.l4 k y0 y1 y2 y3 y4 y5 y6 y7 y8) (slices_symMergeCmpFunc_Mono__impl_ordered_1.l4 (k + 1) y0 y1 y2 y3 y4 y5 y6 y7 y8)) ∧ (∀ y0 y1 y2 y3 y4 y5 y6 y7, LeO (slices_symMergeCmpFunc_Mono__impl_ordered_1.j6 k y0 y1 y2 y3 y4 y5 y6 y7) (slices_symMergeCmpFunc_Mono__impl_ordered_1.j6 (k + 1) y0 y1 y2 y3 y4 y5 y6 y7)) ∧ (∀ y0 y1 y2 y3 y4 y5, LeO (slices_symMergeCmpFunc_Mono__impl_ordered_1.j7 k y0 y1 y2 y3 y4 y5) (slices_symMergeCmpFunc_Mono__impl_ordered_1.j7 (k + 1) y0 y1 y2 y3 y4 y5)) ∧ (∀ y0 y1 y2 y3 y4 y5 y6, LeO (slices_symMergeCmpFunc_Mono__impl_ordered_1.j8 k y0 y1 y2 y3 y4 y5 y6) (slices_symMergeCmpFunc_Mono__impl_ordered_1.j8 (k + 1) y0 y1 y2 y3 y4 y5 y6))
 | 0 => ⟨fun _ _ _ _ r h => by simp [slices_symMergeCmpFunc_Mono__impl_ordered_1.f] at h, fun _ _ _ _ r h => by simp [slices_symMergeCmpFunc_Mono__impl_ordered_1.l0] at h, fun _ _ _ r h => by simp [slices_symMergeCmpFunc_Mono__impl_ordered_1.l1] at h, fun _ _ _ _ r h => by simp [slices_symMergeCmpFunc_Mono__impl_ordered_1.l2] at h, fun _ _ _ r h => by simp [slices_symMergeCmpFunc_Mono__impl_ordered_1.l3] at h, fun _ _ _ _ _ _ _ _ r h => by simp [slices_symMergeCmpFunc_Mono__impl_ordered_1.j4] at h, fun _ _ _ _ _ _ _ _ _ r h => by simp [slices_symMergeCmpFunc_Mono__impl_ordered_1.l4] at h, fun _ _ _ _ _ _ _ _ r h => by simp [slices_symMergeCmpFunc_Mono__impl_ordered_1.j6] at h, fun _ _ _ _ _ _ r h => by simp [slices_symMergeCmpFunc_Mono__impl_ordered_1.j7] at h, fun _ _ _ _ _ _ _ r h => by simp [slices_symMergeCmpFunc_Mono__impl_ordered_1.j8] at h⟩
 | k + 1 => by
  obtain ⟨ih0, ih1, ih2, ih3, ih4, ih5, ih6, ih7, ih8, ih9⟩ := slices_symMergeCmpFunc_Mono__impl_ordered_1.mono_l k
  refine ⟨?_, ?_, ?_, ?_, ?_, ?_, ?_, ?_, ?_, ?_⟩
  ·intro y0 y1 y2 y3
   unfold slices_symMergeCmpFunc_Mono__impl_ordered_1.f
   repeat' with_reducible first | exact ih0 _ _ _ _ | exact ih1 _ _ _ _ | exact ih2 _ _ _ | exact ih3 _ _ _ _ | exact ih4 _ _ _ | exact ih5 _ _ _ _ _ _ _ _ | exact ih6 _ _ _ _ _ _ _ _ _ | exact ih7 _ _ _ _ _ _ _ _ | exact ih8 _ _ _ _ _ _ | exact ih9 _ _ _ _ _ _ _ | exact impl_ordered_1.mono _ _ _ _ _ | exact slices_rotateCmpFunc_Mono__impl_ordered_1.mono _ _ _ _ _ | exact xl | refine LeO.ite ?_ ?_ | refine LeO.bind ?_ fun _ => ?_
  ·intro y0 y1 y2 y3
   unfold slices_symMergeCmpFunc_Mono__impl_ordered_1.l0
   repeat' with_reducible first | exact ih0 _ _ _ _ | exact ih1 _ _ _ _ | exact ih2 _ _ _ | exact ih3 _ _ _ _ | exact ih4 _ _ _ | exact ih5 _ _ _ _ _ _ _ _ | exact ih6 _ _ _ _ _ _ _ _ _ | exact ih7 _ _ _ _ _ _ _ _ | exact ih8 _ _ _ _ _ _ | exact ih9 _ _ _ _ _ _ _ | exact impl_ordered_1.mono _ _ _ _ _ | exact slices_rotateCmpFunc_Mono__impl_ordered_1.mono _ _ _ _ _ | exact xl | refine LeO.ite ?_ ?_ | refine LeO.bind ?_ fun _ => ?_
  ·intro y0 y1 y2
   unfold slices_symMergeCmpFunc_Mono__impl_ordered_1.l1
   repeat' with_reducible first | exact ih0 _ _ _ _ | exact ih1 _ _ _ _ | exact ih2 _ _ _ | exact ih3 _ _ _ _ | exact ih4 _ _ _ | exact ih5 _ _ _ _ _ _ _ _ | exact ih6 _ _ _ _ _ _ _ _ _ | exact ih7 _ _ _ _ _ _ _ _ | exact ih8 _ _ _ _ _ _ | exact ih9 _ _ _ _ _ _ _ | exact impl_ordered_1.mono _ _ _ _ _ | exact slices_rotateCmpFunc_Mono__impl_ordered_1.mono _ _ _ _ _ | exact xl | refine LeO.ite ?_ ?_ | refine LeO.bind ?_ fun _ => ?_
  ·intro y0 y1 y2 y3
   unfold slices_symMergeCmpFunc_Mono__impl_ordered_1.l2
   repeat' with_reducible first | exact ih0 _ _ _ _ | exact ih1 _ _ _ _ | exact ih2 _ _ _ | exact ih3 _ _ _ _ | exact ih4 _ _ _ | exact ih5 _ _ _ _ _ _ _ _ | exact ih6 _ _ _ _ _ _ _ _ _ | exact ih7 _ _ _ _ _ _ _ _ | exact ih8 _ _ _ _ _ _ | exact ih9 _ _ _ _ _ _ _ | exact impl_ordered_1.mono _ _ _ _ _ | exact slices_rotateCmpFunc_Mono__impl_ordered_1.mono _ _ _ _ _ | exact xl | refine LeO.ite ?_ ?_ | refine LeO.bind ?_ fun _ => ?_
  ·intro y0 y1 y2
   unfold slices_symMergeCmpFunc_Mono__impl_ordered_1.l3
   repeat' with_reducible first | exact ih0 _ _ _ _ | exact ih1 _ _ _ _ | exact ih2 _ _ _ | exact ih3 _ _ _ _ | exact ih4 _ _ _ | exact ih5 _ _ _ _ _ _ _ _ | exact ih6 _ _ _ _ _ _ _ _ _ | exact ih7 _ _ _ _ _ _ _ _ | exact ih8 _ _ _ _ _ _ | exact ih9 _ _ _ _ _ _ _ | exact impl_ordered_1.mono _ _ _ _ _ | exact slices_rotateCmpFunc_Mono__impl_ordered_1.mono _ _ _ _ _ | exact xl | refine LeO.ite ?_ ?_ | refine LeO.bind ?_ fun _ => ?_
  ·intro y0 y1 y2 y3 y4 y5 y6 y7
   unfold slices_symMergeCmpFunc_Mono__impl_ordered_1.j4
   repeat' with_reducible first | exact ih0 _ _ _ _ | exact ih1 _ _ _ _ | exact ih2 _ _ _ | exact ih3 _ _ _ _ | exact ih4 _ _ _ | exact ih5 _ _ _ _ _ _ _ _ | exact ih6 _ _ _ _ _ _ _ _ _ | exact ih7 _ _ _ _ _ _ _ _ | exact ih8 _ _ _ _ _ _ | exact ih9 _ _ _ _ _ _ _ | exact impl_ordered_1.mono _ _ _ _ _ | exact slices_rotateCmpFunc_Mono__impl_ordered_1.mono _ _ _ _ _ | exact xl | refine LeO.ite ?_ ?_ | refine LeO.bind ?_ fun _ => ?_
  ·intro y0 y1 y2 y3 y4 y5 y6 y7 y8
   unfold slices_symMergeCmpFunc_Mono__impl_ordered_1.l4
   repeat' with_reducible first | exact ih0 _ _ _ _ | exact ih1 _ _ _ _ | exact ih2 _ _ _ | exact ih3 _ _ _ _ | exact ih4 _ _ _ | exact ih5 _ _ _ _ _ _ _ _ | exact ih6 _ _ _ _ _ _ _ _ _ | exact ih7 _ _ _ _ _ _ _ _ | exact ih8 _ _ _ _ _ _ | exact ih9 _ _ _ _ _ _ _ | exact impl_ordered_1.mono _ _ _ _ _ | exact slices_rotateCmpFunc_Mono__impl_ordered_1.mono _ _ _ _ _ | exact xl | refine LeO.ite ?_ ?_ | refine LeO.bind ?_ fun _ => ?_
  ·intro y0 y1 y2 y3 y4 y5 y6 y7
   unfold slices_symMergeCmpFunc_Mono__impl_ordered_1.j6
   repeat' with_reducible first | exact ih0 _ _ _ _ | exact ih1 _ _ _ _ | exact ih2 _ _ _ | exact ih3 _ _ _ _ | exact ih4 _ _ _ | exact ih5 _ _ _ _ _ _ _ _ | exact ih6 _ _ _ _ _ _ _ _ _ | exact ih7 _ _ _ _ _ _ _ _ | exact ih8 _ _ _ _ _ _ | exact ih9 _ _ _ _ _ _ _ | exact impl_ordered_1.mono _ _ _ _ _ | exact slices_rotateCmpFunc_Mono__impl_ordered_1.mono _ _ _ _ _ | exact xl | refine LeO.ite ?_ ?_ | refine LeO.bind ?_ fun _ => ?_
  ·intro y0 y1 y2 y3 y4 y5
   unfold slices_symMergeCmpFunc_Mono__impl_ordered_1.j7
   repeat' with_reducible first | exact ih0 _ _ _ _ | exact ih1 _ _ _ _ | exact ih2 _ _ _ | exact ih3 _ _ _ _ | exact ih4 _ _ _ | exact ih5 _ _ _ _ _ _ _ _ | exact ih6 _ _ _ _ _ _ _ _ _ | exact ih7 _ _ _ _ _ _ _ _ | exact ih8 _ _ _ _ _ _ | exact ih9 _ _ _ _ _ _ _ | exact impl_ordered_1.mono _ _ _ _ _ | exact slices_rotateCmpFunc_Mono__impl_ordered_1.mono _ _ _ _ _ | exact xl | refine LeO.ite ?_ ?_ | refine LeO.bind ?_ fun _ => ?_
  ·intro y0 y1 y2 y3 y4 y5 y6
   unfold slices_symMergeCmpFunc_Mono__impl_ordered_1.j8
   repeat' with_reducible first | exact ih0 _ _ _ _ | exact ih1 _ _ _ _ | exact ih2 _ _ _ | exact ih3 _ _ _ _ | exact ih4 _ _ _ | exact ih5 _ _ _ _ _ _ _ _ | exact ih6 _ _ _ _ _ _ _ _ _ | exact ih7 _ _ _ _ _ _ _ _ | exact ih8 _ _ _ _ _ _ | exact ih9 _ _ _ _ _ _ _ | exact impl_ordered_1.mono _ _ _ _ _ | exact slices_rotateCmpFunc_Mono__impl_ordered_1.mono _ _ _ _ _ | exact xl | refine LeO.ite ?_ ?_ | refine LeO.bind ?_ fun _ => ?_
theorem slices_symMergeCmpFunc_Mono__impl_ordered_1.mono : ∀ a0 a1 a2 a3 k, LeO (slices_symMergeCmpFunc_Mono__impl_ordered_1.f k a0 a1 a2 a3) (slices_symMergeCmpFunc_Mono__impl_ordered_1.f (k + 1) a0 a1 a2 a3) := by
 intro a0 a1 a2 a3 k
 obtain ⟨ih0, ih1, ih2, ih3, ih4, ih5, ih6, ih7, ih8, ih9⟩ := slices_symMergeCmpFunc_Mono__impl_ordered_1.mono_l k
 exact ih0 a0 a1 a2 a3
def slices_symMergeCmpFunc_Mono__impl_ordered_1.T5 : Bool × List (List Nat × List Nat) := (true, [([], []), ([], []), ([], []), ([1, 2], [1, 2]), ([3], [3]), ([], []), ([], []), ([5, 6], [5, 6]), ([7], [7]), ([0, 4, 8], [0, 4, 8]), ([9], [9])])
def slices_symMergeCmpFunc_Mono__impl_ordered_1.B5 : List Nat := [0, 0, 0, 6, 14, 0, 0, 96, 224, 511, 1023]
theorem slices_symMergeCmpFunc_Mono__impl_ordered_1.tab5 : rtab .any (opsOf Try.f91 5) = slices_symMergeCmpFunc_Mono__impl_ordered_1.T5 := by kernel_rfl
theorem slices_symMergeCmpFunc_Mono__impl_ordered_1.bits5 : waitsOk slices_symMergeCmpFunc_Mono__impl_ordered_1.T5.2 slices_symMergeCmpFunc_Mono__impl_ordered_1.B5 = true := by kernel_rfl
def slices_symMergeCmpFunc_Mono__impl_ordered_1.T11 : Bool × List (List Nat × List Nat) := (true, [([], []), ([], []), ([], []), ([], []), ([3], [3]), ([], []), ([], []), ([6], [6]), ([5, 7], [5, 7]), ([8], [8]), ([], []), ([], []), ([10, 11], [10, 11]), ([12], [12]), ([0, 1, 0, 1, 5, 6, 7, 8, 9, 13], [0, 1]), ([14, 9, 0, 1, 5, 6, 7, 8, 9, 13], [9, 14]), ([2, 4, 0, 1, 2, 3, 4, 5, 6, 7, 8, 9, 10, 11, 12, 13, 14, 15], [2, 4]), ([16, 13, 15, 0, 1, 2, 3, 4, 5, 6, 7, 8, 9, 10, 11, 12, 13, 14, 15], [13, 16])])
def slices_symMergeCmpFunc_Mono__impl_ordered_1.B11 : List Nat := [0, 0, 0, 0, 8, 0, 0, 64, 224, 480, 0, 0, 3072, 7168, 16355, 32739, 65535, 131071]
theorem slices_symMergeCmpFunc_Mono__impl_ordered_1.tab11 : rtab .any (opsOf Try.f91 11) = slices_symMergeCmpFunc_Mono__impl_ordered_1.T11 := by kernel_rfl
theorem slices_symMergeCmpFunc_Mono__impl_ordered_1.bits11 : waitsOk slices_symMergeCmpFunc_Mono__impl_ordered_1.T11.2 slices_symMergeCmpFunc_Mono__impl_ordered_1.B11 = true := by kernel_rfl
def slices_symMergeCmpFunc_Mono__impl_ordered_1.T17 : Bool × List (List Nat × List Nat) := (true, [([], []), ([], []), ([], []), ([1, 2], [1, 2]), ([3], [3]), ([], []), ([], []), ([5, 6], [5, 6]), ([7], [7]), ([0, 4, 8], [0, 4, 8]), ([9], [9]), ([10], [10])])
def slices_symMergeCmpFunc_Mono__impl_ordered_1.B17 : List Nat := [0, 0, 0, 6, 14, 0, 0, 96, 224, 511, 1023, 2047]
theorem slices_symMergeCmpFunc_Mono__impl_ordered_1.tab17 : rtab .any (opsOf Try.f91 17) = slices_symMergeCmpFunc_Mono__impl_ordered_1.T17 := by kernel_rfl
theorem slices_symMergeCmpFunc_Mono__impl_ordered_1.bits17 : waitsOk slices_symMergeCmpFunc_Mono__impl_ordered_1.T17.2 slices_symMergeCmpFunc_Mono__impl_ordered_1.B17 = true := by kernel_rfl
def slices_symMergeCmpFunc_Mono__impl_ordered_1.T23 : Bool × List (List Nat × List Nat) := (true, [([], []), ([], []), ([], []), ([], []), ([3], [3]), ([], []), ([], []), ([6], [6]), ([5, 7], [5, 7]), ([8], [8]), ([], []), ([], []), ([10, 11], [10, 11]), ([12], [12]), ([0, 1, 0, 1, 5, 6, 7, 8, 9, 13], [0, 1]), ([14, 9, 0, 1, 5, 6, 7, 8, 9, 13], [9, 14]), ([2, 4, 0, 1, 2, 3, 4, 5, 6, 7, 8, 9, 10, 11, 12, 13, 14, 15], [2, 4]), ([16, 13, 15, 0, 1, 2, 3, 4, 5, 6, 7, 8, 9, 10, 11, 12, 13, 14, 15], [13, 16])])
def slices_symMergeCmpFunc_Mono__impl_ordered_1.B23 : List Nat := [0, 0, 0, 0, 8, 0, 0, 64, 224, 480, 0, 0, 3072, 7168, 16355, 32739, 65535, 131071]
theorem slices_symMergeCmpFunc_Mono__impl_ordered_1.tab23 : rtab .any (opsOf Try.f91 23) = slices_symMergeCmpFunc_Mono__impl_ordered_1.T23 := by kernel_rfl
theorem slices_symMergeCmpFunc_Mono__impl_ordered_1.bits23 : waitsOk slices_symMergeCmpFunc_Mono__impl_ordered_1.T23.2 slices_symMergeCmpFunc_Mono__impl_ordered_1.B23 = true := by kernel_rfl
def slices_symMergeCmpFunc_Mono__impl_ordered_1.T35 : Bool × List (List Nat × List Nat) := (true, [([], []), ([], []), ([], []), ([], []), ([2, 3], [2, 3]), ([1, 4], [1, 4]), ([5], [5]), ([], []), ([], []), ([7, 8], [7, 8]), ([9], [9]), ([0, 6, 10], [0, 6, 10]), ([11], [11]), ([12], [12])])
def slices_symMergeCmpFunc_Mono__impl_ordered_1.B35 : List Nat := [0, 0, 0, 0, 12, 30, 62, 0, 0, 384, 896, 2047, 4095, 8191]
theorem slices_symMergeCmpFunc_Mono__impl_ordered_1.tab35 : rtab .any (opsOf Try.f91 35) = slices_symMergeCmpFunc_Mono__impl_ordered_1.T35 := by kernel_rfl
theorem slices_symMergeCmpFunc_Mono__impl_ordered_1.bits35 : waitsOk slices_symMergeCmpFunc_Mono__impl_ordered_1.T35.2 slices_symMergeCmpFunc_Mono__impl_ordered_1.B35 = true := by kernel_rfl
theorem slices_symMergeCmpFunc_Mono__impl_ordered_1.calls (k : Nat) : ∀ (P0_ Z0_ : Nat → Prop) (u9000_ : Value) (l0 : List (S48)) (a1 : Int) (a2 : Int) (a3 : Int)  (r : List (S48)) (w0 w : World) (hB : Below w0.heap.size w0 w) (ho0 : Kd.N k48 48 w w0.heap.size P0_ u9000_ l0) (hz0 : ∀ k_, u9000_.ownBlock = some k_ → Z0_ k_) (h : slices_symMergeCmpFunc_Mono__impl_ordered_1.f k l0 a1 a2 a3 = some r),
  Calls Try.prog 91 #[u9000_, .int .i64 a1, .int .i64 a2, .int .i64 a3, .func (.func 60) #[] #[]] w fun e w' => e = .returned (.tuple #[]) ∧ Kd.N k48 48 w' w0.heap.size (fun k_ => P0_ k_) u9000_ r ∧ Below w0.heap.size w0 w' ∧ Kept w w' (fun k_ => Z0_ k_) := by
 induction k using Nat.strongRecOn with
 | _ k ih =>
 intro P0_ Z0_ u9000_ l0 a1 a2 a3 r w0 w hB ho0 hz0 h
 cases k with
 | zero => exact absurd h (by simp [slices_symMergeCmpFunc_Mono__impl_ordered_1.f])
 | succ k =>
 simp only [slices_symMergeCmpFunc_Mono__impl_ordered_1.f] at h
 have hu48 := Try.underlying48
 have HO0 := ax (show Kd.N k48 48 w w0.heap.size (fun k_ => P0_ k_) u9000_ l0 from Kd.N_mono ho0 (fun k_ hk => hk))
 have HZ0 := ax hz0
 clear hz0
 have HK := ax (Kept.refl w (fun k_ => Z0_ k_))
 have HW0 := ax hB.size
 have HB := ax hB
 clear hB
 have H : (if (wrap64 (a2 - a1)) = 1 then (slices_symMergeCmpFunc_Mono__impl_ordered_1.l0 k l0 a1 a2 a3) else (if (wrap64 (a3 - a2)) = 1 then (slices_symMergeCmpFunc_Mono__impl_ordered_1.l2 k l0 a2 a1 a2) else (if a2 > (wrap64 ((IntKind.u64.wrap (wrap64 (a1 + a3))) / 2)) then (slices_symMergeCmpFunc_Mono__impl_ordered_1.j4 k l0 a1 a2 a3 (wrap64 ((IntKind.u64.wrap (wrap64 (a1 + a3))) / 2)) (wrap64 ((wrap64 ((IntKind.u64.wrap (wrap64 (a1 + a3))) / 2)) + a2)) (wrap64 ((wrap64 ((wrap64 ((IntKind.u64.wrap (wrap64 (a1 + a3))) / 2)) + a2)) - a3)) (wrap64 ((IntKind.u64.wrap (wrap64 (a1 + a3))) / 2))) else (slices_symMergeCmpFunc_Mono__impl_ordered_1.j4 k l0 a1 a2 a3 (wrap64 ((IntKind.u64.wrap (wrap64 (a1 + a3))) / 2)) (wrap64 ((wrap64 ((IntKind.u64.wrap (wrap64 (a1 + a3))) / 2)) + a2)) a1 a2)))) = some r := h
 clear h
 by_cases c6 : (wrap64 (a2 - a1)) = 1
 ·as_aux_lemma =>
  rw [if_pos c6] at H
  have c6b0 : ((wrap64 (a2 - a1)) == 1) = true := beq_iff_eq.mpr c6
  have c6b1 : ((wrap64 (a2 - a1)) != 1) = false := bne_eq_false_iff_eq.mpr c6
  clear c6
  have H' := ax H
  clear H
  go_enter Try.func91, Try.ntmps91
  go_wp2
  (try simp only [Act.put, List.setIfInBounds_toArray, List.set_cons_zero, List.set_cons_succ])
  go_loopg [10, 11] k (fun kq v10 v11 w' => ∃ (x10_1 : Int) (x11_1 : Int), v10 = .int .i64 x10_1 ∧ v11 = .int .i64 x11_1 ∧ Aside0 (slices_symMergeCmpFunc_Mono__impl_ordered_1.l0 kq l0 a1 x10_1 x11_1 = some r) ∧ Aside0 (kq ≤ k) ∧ Aside0 (Kd.N k48 48 w' w0.heap.size (fun k_ => P0_ k_) u9000_ l0) ∧ Aside0 (Kept w w' (fun k_ => Z0_ k_)) ∧ Aside0 (Below w0.heap.size w0 w'))
  case atStart => exact ⟨(a2), (a3), xr, xr, H', ⟨Nat.le_refl _⟩, ⟨xN HO0.out⟩, ⟨by repeat (first | (with_reducible first | exact HK.out | apply Kept.alloc | apply Kept.drewN | apply Kept.drew) | exact HK.out)⟩, ⟨xb HB.out⟩⟩
  case round =>
   clear H'
   (try clear c6); (try clear c6b0); (try clear c6b1)
   obtain ⟨x10_1, x11_1, rfl, rfl, HA, HK1, HO_0, HK, HB⟩ := hrel
   cases gk with
   | zero => exact absurd HA.out (by simp [slices_symMergeCmpFunc_Mono__impl_ordered_1.l0])
   | succ k1 =>
    have H := HA.out
    clear HA
    simp only [slices_symMergeCmpFunc_Mono__impl_ordered_1.l0] at H
    by_cases c7 : x10_1 < x11_1
    ·as_aux_lemma =>
     rw [if_pos c7] at H
     have c7b0 := decide_eq_true c7
     clear c7
     obtain ⟨ji8, hji8⟩ : ∃ j_ : Int, (wrap64 ((IntKind.u64.wrap (wrap64 (x10_1 + x11_1))) / 2)) = j_ := ⟨_, rfl⟩
     replace H : (if 0 ≤ (ji8) then (if (ji8) < (l0.length : Int) then (if 0 ≤ a1 then (if a1 < (l0.length : Int) then ((impl_ordered_1.f k1 ((rd_T48 l0 (ji8)).f0) ((rd_T48 l0 (ji8)).f1) ((rd_T48 l0 a1).f0) ((rd_T48 l0 a1).f1)).bind fun t230 => (if t230 < 0 then (slices_symMergeCmpFunc_Mono__impl_ordered_1.l0 k1 l0 a1 (wrap64 ((ji8) + 1)) x11_1) else (slices_symMergeCmpFunc_Mono__impl_ordered_1.l0 k1 l0 a1 x10_1 ji8))) else (none)) else (none)) else (none)) else (none)) = some r := by first | (rw [hji8] at H; exact H) | (simp only [hji8] at H ⊢; exact H)
     have hji8w : (IntKind.i64.wrap ((IntKind.u64.wrap (wrap64 (x10_1 + x11_1))) / 2)) = ji8 := (i64_w _).trans hji8
     by_cases c9 : 0 ≤ (ji8)
     case neg => (rw [if_neg c9] at H; exact absurd H (by simp))
     rw [if_pos c9] at H
     have c9b0 := decide_eq_true c9
     clear c9
     by_cases c10 : (ji8) < (l0.length : Int)
     case neg => (rw [if_neg c10] at H; exact absurd H (by simp))
     rw [if_pos c10] at H
     have c10b0 := decide_eq_true c10
     clear c10
     by_cases c11 : 0 ≤ a1
     case neg => (rw [if_neg c11] at H; exact absurd H (by simp))
     rw [if_pos c11] at H
     have c11b0 := decide_eq_true c11
     clear c11
     by_cases c12 : a1 < (l0.length : Int)
     case neg => (rw [if_neg c12] at H; exact absurd H (by simp))
     rw [if_pos c12] at H
     have c12b0 := decide_eq_true c12
     clear c12
     obtain ⟨t230, A13, H⟩ := xI H
     by_cases c14 : t230 < 0
     ·as_aux_lemma =>
      rw [if_pos c14] at H
      have c14b0 := decide_eq_true c14
      clear c14
      have H' := ax H
      clear H
      try go_wp2
      replace HO_0 := ax (Kd.N_drew HO_0.out); replace HK := ax (Kept.drew HK.out); replace HB := ax (below_drew1 HB.out)
      obtain ⟨Ao16, co16, eo16⟩ := Kd.N_slice HO_0.out
      (first | subst eo16 | (injection eo16 with f1_ f2_ f3_; have f4_ := f1_.symm; have f5_ := f3_.symm; clear f1_ f2_ f3_; subst f4_; subst f5_))
      have p228 : 0 ≤ ((ji8) : Int) := xd
      have q228 : (ji8) < (l0.length : Int) := xd
      obtain ⟨ad228, A228_0, c228_0, e228, hx228_0, hx228_1, hl228_0, hi228_0⟩ := at_T48 (Kd.N_reads' HO_0.out).2.2 (ji8) p228 q228
      cases e228
      obtain ⟨ce228, hce228, hMe228, hcc228⟩ := Kd.N_get HO_0.out z48 (ji8) p228 (by first | exact q228 | exact xd | (have e_ := (Kd.N_reads' HO_0.out).1; omega))
      obtain ⟨ua228_0, uc228_0, rfl, ul228_0, ge228_0⟩ := k48_openF hMe228
      have hv228_0 := hcc228 0 _ rfl
      rw [Nat.add_zero] at hv228_0
      replace hv228_0 := Option.some.inj (hv228_0.symm.trans hx228_0)
      injection hv228_0 with hva_ hvn_ hvc_
      rw [hva_] at ge228_0
      rw [hvc_] at ul228_0
      have HL228_0 := ax (show Kd.V (Kd.int .i64) 3 _ w0.heap.size _ _ ((rd_T48 l0 (ji8)).f0) from Kd.V_mk ul228_0 ge228_0)
      clear hva_ hvn_ hvc_ ge228_0 ul228_0 hcc228 hce228
      have HR228_0 := ax hi228_0
      have HC228_0 := ax hl228_0
      clear hi228_0 hl228_0
      replace p228 := eq_true p228
      replace q228 := eq_true q228
      have p229 : 0 ≤ (a1 : Int) := xd
      have q229 : a1 < (l0.length : Int) := xd
      obtain ⟨ad229, A229_0, c229_0, e229, hx229_0, hx229_1, hl229_0, hi229_0⟩ := at_T48 (Kd.N_reads' HO_0.out).2.2 a1 p229 q229
      obtain rfl : ad228 = ad229 := (by injection e229)
      obtain ⟨ce229, hce229, hMe229, hcc229⟩ := Kd.N_get HO_0.out z48 a1 p229 (by first | exact q229 | exact xd | (have e_ := (Kd.N_reads' HO_0.out).1; omega))
      obtain ⟨ua229_0, uc229_0, rfl, ul229_0, ge229_0⟩ := k48_openF hMe229
      have hv229_0 := hcc229 0 _ rfl
      rw [Nat.add_zero] at hv229_0
      replace hv229_0 := Option.some.inj (hv229_0.symm.trans hx229_0)
      injection hv229_0 with hva_ hvn_ hvc_
      rw [hva_] at ge229_0
      rw [hvc_] at ul229_0
      have HL229_0 := ax (show Kd.V (Kd.int .i64) 3 _ w0.heap.size _ _ ((rd_T48 l0 a1).f0) from Kd.V_mk ul229_0 ge229_0)
      clear hva_ hvn_ hvc_ ge229_0 ul229_0 hcc229 hce229
      have HR229_0 := ax hi229_0
      have HC229_0 := ax hl229_0
      clear hi229_0 hl229_0
      replace p229 := eq_true p229
      replace q229 := eq_true q229
      refine start_ (n := 11) (S := fun w' => w'.cell? (ad228.add (((ji8)).toNat * 2)) = some (.slice A228_0 ((rd_T48 l0 (ji8)).f0).length c228_0) ∧ w'.cell? ⟨(ad228.add (((ji8)).toNat * 2)).block, (ad228.add (((ji8)).toNat * 2)).off + 1, none⟩ = some (.int .i64 ((rd_T48 l0 (ji8)).f1)) ∧ w'.cell? (ad228.add ((a1).toNat * 2)) = some (.slice A229_0 ((rd_T48 l0 a1).f0).length c229_0) ∧ w'.cell? ⟨(ad228.add ((a1).toNat * 2)).block, (ad228.add ((a1).toNat * 2)).off + 1, none⟩ = some (.int .i64 ((rd_T48 l0 a1).f1))) (ds := []) (xB 11 0) (by kernel_rfl) rfl (by kernel_rfl) ⟨hx228_0, hx228_1, hx229_0, hx229_1⟩ (fun hHeld => ?_); refine with_tabW slices_symMergeCmpFunc_Mono__impl_ordered_1.tab5 slices_symMergeCmpFunc_Mono__impl_ordered_1.bits5 (fun HT_ HW_ => ?_)
      generalize wr.drew = w15 at HO_0 HK HB HL228_0 HL229_0 HR228_0 HR229_0 hx228_0 hx228_1 hx229_0 hx229_1 hHeld ⊢
      (try simp [go_sem, World.setCells, show (k48).sz = 2 from rfl] at hx228_0)
      (try simp [go_sem, World.setCells, show (k48).sz = 2 from rfl] at hx228_1)
      (try simp [go_sem, World.setCells, show (k48).sz = 2 from rfl] at hx229_0)
      (try simp [go_sem, World.setCells, show (k48).sz = 2 from rfl] at hx229_1)
      refine pu (i := 0) (N := some 40) (xB 11 1) HT_.out ?_
      refine pu (i := 1) (N := some 41) (xB 11 3) HT_.out ?_
      refine pu (i := 2) (N := some 42) (xB 11 7) HT_.out ?_
      refine pu (i := 3) (N := some 43) (xB 11 15) HT_.out ?_
      refine pu (i := 5) (N := some 45) (xB 11 47) HT_.out ?_
      refine pu (i := 6) (N := some 46) (xB 11 111) HT_.out ?_
      refine pu (i := 7) (N := some 47) (xB 11 239) HT_.out ?_
      refine tk (i := 4) (N := some 44) (xB 11 255) HT_.out HW_.out hHeld ?_
      refine tk (i := 8) (N := some 48) (xB 11 511) HT_.out HW_.out hHeld ?_
      refine one_ (i := 9) (N := some 49) (xB 11 1023) rfl rfl (one_of HT_.out (by kernel_rfl)) (by decide) (fun K hK => ?_)
      (first | refine goes_ Try.func60 (by kernel_rfl) rfl #[.agg #[.slice A228_0 ((rd_T48 l0 (ji8)).f0).length c228_0, .int .i64 ((rd_T48 l0 (ji8)).f1)], .agg #[.slice A229_0 ((rd_T48 l0 a1).f0).length c229_0, .int .i64 ((rd_T48 l0 a1).f1)]] (by rfl) rfl rfl (by (try simp only [List.map_toArray, List.map_cons, List.map_nil]); first | done | (simp only [hji8]; rfl) | rfl | (simp only [List.length_drop, List.length_take]; rfl)) ?_ | refine goesD_ Try.func60 (by kernel_rfl) rfl #[.agg #[.slice A228_0 ((rd_T48 l0 (ji8)).f0).length c228_0, .int .i64 ((rd_T48 l0 (ji8)).f1)], .agg #[.slice A229_0 ((rd_T48 l0 a1).f0).length c229_0, .int .i64 ((rd_T48 l0 a1).f1)]] (by rfl) rfl rfl rfl (by (try simp only [List.map_toArray, List.map_cons, List.map_nil]); first | done | (simp only [hji8]; rfl) | rfl | (simp only [List.length_drop, List.length_take]; rfl)) ?_)
      with_reducible refine (impl_ordered_1.calls k1 _ _ ((rd_T48 l0 (ji8)).f0) ((rd_T48 l0 (ji8)).f1) _ _ ((rd_T48 l0 a1).f0) ((rd_T48 l0 a1).f1) t230 _ ?side1 ?side2 ?side3 ?side4 A13.out).mono ?_
      (case side1 => exact xw HR228_0.out)
      (case side2 => exact HC228_0.out)
      (case side3 => exact xw HR229_0.out)
      (case side4 => exact HC229_0.out)
      rintro e w17 ⟨rfl, hb⟩
      have HS0_ := (hb.cell (World.block_lt_of_cell? _ _ (hHeld.1))).trans (hHeld.1)
      have HS1_ := (hb.cell (World.block_lt_of_cell? _ _ (hHeld.2.1))).trans (hHeld.2.1)
      have HS2_ := (hb.cell (World.block_lt_of_cell? _ _ (hHeld.2.2.1))).trans (hHeld.2.2.1)
      have HS3_ := (hb.cell (World.block_lt_of_cell? _ _ (hHeld.2.2.2))).trans (hHeld.2.2.2)
      refine ⟨_, rfl, ?_⟩
      replace HO_0 := ax (Kd.N_below (xN HO_0.out) hb); replace HL228_0 := yV HL228_0 hb; replace HL229_0 := yV HL229_0 hb; replace HR228_0 := ax (Kd.C_below (xw HR228_0.out) hb); replace HR229_0 := ax (Kd.C_below (xw HR229_0.out) hb); replace HK := ax (Kept.below (S := (fun k_ => Z0_ k_)) (by repeat (first | (with_reducible first | exact HK.out | apply Kept.alloc | apply Kept.drewN | apply Kept.drew) | exact HK.out)) hb); replace HB := yB HB hb
      (try clear hb)
      (try clear hk)
      refine hK.out _ _ ⟨HS0_, HS1_, HS2_, HS3_⟩ (fun hHeld => ?_)
      clear hK K
      refine nm ?_
      refine pu (i := 10) (N := some 50) (xB 11 2047) HT_.out ?_
      refine done_ (done_of HT_.out (by kernel_rfl)) ?_
      try go_wp2
      go_roundg k1
      case measure => have := HK1.out; omega
      case rel => exact ⟨(wrap64 ((ji8) + 1)), (x11_1), (by first | rfl | (simp; done) | (simp only [← hji8] <;> (first | rfl | simp)) | (simp [*]; done)), xr, H', ⟨by have := HK1.out; omega⟩, ⟨xN HO_0.out⟩, ⟨by repeat (first | (with_reducible first | exact HK.out | apply Kept.alloc | apply Kept.drewN | apply Kept.drew) | exact HK.out)⟩, ⟨xb HB.out⟩⟩
     ·as_aux_lemma =>
      rw [if_neg c14] at H
      have c14b0 := decide_eq_false c14
      clear c14
      have H' := ax H
      clear H
      try go_wp2
      replace HO_0 := ax (Kd.N_drew HO_0.out); replace HK := ax (Kept.drew HK.out); replace HB := ax (below_drew1 HB.out)
      obtain ⟨Ao19, co19, eo19⟩ := Kd.N_slice HO_0.out
      (first | subst eo19 | (injection eo19 with f1_ f2_ f3_; have f4_ := f1_.symm; have f5_ := f3_.symm; clear f1_ f2_ f3_; subst f4_; subst f5_))
      have p228 : 0 ≤ ((ji8) : Int) := xd
      have q228 : (ji8) < (l0.length : Int) := xd
      obtain ⟨ad228, A228_0, c228_0, e228, hx228_0, hx228_1, hl228_0, hi228_0⟩ := at_T48 (Kd.N_reads' HO_0.out).2.2 (ji8) p228 q228
      cases e228
      obtain ⟨ce228, hce228, hMe228, hcc228⟩ := Kd.N_get HO_0.out z48 (ji8) p228 (by first | exact q228 | exact xd | (have e_ := (Kd.N_reads' HO_0.out).1; omega))
      obtain ⟨ua228_0, uc228_0, rfl, ul228_0, ge228_0⟩ := k48_openF hMe228
      have hv228_0 := hcc228 0 _ rfl
      rw [Nat.add_zero] at hv228_0
      replace hv228_0 := Option.some.inj (hv228_0.symm.trans hx228_0)
      injection hv228_0 with hva_ hvn_ hvc_
      rw [hva_] at ge228_0
      rw [hvc_] at ul228_0
      have HL228_0 := ax (show Kd.V (Kd.int .i64) 3 _ w0.heap.size _ _ ((rd_T48 l0 (ji8)).f0) from Kd.V_mk ul228_0 ge228_0)
      clear hva_ hvn_ hvc_ ge228_0 ul228_0 hcc228 hce228
      have HR228_0 := ax hi228_0
      have HC228_0 := ax hl228_0
      clear hi228_0 hl228_0
      replace p228 := eq_true p228
      replace q228 := eq_true q228
      have p229 : 0 ≤ (a1 : Int) := xd
      have q229 : a1 < (l0.length : Int) := xd
      obtain ⟨ad229, A229_0, c229_0, e229, hx229_0, hx229_1, hl229_0, hi229_0⟩ := at_T48 (Kd.N_reads' HO_0.out).2.2 a1 p229 q229
      obtain rfl : ad228 = ad229 := (by injection e229)
      obtain ⟨ce229, hce229, hMe229, hcc229⟩ := Kd.N_get HO_0.out z48 a1 p229 (by first | exact q229 | exact xd | (have e_ := (Kd.N_reads' HO_0.out).1; omega))
      obtain ⟨ua229_0, uc229_0, rfl, ul229_0, ge229_0⟩ := k48_openF hMe229
      have hv229_0 := hcc229 0 _ rfl
      rw [Nat.add_zero] at hv229_0
      replace hv229_0 := Option.some.inj (hv229_0.symm.trans hx229_0)
      injection hv229_0 with hva_ hvn_ hvc_
      rw [hva_] at ge229_0
      rw [hvc_] at ul229_0
      have HL229_0 := ax (show Kd.V (Kd.int .i64) 3 _ w0.heap.size _ _ ((rd_T48 l0 a1).f0) from Kd.V_mk ul229_0 ge229_0)
      clear hva_ hvn_ hvc_ ge229_0 ul229_0 hcc229 hce229
      have HR229_0 := ax hi229_0
      have HC229_0 := ax hl229_0
      clear hi229_0 hl229_0
      replace p229 := eq_true p229
      replace q229 := eq_true q229
      refine start_ (n := 11) (S := fun w' => w'.cell? (ad228.add (((ji8)).toNat * 2)) = some (.slice A228_0 ((rd_T48 l0 (ji8)).f0).length c228_0) ∧ w'.cell? ⟨(ad228.add (((ji8)).toNat * 2)).block, (ad228.add (((ji8)).toNat * 2)).off + 1, none⟩ = some (.int .i64 ((rd_T48 l0 (ji8)).f1)) ∧ w'.cell? (ad228.add ((a1).toNat * 2)) = some (.slice A229_0 ((rd_T48 l0 a1).f0).length c229_0) ∧ w'.cell? ⟨(ad228.add ((a1).toNat * 2)).block, (ad228.add ((a1).toNat * 2)).off + 1, none⟩ = some (.int .i64 ((rd_T48 l0 a1).f1))) (ds := []) (xB 11 0) (by kernel_rfl) rfl (by kernel_rfl) ⟨hx228_0, hx228_1, hx229_0, hx229_1⟩ (fun hHeld => ?_); refine with_tabW slices_symMergeCmpFunc_Mono__impl_ordered_1.tab5 slices_symMergeCmpFunc_Mono__impl_ordered_1.bits5 (fun HT_ HW_ => ?_)
      generalize wr.drew = w18 at HO_0 HK HB HL228_0 HL229_0 HR228_0 HR229_0 hx228_0 hx228_1 hx229_0 hx229_1 hHeld ⊢
      (try simp [go_sem, World.setCells, show (k48).sz = 2 from rfl] at hx228_0)
      (try simp [go_sem, World.setCells, show (k48).sz = 2 from rfl] at hx228_1)
      (try simp [go_sem, World.setCells, show (k48).sz = 2 from rfl] at hx229_0)
      (try simp [go_sem, World.setCells, show (k48).sz = 2 from rfl] at hx229_1)
      refine pu (i := 0) (N := some 40) (xB 11 1) HT_.out ?_
      refine pu (i := 1) (N := some 41) (xB 11 3) HT_.out ?_
      refine pu (i := 2) (N := some 42) (xB 11 7) HT_.out ?_
      refine pu (i := 3) (N := some 43) (xB 11 15) HT_.out ?_
      refine pu (i := 5) (N := some 45) (xB 11 47) HT_.out ?_
      refine pu (i := 6) (N := some 46) (xB 11 111) HT_.out ?_
      refine pu (i := 7) (N := some 47) (xB 11 239) HT_.out ?_
      refine tk (i := 4) (N := some 44) (xB 11 255) HT_.out HW_.out hHeld ?_
      refine tk (i := 8) (N := some 48) (xB 11 511) HT_.out HW_.out hHeld ?_
      refine one_ (i := 9) (N := some 49) (xB 11 1023) rfl rfl (one_of HT_.out (by kernel_rfl)) (by decide) (fun K hK => ?_)
      (first | refine goes_ Try.func60 (by kernel_rfl) rfl #[.agg #[.slice A228_0 ((rd_T48 l0 (ji8)).f0).length c228_0, .int .i64 ((rd_T48 l0 (ji8)).f1)], .agg #[.slice A229_0 ((rd_T48 l0 a1).f0).length c229_0, .int .i64 ((rd_T48 l0 a1).f1)]] (by rfl) rfl rfl (by (try simp only [List.map_toArray, List.map_cons, List.map_nil]); first | done | (simp only [hji8]; rfl) | rfl | (simp only [List.length_drop, List.length_take]; rfl)) ?_ | refine goesD_ Try.func60 (by kernel_rfl) rfl #[.agg #[.slice A228_0 ((rd_T48 l0 (ji8)).f0).length c228_0, .int .i64 ((rd_T48 l0 (ji8)).f1)], .agg #[.slice A229_0 ((rd_T48 l0 a1).f0).length c229_0, .int .i64 ((rd_T48 l0 a1).f1)]] (by rfl) rfl rfl rfl (by (try simp only [List.map_toArray, List.map_cons, List.map_nil]); first | done | (simp only [hji8]; rfl) | rfl | (simp only [List.length_drop, List.length_take]; rfl)) ?_)
      with_reducible refine (impl_ordered_1.calls k1 _ _ ((rd_T48 l0 (ji8)).f0) ((rd_T48 l0 (ji8)).f1) _ _ ((rd_T48 l0 a1).f0) ((rd_T48 l0 a1).f1) t230 _ ?side1 ?side2 ?side3 ?side4 A13.out).mono ?_
      (case side1 => exact xw HR228_0.out)
      (case side2 => exact HC228_0.out)
      (case side3 => exact xw HR229_0.out)
      (case side4 => exact HC229_0.out)
      rintro e w20 ⟨rfl, hb⟩
      have HS0_ := (hb.cell (World.block_lt_of_cell? _ _ (hHeld.1))).trans (hHeld.1)
      have HS1_ := (hb.cell (World.block_lt_of_cell? _ _ (hHeld.2.1))).trans (hHeld.2.1)
      have HS2_ := (hb.cell (World.block_lt_of_cell? _ _ (hHeld.2.2.1))).trans (hHeld.2.2.1)
      have HS3_ := (hb.cell (World.block_lt_of_cell? _ _ (hHeld.2.2.2))).trans (hHeld.2.2.2)
      refine ⟨_, rfl, ?_⟩
      replace HO_0 := ax (Kd.N_below (xN HO_0.out) hb); replace HL228_0 := yV HL228_0 hb; replace HL229_0 := yV HL229_0 hb; replace HR228_0 := ax (Kd.C_below (xw HR228_0.out) hb); replace HR229_0 := ax (Kd.C_below (xw HR229_0.out) hb); replace HK := ax (Kept.below (S := (fun k_ => Z0_ k_)) (by repeat (first | (with_reducible first | exact HK.out | apply Kept.alloc | apply Kept.drewN | apply Kept.drew) | exact HK.out)) hb); replace HB := yB HB hb
      (try clear hb)
      (try clear hk)
      refine hK.out _ _ ⟨HS0_, HS1_, HS2_, HS3_⟩ (fun hHeld => ?_)
      clear hK K
      refine nm ?_
      refine pu (i := 10) (N := some 50) (xB 11 2047) HT_.out ?_
      refine done_ (done_of HT_.out (by kernel_rfl)) ?_
      try go_wp2
      go_roundg k1
      case measure => have := HK1.out; omega
      case rel => exact ⟨(x10_1), (ji8), xr, (by first | rfl | (simp; done) | (simp only [← hji8] <;> (first | rfl | simp)) | (simp [*]; done)), H', ⟨by have := HK1.out; omega⟩, ⟨xN HO_0.out⟩, ⟨by repeat (first | (with_reducible first | exact HK.out | apply Kept.alloc | apply Kept.drewN | apply Kept.drew) | exact HK.out)⟩, ⟨xb HB.out⟩⟩
    ·as_aux_lemma =>
     rw [if_neg c7] at H
     have c7b0 := decide_eq_false c7
     clear c7
     have H' := ax H
     clear H
     go_wp2
     (try simp only [Act.put, List.setIfInBounds_toArray, List.set_cons_zero, List.set_cons_succ])
     go_loopg [13] k1 (fun kq v13 w' => ∃ (x0_2 : List (S48)) (x13_2 : Int), v13 = .int .i64 x13_2 ∧ Aside0 (slices_symMergeCmpFunc_Mono__impl_ordered_1.l1 kq x0_2 x10_1 x13_2 = some r) ∧ Aside0 (kq ≤ k1) ∧ Aside0 (Kd.N k48 48 w' w0.heap.size (fun k_ => P0_ k_) u9000_ x0_2) ∧ Aside0 (Kept w w' (fun k_ => Z0_ k_)) ∧ Aside0 (Below w0.heap.size w0 w'))
     case atStart => exact ⟨(l0), (a1), xr, H', ⟨Nat.le_refl _⟩, ⟨xN HO_0.out⟩, ⟨by repeat (first | (with_reducible first | exact HK.out | apply Kept.alloc | apply Kept.drewN | apply Kept.drew) | exact HK.out)⟩, ⟨xb HB.out⟩⟩
     case round =>
      clear H'
      (try clear c6); (try clear c6b0); (try clear c6b1); (try clear c7); (try clear c7b0); (try clear c9); (try clear c9b0); (try clear c10); (try clear c10b0); (try clear c11); (try clear c11b0); (try clear c12); (try clear c12b0); (try clear c14); (try clear c14b0); (try clear hx228_0); (try clear hx228_1); (try clear hx229_0); (try clear hx229_1); (try clear p228); (try clear p229); (try clear q228); (try clear q229)
      obtain ⟨x0_2, x13_2, rfl, HA, HK2, HO_0, HK, HB⟩ := hrel
      cases gk with
      | zero => exact absurd HA.out (by simp [slices_symMergeCmpFunc_Mono__impl_ordered_1.l1])
      | succ k2 =>
       have H := HA.out
       clear HA
       simp only [slices_symMergeCmpFunc_Mono__impl_ordered_1.l1] at H
       by_cases c21 : x13_2 < (wrap64 (x10_1 - 1))
       ·rw [if_pos c21] at H
        have c21b0 := decide_eq_true c21
        clear c21
        obtain ⟨ji22, hji22⟩ : ∃ j_ : Int, (wrap64 (x13_2 + 1)) = j_ := ⟨_, rfl⟩
        replace H : (if 0 ≤ (ji22) then (if (ji22) < (x0_2.length : Int) then (if 0 ≤ x13_2 then (if x13_2 < (x0_2.length : Int) then (slices_symMergeCmpFunc_Mono__impl_ordered_1.l1 k2 ((x0_2.set (x13_2 : Int).toNat (⟨(rd_T48 x0_2 (ji22)).f0, (rd_T48 x0_2 (ji22)).f1⟩ : S48)).set ((ji22) : Int).toNat (⟨(rd_T48 x0_2 x13_2).f0, (rd_T48 x0_2 x13_2).f1⟩ : S48)) x10_1 ji22) else (none)) else (none)) else (none)) else (none)) = some r := by first | (rw [hji22] at H; exact H) | (simp only [hji22] at H ⊢; exact H)
        have hji22w : (IntKind.i64.wrap (x13_2 + 1)) = ji22 := (i64_w _).trans hji22
        (try simp only [hji22] at hji8)
        (try simp only [hji22] at hji8w)
        by_cases c23 : 0 ≤ (ji22)
        case neg => (rw [if_neg c23] at H; exact absurd H (by simp))
        rw [if_pos c23] at H
        have c23b0 := decide_eq_true c23
        clear c23
        by_cases c24 : (ji22) < (x0_2.length : Int)
        case neg => (rw [if_neg c24] at H; exact absurd H (by simp))
        rw [if_pos c24] at H
        have c24b0 := decide_eq_true c24
        clear c24
        by_cases c25 : 0 ≤ x13_2
        case neg => (rw [if_neg c25] at H; exact absurd H (by simp))
        rw [if_pos c25] at H
        have c25b0 := decide_eq_true c25
        clear c25
        by_cases c26 : x13_2 < (x0_2.length : Int)
        case neg => (rw [if_neg c26] at H; exact absurd H (by simp))
        rw [if_pos c26] at H
        have c26b0 := decide_eq_true c26
        clear c26
        obtain ⟨y233, hy233⟩ : ∃ y_ : List (S48), y_ = (x0_2.set (x13_2 : Int).toNat (⟨(rd_T48 x0_2 (ji22)).f0, (rd_T48 x0_2 (ji22)).f1⟩ : S48)) := ⟨_, rfl⟩
        replace H : (slices_symMergeCmpFunc_Mono__impl_ordered_1.l1 k2 (y233.set ((ji22) : Int).toNat (⟨(rd_T48 x0_2 x13_2).f0, (rd_T48 x0_2 x13_2).f1⟩ : S48)) x10_1 ji22) = some r := xv hy233 H
        have Ny233 := ax hy233
        clear hy233
        obtain ⟨y234, hy234⟩ : ∃ y_ : List (S48), y_ = (y233.set ((ji22) : Int).toNat (⟨(rd_T48 x0_2 x13_2).f0, (rd_T48 x0_2 x13_2).f1⟩ : S48)) := ⟨_, rfl⟩
        replace H : (slices_symMergeCmpFunc_Mono__impl_ordered_1.l1 k2 y234 x10_1 ji22) = some r := xv hy234 H
        have Ny234 := ax hy234
        clear hy234
        have H' := ax H
        clear H
        try go_wp2
        replace HO_0 := ax (Kd.N_drew HO_0.out); replace HK := ax (Kept.drew HK.out); replace HB := ax (below_drew1 HB.out)
        obtain ⟨Ao30, co30, eo30⟩ := Kd.N_slice HO_0.out
        (first | subst eo30 | (injection eo30 with f1_ f2_ f3_; have f4_ := f1_.symm; have f5_ := f3_.symm; clear f1_ f2_ f3_; subst f4_; subst f5_))
        have p231 : 0 ≤ ((ji22) : Int) := xd
        have q231 : (ji22) < (x0_2.length : Int) := xd
        obtain ⟨ad231, A231_0, c231_0, e231, hx231_0, hx231_1, hl231_0, hi231_0⟩ := at_T48 (Kd.N_reads' HO_0.out).2.2 (ji22) p231 q231
        cases e231
        obtain ⟨ce231, hce231, hMe231, hcc231⟩ := Kd.N_get HO_0.out z48 (ji22) p231 (by first | exact q231 | exact xd | (have e_ := (Kd.N_reads' HO_0.out).1; omega))
        obtain ⟨ua231_0, uc231_0, rfl, ul231_0, ge231_0⟩ := k48_openF hMe231
        have hv231_0 := hcc231 0 _ rfl
        rw [Nat.add_zero] at hv231_0
        replace hv231_0 := Option.some.inj (hv231_0.symm.trans hx231_0)
        injection hv231_0 with hva_ hvn_ hvc_
        rw [hva_] at ge231_0
        rw [hvc_] at ul231_0
        have HL231_0 := ax (show Kd.V (Kd.int .i64) 3 _ w0.heap.size _ _ ((rd_T48 x0_2 (ji22)).f0) from Kd.V_mk ul231_0 ge231_0)
        clear hva_ hvn_ hvc_ ge231_0 ul231_0 hcc231 hce231
        have HR231_0 := ax hi231_0
        have HC231_0 := ax hl231_0
        clear hi231_0 hl231_0
        replace p231 := eq_true p231
        replace q231 := eq_true q231
        have p232 : 0 ≤ (x13_2 : Int) := xd
        have q232 : x13_2 < (x0_2.length : Int) := xd
        obtain ⟨ad232, A232_0, c232_0, e232, hx232_0, hx232_1, hl232_0, hi232_0⟩ := at_T48 (Kd.N_reads' HO_0.out).2.2 x13_2 p232 q232
        obtain rfl : ad231 = ad232 := (by injection e232)
        obtain ⟨ce232, hce232, hMe232, hcc232⟩ := Kd.N_get HO_0.out z48 x13_2 p232 (by first | exact q232 | exact xd | (have e_ := (Kd.N_reads' HO_0.out).1; omega))
        obtain ⟨ua232_0, uc232_0, rfl, ul232_0, ge232_0⟩ := k48_openF hMe232
        have hv232_0 := hcc232 0 _ rfl
        rw [Nat.add_zero] at hv232_0
        replace hv232_0 := Option.some.inj (hv232_0.symm.trans hx232_0)
        injection hv232_0 with hva_ hvn_ hvc_
        rw [hva_] at ge232_0
        rw [hvc_] at ul232_0
        have HL232_0 := ax (show Kd.V (Kd.int .i64) 3 _ w0.heap.size _ _ ((rd_T48 x0_2 x13_2).f0) from Kd.V_mk ul232_0 ge232_0)
        clear hva_ hvn_ hvc_ ge232_0 ul232_0 hcc232 hce232
        have HR232_0 := ax hi232_0
        have HC232_0 := ax hl232_0
        clear hi232_0 hl232_0
        replace p232 := eq_true p232
        replace q232 := eq_true q232
        have p27 : 0 ≤ (x13_2 : Int) := xd
        have q27 : (x13_2 : Int) < ((x0_2.length : Int) : Int) := xd
        obtain ⟨go27, co27, eo27, gb27, gl27, cl27, HG27⟩ := Kd.N_form HO_0.out (by omega)
        (first | cases eo27 | (injection eo27 with ea_ en_ ec_; (first | subst ea_ | (injection ea_ with ea_; subst ea_)); subst ec_; clear en_))
        have GB27 := ax gb27
        have GG27 := ax HG27
        clear gb27 gl27 HG27
        have HMgo27 := ax (show Z0_ go27 ∨ w.heap.size ≤ go27 from .inl (HZ0.out _ rfl))
        (first | simp only [add_plain] at hx231_0 | skip)
        (first | simp only [add_plain] at hx231_1 | skip)
        (first | simp only [add_plain] at hx232_0 | skip)
        (first | simp only [add_plain] at hx232_1 | skip)
        obtain ⟨ce27, hcl27, hM27, hcc27, hfr27⟩ := Kd.N_elem HO_0.out z48 (x13_2 : Int) p27 q27
        obtain ⟨ua27_0, uc27_0, rfl, ul27_0, ge27_0⟩ := k48_openF hM27
        have hx27_0 : World.cell? _ ⟨go27, (x13_2 : Int).toNat * 2, none⟩ = some (.slice ua27_0 ((rd_T48 x0_2 x13_2).f0).length uc27_0) := hcc27 0 _ rfl
        have hx27_1 : World.cell? _ ⟨go27, (x13_2 : Int).toNat * 2 + 1, none⟩ = some (.int .i64 ((rd_T48 x0_2 x13_2).f1)) := hcc27 1 _ rfl
        have hf27_0 : World.frozen? _ ⟨go27, (x13_2 : Int).toNat * 2, none⟩ = false := hfr27 0
        have hf27_1 : World.frozen? _ ⟨go27, (x13_2 : Int).toNat * 2 + 1, none⟩ = false := hfr27 1
        clear hcl27 hcc27 hfr27; (try clear hM27)
        replace p27 := eq_true p27
        replace q27 := eq_true q27
        have HX31 := ax (show Kd.N k48 48 _ w0.heap.size (fun k_ => P0_ k_) (.slice (some ⟨go27, 0, none⟩) x0_2.length co30) x0_2 from (Kd.N_mono (HO_0.out) (fun k_ hk => hk)))
        obtain ⟨ce31, hcl31, hM31, hcc31, hfr31⟩ := Kd.N_elem HX31.out z48 (x13_2 : Int) (xd) (by have h_ : (x13_2 : Int) < ((x0_2.length : Int) : Int) := xd; first | exact h_ | (have e_ := (Kd.N_reads' HO_0.out).1; omega) | simpa using h_)
        obtain ⟨ua31_0, uc31_0, rfl, ul31_0, ge31_0⟩ := k48_openF hM31
        have HP31 := (Kd.N_seg HX31.out (x13_2 : Int) (xd) (by have h_ : (x13_2 : Int) < ((x0_2.length : Int) : Int) := xd; first | exact h_ | (have e_ := (Kd.N_reads' HO_0.out).1; omega) | simpa using h_) (seg := [.slice A231_0 ((rd_T48 x0_2 (ji22)).f0).length c231_0, .int .i64 ((rd_T48 x0_2 (ji22)).f1)]) (j := 0) hcl31 hcc31 (show 2 ≤ 2 from by decide) (x' := (⟨(rd_T48 x0_2 (ji22)).f0, (rd_T48 x0_2 (ji22)).f1⟩ : S48)) (k48_mkF _ _ (⟨(rd_T48 x0_2 (ji22)).f0, (rd_T48 x0_2 (ji22)).f1⟩ : S48) (Kd.V_reads' (Kd.V_mono (ok' := (fun k_ => ((fun k_ => P0_ k_)) k_ ∧ k_ ≠ go27)) (HL231_0.out) (fun k_ hk => ⟨hk.1, fun e_ => (hk.2) (by rw [e_]; rfl)⟩))).2.1 (Kd.V_F (Kd.V_mono (ok' := (fun k_ => ((fun k_ => P0_ k_)) k_ ∧ k_ ≠ go27)) (HL231_0.out) (fun k_ hk => ⟨hk.1, fun e_ => (hk.2) (by rw [e_]; rfl)⟩)))) (fun _ hk => hk)).1
        rw [← Ny233.out] at HP31
        have HQ31 := ax HP31
        clear hcl31 hcc31 hfr31; (try clear hM31); clear HP31
        have p28 : 0 ≤ ((ji22) : Int) := xd
        have q28 : ((ji22) : Int) < ((x0_2.length : Int) : Int) := xd
        obtain ⟨ce28, hcl28, hM28, hcc28, hfr28⟩ := Kd.N_elem HQ31.out z48 ((ji22) : Int) p28 q28
        obtain ⟨ua28_0, uc28_0, rfl, ul28_0, ge28_0⟩ := k48_openF hM28
        have hx28_0 : World.cell? _ ⟨go27, ((ji22) : Int).toNat * 2, none⟩ = some (.slice ua28_0 ((rd_T48 y233 (ji22)).f0).length uc28_0) := hcc28 0 _ rfl
        have hx28_1 : World.cell? _ ⟨go27, ((ji22) : Int).toNat * 2 + 1, none⟩ = some (.int .i64 ((rd_T48 y233 (ji22)).f1)) := hcc28 1 _ rfl
        have hf28_0 : World.frozen? _ ⟨go27, ((ji22) : Int).toNat * 2, none⟩ = false := hfr28 0
        have hf28_1 : World.frozen? _ ⟨go27, ((ji22) : Int).toNat * 2 + 1, none⟩ = false := hfr28 1
        clear hcl28 hcc28 hfr28; (try clear hM28)
        replace p28 := eq_true p28
        replace q28 := eq_true q28
        have HX32 := ax (show Kd.N k48 48 _ w0.heap.size (fun k_ => P0_ k_) (.slice (some ⟨go27, 0, none⟩) x0_2.length co30) y233 from (Kd.N_mono (HQ31.out) (fun k_ hk => hk)))
        obtain ⟨ce32, hcl32, hM32, hcc32, hfr32⟩ := Kd.N_elem HX32.out z48 ((ji22) : Int) (xd) (by have h_ : ((ji22) : Int) < ((x0_2.length : Int) : Int) := xd; first | exact h_ | (have e_ := (Kd.N_reads' HO_0.out).1; omega) | simpa using h_)
        obtain ⟨ua32_0, uc32_0, rfl, ul32_0, ge32_0⟩ := k48_openF hM32
        have HP32 := (Kd.N_seg HX32.out ((ji22) : Int) (xd) (by have h_ : ((ji22) : Int) < ((x0_2.length : Int) : Int) := xd; first | exact h_ | (have e_ := (Kd.N_reads' HO_0.out).1; omega) | simpa using h_) (seg := [.slice A232_0 ((rd_T48 x0_2 x13_2).f0).length c232_0, .int .i64 ((rd_T48 x0_2 x13_2).f1)]) (j := 0) hcl32 hcc32 (show 2 ≤ 2 from by decide) (x' := (⟨(rd_T48 x0_2 x13_2).f0, (rd_T48 x0_2 x13_2).f1⟩ : S48)) (k48_mkF _ _ (⟨(rd_T48 x0_2 x13_2).f0, (rd_T48 x0_2 x13_2).f1⟩ : S48) (Kd.V_reads' (Kd.V_mono (ok' := (fun k_ => ((fun k_ => P0_ k_)) k_ ∧ k_ ≠ go27)) (HL232_0.out) (fun k_ hk => ⟨hk.1, fun e_ => (hk.2) (by rw [e_]; rfl)⟩))).2.1 (Kd.F_far (Kd.F_far (Kd.V_F (Kd.V_mono (ok' := (fun k_ => ((fun k_ => P0_ k_)) k_ ∧ k_ ≠ go27)) (HL232_0.out) (fun k_ hk => ⟨hk.1, fun e_ => (hk.2) (by rw [e_]; rfl)⟩))) (fun _ hk => hk.2) _) (fun _ hk => hk.2) _)) (fun _ hk => hk)).1
        rw [← Ny234.out] at HP32
        have HQ32 := ax HP32
        clear hcl32 hcc32 hfr32; (try clear hM32); clear HP32
        refine start_ (n := 18) (S := fun w' => w'.cell? ⟨go27, ((ji22)).toNat * 2, none⟩ = some (.slice A231_0 ((rd_T48 x0_2 (ji22)).f0).length c231_0) ∧ w'.cell? ⟨go27, ((ji22)).toNat * 2 + 1, none⟩ = some (.int .i64 ((rd_T48 x0_2 (ji22)).f1)) ∧ w'.cell? ⟨go27, ((x13_2).toNat * 2), none⟩ = some (.slice A232_0 ((rd_T48 x0_2 x13_2).f0).length c232_0) ∧ w'.cell? ⟨go27, ((x13_2).toNat * 2) + 1, none⟩ = some (.int .i64 ((rd_T48 x0_2 x13_2).f1))) (ds := [15, 17]) (xB 18 0) (by kernel_rfl) rfl (by kernel_rfl) ⟨hx231_0, hx231_1, hx232_0, hx232_1⟩ (fun hHeld => ?_); refine with_tabW slices_symMergeCmpFunc_Mono__impl_ordered_1.tab11 slices_symMergeCmpFunc_Mono__impl_ordered_1.bits11 (fun HT_ HW_ => ?_)
        generalize wr.drew = w29 at HO_0 HK HB GG27 HL231_0 HL232_0 HQ31 HQ32 HR231_0 HR232_0 hf27_0 hf27_1 hf28_0 hf28_1 hx231_0 hx231_1 hx232_0 hx232_1 hx27_0 hx27_1 hx28_0 hx28_1 hHeld ⊢
        (try simp [go_sem, World.setCells, show (k48).sz = 2 from rfl] at hf27_0)
        (try simp [go_sem, World.setCells, show (k48).sz = 2 from rfl] at hf27_1)
        (try simp [go_sem, World.setCells, show (k48).sz = 2 from rfl] at hf28_0)
        (try simp [go_sem, World.setCells, show (k48).sz = 2 from rfl] at hf28_1)
        (try simp [go_sem, World.setCells, show (k48).sz = 2 from rfl] at hx231_0)
        (try simp [go_sem, World.setCells, show (k48).sz = 2 from rfl] at hx231_1)
        (try simp [go_sem, World.setCells, show (k48).sz = 2 from rfl] at hx232_0)
        (try simp [go_sem, World.setCells, show (k48).sz = 2 from rfl] at hx232_1)
        (try simp [go_sem, World.setCells, show (k48).sz = 2 from rfl] at hx27_0)
        (try simp [go_sem, World.setCells, show (k48).sz = 2 from rfl] at hx27_1)
        (try simp [go_sem, World.setCells, show (k48).sz = 2 from rfl] at hx28_0)
        (try simp [go_sem, World.setCells, show (k48).sz = 2 from rfl] at hx28_1)
        refine pu (i := 0) (N := some 61) (xB 18 1) HT_.out ?_
        refine pu (i := 1) (N := some 62) (xB 18 3) HT_.out ?_
        refine pu (i := 2) (N := some 63) (xB 18 7) HT_.out ?_
        refine pu (i := 3) (N := some 64) (xB 18 15) HT_.out ?_
        refine pu (i := 4) (N := some 65) (xB 18 31) HT_.out ?_
        refine pu (i := 5) (N := some 66) (xB 18 63) HT_.out ?_
        refine pu (i := 6) (N := some 67) (xB 18 127) HT_.out ?_
        refine pu (i := 7) (N := some 68) (xB 18 255) HT_.out ?_
        refine pu (i := 8) (N := some 69) (xB 18 511) HT_.out ?_
        refine pu (i := 10) (N := some 71) (xB 18 1535) HT_.out ?_
        refine pu (i := 11) (N := some 72) (xB 18 3583) HT_.out ?_
        refine pu (i := 12) (N := some 73) (xB 18 7679) HT_.out ?_
        refine tk (i := 9) (N := some 70) (xB 18 8191) HT_.out HW_.out hHeld ?_
        refine tk (i := 13) (N := some 74) (xB 18 16383) HT_.out HW_.out hHeld ?_
        refine pu (i := 14) (N := some 75) (xB 18 32767) HT_.out ?_
        refine last_ (i := 15) (N := none) (xB 18 65535) rfl rfl (one_of HT_.out (by kernel_rfl)) (by decide) (fun K hK => ?_)
        refine skip_ (w1 := ?_) (by rfl) rfl ?_ ?_
        rotate_left
        ·go_simp
         rfl
        refine hK.out _ _ ?_
        clear hK K
        refine pu (i := 16) (N := some 76) (xB 18 131071) HT_.out ?_
        refine last_ (i := 17) (N := none) (xB 18 262143) rfl rfl (one_of HT_.out (by kernel_rfl)) (by decide) (fun K hK => ?_)
        refine skip_ (w1 := ?_) (by rfl) rfl ?_ ?_
        rotate_left
        ·go_simp
         rfl
        refine hK.out _ _ ?_
        clear hK K
        refine done_ (done_of HT_.out (by kernel_rfl)) ?_
        try go_wp2
        go_roundg k2
        case measure => have := HK1.out; have := HK2.out; omega
        case rel => exact ⟨(y234), (ji22), (by first | rfl | (simp; done) | (simp only [← hji22] <;> (first | rfl | simp)) | (simp [*]; done)), H', ⟨by have := HK1.out; have := HK2.out; omega⟩, ⟨by (with_reducible repeat (first | apply Kd.N_alloc | apply Kd.N_drewN | apply Kd.N_drew)); exact HQ32.out⟩, ⟨by repeat (first | (with_reducible first | exact HK.out | apply Kept.alloc | apply Kept.drewN | apply Kept.drew | refine Kept.setCell ?_ HMgo27.out _ | refine Kept.setCell ?_ HMgo27.out _ | refine Kept.setCell ?_ HMgo27.out _ | refine Kept.setCell ?_ HMgo27.out _) | exact HK.out)⟩, ⟨by repeat (first | (with_reducible first | exact HB.out | apply below_alloc | apply pw_below_drewN | apply below_drew1 | refine below_set ?_ GB27.out | refine below_set ?_ GB27.out | refine below_set ?_ GB27.out | refine below_set ?_ GB27.out) | exact HB.out)⟩⟩
       ·rw [if_neg c21] at H
        have c21b0 := decide_eq_false c21
        clear c21
        obtain rfl := Option.some.inj H
        go_wp2
        first | go_end0 | ((try simp only [Exit.inBlock, Exit.then]); refine bodyPost_ret (results_none rfl _ _ _) rfl ?_)
        exact ⟨xe, xN HO_0.out, xb HB.out, by repeat (first | (with_reducible first | exact HK.out | apply Kept.alloc | apply Kept.drewN | apply Kept.drew) | exact HK.out)⟩
 ·as_aux_lemma =>
  rw [if_neg c6] at H
  have c6b0 : ((wrap64 (a2 - a1)) == 1) = false := beq_eq_false_iff_ne.mpr c6
  have c6b1 : ((wrap64 (a2 - a1)) != 1) = true := bne_iff_ne.mpr c6
  by_cases c33 : (wrap64 (a3 - a2)) = 1
  ·as_aux_lemma =>
   rw [if_pos c33] at H
   have c33b0 : ((wrap64 (a3 - a2)) == 1) = true := beq_iff_eq.mpr c33
   have c33b1 : ((wrap64 (a3 - a2)) != 1) = false := bne_eq_false_iff_eq.mpr c33
   clear c33
   have H' := ax H
   clear H
   go_enter Try.func91, Try.ntmps91
   go_wp2
   (try simp only [Act.put, List.setIfInBounds_toArray, List.set_cons_zero, List.set_cons_succ])
   go_loopg [14, 15] k (fun kq v14 v15 w' => ∃ (x14_1 : Int) (x15_1 : Int), v14 = .int .i64 x14_1 ∧ v15 = .int .i64 x15_1 ∧ Aside0 (slices_symMergeCmpFunc_Mono__impl_ordered_1.l2 kq l0 a2 x14_1 x15_1 = some r) ∧ Aside0 (kq ≤ k) ∧ Aside0 (Kd.N k48 48 w' w0.heap.size (fun k_ => P0_ k_) u9000_ l0) ∧ Aside0 (Kept w w' (fun k_ => Z0_ k_)) ∧ Aside0 (Below w0.heap.size w0 w'))
   case atStart => exact ⟨(a1), (a2), xr, xr, H', ⟨Nat.le_refl _⟩, ⟨xN HO0.out⟩, ⟨by repeat (first | (with_reducible first | exact HK.out | apply Kept.alloc | apply Kept.drewN | apply Kept.drew) | exact HK.out)⟩, ⟨xb HB.out⟩⟩
   case round =>
    clear H'
    (try clear c6); (try clear c6b0); (try clear c6b1); (try clear c7); (try clear c7b0); (try clear c9); (try clear c9b0); (try clear c10); (try clear c10b0); (try clear c11); (try clear c11b0); (try clear c12); (try clear c12b0); (try clear c14); (try clear c14b0); (try clear c21); (try clear c21b0); (try clear c23); (try clear c23b0); (try clear c24); (try clear c24b0); (try clear c25); (try clear c25b0); (try clear c26); (try clear c26b0); (try clear p27); (try clear q27); (try clear p28); (try clear q28); (try clear c33); (try clear c33b0); (try clear c33b1); (try clear hx228_0); (try clear hx228_1); (try clear hx229_0); (try clear hx229_1); (try clear hx231_0); (try clear hx231_1); (try clear hx232_0); (try clear hx232_1); (try clear hx27_0); (try clear hx27_1); (try clear hx28_0); (try clear hx28_1); (try clear p228); (try clear p229); (try clear p231); (try clear p232); (try clear p27); (try clear p28); (try clear q228); (try clear q229); (try clear q231); (try clear q232); (try clear q27); (try clear q28)
    obtain ⟨x14_1, x15_1, rfl, rfl, HA, HK1, HO_0, HK, HB⟩ := hrel
    cases gk with
    | zero => exact absurd HA.out (by simp [slices_symMergeCmpFunc_Mono__impl_ordered_1.l2])
    | succ k1 =>
     have H := HA.out
     clear HA
     simp only [slices_symMergeCmpFunc_Mono__impl_ordered_1.l2] at H
     by_cases c34 : x14_1 < x15_1
     ·as_aux_lemma =>
      rw [if_pos c34] at H
      have c34b0 := decide_eq_true c34
      clear c34
      by_cases c35 : 0 ≤ a2
      case neg => (rw [if_neg c35] at H; exact absurd H (by simp))
      rw [if_pos c35] at H
      have c35b0 := decide_eq_true c35
      clear c35
      by_cases c36 : a2 < (l0.length : Int)
      case neg => (rw [if_neg c36] at H; exact absurd H (by simp))
      rw [if_pos c36] at H
      have c36b0 := decide_eq_true c36
      clear c36
      obtain ⟨ji37, hji37⟩ : ∃ j_ : Int, (wrap64 ((IntKind.u64.wrap (wrap64 (x14_1 + x15_1))) / 2)) = j_ := ⟨_, rfl⟩
      replace H : (if 0 ≤ (ji37) then (if (ji37) < (l0.length : Int) then ((impl_ordered_1.f k1 ((rd_T48 l0 a2).f0) ((rd_T48 l0 a2).f1) ((rd_T48 l0 (ji37)).f0) ((rd_T48 l0 (ji37)).f1)).bind fun t237 => (if t237 < 0 then (slices_symMergeCmpFunc_Mono__impl_ordered_1.l2 k1 l0 a2 x14_1 ji37) else (slices_symMergeCmpFunc_Mono__impl_ordered_1.l2 k1 l0 a2 (wrap64 ((ji37) + 1)) x15_1))) else (none)) else (none)) = some r := by first | (rw [hji37] at H; exact H) | (simp only [hji37] at H ⊢; exact H)
      have hji37w : (IntKind.i64.wrap ((IntKind.u64.wrap (wrap64 (x14_1 + x15_1))) / 2)) = ji37 := (i64_w _).trans hji37
      (try simp only [hji37] at hji8)
      (try simp only [hji37] at hji8w)
      by_cases c38 : 0 ≤ (ji37)
      case neg => (rw [if_neg c38] at H; exact absurd H (by simp))
      rw [if_pos c38] at H
      have c38b0 := decide_eq_true c38
      clear c38
      by_cases c39 : (ji37) < (l0.length : Int)
      case neg => (rw [if_neg c39] at H; exact absurd H (by simp))
      rw [if_pos c39] at H
      have c39b0 := decide_eq_true c39
      clear c39
      obtain ⟨t237, A40, H⟩ := xI H
      by_cases c41 : t237 < 0
      ·as_aux_lemma =>
       rw [if_pos c41] at H
       have c41b0 := decide_eq_true c41
       clear c41
       have H' := ax H
       clear H
       try go_wp2
       replace HO_0 := ax (Kd.N_drew HO_0.out); replace HK := ax (Kept.drew HK.out); replace HB := ax (below_drew1 HB.out)
       obtain ⟨Ao43, co43, eo43⟩ := Kd.N_slice HO_0.out
       (first | subst eo43 | (injection eo43 with f1_ f2_ f3_; have f4_ := f1_.symm; have f5_ := f3_.symm; clear f1_ f2_ f3_; subst f4_; subst f5_))
       have p235 : 0 ≤ (a2 : Int) := xd
       have q235 : a2 < (l0.length : Int) := xd
       obtain ⟨ad235, A235_0, c235_0, e235, hx235_0, hx235_1, hl235_0, hi235_0⟩ := at_T48 (Kd.N_reads' HO_0.out).2.2 a2 p235 q235
       cases e235
       obtain ⟨ce235, hce235, hMe235, hcc235⟩ := Kd.N_get HO_0.out z48 a2 p235 (by first | exact q235 | exact xd | (have e_ := (Kd.N_reads' HO_0.out).1; omega))
       obtain ⟨ua235_0, uc235_0, rfl, ul235_0, ge235_0⟩ := k48_openF hMe235
       have hv235_0 := hcc235 0 _ rfl
       rw [Nat.add_zero] at hv235_0
       replace hv235_0 := Option.some.inj (hv235_0.symm.trans hx235_0)
       injection hv235_0 with hva_ hvn_ hvc_
       rw [hva_] at ge235_0
       rw [hvc_] at ul235_0
       have HL235_0 := ax (show Kd.V (Kd.int .i64) 3 _ w0.heap.size _ _ ((rd_T48 l0 a2).f0) from Kd.V_mk ul235_0 ge235_0)
       clear hva_ hvn_ hvc_ ge235_0 ul235_0 hcc235 hce235
       have HR235_0 := ax hi235_0
       have HC235_0 := ax hl235_0
       clear hi235_0 hl235_0
       replace p235 := eq_true p235
       replace q235 := eq_true q235
       have p236 : 0 ≤ ((ji37) : Int) := xd
       have q236 : (ji37) < (l0.length : Int) := xd
       obtain ⟨ad236, A236_0, c236_0, e236, hx236_0, hx236_1, hl236_0, hi236_0⟩ := at_T48 (Kd.N_reads' HO_0.out).2.2 (ji37) p236 q236
       obtain rfl : ad235 = ad236 := (by injection e236)
       obtain ⟨ce236, hce236, hMe236, hcc236⟩ := Kd.N_get HO_0.out z48 (ji37) p236 (by first | exact q236 | exact xd | (have e_ := (Kd.N_reads' HO_0.out).1; omega))
       obtain ⟨ua236_0, uc236_0, rfl, ul236_0, ge236_0⟩ := k48_openF hMe236
       have hv236_0 := hcc236 0 _ rfl
       rw [Nat.add_zero] at hv236_0
       replace hv236_0 := Option.some.inj (hv236_0.symm.trans hx236_0)
       injection hv236_0 with hva_ hvn_ hvc_
       rw [hva_] at ge236_0
       rw [hvc_] at ul236_0
       have HL236_0 := ax (show Kd.V (Kd.int .i64) 3 _ w0.heap.size _ _ ((rd_T48 l0 (ji37)).f0) from Kd.V_mk ul236_0 ge236_0)
       clear hva_ hvn_ hvc_ ge236_0 ul236_0 hcc236 hce236
       have HR236_0 := ax hi236_0
       have HC236_0 := ax hl236_0
       clear hi236_0 hl236_0
       replace p236 := eq_true p236
       replace q236 := eq_true q236
       refine start_ (n := 12) (S := fun w' => w'.cell? (ad235.add ((a2).toNat * 2)) = some (.slice A235_0 ((rd_T48 l0 a2).f0).length c235_0) ∧ w'.cell? ⟨(ad235.add ((a2).toNat * 2)).block, (ad235.add ((a2).toNat * 2)).off + 1, none⟩ = some (.int .i64 ((rd_T48 l0 a2).f1)) ∧ w'.cell? (ad235.add (((ji37)).toNat * 2)) = some (.slice A236_0 ((rd_T48 l0 (ji37)).f0).length c236_0) ∧ w'.cell? ⟨(ad235.add (((ji37)).toNat * 2)).block, (ad235.add (((ji37)).toNat * 2)).off + 1, none⟩ = some (.int .i64 ((rd_T48 l0 (ji37)).f1))) (ds := []) (xB 12 0) (by kernel_rfl) rfl (by kernel_rfl) ⟨hx235_0, hx235_1, hx236_0, hx236_1⟩ (fun hHeld => ?_); refine with_tabW slices_symMergeCmpFunc_Mono__impl_ordered_1.tab17 slices_symMergeCmpFunc_Mono__impl_ordered_1.bits17 (fun HT_ HW_ => ?_)
       generalize wr.drew = w42 at HO_0 HK HB HL235_0 HL236_0 HR235_0 HR236_0 hx235_0 hx235_1 hx236_0 hx236_1 hHeld ⊢
       (try simp [go_sem, World.setCells, show (k48).sz = 2 from rfl] at hx235_0)
       (try simp [go_sem, World.setCells, show (k48).sz = 2 from rfl] at hx235_1)
       (try simp [go_sem, World.setCells, show (k48).sz = 2 from rfl] at hx236_0)
       (try simp [go_sem, World.setCells, show (k48).sz = 2 from rfl] at hx236_1)
       refine pu (i := 0) (N := some 92) (xB 12 1) HT_.out ?_
       refine pu (i := 1) (N := some 93) (xB 12 3) HT_.out ?_
       refine pu (i := 2) (N := some 94) (xB 12 7) HT_.out ?_
       refine pu (i := 3) (N := some 95) (xB 12 15) HT_.out ?_
       refine pu (i := 5) (N := some 97) (xB 12 47) HT_.out ?_
       refine pu (i := 6) (N := some 98) (xB 12 111) HT_.out ?_
       refine pu (i := 7) (N := some 99) (xB 12 239) HT_.out ?_
       refine tk (i := 4) (N := some 96) (xB 12 255) HT_.out HW_.out hHeld ?_
       refine tk (i := 8) (N := some 100) (xB 12 511) HT_.out HW_.out hHeld ?_
       refine one_ (i := 9) (N := some 101) (xB 12 1023) rfl rfl (one_of HT_.out (by kernel_rfl)) (by decide) (fun K hK => ?_)
       (first | refine goes_ Try.func60 (by kernel_rfl) rfl #[.agg #[.slice A235_0 ((rd_T48 l0 a2).f0).length c235_0, .int .i64 ((rd_T48 l0 a2).f1)], .agg #[.slice A236_0 ((rd_T48 l0 (ji37)).f0).length c236_0, .int .i64 ((rd_T48 l0 (ji37)).f1)]] (by rfl) rfl rfl (by (try simp only [List.map_toArray, List.map_cons, List.map_nil]); first | done | (simp only [hji37]; rfl) | rfl | (simp only [List.length_drop, List.length_take]; rfl)) ?_ | refine goesD_ Try.func60 (by kernel_rfl) rfl #[.agg #[.slice A235_0 ((rd_T48 l0 a2).f0).length c235_0, .int .i64 ((rd_T48 l0 a2).f1)], .agg #[.slice A236_0 ((rd_T48 l0 (ji37)).f0).length c236_0, .int .i64 ((rd_T48 l0 (ji37)).f1)]] (by rfl) rfl rfl rfl (by (try simp only [List.map_toArray, List.map_cons, List.map_nil]); first | done | (simp only [hji37]; rfl) | rfl | (simp only [List.length_drop, List.length_take]; rfl)) ?_)
       with_reducible refine (impl_ordered_1.calls k1 _ _ ((rd_T48 l0 a2).f0) ((rd_T48 l0 a2).f1) _ _ ((rd_T48 l0 (ji37)).f0) ((rd_T48 l0 (ji37)).f1) t237 _ ?side1 ?side2 ?side3 ?side4 A40.out).mono ?_
       (case side1 => exact xw HR235_0.out)
       (case side2 => exact HC235_0.out)
       (case side3 => exact xw HR236_0.out)
       (case side4 => exact HC236_0.out)
       rintro e w44 ⟨rfl, hb⟩
       have HS0_ := (hb.cell (World.block_lt_of_cell? _ _ (hHeld.1))).trans (hHeld.1)
       have HS1_ := (hb.cell (World.block_lt_of_cell? _ _ (hHeld.2.1))).trans (hHeld.2.1)
       have HS2_ := (hb.cell (World.block_lt_of_cell? _ _ (hHeld.2.2.1))).trans (hHeld.2.2.1)
       have HS3_ := (hb.cell (World.block_lt_of_cell? _ _ (hHeld.2.2.2))).trans (hHeld.2.2.2)
       refine ⟨_, rfl, ?_⟩
       replace HO_0 := ax (Kd.N_below (xN HO_0.out) hb); replace HL235_0 := yV HL235_0 hb; replace HL236_0 := yV HL236_0 hb; replace HR235_0 := ax (Kd.C_below (xw HR235_0.out) hb); replace HR236_0 := ax (Kd.C_below (xw HR236_0.out) hb); replace HK := ax (Kept.below (S := (fun k_ => Z0_ k_)) (by repeat (first | (with_reducible first | exact HK.out | apply Kept.alloc | apply Kept.drewN | apply Kept.drew) | exact HK.out)) hb); replace HB := yB HB hb
       (try clear hb)
       (try clear hk)
       refine hK.out _ _ ⟨HS0_, HS1_, HS2_, HS3_⟩ (fun hHeld => ?_)
       clear hK K
       refine nm ?_
       refine pu (i := 10) (N := some 102) (xB 12 2047) HT_.out ?_
       refine pu (i := 11) (N := some 103) (xB 12 4095) HT_.out ?_
       refine done_ (done_of HT_.out (by kernel_rfl)) ?_
       try go_wp2
       go_roundg k1
       case measure => have := HK1.out; omega
       case rel => exact ⟨(x14_1), (ji37), xr, (by first | rfl | (simp; done) | (simp only [← hji37] <;> (first | rfl | simp)) | (simp [*]; done)), H', ⟨by have := HK1.out; omega⟩, ⟨xN HO_0.out⟩, ⟨by repeat (first | (with_reducible first | exact HK.out | apply Kept.alloc | apply Kept.drewN | apply Kept.drew) | exact HK.out)⟩, ⟨xb HB.out⟩⟩
      ·as_aux_lemma =>
       rw [if_neg c41] at H
       have c41b0 := decide_eq_false c41
       clear c41
       have H' := ax H
       clear H
       try go_wp2
       replace HO_0 := ax (Kd.N_drew HO_0.out); replace HK := ax (Kept.drew HK.out); replace HB := ax (below_drew1 HB.out)
       obtain ⟨Ao46, co46, eo46⟩ := Kd.N_slice HO_0.out
       (first | subst eo46 | (injection eo46 with f1_ f2_ f3_; have f4_ := f1_.symm; have f5_ := f3_.symm; clear f1_ f2_ f3_; subst f4_; subst f5_))
       have p235 : 0 ≤ (a2 : Int) := xd
       have q235 : a2 < (l0.length : Int) := xd
       obtain ⟨ad235, A235_0, c235_0, e235, hx235_0, hx235_1, hl235_0, hi235_0⟩ := at_T48 (Kd.N_reads' HO_0.out).2.2 a2 p235 q235
       cases e235
       obtain ⟨ce235, hce235, hMe235, hcc235⟩ := Kd.N_get HO_0.out z48 a2 p235 (by first | exact q235 | exact xd | (have e_ := (Kd.N_reads' HO_0.out).1; omega))
       obtain ⟨ua235_0, uc235_0, rfl, ul235_0, ge235_0⟩ := k48_openF hMe235
       have hv235_0 := hcc235 0 _ rfl
       rw [Nat.add_zero] at hv235_0
       replace hv235_0 := Option.some.inj (hv235_0.symm.trans hx235_0)
       injection hv235_0 with hva_ hvn_ hvc_
       rw [hva_] at ge235_0
       rw [hvc_] at ul235_0
       have HL235_0 := ax (show Kd.V (Kd.int .i64) 3 _ w0.heap.size _ _ ((rd_T48 l0 a2).f0) from Kd.V_mk ul235_0 ge235_0)
       clear hva_ hvn_ hvc_ ge235_0 ul235_0 hcc235 hce235
       have HR235_0 := ax hi235_0
       have HC235_0 := ax hl235_0
       clear hi235_0 hl235_0
       replace p235 := eq_true p235
       replace q235 := eq_true q235
       have p236 : 0 ≤ ((ji37) : Int) := xd
       have q236 : (ji37) < (l0.length : Int) := xd
       obtain ⟨ad236, A236_0, c236_0, e236, hx236_0, hx236_1, hl236_0, hi236_0⟩ := at_T48 (Kd.N_reads' HO_0.out).2.2 (ji37) p236 q236
       obtain rfl : ad235 = ad236 := (by injection e236)
       obtain ⟨ce236, hce236, hMe236, hcc236⟩ := Kd.N_get HO_0.out z48 (ji37) p236 (by first | exact q236 | exact xd | (have e_ := (Kd.N_reads' HO_0.out).1; omega))
       obtain ⟨ua236_0, uc236_0, rfl, ul236_0, ge236_0⟩ := k48_openF hMe236
       have hv236_0 := hcc236 0 _ rfl
       rw [Nat.add_zero] at hv236_0
       replace hv236_0 := Option.some.inj (hv236_0.symm.trans hx236_0)
       injection hv236_0 with hva_ hvn_ hvc_
       rw [hva_] at ge236_0
       rw [hvc_] at ul236_0
       have HL236_0 := ax (show Kd.V (Kd.int .i64) 3 _ w0.heap.size _ _ ((rd_T48 l0 (ji37)).f0) from Kd.V_mk ul236_0 ge236_0)
       clear hva_ hvn_ hvc_ ge236_0 ul236_0 hcc236 hce236
       have HR236_0 := ax hi236_0
       have HC236_0 := ax hl236_0
       clear hi236_0 hl236_0
       replace p236 := eq_true p236
       replace q236 := eq_true q236
       refine start_ (n := 12) (S := fun w' => w'.cell? (ad235.add ((a2).toNat * 2)) = some (.slice A235_0 ((rd_T48 l0 a2).f0).length c235_0) ∧ w'.cell? ⟨(ad235.add ((a2).toNat * 2)).block, (ad235.add ((a2).toNat * 2)).off + 1, none⟩ = some (.int .i64 ((rd_T48 l0 a2).f1)) ∧ w'.cell? (ad235.add (((ji37)).toNat * 2)) = some (.slice A236_0 ((rd_T48 l0 (ji37)).f0).length c236_0) ∧ w'.cell? ⟨(ad235.add (((ji37)).toNat * 2)).block, (ad235.add (((ji37)).toNat * 2)).off + 1, none⟩ = some (.int .i64 ((rd_T48 l0 (ji37)).f1))) (ds := []) (xB 12 0) (by kernel_rfl) rfl (by kernel_rfl) ⟨hx235_0, hx235_1, hx236_0, hx236_1⟩ (fun hHeld => ?_); refine with_tabW slices_symMergeCmpFunc_Mono__impl_ordered_1.tab17 slices_symMergeCmpFunc_Mono__impl_ordered_1.bits17 (fun HT_ HW_ => ?_)
       generalize wr.drew = w45 at HO_0 HK HB HL235_0 HL236_0 HR235_0 HR236_0 hx235_0 hx235_1 hx236_0 hx236_1 hHeld ⊢
       (try simp [go_sem, World.setCells, show (k48).sz = 2 from rfl] at hx235_0)
       (try simp [go_sem, World.setCells, show (k48).sz = 2 from rfl] at hx235_1)
       (try simp [go_sem, World.setCells, show (k48).sz = 2 from rfl] at hx236_0)
       (try simp [go_sem, World.setCells, show (k48).sz = 2 from rfl] at hx236_1)
       refine pu (i := 0) (N := some 92) (xB 12 1) HT_.out ?_
       refine pu (i := 1) (N := some 93) (xB 12 3) HT_.out ?_
       refine pu (i := 2) (N := some 94) (xB 12 7) HT_.out ?_
       refine pu (i := 3) (N := some 95) (xB 12 15) HT_.out ?_
       refine pu (i := 5) (N := some 97) (xB 12 47) HT_.out ?_
       refine pu (i := 6) (N := some 98) (xB 12 111) HT_.out ?_
       refine pu (i := 7) (N := some 99) (xB 12 239) HT_.out ?_
       refine tk (i := 4) (N := some 96) (xB 12 255) HT_.out HW_.out hHeld ?_
       refine tk (i := 8) (N := some 100) (xB 12 511) HT_.out HW_.out hHeld ?_
       refine one_ (i := 9) (N := some 101) (xB 12 1023) rfl rfl (one_of HT_.out (by kernel_rfl)) (by decide) (fun K hK => ?_)
       (first | refine goes_ Try.func60 (by kernel_rfl) rfl #[.agg #[.slice A235_0 ((rd_T48 l0 a2).f0).length c235_0, .int .i64 ((rd_T48 l0 a2).f1)], .agg #[.slice A236_0 ((rd_T48 l0 (ji37)).f0).length c236_0, .int .i64 ((rd_T48 l0 (ji37)).f1)]] (by rfl) rfl rfl (by (try simp only [List.map_toArray, List.map_cons, List.map_nil]); first | done | (simp only [hji37]; rfl) | rfl | (simp only [List.length_drop, List.length_take]; rfl)) ?_ | refine goesD_ Try.func60 (by kernel_rfl) rfl #[.agg #[.slice A235_0 ((rd_T48 l0 a2).f0).length c235_0, .int .i64 ((rd_T48 l0 a2).f1)], .agg #[.slice A236_0 ((rd_T48 l0 (ji37)).f0).length c236_0, .int .i64 ((rd_T48 l0 (ji37)).f1)]] (by rfl) rfl rfl rfl (by (try simp only [List.map_toArray, List.map_cons, List.map_nil]); first | done | (simp only [hji37]; rfl) | rfl | (simp only [List.length_drop, List.length_take]; rfl)) ?_)
       with_reducible refine (impl_ordered_1.calls k1 _ _ ((rd_T48 l0 a2).f0) ((rd_T48 l0 a2).f1) _ _ ((rd_T48 l0 (ji37)).f0) ((rd_T48 l0 (ji37)).f1) t237 _ ?side1 ?side2 ?side3 ?side4 A40.out).mono ?_
       (case side1 => exact xw HR235_0.out)
       (case side2 => exact HC235_0.out)
       (case side3 => exact xw HR236_0.out)
       (case side4 => exact HC236_0.out)
       rintro e w47 ⟨rfl, hb⟩
       have HS0_ := (hb.cell (World.block_lt_of_cell? _ _ (hHeld.1))).trans (hHeld.1)
       have HS1_ := (hb.cell (World.block_lt_of_cell? _ _ (hHeld.2.1))).trans (hHeld.2.1)
       have HS2_ := (hb.cell (World.block_lt_of_cell? _ _ (hHeld.2.2.1))).trans (hHeld.2.2.1)
       have HS3_ := (hb.cell (World.block_lt_of_cell? _ _ (hHeld.2.2.2))).trans (hHeld.2.2.2)
       refine ⟨_, rfl, ?_⟩
       replace HO_0 := ax (Kd.N_below (xN HO_0.out) hb); replace HL235_0 := yV HL235_0 hb; replace HL236_0 := yV HL236_0 hb; replace HR235_0 := ax (Kd.C_below (xw HR235_0.out) hb); replace HR236_0 := ax (Kd.C_below (xw HR236_0.out) hb); replace HK := ax (Kept.below (S := (fun k_ => Z0_ k_)) (by repeat (first | (with_reducible first | exact HK.out | apply Kept.alloc | apply Kept.drewN | apply Kept.drew) | exact HK.out)) hb); replace HB := yB HB hb
       (try clear hb)
       (try clear hk)
       refine hK.out _ _ ⟨HS0_, HS1_, HS2_, HS3_⟩ (fun hHeld => ?_)
       clear hK K
       refine nm ?_
       refine pu (i := 10) (N := some 102) (xB 12 2047) HT_.out ?_
       refine pu (i := 11) (N := some 103) (xB 12 4095) HT_.out ?_
       refine done_ (done_of HT_.out (by kernel_rfl)) ?_
       try go_wp2
       go_roundg k1
       case measure => have := HK1.out; omega
       case rel => exact ⟨(wrap64 ((ji37) + 1)), (x15_1), (by first | rfl | (simp; done) | (simp only [← hji37] <;> (first | rfl | simp)) | (simp [*]; done)), xr, H', ⟨by have := HK1.out; omega⟩, ⟨xN HO_0.out⟩, ⟨by repeat (first | (with_reducible first | exact HK.out | apply Kept.alloc | apply Kept.drewN | apply Kept.drew) | exact HK.out)⟩, ⟨xb HB.out⟩⟩
     ·as_aux_lemma =>
      rw [if_neg c34] at H
      have c34b0 := decide_eq_false c34
      clear c34
      have H' := ax H
      clear H
      go_wp2
      (try simp only [Act.put, List.setIfInBounds_toArray, List.set_cons_zero, List.set_cons_succ])
      go_loopg [17] k1 (fun kq v17 w' => ∃ (x0_2 : List (S48)) (x17_2 : Int), v17 = .int .i64 x17_2 ∧ Aside0 (slices_symMergeCmpFunc_Mono__impl_ordered_1.l3 kq x0_2 x14_1 x17_2 = some r) ∧ Aside0 (kq ≤ k1) ∧ Aside0 (Kd.N k48 48 w' w0.heap.size (fun k_ => P0_ k_) u9000_ x0_2) ∧ Aside0 (Kept w w' (fun k_ => Z0_ k_)) ∧ Aside0 (Below w0.heap.size w0 w'))
      case atStart => exact ⟨(l0), (a2), xr, H', ⟨Nat.le_refl _⟩, ⟨xN HO_0.out⟩, ⟨by repeat (first | (with_reducible first | exact HK.out | apply Kept.alloc | apply Kept.drewN | apply Kept.drew) | exact HK.out)⟩, ⟨xb HB.out⟩⟩
      case round =>
       clear H'
       (try clear c6); (try clear c6b0); (try clear c6b1); (try clear c7); (try clear c7b0); (try clear c9); (try clear c9b0); (try clear c10); (try clear c10b0); (try clear c11); (try clear c11b0); (try clear c12); (try clear c12b0); (try clear c14); (try clear c14b0); (try clear c21); (try clear c21b0); (try clear c23); (try clear c23b0); (try clear c24); (try clear c24b0); (try clear c25); (try clear c25b0); (try clear c26); (try clear c26b0); (try clear p27); (try clear q27); (try clear p28); (try clear q28); (try clear c33); (try clear c33b0); (try clear c33b1); (try clear c34); (try clear c34b0); (try clear c35); (try clear c35b0); (try clear c36); (try clear c36b0); (try clear c38); (try clear c38b0); (try clear c39); (try clear c39b0); (try clear c41); (try clear c41b0); (try clear hx228_0); (try clear hx228_1); (try clear hx229_0); (try clear hx229_1); (try clear hx231_0); (try clear hx231_1); (try clear hx232_0); (try clear hx232_1); (try clear hx235_0); (try clear hx235_1); (try clear hx236_0); (try clear hx236_1); (try clear hx27_0); (try clear hx27_1); (try clear hx28_0); (try clear hx28_1); (try clear p228); (try clear p229); (try clear p231); (try clear p232); (try clear p235); (try clear p236); (try clear p27); (try clear p28); (try clear q228); (try clear q229); (try clear q231); (try clear q232); (try clear q235); (try clear q236); (try clear q27); (try clear q28)
       obtain ⟨x0_2, x17_2, rfl, HA, HK2, HO_0, HK, HB⟩ := hrel
       cases gk with
       | zero => exact absurd HA.out (by simp [slices_symMergeCmpFunc_Mono__impl_ordered_1.l3])
       | succ k2 =>
        have H := HA.out
        clear HA
        simp only [slices_symMergeCmpFunc_Mono__impl_ordered_1.l3] at H
        by_cases c48 : x17_2 > x14_1
        ·rw [if_pos c48] at H
         have c48b0 : decide (x14_1 < x17_2) = true := decide_eq_true c48
         clear c48
         obtain ⟨ji49, hji49⟩ : ∃ j_ : Int, (wrap64 (x17_2 - 1)) = j_ := ⟨_, rfl⟩
         replace H : (if 0 ≤ (ji49) then (if (ji49) < (x0_2.length : Int) then (if 0 ≤ x17_2 then (if x17_2 < (x0_2.length : Int) then (slices_symMergeCmpFunc_Mono__impl_ordered_1.l3 k2 ((x0_2.set (x17_2 : Int).toNat (⟨(rd_T48 x0_2 (ji49)).f0, (rd_T48 x0_2 (ji49)).f1⟩ : S48)).set ((ji49) : Int).toNat (⟨(rd_T48 x0_2 x17_2).f0, (rd_T48 x0_2 x17_2).f1⟩ : S48)) x14_1 ji49) else (none)) else (none)) else (none)) else (none)) = some r := by first | (rw [hji49] at H; exact H) | (simp only [hji49] at H ⊢; exact H)
         have hji49w : (IntKind.i64.wrap (x17_2 - 1)) = ji49 := (i64_w _).trans hji49
         (try simp only [hji49] at hji8)
         (try simp only [hji49] at hji37)
         (try simp only [hji49] at hji8w)
         (try simp only [hji49] at hji37w)
         by_cases c50 : 0 ≤ (ji49)
         case neg => (rw [if_neg c50] at H; exact absurd H (by simp))
         rw [if_pos c50] at H
         have c50b0 := decide_eq_true c50
         clear c50
         by_cases c51 : (ji49) < (x0_2.length : Int)
         case neg => (rw [if_neg c51] at H; exact absurd H (by simp))
         rw [if_pos c51] at H
         have c51b0 := decide_eq_true c51
         clear c51
         by_cases c52 : 0 ≤ x17_2
         case neg => (rw [if_neg c52] at H; exact absurd H (by simp))
         rw [if_pos c52] at H
         have c52b0 := decide_eq_true c52
         clear c52
         by_cases c53 : x17_2 < (x0_2.length : Int)
         case neg => (rw [if_neg c53] at H; exact absurd H (by simp))
         rw [if_pos c53] at H
         have c53b0 := decide_eq_true c53
         clear c53
         obtain ⟨y240, hy240⟩ : ∃ y_ : List (S48), y_ = (x0_2.set (x17_2 : Int).toNat (⟨(rd_T48 x0_2 (ji49)).f0, (rd_T48 x0_2 (ji49)).f1⟩ : S48)) := ⟨_, rfl⟩
         replace H : (slices_symMergeCmpFunc_Mono__impl_ordered_1.l3 k2 (y240.set ((ji49) : Int).toNat (⟨(rd_T48 x0_2 x17_2).f0, (rd_T48 x0_2 x17_2).f1⟩ : S48)) x14_1 ji49) = some r := xv hy240 H
         have Ny240 := ax hy240
         clear hy240
         obtain ⟨y241, hy241⟩ : ∃ y_ : List (S48), y_ = (y240.set ((ji49) : Int).toNat (⟨(rd_T48 x0_2 x17_2).f0, (rd_T48 x0_2 x17_2).f1⟩ : S48)) := ⟨_, rfl⟩
         replace H : (slices_symMergeCmpFunc_Mono__impl_ordered_1.l3 k2 y241 x14_1 ji49) = some r := xv hy241 H
         have Ny241 := ax hy241
         clear hy241
         have H' := ax H
         clear H
         try go_wp2
         replace HO_0 := ax (Kd.N_drew HO_0.out); replace HK := ax (Kept.drew HK.out); replace HB := ax (below_drew1 HB.out)
         obtain ⟨Ao57, co57, eo57⟩ := Kd.N_slice HO_0.out
         (first | subst eo57 | (injection eo57 with f1_ f2_ f3_; have f4_ := f1_.symm; have f5_ := f3_.symm; clear f1_ f2_ f3_; subst f4_; subst f5_))
         have p238 : 0 ≤ ((ji49) : Int) := xd
         have q238 : (ji49) < (x0_2.length : Int) := xd
         obtain ⟨ad238, A238_0, c238_0, e238, hx238_0, hx238_1, hl238_0, hi238_0⟩ := at_T48 (Kd.N_reads' HO_0.out).2.2 (ji49) p238 q238
         cases e238
         obtain ⟨ce238, hce238, hMe238, hcc238⟩ := Kd.N_get HO_0.out z48 (ji49) p238 (by first | exact q238 | exact xd | (have e_ := (Kd.N_reads' HO_0.out).1; omega))
         obtain ⟨ua238_0, uc238_0, rfl, ul238_0, ge238_0⟩ := k48_openF hMe238
         have hv238_0 := hcc238 0 _ rfl
         rw [Nat.add_zero] at hv238_0
         replace hv238_0 := Option.some.inj (hv238_0.symm.trans hx238_0)
         injection hv238_0 with hva_ hvn_ hvc_
         rw [hva_] at ge238_0
         rw [hvc_] at ul238_0
         have HL238_0 := ax (show Kd.V (Kd.int .i64) 3 _ w0.heap.size _ _ ((rd_T48 x0_2 (ji49)).f0) from Kd.V_mk ul238_0 ge238_0)
         clear hva_ hvn_ hvc_ ge238_0 ul238_0 hcc238 hce238
         have HR238_0 := ax hi238_0
         have HC238_0 := ax hl238_0
         clear hi238_0 hl238_0
         replace p238 := eq_true p238
         replace q238 := eq_true q238
         have p239 : 0 ≤ (x17_2 : Int) := xd
         have q239 : x17_2 < (x0_2.length : Int) := xd
         obtain ⟨ad239, A239_0, c239_0, e239, hx239_0, hx239_1, hl239_0, hi239_0⟩ := at_T48 (Kd.N_reads' HO_0.out).2.2 x17_2 p239 q239
         obtain rfl : ad238 = ad239 := (by injection e239)
         obtain ⟨ce239, hce239, hMe239, hcc239⟩ := Kd.N_get HO_0.out z48 x17_2 p239 (by first | exact q239 | exact xd | (have e_ := (Kd.N_reads' HO_0.out).1; omega))
         obtain ⟨ua239_0, uc239_0, rfl, ul239_0, ge239_0⟩ := k48_openF hMe239
         have hv239_0 := hcc239 0 _ rfl
         rw [Nat.add_zero] at hv239_0
         replace hv239_0 := Option.some.inj (hv239_0.symm.trans hx239_0)
         injection hv239_0 with hva_ hvn_ hvc_
         rw [hva_] at ge239_0
         rw [hvc_] at ul239_0
         have HL239_0 := ax (show Kd.V (Kd.int .i64) 3 _ w0.heap.size _ _ ((rd_T48 x0_2 x17_2).f0) from Kd.V_mk ul239_0 ge239_0)
         clear hva_ hvn_ hvc_ ge239_0 ul239_0 hcc239 hce239
         have HR239_0 := ax hi239_0
         have HC239_0 := ax hl239_0
         clear hi239_0 hl239_0
         replace p239 := eq_true p239
         replace q239 := eq_true q239
         have p54 : 0 ≤ (x17_2 : Int) := xd
         have q54 : (x17_2 : Int) < ((x0_2.length : Int) : Int) := xd
         obtain ⟨go54, co54, eo54, gb54, gl54, cl54, HG54⟩ := Kd.N_form HO_0.out (by omega)
         (first | cases eo54 | (injection eo54 with ea_ en_ ec_; (first | subst ea_ | (injection ea_ with ea_; subst ea_)); subst ec_; clear en_))
         have GB54 := ax gb54
         have GG54 := ax HG54
         clear gb54 gl54 HG54
         have HMgo54 := ax (show Z0_ go54 ∨ w.heap.size ≤ go54 from .inl (HZ0.out _ rfl))
         (first | simp only [add_plain] at hx238_0 | skip)
         (first | simp only [add_plain] at hx238_1 | skip)
         (first | simp only [add_plain] at hx239_0 | skip)
         (first | simp only [add_plain] at hx239_1 | skip)
         obtain ⟨ce54, hcl54, hM54, hcc54, hfr54⟩ := Kd.N_elem HO_0.out z48 (x17_2 : Int) p54 q54
         obtain ⟨ua54_0, uc54_0, rfl, ul54_0, ge54_0⟩ := k48_openF hM54
         have hx54_0 : World.cell? _ ⟨go54, (x17_2 : Int).toNat * 2, none⟩ = some (.slice ua54_0 ((rd_T48 x0_2 x17_2).f0).length uc54_0) := hcc54 0 _ rfl
         have hx54_1 : World.cell? _ ⟨go54, (x17_2 : Int).toNat * 2 + 1, none⟩ = some (.int .i64 ((rd_T48 x0_2 x17_2).f1)) := hcc54 1 _ rfl
         have hf54_0 : World.frozen? _ ⟨go54, (x17_2 : Int).toNat * 2, none⟩ = false := hfr54 0
         have hf54_1 : World.frozen? _ ⟨go54, (x17_2 : Int).toNat * 2 + 1, none⟩ = false := hfr54 1
         clear hcl54 hcc54 hfr54; (try clear hM54)
         replace p54 := eq_true p54
         replace q54 := eq_true q54
         have HX58 := ax (show Kd.N k48 48 _ w0.heap.size (fun k_ => P0_ k_) (.slice (some ⟨go54, 0, none⟩) x0_2.length co57) x0_2 from (Kd.N_mono (HO_0.out) (fun k_ hk => hk)))
         obtain ⟨ce58, hcl58, hM58, hcc58, hfr58⟩ := Kd.N_elem HX58.out z48 (x17_2 : Int) (xd) (by have h_ : (x17_2 : Int) < ((x0_2.length : Int) : Int) := xd; first | exact h_ | (have e_ := (Kd.N_reads' HO_0.out).1; omega) | simpa using h_)
         obtain ⟨ua58_0, uc58_0, rfl, ul58_0, ge58_0⟩ := k48_openF hM58
         have HP58 := (Kd.N_seg HX58.out (x17_2 : Int) (xd) (by have h_ : (x17_2 : Int) < ((x0_2.length : Int) : Int) := xd; first | exact h_ | (have e_ := (Kd.N_reads' HO_0.out).1; omega) | simpa using h_) (seg := [.slice A238_0 ((rd_T48 x0_2 (ji49)).f0).length c238_0, .int .i64 ((rd_T48 x0_2 (ji49)).f1)]) (j := 0) hcl58 hcc58 (show 2 ≤ 2 from by decide) (x' := (⟨(rd_T48 x0_2 (ji49)).f0, (rd_T48 x0_2 (ji49)).f1⟩ : S48)) (k48_mkF _ _ (⟨(rd_T48 x0_2 (ji49)).f0, (rd_T48 x0_2 (ji49)).f1⟩ : S48) (Kd.V_reads' (Kd.V_mono (ok' := (fun k_ => ((fun k_ => P0_ k_)) k_ ∧ k_ ≠ go54)) (HL238_0.out) (fun k_ hk => ⟨hk.1, fun e_ => (hk.2) (by rw [e_]; rfl)⟩))).2.1 (Kd.V_F (Kd.V_mono (ok' := (fun k_ => ((fun k_ => P0_ k_)) k_ ∧ k_ ≠ go54)) (HL238_0.out) (fun k_ hk => ⟨hk.1, fun e_ => (hk.2) (by rw [e_]; rfl)⟩)))) (fun _ hk => hk)).1
         rw [← Ny240.out] at HP58
         have HQ58 := ax HP58
         clear hcl58 hcc58 hfr58; (try clear hM58); clear HP58
         have p55 : 0 ≤ ((ji49) : Int) := xd
         have q55 : ((ji49) : Int) < ((x0_2.length : Int) : Int) := xd
         obtain ⟨ce55, hcl55, hM55, hcc55, hfr55⟩ := Kd.N_elem HQ58.out z48 ((ji49) : Int) p55 q55
         obtain ⟨ua55_0, uc55_0, rfl, ul55_0, ge55_0⟩ := k48_openF hM55
         have hx55_0 : World.cell? _ ⟨go54, ((ji49) : Int).toNat * 2, none⟩ = some (.slice ua55_0 ((rd_T48 y240 (ji49)).f0).length uc55_0) := hcc55 0 _ rfl
         have hx55_1 : World.cell? _ ⟨go54, ((ji49) : Int).toNat * 2 + 1, none⟩ = some (.int .i64 ((rd_T48 y240 (ji49)).f1)) := hcc55 1 _ rfl
         have hf55_0 : World.frozen? _ ⟨go54, ((ji49) : Int).toNat * 2, none⟩ = false := hfr55 0
         have hf55_1 : World.frozen? _ ⟨go54, ((ji49) : Int).toNat * 2 + 1, none⟩ = false := hfr55 1
         clear hcl55 hcc55 hfr55; (try clear hM55)
         replace p55 := eq_true p55
         replace q55 := eq_true q55
         have HX59 := ax (show Kd.N k48 48 _ w0.heap.size (fun k_ => P0_ k_) (.slice (some ⟨go54, 0, none⟩) x0_2.length co57) y240 from (Kd.N_mono (HQ58.out) (fun k_ hk => hk)))
         obtain ⟨ce59, hcl59, hM59, hcc59, hfr59⟩ := Kd.N_elem HX59.out z48 ((ji49) : Int) (xd) (by have h_ : ((ji49) : Int) < ((x0_2.length : Int) : Int) := xd; first | exact h_ | (have e_ := (Kd.N_reads' HO_0.out).1; omega) | simpa using h_)
         obtain ⟨ua59_0, uc59_0, rfl, ul59_0, ge59_0⟩ := k48_openF hM59
         have HP59 := (Kd.N_seg HX59.out ((ji49) : Int) (xd) (by have h_ : ((ji49) : Int) < ((x0_2.length : Int) : Int) := xd; first | exact h_ | (have e_ := (Kd.N_reads' HO_0.out).1; omega) | simpa using h_) (seg := [.slice A239_0 ((rd_T48 x0_2 x17_2).f0).length c239_0, .int .i64 ((rd_T48 x0_2 x17_2).f1)]) (j := 0) hcl59 hcc59 (show 2 ≤ 2 from by decide) (x' := (⟨(rd_T48 x0_2 x17_2).f0, (rd_T48 x0_2 x17_2).f1⟩ : S48)) (k48_mkF _ _ (⟨(rd_T48 x0_2 x17_2).f0, (rd_T48 x0_2 x17_2).f1⟩ : S48) (Kd.V_reads' (Kd.V_mono (ok' := (fun k_ => ((fun k_ => P0_ k_)) k_ ∧ k_ ≠ go54)) (HL239_0.out) (fun k_ hk => ⟨hk.1, fun e_ => (hk.2) (by rw [e_]; rfl)⟩))).2.1 (Kd.F_far (Kd.F_far (Kd.V_F (Kd.V_mono (ok' := (fun k_ => ((fun k_ => P0_ k_)) k_ ∧ k_ ≠ go54)) (HL239_0.out) (fun k_ hk => ⟨hk.1, fun e_ => (hk.2) (by rw [e_]; rfl)⟩))) (fun _ hk => hk.2) _) (fun _ hk => hk.2) _)) (fun _ hk => hk)).1
         rw [← Ny241.out] at HP59
         have HQ59 := ax HP59
         clear hcl59 hcc59 hfr59; (try clear hM59); clear HP59
         refine start_ (n := 18) (S := fun w' => w'.cell? ⟨go54, ((ji49)).toNat * 2, none⟩ = some (.slice A238_0 ((rd_T48 x0_2 (ji49)).f0).length c238_0) ∧ w'.cell? ⟨go54, ((ji49)).toNat * 2 + 1, none⟩ = some (.int .i64 ((rd_T48 x0_2 (ji49)).f1)) ∧ w'.cell? ⟨go54, ((x17_2).toNat * 2), none⟩ = some (.slice A239_0 ((rd_T48 x0_2 x17_2).f0).length c239_0) ∧ w'.cell? ⟨go54, ((x17_2).toNat * 2) + 1, none⟩ = some (.int .i64 ((rd_T48 x0_2 x17_2).f1))) (ds := [15, 17]) (xB 18 0) (by kernel_rfl) rfl (by kernel_rfl) ⟨hx238_0, hx238_1, hx239_0, hx239_1⟩ (fun hHeld => ?_); refine with_tabW slices_symMergeCmpFunc_Mono__impl_ordered_1.tab23 slices_symMergeCmpFunc_Mono__impl_ordered_1.bits23 (fun HT_ HW_ => ?_)
         generalize wr.drew = w56 at HO_0 HK HB GG54 HL238_0 HL239_0 HQ58 HQ59 HR238_0 HR239_0 hf54_0 hf54_1 hf55_0 hf55_1 hx238_0 hx238_1 hx239_0 hx239_1 hx54_0 hx54_1 hx55_0 hx55_1 hHeld ⊢
         (try simp [go_sem, World.setCells, show (k48).sz = 2 from rfl] at hf54_0)
         (try simp [go_sem, World.setCells, show (k48).sz = 2 from rfl] at hf54_1)
         (try simp [go_sem, World.setCells, show (k48).sz = 2 from rfl] at hf55_0)
         (try simp [go_sem, World.setCells, show (k48).sz = 2 from rfl] at hf55_1)
         (try simp [go_sem, World.setCells, show (k48).sz = 2 from rfl] at hx238_0)
         (try simp [go_sem, World.setCells, show (k48).sz = 2 from rfl] at hx238_1)
         (try simp [go_sem, World.setCells, show (k48).sz = 2 from rfl] at hx239_0)
         (try simp [go_sem, World.setCells, show (k48).sz = 2 from rfl] at hx239_1)
         (try simp [go_sem, World.setCells, show (k48).sz = 2 from rfl] at hx54_0)
         (try simp [go_sem, World.setCells, show (k48).sz = 2 from rfl] at hx54_1)
         (try simp [go_sem, World.setCells, show (k48).sz = 2 from rfl] at hx55_0)
         (try simp [go_sem, World.setCells, show (k48).sz = 2 from rfl] at hx55_1)
         refine pu (i := 0) (N := some 113) (xB 18 1) HT_.out ?_
         refine pu (i := 1) (N := some 114) (xB 18 3) HT_.out ?_
         refine pu (i := 2) (N := some 115) (xB 18 7) HT_.out ?_
         refine pu (i := 3) (N := some 116) (xB 18 15) HT_.out ?_
         refine pu (i := 4) (N := some 117) (xB 18 31) HT_.out ?_
         refine pu (i := 5) (N := some 118) (xB 18 63) HT_.out ?_
         refine pu (i := 6) (N := some 119) (xB 18 127) HT_.out ?_
         refine pu (i := 7) (N := some 120) (xB 18 255) HT_.out ?_
         refine pu (i := 8) (N := some 121) (xB 18 511) HT_.out ?_
         refine pu (i := 10) (N := some 123) (xB 18 1535) HT_.out ?_
         refine pu (i := 11) (N := some 124) (xB 18 3583) HT_.out ?_
         refine pu (i := 12) (N := some 125) (xB 18 7679) HT_.out ?_
         refine tk (i := 9) (N := some 122) (xB 18 8191) HT_.out HW_.out hHeld ?_
         refine tk (i := 13) (N := some 126) (xB 18 16383) HT_.out HW_.out hHeld ?_
         refine pu (i := 14) (N := some 127) (xB 18 32767) HT_.out ?_
         refine last_ (i := 15) (N := none) (xB 18 65535) rfl rfl (one_of HT_.out (by kernel_rfl)) (by decide) (fun K hK => ?_)
         refine skip_ (w1 := ?_) (by rfl) rfl ?_ ?_
         rotate_left
         ·go_simp
          rfl
         refine hK.out _ _ ?_
         clear hK K
         refine pu (i := 16) (N := some 128) (xB 18 131071) HT_.out ?_
         refine last_ (i := 17) (N := none) (xB 18 262143) rfl rfl (one_of HT_.out (by kernel_rfl)) (by decide) (fun K hK => ?_)
         refine skip_ (w1 := ?_) (by rfl) rfl ?_ ?_
         rotate_left
         ·go_simp
          rfl
         refine hK.out _ _ ?_
         clear hK K
         refine done_ (done_of HT_.out (by kernel_rfl)) ?_
         try go_wp2
         go_roundg k2
         case measure => have := HK1.out; have := HK2.out; omega
         case rel => exact ⟨(y241), (ji49), (by first | rfl | (simp; done) | (simp only [← hji49] <;> (first | rfl | simp)) | (simp [*]; done)), H', ⟨by have := HK1.out; have := HK2.out; omega⟩, ⟨by (with_reducible repeat (first | apply Kd.N_alloc | apply Kd.N_drewN | apply Kd.N_drew)); exact HQ59.out⟩, ⟨by repeat (first | (with_reducible first | exact HK.out | apply Kept.alloc | apply Kept.drewN | apply Kept.drew | refine Kept.setCell ?_ HMgo54.out _ | refine Kept.setCell ?_ HMgo54.out _ | refine Kept.setCell ?_ HMgo54.out _ | refine Kept.setCell ?_ HMgo54.out _) | exact HK.out)⟩, ⟨by repeat (first | (with_reducible first | exact HB.out | apply below_alloc | apply pw_below_drewN | apply below_drew1 | refine below_set ?_ GB54.out | refine below_set ?_ GB54.out | refine below_set ?_ GB54.out | refine below_set ?_ GB54.out) | exact HB.out)⟩⟩
        ·rw [if_neg c48] at H
         have c48b0 : decide (x14_1 < x17_2) = false := decide_eq_false c48
         clear c48
         obtain rfl := Option.some.inj H
         go_wp2
         first | go_end0 | ((try simp only [Exit.inBlock, Exit.then]); refine bodyPost_ret (results_none rfl _ _ _) rfl ?_)
         exact ⟨xe, xN HO_0.out, xb HB.out, by repeat (first | (with_reducible first | exact HK.out | apply Kept.alloc | apply Kept.drewN | apply Kept.drew) | exact HK.out)⟩
  ·rw [if_neg c33] at H
   have c33b0 : ((wrap64 (a3 - a2)) == 1) = false := beq_eq_false_iff_ne.mpr c33
   have c33b1 : ((wrap64 (a3 - a2)) != 1) = true := bne_iff_ne.mpr c33
   have HC60 := ax H
   clear H
   go_enter Try.func91, Try.ntmps91
   go_upto_if 140 with (fail)
   go_cut [20, 21] (fun v20 v21 wc => ∃ (kq : Nat) (x20_59 : Int) (x21_59 : Int), v20 = .int .i64 x20_59 ∧ v21 = .int .i64 x21_59 ∧ Aside0 (slices_symMergeCmpFunc_Mono__impl_ordered_1.j4 kq l0 a1 a2 a3 (wrap64 ((IntKind.u64.wrap (wrap64 (a1 + a3))) / 2)) (wrap64 ((wrap64 ((IntKind.u64.wrap (wrap64 (a1 + a3))) / 2)) + a2)) x20_59 x21_59 = some r) ∧ Aside0 (kq ≤ k) ∧ Aside0 (Kd.N k48 48 wc w0.heap.size (fun k_ => P0_ k_) u9000_ l0) ∧ Aside0 (Kept w wc (fun k_ => Z0_ k_)) ∧ Aside0 (Below w0.heap.size w0 wc))
   case first =>
    as_aux_lemma =>
    have H := HC60.out
    clear HC60
    by_cases c61 : a2 > (wrap64 ((IntKind.u64.wrap (wrap64 (a1 + a3))) / 2))
    ·rw [if_pos c61] at H
     have c61b0 : decide ((wrap64 ((IntKind.u64.wrap (wrap64 (a1 + a3))) / 2)) < a2) = true := decide_eq_true c61
     clear c61
     (first | rw [c61b0] | (simp only [i64_w, i32_w]; rw [c61b0]) | skip)
     have H' := ax H
     clear H
     go_wp2
     go_meet
     case rel => exact ⟨_, (wrap64 ((wrap64 ((wrap64 ((IntKind.u64.wrap (wrap64 (a1 + a3))) / 2)) + a2)) - a3)), (wrap64 ((IntKind.u64.wrap (wrap64 (a1 + a3))) / 2)), xr, xr, H', ⟨by first | omega | exact Nat.le_refl _⟩, ⟨xN HO0.out⟩, ⟨by repeat (first | (with_reducible first | exact HK.out | apply Kept.alloc | apply Kept.drewN | apply Kept.drew) | exact HK.out)⟩, ⟨xb HB.out⟩⟩
    ·rw [if_neg c61] at H
     have c61b0 : decide ((wrap64 ((IntKind.u64.wrap (wrap64 (a1 + a3))) / 2)) < a2) = false := decide_eq_false c61
     clear c61
     (first | rw [c61b0] | (simp only [i64_w, i32_w]; rw [c61b0]) | skip)
     have H' := ax H
     clear H
     go_wp2
     go_meet
     case rel => exact ⟨_, (a1), (a2), xr, xr, H', ⟨by first | omega | exact Nat.le_refl _⟩, ⟨xN HO0.out⟩, ⟨by repeat (first | (with_reducible first | exact HK.out | apply Kept.alloc | apply Kept.drewN | apply Kept.drew) | exact HK.out)⟩, ⟨xb HB.out⟩⟩
   case rest =>
    as_aux_lemma =>
    clear HC60
    (try clear c6); (try clear c6b0); (try clear c6b1); (try clear c7); (try clear c7b0); (try clear c9); (try clear c9b0); (try clear c10); (try clear c10b0); (try clear c11); (try clear c11b0); (try clear c12); (try clear c12b0); (try clear c14); (try clear c14b0); (try clear c21); (try clear c21b0); (try clear c23); (try clear c23b0); (try clear c24); (try clear c24b0); (try clear c25); (try clear c25b0); (try clear c26); (try clear c26b0); (try clear p27); (try clear q27); (try clear p28); (try clear q28); (try clear c33); (try clear c33b0); (try clear c33b1); (try clear c34); (try clear c34b0); (try clear c35); (try clear c35b0); (try clear c36); (try clear c36b0); (try clear c38); (try clear c38b0); (try clear c39); (try clear c39b0); (try clear c41); (try clear c41b0); (try clear c48); (try clear c48b0); (try clear c50); (try clear c50b0); (try clear c51); (try clear c51b0); (try clear c52); (try clear c52b0); (try clear c53); (try clear c53b0); (try clear p54); (try clear q54); (try clear p55); (try clear q55); (try clear c61); (try clear c61b0); (try clear hx228_0); (try clear hx228_1); (try clear hx229_0); (try clear hx229_1); (try clear hx231_0); (try clear hx231_1); (try clear hx232_0); (try clear hx232_1); (try clear hx235_0); (try clear hx235_1); (try clear hx236_0); (try clear hx236_1); (try clear hx238_0); (try clear hx238_1); (try clear hx239_0); (try clear hx239_1); (try clear hx27_0); (try clear hx27_1); (try clear hx28_0); (try clear hx28_1); (try clear hx54_0); (try clear hx54_1); (try clear hx55_0); (try clear hx55_1); (try clear p228); (try clear p229); (try clear p231); (try clear p232); (try clear p235); (try clear p236); (try clear p238); (try clear p239); (try clear p27); (try clear p28); (try clear p54); (try clear p55); (try clear q228); (try clear q229); (try clear q231); (try clear q232); (try clear q235); (try clear q236); (try clear q238); (try clear q239); (try clear q27); (try clear q28); (try clear q54); (try clear q55)
    obtain ⟨kq, x20_59, x21_59, rfl, rfl, HA, HJ59, HO_0, HK, HB⟩ := hcut
    cases kq with
    | zero => exact absurd HA.out (by simp [slices_symMergeCmpFunc_Mono__impl_ordered_1.j4])
    | succ kj59 =>
     have H := HA.out
     clear HA
     simp only [slices_symMergeCmpFunc_Mono__impl_ordered_1.j4] at H
     have H' := ax H
     clear H
     go_wp2
     (try simp only [Act.put, List.setIfInBounds_toArray, List.set_cons_zero, List.set_cons_succ])
     go_loopg [20, 21] kj59 (fun kq v20 v21 w' => ∃ (x20_2 : Int) (x21_2 : Int), v20 = .int .i64 x20_2 ∧ v21 = .int .i64 x21_2 ∧ Aside0 (slices_symMergeCmpFunc_Mono__impl_ordered_1.l4 kq l0 a1 a2 a3 (wrap64 ((IntKind.u64.wrap (wrap64 (a1 + a3))) / 2)) (wrap64 ((wrap64 ((IntKind.u64.wrap (wrap64 (a1 + a3))) / 2)) + a2)) x20_2 x21_2 (wrap64 ((wrap64 ((wrap64 ((IntKind.u64.wrap (wrap64 (a1 + a3))) / 2)) + a2)) - 1)) = some r) ∧ Aside0 (kq ≤ kj59) ∧ Aside0 (Kd.N k48 48 w' w0.heap.size (fun k_ => P0_ k_) u9000_ l0) ∧ Aside0 (Kept w w' (fun k_ => Z0_ k_)) ∧ Aside0 (Below w0.heap.size w0 w'))
     case atStart => exact ⟨(x20_59), (x21_59), xr, xr, H', ⟨Nat.le_refl _⟩, ⟨xN HO_0.out⟩, ⟨by repeat (first | (with_reducible first | exact HK.out | apply Kept.alloc | apply Kept.drewN | apply Kept.drew) | exact HK.out)⟩, ⟨xb HB.out⟩⟩
     case round =>
      clear H'
      (try clear c6); (try clear c6b0); (try clear c6b1); (try clear c7); (try clear c7b0); (try clear c9); (try clear c9b0); (try clear c10); (try clear c10b0); (try clear c11); (try clear c11b0); (try clear c12); (try clear c12b0); (try clear c14); (try clear c14b0); (try clear c21); (try clear c21b0); (try clear c23); (try clear c23b0); (try clear c24); (try clear c24b0); (try clear c25); (try clear c25b0); (try clear c26); (try clear c26b0); (try clear p27); (try clear q27); (try clear p28); (try clear q28); (try clear c33); (try clear c33b0); (try clear c33b1); (try clear c34); (try clear c34b0); (try clear c35); (try clear c35b0); (try clear c36); (try clear c36b0); (try clear c38); (try clear c38b0); (try clear c39); (try clear c39b0); (try clear c41); (try clear c41b0); (try clear c48); (try clear c48b0); (try clear c50); (try clear c50b0); (try clear c51); (try clear c51b0); (try clear c52); (try clear c52b0); (try clear c53); (try clear c53b0); (try clear p54); (try clear q54); (try clear p55); (try clear q55); (try clear c61); (try clear c61b0); (try clear hx228_0); (try clear hx228_1); (try clear hx229_0); (try clear hx229_1); (try clear hx231_0); (try clear hx231_1); (try clear hx232_0); (try clear hx232_1); (try clear hx235_0); (try clear hx235_1); (try clear hx236_0); (try clear hx236_1); (try clear hx238_0); (try clear hx238_1); (try clear hx239_0); (try clear hx239_1); (try clear hx27_0); (try clear hx27_1); (try clear hx28_0); (try clear hx28_1); (try clear hx54_0); (try clear hx54_1); (try clear hx55_0); (try clear hx55_1); (try clear p228); (try clear p229); (try clear p231); (try clear p232); (try clear p235); (try clear p236); (try clear p238); (try clear p239); (try clear p27); (try clear p28); (try clear p54); (try clear p55); (try clear q228); (try clear q229); (try clear q231); (try clear q232); (try clear q235); (try clear q236); (try clear q238); (try clear q239); (try clear q27); (try clear q28); (try clear q54); (try clear q55)
      obtain ⟨x20_2, x21_2, rfl, rfl, HA, HK2, HO_0, HK, HB⟩ := hrel
      cases gk with
      | zero => exact absurd HA.out (by simp [slices_symMergeCmpFunc_Mono__impl_ordered_1.l4])
      | succ k2 =>
       have H := HA.out
       clear HA
       simp only [slices_symMergeCmpFunc_Mono__impl_ordered_1.l4] at H
       by_cases c62 : x20_2 < x21_2
       ·as_aux_lemma =>
        rw [if_pos c62] at H
        have c62b0 := decide_eq_true c62
        clear c62
        obtain ⟨ji63, hji63⟩ : ∃ j_ : Int, (wrap64 ((wrap64 ((wrap64 ((wrap64 ((IntKind.u64.wrap (wrap64 (a1 + a3))) / 2)) + a2)) - 1)) - (wrap64 ((IntKind.u64.wrap (wrap64 (x20_2 + x21_2))) / 2)))) = j_ := ⟨_, rfl⟩
        replace H : (if 0 ≤ (ji63) then (if (ji63) < (l0.length : Int) then (if 0 ≤ (wrap64 ((IntKind.u64.wrap (wrap64 (x20_2 + x21_2))) / 2)) then (if (wrap64 ((IntKind.u64.wrap (wrap64 (x20_2 + x21_2))) / 2)) < (l0.length : Int) then ((impl_ordered_1.f k2 ((rd_T48 l0 (ji63)).f0) ((rd_T48 l0 (ji63)).f1) ((rd_T48 l0 (wrap64 ((IntKind.u64.wrap (wrap64 (x20_2 + x21_2))) / 2))).f0) ((rd_T48 l0 (wrap64 ((IntKind.u64.wrap (wrap64 (x20_2 + x21_2))) / 2))).f1)).bind fun t244 => (if t244 < 0 then (slices_symMergeCmpFunc_Mono__impl_ordered_1.l4 k2 l0 a1 a2 a3 (wrap64 ((IntKind.u64.wrap (wrap64 (a1 + a3))) / 2)) (wrap64 ((wrap64 ((IntKind.u64.wrap (wrap64 (a1 + a3))) / 2)) + a2)) x20_2 (wrap64 ((IntKind.u64.wrap (wrap64 (x20_2 + x21_2))) / 2)) (wrap64 ((wrap64 ((wrap64 ((IntKind.u64.wrap (wrap64 (a1 + a3))) / 2)) + a2)) - 1))) else (slices_symMergeCmpFunc_Mono__impl_ordered_1.l4 k2 l0 a1 a2 a3 (wrap64 ((IntKind.u64.wrap (wrap64 (a1 + a3))) / 2)) (wrap64 ((wrap64 ((IntKind.u64.wrap (wrap64 (a1 + a3))) / 2)) + a2)) (wrap64 ((wrap64 ((IntKind.u64.wrap (wrap64 (x20_2 + x21_2))) / 2)) + 1)) x21_2 (wrap64 ((wrap64 ((wrap64 ((IntKind.u64.wrap (wrap64 (a1 + a3))) / 2)) + a2)) - 1))))) else (none)) else (none)) else (none)) else (none)) = some r := by first | (rw [hji63] at H; exact H) | (simp only [hji63] at H ⊢; exact H)
        have hji63w : (IntKind.i64.wrap ((wrap64 ((wrap64 ((wrap64 ((IntKind.u64.wrap (wrap64 (a1 + a3))) / 2)) + a2)) - 1)) - (wrap64 ((IntKind.u64.wrap (wrap64 (x20_2 + x21_2))) / 2)))) = ji63 := (i64_w _).trans hji63
        (try simp only [hji63] at hji8)
        (try simp only [hji63] at hji37)
        (try simp only [hji63] at hji8w)
        (try simp only [hji63] at hji37w)
        by_cases c64 : 0 ≤ (ji63)
        case neg => (rw [if_neg c64] at H; exact absurd H (by simp))
        rw [if_pos c64] at H
        have c64b0 := decide_eq_true c64
        clear c64
        by_cases c65 : (ji63) < (l0.length : Int)
        case neg => (rw [if_neg c65] at H; exact absurd H (by simp))
        rw [if_pos c65] at H
        have c65b0 := decide_eq_true c65
        clear c65
        obtain ⟨ji66, hji66⟩ : ∃ j_ : Int, (wrap64 ((IntKind.u64.wrap (wrap64 (x20_2 + x21_2))) / 2)) = j_ := ⟨_, rfl⟩
        replace H : (if 0 ≤ (ji66) then (if (ji66) < (l0.length : Int) then ((impl_ordered_1.f k2 ((rd_T48 l0 (ji63)).f0) ((rd_T48 l0 (ji63)).f1) ((rd_T48 l0 (ji66)).f0) ((rd_T48 l0 (ji66)).f1)).bind fun t244 => (if t244 < 0 then (slices_symMergeCmpFunc_Mono__impl_ordered_1.l4 k2 l0 a1 a2 a3 (wrap64 ((IntKind.u64.wrap (wrap64 (a1 + a3))) / 2)) (wrap64 ((wrap64 ((IntKind.u64.wrap (wrap64 (a1 + a3))) / 2)) + a2)) x20_2 ji66 (wrap64 ((wrap64 ((wrap64 ((IntKind.u64.wrap (wrap64 (a1 + a3))) / 2)) + a2)) - 1))) else (slices_symMergeCmpFunc_Mono__impl_ordered_1.l4 k2 l0 a1 a2 a3 (wrap64 ((IntKind.u64.wrap (wrap64 (a1 + a3))) / 2)) (wrap64 ((wrap64 ((IntKind.u64.wrap (wrap64 (a1 + a3))) / 2)) + a2)) (wrap64 ((ji66) + 1)) x21_2 (wrap64 ((wrap64 ((wrap64 ((IntKind.u64.wrap (wrap64 (a1 + a3))) / 2)) + a2)) - 1))))) else (none)) else (none)) = some r := by first | (rw [hji66] at H; exact H) | (simp only [hji66] at H ⊢; exact H)
        have hji66w : (IntKind.i64.wrap ((IntKind.u64.wrap (wrap64 (x20_2 + x21_2))) / 2)) = ji66 := (i64_w _).trans hji66
        (try simp only [hji66] at hji8)
        (try simp only [hji66] at hji37)
        (try simp only [hji66] at hji63)
        (try simp only [hji66] at hji8w)
        (try simp only [hji66] at hji37w)
        (try simp only [hji66] at hji63w)
        by_cases c67 : 0 ≤ (ji66)
        case neg => (rw [if_neg c67] at H; exact absurd H (by simp))
        rw [if_pos c67] at H
        have c67b0 := decide_eq_true c67
        clear c67
        by_cases c68 : (ji66) < (l0.length : Int)
        case neg => (rw [if_neg c68] at H; exact absurd H (by simp))
        rw [if_pos c68] at H
        have c68b0 := decide_eq_true c68
        clear c68
        obtain ⟨t244, A69, H⟩ := xI H
        by_cases c70 : t244 < 0
        ·as_aux_lemma =>
         rw [if_pos c70] at H
         have c70b0 := decide_eq_true c70
         clear c70
         have H' := ax H
         clear H
         try go_wp2
         replace HO_0 := ax (Kd.N_drew HO_0.out); replace HK := ax (Kept.drew HK.out); replace HB := ax (below_drew1 HB.out)
         obtain ⟨Ao72, co72, eo72⟩ := Kd.N_slice HO_0.out
         (first | subst eo72 | (injection eo72 with f1_ f2_ f3_; have f4_ := f1_.symm; have f5_ := f3_.symm; clear f1_ f2_ f3_; subst f4_; subst f5_))
         have p242 : 0 ≤ ((ji63) : Int) := xd
         have q242 : (ji63) < (l0.length : Int) := xd
         obtain ⟨ad242, A242_0, c242_0, e242, hx242_0, hx242_1, hl242_0, hi242_0⟩ := at_T48 (Kd.N_reads' HO_0.out).2.2 (ji63) p242 q242
         cases e242
         obtain ⟨ce242, hce242, hMe242, hcc242⟩ := Kd.N_get HO_0.out z48 (ji63) p242 (by first | exact q242 | exact xd | (have e_ := (Kd.N_reads' HO_0.out).1; omega))
         obtain ⟨ua242_0, uc242_0, rfl, ul242_0, ge242_0⟩ := k48_openF hMe242
         have hv242_0 := hcc242 0 _ rfl
         rw [Nat.add_zero] at hv242_0
         replace hv242_0 := Option.some.inj (hv242_0.symm.trans hx242_0)
         injection hv242_0 with hva_ hvn_ hvc_
         rw [hva_] at ge242_0
         rw [hvc_] at ul242_0
         have HL242_0 := ax (show Kd.V (Kd.int .i64) 3 _ w0.heap.size _ _ ((rd_T48 l0 (ji63)).f0) from Kd.V_mk ul242_0 ge242_0)
         clear hva_ hvn_ hvc_ ge242_0 ul242_0 hcc242 hce242
         have HR242_0 := ax hi242_0
         have HC242_0 := ax hl242_0
         clear hi242_0 hl242_0
         replace p242 := eq_true p242
         replace q242 := eq_true q242
         have p243 : 0 ≤ ((ji66) : Int) := xd
         have q243 : (ji66) < (l0.length : Int) := xd
         obtain ⟨ad243, A243_0, c243_0, e243, hx243_0, hx243_1, hl243_0, hi243_0⟩ := at_T48 (Kd.N_reads' HO_0.out).2.2 (ji66) p243 q243
         obtain rfl : ad242 = ad243 := (by injection e243)
         obtain ⟨ce243, hce243, hMe243, hcc243⟩ := Kd.N_get HO_0.out z48 (ji66) p243 (by first | exact q243 | exact xd | (have e_ := (Kd.N_reads' HO_0.out).1; omega))
         obtain ⟨ua243_0, uc243_0, rfl, ul243_0, ge243_0⟩ := k48_openF hMe243
         have hv243_0 := hcc243 0 _ rfl
         rw [Nat.add_zero] at hv243_0
         replace hv243_0 := Option.some.inj (hv243_0.symm.trans hx243_0)
         injection hv243_0 with hva_ hvn_ hvc_
         rw [hva_] at ge243_0
         rw [hvc_] at ul243_0
         have HL243_0 := ax (show Kd.V (Kd.int .i64) 3 _ w0.heap.size _ _ ((rd_T48 l0 (ji66)).f0) from Kd.V_mk ul243_0 ge243_0)
         clear hva_ hvn_ hvc_ ge243_0 ul243_0 hcc243 hce243
         have HR243_0 := ax hi243_0
         have HC243_0 := ax hl243_0
         clear hi243_0 hl243_0
         replace p243 := eq_true p243
         replace q243 := eq_true q243
         refine start_ (n := 14) (S := fun w' => w'.cell? (ad242.add (((ji63)).toNat * 2)) = some (.slice A242_0 ((rd_T48 l0 (ji63)).f0).length c242_0) ∧ w'.cell? ⟨(ad242.add (((ji63)).toNat * 2)).block, (ad242.add (((ji63)).toNat * 2)).off + 1, none⟩ = some (.int .i64 ((rd_T48 l0 (ji63)).f1)) ∧ w'.cell? (ad242.add (((ji66)).toNat * 2)) = some (.slice A243_0 ((rd_T48 l0 (ji66)).f0).length c243_0) ∧ w'.cell? ⟨(ad242.add (((ji66)).toNat * 2)).block, (ad242.add (((ji66)).toNat * 2)).off + 1, none⟩ = some (.int .i64 ((rd_T48 l0 (ji66)).f1))) (ds := []) (xB 14 0) (by kernel_rfl) rfl (by kernel_rfl) ⟨hx242_0, hx242_1, hx243_0, hx243_1⟩ (fun hHeld => ?_); refine with_tabW slices_symMergeCmpFunc_Mono__impl_ordered_1.tab35 slices_symMergeCmpFunc_Mono__impl_ordered_1.bits35 (fun HT_ HW_ => ?_)
         generalize wr.drew = w71 at HO_0 HK HB HL242_0 HL243_0 HR242_0 HR243_0 hx242_0 hx242_1 hx243_0 hx243_1 hHeld ⊢
         (try simp [go_sem, World.setCells, show (k48).sz = 2 from rfl] at hx242_0)
         (try simp [go_sem, World.setCells, show (k48).sz = 2 from rfl] at hx242_1)
         (try simp [go_sem, World.setCells, show (k48).sz = 2 from rfl] at hx243_0)
         (try simp [go_sem, World.setCells, show (k48).sz = 2 from rfl] at hx243_1)
         refine pu (i := 0) (N := some 158) (xB 14 1) HT_.out ?_
         refine pu (i := 1) (N := some 159) (xB 14 3) HT_.out ?_
         refine pu (i := 2) (N := some 160) (xB 14 7) HT_.out ?_
         refine pu (i := 3) (N := some 161) (xB 14 15) HT_.out ?_
         refine pu (i := 4) (N := some 162) (xB 14 31) HT_.out ?_
         refine pu (i := 5) (N := some 163) (xB 14 63) HT_.out ?_
         refine pu (i := 7) (N := some 165) (xB 14 191) HT_.out ?_
         refine pu (i := 8) (N := some 166) (xB 14 447) HT_.out ?_
         refine pu (i := 9) (N := some 167) (xB 14 959) HT_.out ?_
         refine tk (i := 6) (N := some 164) (xB 14 1023) HT_.out HW_.out hHeld ?_
         refine tk (i := 10) (N := some 168) (xB 14 2047) HT_.out HW_.out hHeld ?_
         refine one_ (i := 11) (N := some 169) (xB 14 4095) rfl rfl (one_of HT_.out (by kernel_rfl)) (by decide) (fun K hK => ?_)
         (first | refine goes_ Try.func60 (by kernel_rfl) rfl #[.agg #[.slice A242_0 ((rd_T48 l0 (ji63)).f0).length c242_0, .int .i64 ((rd_T48 l0 (ji63)).f1)], .agg #[.slice A243_0 ((rd_T48 l0 (ji66)).f0).length c243_0, .int .i64 ((rd_T48 l0 (ji66)).f1)]] (by rfl) rfl rfl (by (try simp only [List.map_toArray, List.map_cons, List.map_nil]); first | done | (simp only [hji63, hji66]; rfl) | rfl | (simp only [List.length_drop, List.length_take]; rfl)) ?_ | refine goesD_ Try.func60 (by kernel_rfl) rfl #[.agg #[.slice A242_0 ((rd_T48 l0 (ji63)).f0).length c242_0, .int .i64 ((rd_T48 l0 (ji63)).f1)], .agg #[.slice A243_0 ((rd_T48 l0 (ji66)).f0).length c243_0, .int .i64 ((rd_T48 l0 (ji66)).f1)]] (by rfl) rfl rfl rfl (by (try simp only [List.map_toArray, List.map_cons, List.map_nil]); first | done | (simp only [hji63, hji66]; rfl) | rfl | (simp only [List.length_drop, List.length_take]; rfl)) ?_)
         with_reducible refine (impl_ordered_1.calls k2 _ _ ((rd_T48 l0 (ji63)).f0) ((rd_T48 l0 (ji63)).f1) _ _ ((rd_T48 l0 (ji66)).f0) ((rd_T48 l0 (ji66)).f1) t244 _ ?side1 ?side2 ?side3 ?side4 A69.out).mono ?_
         (case side1 => exact xw HR242_0.out)
         (case side2 => exact HC242_0.out)
         (case side3 => exact xw HR243_0.out)
         (case side4 => exact HC243_0.out)
         rintro e w73 ⟨rfl, hb⟩
         have HS0_ := (hb.cell (World.block_lt_of_cell? _ _ (hHeld.1))).trans (hHeld.1)
         have HS1_ := (hb.cell (World.block_lt_of_cell? _ _ (hHeld.2.1))).trans (hHeld.2.1)
         have HS2_ := (hb.cell (World.block_lt_of_cell? _ _ (hHeld.2.2.1))).trans (hHeld.2.2.1)
         have HS3_ := (hb.cell (World.block_lt_of_cell? _ _ (hHeld.2.2.2))).trans (hHeld.2.2.2)
         refine ⟨_, rfl, ?_⟩
         replace HO_0 := ax (Kd.N_below (xN HO_0.out) hb); replace HL242_0 := yV HL242_0 hb; replace HL243_0 := yV HL243_0 hb; replace HR242_0 := ax (Kd.C_below (xw HR242_0.out) hb); replace HR243_0 := ax (Kd.C_below (xw HR243_0.out) hb); replace HK := ax (Kept.below (S := (fun k_ => Z0_ k_)) (by repeat (first | (with_reducible first | exact HK.out | apply Kept.alloc | apply Kept.drewN | apply Kept.drew) | exact HK.out)) hb); replace HB := yB HB hb
         (try clear hb)
         (try clear hk)
         refine hK.out _ _ ⟨HS0_, HS1_, HS2_, HS3_⟩ (fun hHeld => ?_)
         clear hK K
         refine nm ?_
         refine pu (i := 12) (N := some 170) (xB 14 8191) HT_.out ?_
         refine pu (i := 13) (N := some 171) (xB 14 16383) HT_.out ?_
         refine done_ (done_of HT_.out (by kernel_rfl)) ?_
         try go_wp2
         go_roundg k2
         case measure => have := HJ59.out; have := HK2.out; omega
         case rel => exact ⟨(x20_2), (ji66), xr, (by first | rfl | (simp; done) | (simp only [← hji66] <;> (first | rfl | simp)) | (simp [*]; done)), H', ⟨by have := HJ59.out; have := HK2.out; omega⟩, ⟨xN HO_0.out⟩, ⟨by repeat (first | (with_reducible first | exact HK.out | apply Kept.alloc | apply Kept.drewN | apply Kept.drew) | exact HK.out)⟩, ⟨xb HB.out⟩⟩
        ·as_aux_lemma =>
         rw [if_neg c70] at H
         have c70b0 := decide_eq_false c70
         clear c70
         have H' := ax H
         clear H
         try go_wp2
         replace HO_0 := ax (Kd.N_drew HO_0.out); replace HK := ax (Kept.drew HK.out); replace HB := ax (below_drew1 HB.out)
         obtain ⟨Ao75, co75, eo75⟩ := Kd.N_slice HO_0.out
         (first | subst eo75 | (injection eo75 with f1_ f2_ f3_; have f4_ := f1_.symm; have f5_ := f3_.symm; clear f1_ f2_ f3_; subst f4_; subst f5_))
         have p242 : 0 ≤ ((ji63) : Int) := xd
         have q242 : (ji63) < (l0.length : Int) := xd
         obtain ⟨ad242, A242_0, c242_0, e242, hx242_0, hx242_1, hl242_0, hi242_0⟩ := at_T48 (Kd.N_reads' HO_0.out).2.2 (ji63) p242 q242
         cases e242
         obtain ⟨ce242, hce242, hMe242, hcc242⟩ := Kd.N_get HO_0.out z48 (ji63) p242 (by first | exact q242 | exact xd | (have e_ := (Kd.N_reads' HO_0.out).1; omega))
         obtain ⟨ua242_0, uc242_0, rfl, ul242_0, ge242_0⟩ := k48_openF hMe242
         have hv242_0 := hcc242 0 _ rfl
         rw [Nat.add_zero] at hv242_0
         replace hv242_0 := Option.some.inj (hv242_0.symm.trans hx242_0)
         injection hv242_0 with hva_ hvn_ hvc_
         rw [hva_] at ge242_0
         rw [hvc_] at ul242_0
         have HL242_0 := ax (show Kd.V (Kd.int .i64) 3 _ w0.heap.size _ _ ((rd_T48 l0 (ji63)).f0) from Kd.V_mk ul242_0 ge242_0)
         clear hva_ hvn_ hvc_ ge242_0 ul242_0 hcc242 hce242
         have HR242_0 := ax hi242_0
         have HC242_0 := ax hl242_0
         clear hi242_0 hl242_0
         replace p242 := eq_true p242
         replace q242 := eq_true q242
         have p243 : 0 ≤ ((ji66) : Int) := xd
         have q243 : (ji66) < (l0.length : Int) := xd
         obtain ⟨ad243, A243_0, c243_0, e243, hx243_0, hx243_1, hl243_0, hi243_0⟩ := at_T48 (Kd.N_reads' HO_0.out).2.2 (ji66) p243 q243
         obtain rfl : ad242 = ad243 := (by injection e243)
         obtain ⟨ce243, hce243, hMe243, hcc243⟩ := Kd.N_get HO_0.out z48 (ji66) p243 (by first | exact q243 | exact xd | (have e_ := (Kd.N_reads' HO_0.out).1; omega))
         obtain ⟨ua243_0, uc243_0, rfl, ul243_0, ge243_0⟩ := k48_openF hMe243
         have hv243_0 := hcc243 0 _ rfl
         rw [Nat.add_zero] at hv243_0
         replace hv243_0 := Option.some.inj (hv243_0.symm.trans hx243_0)
         injection hv243_0 with hva_ hvn_ hvc_
         rw [hva_] at ge243_0
         rw [hvc_] at ul243_0
         have HL243_0 := ax (show Kd.V (Kd.int .i64) 3 _ w0.heap.size _ _ ((rd_T48 l0 (ji66)).f0) from Kd.V_mk ul243_0 ge243_0)
         clear hva_ hvn_ hvc_ ge243_0 ul243_0 hcc243 hce243
         have HR243_0 := ax hi243_0
         have HC243_0 := ax hl243_0
         clear hi243_0 hl243_0
         replace p243 := eq_true p243
         replace q243 := eq_true q243
         refine start_ (n := 14) (S := fun w' => w'.cell? (ad242.add (((ji63)).toNat * 2)) = some (.slice A242_0 ((rd_T48 l0 (ji63)).f0).length c242_0) ∧ w'.cell? ⟨(ad242.add (((ji63)).toNat * 2)).block, (ad242.add (((ji63)).toNat * 2)).off + 1, none⟩ = some (.int .i64 ((rd_T48 l0 (ji63)).f1)) ∧ w'.cell? (ad242.add (((ji66)).toNat * 2)) = some (.slice A243_0 ((rd_T48 l0 (ji66)).f0).length c243_0) ∧ w'.cell? ⟨(ad242.add (((ji66)).toNat * 2)).block, (ad242.add (((ji66)).toNat * 2)).off + 1, none⟩ = some (.int .i64 ((rd_T48 l0 (ji66)).f1))) (ds := []) (xB 14 0) (by kernel_rfl) rfl (by kernel_rfl) ⟨hx242_0, hx242_1, hx243_0, hx243_1⟩ (fun hHeld => ?_); refine with_tabW slices_symMergeCmpFunc_Mono__impl_ordered_1.tab35 slices_symMergeCmpFunc_Mono__impl_ordered_1.bits35 (fun HT_ HW_ => ?_)
         generalize wr.drew = w74 at HO_0 HK HB HL242_0 HL243_0 HR242_0 HR243_0 hx242_0 hx242_1 hx243_0 hx243_1 hHeld ⊢
         (try simp [go_sem, World.setCells, show (k48).sz = 2 from rfl] at hx242_0)
         (try simp [go_sem, World.setCells, show (k48).sz = 2 from rfl] at hx242_1)
         (try simp [go_sem, World.setCells, show (k48).sz = 2 from rfl] at hx243_0)
         (try simp [go_sem, World.setCells, show (k48).sz = 2 from rfl] at hx243_1)
         refine pu (i := 0) (N := some 158) (xB 14 1) HT_.out ?_
         refine pu (i := 1) (N := some 159) (xB 14 3) HT_.out ?_
         refine pu (i := 2) (N := some 160) (xB 14 7) HT_.out ?_
         refine pu (i := 3) (N := some 161) (xB 14 15) HT_.out ?_
         refine pu (i := 4) (N := some 162) (xB 14 31) HT_.out ?_
         refine pu (i := 5) (N := some 163) (xB 14 63) HT_.out ?_
         refine pu (i := 7) (N := some 165) (xB 14 191) HT_.out ?_
         refine pu (i := 8) (N := some 166) (xB 14 447) HT_.out ?_
         refine pu (i := 9) (N := some 167) (xB 14 959) HT_.out ?_
         refine tk (i := 6) (N := some 164) (xB 14 1023) HT_.out HW_.out hHeld ?_
         refine tk (i := 10) (N := some 168) (xB 14 2047) HT_.out HW_.out hHeld ?_
         refine one_ (i := 11) (N := some 169) (xB 14 4095) rfl rfl (one_of HT_.out (by kernel_rfl)) (by decide) (fun K hK => ?_)
         (first | refine goes_ Try.func60 (by kernel_rfl) rfl #[.agg #[.slice A242_0 ((rd_T48 l0 (ji63)).f0).length c242_0, .int .i64 ((rd_T48 l0 (ji63)).f1)], .agg #[.slice A243_0 ((rd_T48 l0 (ji66)).f0).length c243_0, .int .i64 ((rd_T48 l0 (ji66)).f1)]] (by rfl) rfl rfl (by (try simp only [List.map_toArray, List.map_cons, List.map_nil]); first | done | (simp only [hji63, hji66]; rfl) | rfl | (simp only [List.length_drop, List.length_take]; rfl)) ?_ | refine goesD_ Try.func60 (by kernel_rfl) rfl #[.agg #[.slice A242_0 ((rd_T48 l0 (ji63)).f0).length c242_0, .int .i64 ((rd_T48 l0 (ji63)).f1)], .agg #[.slice A243_0 ((rd_T48 l0 (ji66)).f0).length c243_0, .int .i64 ((rd_T48 l0 (ji66)).f1)]] (by rfl) rfl rfl rfl (by (try simp only [List.map_toArray, List.map_cons, List.map_nil]); first | done | (simp only [hji63, hji66]; rfl) | rfl | (simp only [List.length_drop, List.length_take]; rfl)) ?_)
         with_reducible refine (impl_ordered_1.calls k2 _ _ ((rd_T48 l0 (ji63)).f0) ((rd_T48 l0 (ji63)).f1) _ _ ((rd_T48 l0 (ji66)).f0) ((rd_T48 l0 (ji66)).f1) t244 _ ?side1 ?side2 ?side3 ?side4 A69.out).mono ?_
         (case side1 => exact xw HR242_0.out)
         (case side2 => exact HC242_0.out)
         (case side3 => exact xw HR243_0.out)
         (case side4 => exact HC243_0.out)
         rintro e w76 ⟨rfl, hb⟩
         have HS0_ := (hb.cell (World.block_lt_of_cell? _ _ (hHeld.1))).trans (hHeld.1)
         have HS1_ := (hb.cell (World.block_lt_of_cell? _ _ (hHeld.2.1))).trans (hHeld.2.1)
         have HS2_ := (hb.cell (World.block_lt_of_cell? _ _ (hHeld.2.2.1))).trans (hHeld.2.2.1)
         have HS3_ := (hb.cell (World.block_lt_of_cell? _ _ (hHeld.2.2.2))).trans (hHeld.2.2.2)
         refine ⟨_, rfl, ?_⟩
         replace HO_0 := ax (Kd.N_below (xN HO_0.out) hb); replace HL242_0 := yV HL242_0 hb; replace HL243_0 := yV HL243_0 hb; replace HR242_0 := ax (Kd.C_below (xw HR242_0.out) hb); replace HR243_0 := ax (Kd.C_below (xw HR243_0.out) hb); replace HK := ax (Kept.below (S := (fun k_ => Z0_ k_)) (by repeat (first | (with_reducible first | exact HK.out | apply Kept.alloc | apply Kept.drewN | apply Kept.drew) | exact HK.out)) hb); replace HB := yB HB hb
         (try clear hb)
         (try clear hk)
         refine hK.out _ _ ⟨HS0_, HS1_, HS2_, HS3_⟩ (fun hHeld => ?_)
         clear hK K
         refine nm ?_
         refine pu (i := 12) (N := some 170) (xB 14 8191) HT_.out ?_
         refine pu (i := 13) (N := some 171) (xB 14 16383) HT_.out ?_
         refine done_ (done_of HT_.out (by kernel_rfl)) ?_
         try go_wp2
         go_roundg k2
         case measure => have := HJ59.out; have := HK2.out; omega
         case rel => exact ⟨(wrap64 ((ji66) + 1)), (x21_2), (by first | rfl | (simp; done) | (simp only [← hji66] <;> (first | rfl | simp)) | (simp [*]; done)), xr, H', ⟨by have := HJ59.out; have := HK2.out; omega⟩, ⟨xN HO_0.out⟩, ⟨by repeat (first | (with_reducible first | exact HK.out | apply Kept.alloc | apply Kept.drewN | apply Kept.drew) | exact HK.out)⟩, ⟨xb HB.out⟩⟩
       ·as_aux_lemma =>
        rw [if_neg c62] at H
        have c62b0 := decide_eq_false c62
        clear c62
        have HC77 := ax H
        clear H
        go_upto_region 39 with (fail)
        go_cut [185] (fun v185 wc => ∃ (kq : Nat) (x185_76 : Bool), v185 = .bool x185_76 ∧ Aside0 (slices_symMergeCmpFunc_Mono__impl_ordered_1.j6 kq l0 a1 a2 a3 (wrap64 ((IntKind.u64.wrap (wrap64 (a1 + a3))) / 2)) x20_2 (wrap64 ((wrap64 ((wrap64 ((IntKind.u64.wrap (wrap64 (a1 + a3))) / 2)) + a2)) - x20_2)) x185_76 = some r) ∧ Aside0 (kq ≤ k2) ∧ Aside0 (Kd.N k48 48 wc w0.heap.size (fun k_ => P0_ k_) u9000_ l0) ∧ Aside0 (Kept w wc (fun k_ => Z0_ k_)) ∧ Aside0 (Below w0.heap.size w0 wc))
        case first =>
         as_aux_lemma =>
         have H := HC77.out
         clear HC77
         by_cases c78 : x20_2 < a2
         ·rw [if_pos c78] at H
          have c78b0 := decide_eq_true c78
          clear c78
          (first | rw [c78b0] | (simp only [i64_w, i32_w]; rw [c78b0]) | skip)
          have H' := ax H
          clear H
          go_wp2
          go_meet
          case rel => exact ⟨_, (decide (a2 < (wrap64 ((wrap64 ((wrap64 ((IntKind.u64.wrap (wrap64 (a1 + a3))) / 2)) + a2)) - x20_2)))), xr, H', ⟨by have := HJ59.out; have := HK2.out; first | omega | exact Nat.le_refl _⟩, ⟨xN HO_0.out⟩, ⟨by repeat (first | (with_reducible first | exact HK.out | apply Kept.alloc | apply Kept.drewN | apply Kept.drew) | exact HK.out)⟩, ⟨xb HB.out⟩⟩
         ·rw [if_neg c78] at H
          have c78b0 := decide_eq_false c78
          clear c78
          (first | rw [c78b0] | (simp only [i64_w, i32_w]; rw [c78b0]) | skip)
          have H' := ax H
          clear H
          go_wp2
          go_meet
          case rel => exact ⟨_, (false), xr, H', ⟨by have := HJ59.out; have := HK2.out; first | omega | exact Nat.le_refl _⟩, ⟨xN HO_0.out⟩, ⟨by repeat (first | (with_reducible first | exact HK.out | apply Kept.alloc | apply Kept.drewN | apply Kept.drew) | exact HK.out)⟩, ⟨xb HB.out⟩⟩
        case rest =>
         as_aux_lemma =>
         clear HC77
         (try clear c6); (try clear c7); (try clear c24); (try clear p27); (try clear q27); (try clear p28); (try clear q28); (try clear c35); (try clear c35b0); (try clear c36); (try clear c36b0); (try clear c38); (try clear c38b0); (try clear c39); (try clear c39b0); (try clear c41); (try clear c41b0); (try clear c48); (try clear c48b0); (try clear c50); (try clear c50b0); (try clear c51); (try clear c51b0); (try clear c52); (try clear c52b0); (try clear c53); (try clear c53b0); (try clear p54); (try clear q54); (try clear p55); (try clear q55); (try clear c61); (try clear c61b0); (try clear c62); (try clear c62b0); (try clear c64); (try clear c64b0); (try clear c65); (try clear c65b0); (try clear c67); (try clear c67b0); (try clear c68); (try clear c68b0); (try clear c70); (try clear c70b0); (try clear c78); (try clear c78b0); (try clear hx228_0); (try clear hx228_1); (try clear hx229_0); (try clear hx229_1); (try clear hx231_0); (try clear hx231_1); (try clear hx232_0); (try clear hx232_1); (try clear hx235_0); (try clear hx235_1); (try clear hx236_0); (try clear hx236_1); (try clear hx238_0); (try clear hx238_1); (try clear hx239_0); (try clear hx239_1); (try clear hx242_0); (try clear hx242_1); (try clear hx243_0); (try clear hx243_1); (try clear hx27_0); (try clear hx27_1); (try clear hx28_0); (try clear hx28_1); (try clear hx54_0); (try clear hx54_1); (try clear hx55_0); (try clear hx55_1); (try clear p228); (try clear p229); (try clear p231); (try clear p232); (try clear p235); (try clear p236); (try clear p238); (try clear p239); (try clear p242); (try clear p243); (try clear p27); (try clear p28); (try clear p54); (try clear p55); (try clear q228); (try clear q229); (try clear q231); (try clear q232); (try clear q235); (try clear q236); (try clear q238); (try clear q239); (try clear q242); (try clear q243); (try clear q27); (try clear q28); (try clear q54); (try clear q55)
         obtain ⟨kq, x185_76, rfl, HA, HJ76, HO_0, HK, HB⟩ := hcut
         cases kq with
         | zero => exact absurd HA.out (by simp [slices_symMergeCmpFunc_Mono__impl_ordered_1.j6])
         | succ kj76 =>
          have H := HA.out
          clear HA
          simp only [slices_symMergeCmpFunc_Mono__impl_ordered_1.j6] at H
          have HC79 := ax H
          clear H
          go_upto_if 185 with (fail)
          go_cut [] (fun wc => ∃ (kq : Nat) (x0_78 : List (S48)), Aside0 (slices_symMergeCmpFunc_Mono__impl_ordered_1.j7 kq x0_78 a1 a3 (wrap64 ((IntKind.u64.wrap (wrap64 (a1 + a3))) / 2)) x20_2 (wrap64 ((wrap64 ((wrap64 ((IntKind.u64.wrap (wrap64 (a1 + a3))) / 2)) + a2)) - x20_2)) = some r) ∧ Aside0 (kq ≤ kj76) ∧ Aside0 (Kd.N k48 48 wc w0.heap.size (fun k_ => P0_ k_) u9000_ x0_78) ∧ Aside0 (Kept w wc (fun k_ => Z0_ k_)) ∧ Aside0 (Below w0.heap.size w0 wc))
          case first =>
           as_aux_lemma =>
           have H := HC79.out
           clear HC79
           by_cases c80 : x185_76 = true
           ·subst c80
            rw [if_pos rfl] at H
            obtain ⟨t245, A81, H⟩ := xI H
            have H' := ax H
            clear H
            obtain ⟨Ao82, co82, eo82⟩ := Kd.N_slice HO_0.out
            subst eo82
            go_wp2_with (first | ((with_reducible refine gate_callee (f := 94) rfl ?_); refine goesL_ (some 191) rfl rfl Try.func94 (by kernel_rfl) rfl #[.slice Ao82 l0.length co82, .int .i64 x20_2, .int .i64 a2, .int .i64 (wrap64 ((wrap64 ((wrap64 ((IntKind.u64.wrap (wrap64 (a1 + a3))) / 2)) + a2)) - x20_2)), .func (.func 60) #[] #[]] rfl xm ?_; (with_reducible refine (slices_rotateCmpFunc_Mono__impl_ordered_1.calls kj76 (fun k_ => P0_ k_) (fun k_ => some k_ = (.slice Ao82 l0.length co82 : Value).ownBlock) (.slice Ao82 l0.length co82) l0 x20_2 a2 (wrap64 ((wrap64 ((wrap64 ((IntKind.u64.wrap (wrap64 (a1 + a3))) / 2)) + a2)) - x20_2))  t245 w0 _ ?side1 ?side2 ?side3 A81.out).mono ?_); (case side1 => exact xb HB.out); (case side2 => exact HO_0.out); (case side3 => exact fun k_ e_ => e_.symm); rintro e w83 ⟨rfl, hy0, hb, hkp⟩; refine ⟨_, rfl, ?_⟩; replace HO_0 := ax (hy0); replace HK := ax (Kept.then_ (S := (fun k_ => Z0_ k_)) (by repeat (first | (with_reducible first | exact HK.out | apply Kept.alloc | apply Kept.drewN | apply Kept.drew) | exact HK.out)) hkp (fun k_ hs_ => (fun e_ => (by first | exact .inl (HZ0.out k_ e_.symm) | exact .inl (xown_z HZ0.out (e_.symm)))) hs_)); replace HB := ax (hb); (try clear hb); (try clear hkp); (try clear hy0)))
            go_meet
            case rel => exact ⟨_, (t245), H', ⟨by have := HJ59.out; have := HK2.out; have := HJ76.out; first | omega | exact Nat.le_refl _⟩, ⟨xN HO_0.out⟩, ⟨by repeat (first | (with_reducible first | exact HK.out | apply Kept.alloc | apply Kept.drewN | apply Kept.drew) | exact HK.out)⟩, ⟨xb HB.out⟩⟩
           ·replace c80 := Bool.eq_false_iff.mpr c80
            subst c80
            rw [if_neg (show ¬ (false = true) by decide)] at H
            have H' := ax H
            clear H
            go_wp2
            go_meet
            case rel => exact ⟨_, (l0), H', ⟨by have := HJ59.out; have := HK2.out; have := HJ76.out; first | omega | exact Nat.le_refl _⟩, ⟨xN HO_0.out⟩, ⟨by repeat (first | (with_reducible first | exact HK.out | apply Kept.alloc | apply Kept.drewN | apply Kept.drew) | exact HK.out)⟩, ⟨xb HB.out⟩⟩
          case rest =>
           as_aux_lemma =>
           clear HC79
           (try clear c6); (try clear c7); (try clear c9); (try clear c24); (try clear p27); (try clear q27); (try clear p28); (try clear q28); (try clear c35); (try clear c35b0); (try clear c36); (try clear c36b0); (try clear c38); (try clear c38b0); (try clear c39); (try clear c39b0); (try clear c41); (try clear c41b0); (try clear c48); (try clear c48b0); (try clear c50); (try clear c50b0); (try clear c51); (try clear c51b0); (try clear c52); (try clear c52b0); (try clear c53); (try clear c53b0); (try clear p54); (try clear q54); (try clear p55); (try clear q55); (try clear c61); (try clear c61b0); (try clear c62); (try clear c62b0); (try clear c64); (try clear c64b0); (try clear c65); (try clear c65b0); (try clear c67); (try clear c67b0); (try clear c68); (try clear c68b0); (try clear c70); (try clear c70b0); (try clear c78); (try clear c78b0); (try clear c80); (try clear hx228_0); (try clear hx228_1); (try clear hx229_0); (try clear hx229_1); (try clear hx231_0); (try clear hx231_1); (try clear hx232_0); (try clear hx232_1); (try clear hx235_0); (try clear hx235_1); (try clear hx236_0); (try clear hx236_1); (try clear hx238_0); (try clear hx238_1); (try clear hx239_0); (try clear hx239_1); (try clear hx242_0); (try clear hx242_1); (try clear hx243_0); (try clear hx243_1); (try clear hx27_0); (try clear hx27_1); (try clear hx28_0); (try clear hx28_1); (try clear hx54_0); (try clear hx54_1); (try clear hx55_0); (try clear hx55_1); (try clear p228); (try clear p229); (try clear p231); (try clear p232); (try clear p235); (try clear p236); (try clear p238); (try clear p239); (try clear p242); (try clear p243); (try clear p27); (try clear p28); (try clear p54); (try clear p55); (try clear q228); (try clear q229); (try clear q231); (try clear q232); (try clear q235); (try clear q236); (try clear q238); (try clear q239); (try clear q242); (try clear q243); (try clear q27); (try clear q28); (try clear q54); (try clear q55)
           obtain ⟨kq, x0_78, HA, HJ78, HO_0, HK, HB⟩ := hcut
           cases kq with
           | zero => exact absurd HA.out (by simp [slices_symMergeCmpFunc_Mono__impl_ordered_1.j7])
           | succ kj78 =>
            have H := HA.out
            clear HA
            simp only [slices_symMergeCmpFunc_Mono__impl_ordered_1.j7] at H
            have HC84 := ax H
            clear H
            go_upto_region 41 with (fail)
            go_cut [199] (fun v199 wc => ∃ (kq : Nat) (x199_83 : Bool), v199 = .bool x199_83 ∧ Aside0 (slices_symMergeCmpFunc_Mono__impl_ordered_1.j8 kq x0_78 a1 a3 (wrap64 ((IntKind.u64.wrap (wrap64 (a1 + a3))) / 2)) x20_2 (wrap64 ((wrap64 ((wrap64 ((IntKind.u64.wrap (wrap64 (a1 + a3))) / 2)) + a2)) - x20_2)) x199_83 = some r) ∧ Aside0 (kq ≤ kj78) ∧ Aside0 (Kd.N k48 48 wc w0.heap.size (fun k_ => P0_ k_) u9000_ x0_78) ∧ Aside0 (Kept w wc (fun k_ => Z0_ k_)) ∧ Aside0 (Below w0.heap.size w0 wc))
            case first =>
             as_aux_lemma =>
             have H := HC84.out
             clear HC84
             by_cases c85 : a1 < x20_2
             ·rw [if_pos c85] at H
              have c85b0 := decide_eq_true c85
              clear c85
              (first | rw [c85b0] | (simp only [i64_w, i32_w]; rw [c85b0]) | skip)
              have H' := ax H
              clear H
              go_wp2
              go_meet
              case rel => exact ⟨_, (decide (x20_2 < (wrap64 ((IntKind.u64.wrap (wrap64 (a1 + a3))) / 2)))), xr, H', ⟨by have := HJ59.out; have := HK2.out; have := HJ76.out; have := HJ78.out; first | omega | exact Nat.le_refl _⟩, ⟨xN HO_0.out⟩, ⟨by repeat (first | (with_reducible first | exact HK.out | apply Kept.alloc | apply Kept.drewN | apply Kept.drew) | exact HK.out)⟩, ⟨xb HB.out⟩⟩
             ·rw [if_neg c85] at H
              have c85b0 := decide_eq_false c85
              clear c85
              (first | rw [c85b0] | (simp only [i64_w, i32_w]; rw [c85b0]) | skip)
              have H' := ax H
              clear H
              go_wp2
              go_meet
              case rel => exact ⟨_, (false), xr, H', ⟨by have := HJ59.out; have := HK2.out; have := HJ76.out; have := HJ78.out; first | omega | exact Nat.le_refl _⟩, ⟨xN HO_0.out⟩, ⟨by repeat (first | (with_reducible first | exact HK.out | apply Kept.alloc | apply Kept.drewN | apply Kept.drew) | exact HK.out)⟩, ⟨xb HB.out⟩⟩
            case rest =>
             as_aux_lemma =>
             clear HC84
             (try clear c6); (try clear c7); (try clear c9); (try clear c24); (try clear p27); (try clear q27); (try clear p28); (try clear q28); (try clear c35); (try clear c35b0); (try clear c36); (try clear c36b0); (try clear c38); (try clear c38b0); (try clear c39); (try clear c39b0); (try clear c41); (try clear c41b0); (try clear c48); (try clear c48b0); (try clear c50); (try clear c50b0); (try clear c51); (try clear c51b0); (try clear c52); (try clear c52b0); (try clear c53); (try clear c53b0); (try clear p54); (try clear q54); (try clear p55); (try clear q55); (try clear c61); (try clear c61b0); (try clear c62); (try clear c62b0); (try clear c64); (try clear c64b0); (try clear c65); (try clear c65b0); (try clear c67); (try clear c67b0); (try clear c68); (try clear c68b0); (try clear c70); (try clear c70b0); (try clear c78); (try clear c78b0); (try clear c80); (try clear c85); (try clear c85b0); (try clear hx228_0); (try clear hx228_1); (try clear hx229_0); (try clear hx229_1); (try clear hx231_0); (try clear hx231_1); (try clear hx232_0); (try clear hx232_1); (try clear hx235_0); (try clear hx235_1); (try clear hx236_0); (try clear hx236_1); (try clear hx238_0); (try clear hx238_1); (try clear hx239_0); (try clear hx239_1); (try clear hx242_0); (try clear hx242_1); (try clear hx243_0); (try clear hx243_1); (try clear hx27_0); (try clear hx27_1); (try clear hx28_0); (try clear hx28_1); (try clear hx54_0); (try clear hx54_1); (try clear hx55_0); (try clear hx55_1); (try clear p228); (try clear p229); (try clear p231); (try clear p232); (try clear p235); (try clear p236); (try clear p238); (try clear p239); (try clear p242); (try clear p243); (try clear p27); (try clear p28); (try clear p54); (try clear p55); (try clear q228); (try clear q229); (try clear q231); (try clear q232); (try clear q235); (try clear q236); (try clear q238); (try clear q239); (try clear q242); (try clear q243); (try clear q27); (try clear q28); (try clear q54); (try clear q55)
             obtain ⟨kq, x199_83, rfl, HA, HJ83, HO_0, HK, HB⟩ := hcut
             cases kq with
             | zero => exact absurd HA.out (by simp [slices_symMergeCmpFunc_Mono__impl_ordered_1.j8])
             | succ kj83 =>
              have H := HA.out
              clear HA
              simp only [slices_symMergeCmpFunc_Mono__impl_ordered_1.j8] at H
              by_cases c86 : x199_83 = true
              ·as_aux_lemma =>
               subst c86
               rw [if_pos rfl] at H
               obtain ⟨t246, A87, H⟩ := xI H
               by_cases c88 : (wrap64 ((IntKind.u64.wrap (wrap64 (a1 + a3))) / 2)) < (wrap64 ((wrap64 ((wrap64 ((IntKind.u64.wrap (wrap64 (a1 + a3))) / 2)) + a2)) - x20_2))
               ·rw [if_pos c88] at H
                have c88b0 := decide_eq_true c88
                clear c88
                by_cases c89 : (wrap64 ((wrap64 ((wrap64 ((IntKind.u64.wrap (wrap64 (a1 + a3))) / 2)) + a2)) - x20_2)) < a3
                ·as_aux_lemma =>
                 rw [if_pos c89] at H
                 have c89b0 := decide_eq_true c89
                 clear c89
                 obtain ⟨t247, A90, H⟩ := xI H
                 obtain rfl := Option.some.inj H
                 obtain ⟨Ao91, co91, eo91⟩ := Kd.N_slice HO_0.out
                 subst eo91
                 go_wp2_with (first | ((with_reducible refine gate_callee (f := 91) rfl ?_); refine goesL_ (some 205) rfl rfl Try.func91 (by kernel_rfl) rfl #[.slice Ao91 x0_78.length co91, .int .i64 a1, .int .i64 x20_2, .int .i64 (wrap64 ((IntKind.u64.wrap (wrap64 (a1 + a3))) / 2)), .func (.func 60) #[] #[]] rfl xm ?_; (with_reducible refine (ih kj83 (by have := HJ59.out; have := HK2.out; have := HJ76.out; have := HJ78.out; have := HJ83.out; omega) (fun k_ => P0_ k_) (fun k_ => some k_ = (.slice Ao91 x0_78.length co91 : Value).ownBlock) (.slice Ao91 x0_78.length co91) x0_78 a1 x20_2 (wrap64 ((IntKind.u64.wrap (wrap64 (a1 + a3))) / 2))  t246 w0 _ ?side1 ?side2 ?side3 A87.out).mono ?_); (case side1 => exact xb HB.out); (case side2 => exact HO_0.out); (case side3 => exact fun k_ e_ => e_.symm); rintro e w92 ⟨rfl, hy0, hb, hkp⟩; refine ⟨_, rfl, ?_⟩; replace HO_0 := ax (hy0); replace HK := ax (Kept.then_ (S := (fun k_ => Z0_ k_)) (by repeat (first | (with_reducible first | exact HK.out | apply Kept.alloc | apply Kept.drewN | apply Kept.drew) | exact HK.out)) hkp (fun k_ hs_ => (fun e_ => (by first | exact .inl (HZ0.out k_ e_.symm) | exact .inl (xown_z HZ0.out (e_.symm)))) hs_)); replace HB := ax (hb); (try clear hb); (try clear hkp); (try clear hy0)) | ((with_reducible refine gate_callee (f := 91) rfl ?_); refine goesL_ (some 219) rfl rfl Try.func91 (by kernel_rfl) rfl #[.slice Ao91 x0_78.length co91, .int .i64 (wrap64 ((IntKind.u64.wrap (wrap64 (a1 + a3))) / 2)), .int .i64 (wrap64 ((wrap64 ((wrap64 ((IntKind.u64.wrap (wrap64 (a1 + a3))) / 2)) + a2)) - x20_2)), .int .i64 a3, .func (.func 60) #[] #[]] rfl xm ?_; (with_reducible refine (ih kj83 (by have := HJ59.out; have := HK2.out; have := HJ76.out; have := HJ78.out; have := HJ83.out; omega) (fun k_ => P0_ k_) (fun k_ => some k_ = (.slice Ao91 x0_78.length co91 : Value).ownBlock) (.slice Ao91 x0_78.length co91) t246 (wrap64 ((IntKind.u64.wrap (wrap64 (a1 + a3))) / 2)) (wrap64 ((wrap64 ((wrap64 ((IntKind.u64.wrap (wrap64 (a1 + a3))) / 2)) + a2)) - x20_2)) a3  t247 w0 _ ?side1 ?side2 ?side3 A90.out).mono ?_); (case side1 => exact xb HB.out); (case side2 => exact HO_0.out); (case side3 => exact fun k_ e_ => e_.symm); rintro e w93 ⟨rfl, hy0, hb, hkp⟩; refine ⟨_, rfl, ?_⟩; replace HO_0 := ax (hy0); replace HK := ax (Kept.then_ (S := (fun k_ => Z0_ k_)) (by repeat (first | (with_reducible first | exact HK.out | apply Kept.alloc | apply Kept.drewN | apply Kept.drew) | exact HK.out)) hkp (fun k_ hs_ => (fun e_ => (by first | exact .inl (HZ0.out k_ e_.symm) | exact .inl (xown_z HZ0.out (e_.symm)))) hs_)); replace HB := ax (hb); (try clear hb); (try clear hkp); (try clear hy0)))
                 first | go_end0 | ((try simp only [Exit.inBlock, Exit.then]); refine bodyPost_ret (results_none rfl _ _ _) rfl ?_)
                 exact ⟨xe, xN HO_0.out, xb HB.out, by repeat (first | (with_reducible first | exact HK.out | apply Kept.alloc | apply Kept.drewN | apply Kept.drew) | exact HK.out)⟩
                ·rw [if_neg c89] at H
                 have c89b0 := decide_eq_false c89
                 clear c89
                 obtain rfl := Option.some.inj H
                 obtain ⟨Ao94, co94, eo94⟩ := Kd.N_slice HO_0.out
                 subst eo94
                 go_wp2_with (first | ((with_reducible refine gate_callee (f := 91) rfl ?_); refine goesL_ (some 205) rfl rfl Try.func91 (by kernel_rfl) rfl #[.slice Ao94 x0_78.length co94, .int .i64 a1, .int .i64 x20_2, .int .i64 (wrap64 ((IntKind.u64.wrap (wrap64 (a1 + a3))) / 2)), .func (.func 60) #[] #[]] rfl xm ?_; (with_reducible refine (ih kj83 (by have := HJ59.out; have := HK2.out; have := HJ76.out; have := HJ78.out; have := HJ83.out; omega) (fun k_ => P0_ k_) (fun k_ => some k_ = (.slice Ao94 x0_78.length co94 : Value).ownBlock) (.slice Ao94 x0_78.length co94) x0_78 a1 x20_2 (wrap64 ((IntKind.u64.wrap (wrap64 (a1 + a3))) / 2))  t246 w0 _ ?side1 ?side2 ?side3 A87.out).mono ?_); (case side1 => exact xb HB.out); (case side2 => exact HO_0.out); (case side3 => exact fun k_ e_ => e_.symm); rintro e w95 ⟨rfl, hy0, hb, hkp⟩; refine ⟨_, rfl, ?_⟩; replace HO_0 := ax (hy0); replace HK := ax (Kept.then_ (S := (fun k_ => Z0_ k_)) (by repeat (first | (with_reducible first | exact HK.out | apply Kept.alloc | apply Kept.drewN | apply Kept.drew) | exact HK.out)) hkp (fun k_ hs_ => (fun e_ => (by first | exact .inl (HZ0.out k_ e_.symm) | exact .inl (xown_z HZ0.out (e_.symm)))) hs_)); replace HB := ax (hb); (try clear hb); (try clear hkp); (try clear hy0)))
                 first | go_end0 | ((try simp only [Exit.inBlock, Exit.then]); refine bodyPost_ret (results_none rfl _ _ _) rfl ?_)
                 exact ⟨xe, xN HO_0.out, xb HB.out, by repeat (first | (with_reducible first | exact HK.out | apply Kept.alloc | apply Kept.drewN | apply Kept.drew) | exact HK.out)⟩
               ·rw [if_neg c88] at H
                have c88b0 := decide_eq_false c88
                clear c88
                obtain rfl := Option.some.inj H
                obtain ⟨Ao96, co96, eo96⟩ := Kd.N_slice HO_0.out
                subst eo96
                go_wp2_with (first | ((with_reducible refine gate_callee (f := 91) rfl ?_); refine goesL_ (some 205) rfl rfl Try.func91 (by kernel_rfl) rfl #[.slice Ao96 x0_78.length co96, .int .i64 a1, .int .i64 x20_2, .int .i64 (wrap64 ((IntKind.u64.wrap (wrap64 (a1 + a3))) / 2)), .func (.func 60) #[] #[]] rfl xm ?_; (with_reducible refine (ih kj83 (by have := HJ59.out; have := HK2.out; have := HJ76.out; have := HJ78.out; have := HJ83.out; omega) (fun k_ => P0_ k_) (fun k_ => some k_ = (.slice Ao96 x0_78.length co96 : Value).ownBlock) (.slice Ao96 x0_78.length co96) x0_78 a1 x20_2 (wrap64 ((IntKind.u64.wrap (wrap64 (a1 + a3))) / 2))  t246 w0 _ ?side1 ?side2 ?side3 A87.out).mono ?_); (case side1 => exact xb HB.out); (case side2 => exact HO_0.out); (case side3 => exact fun k_ e_ => e_.symm); rintro e w97 ⟨rfl, hy0, hb, hkp⟩; refine ⟨_, rfl, ?_⟩; replace HO_0 := ax (hy0); replace HK := ax (Kept.then_ (S := (fun k_ => Z0_ k_)) (by repeat (first | (with_reducible first | exact HK.out | apply Kept.alloc | apply Kept.drewN | apply Kept.drew) | exact HK.out)) hkp (fun k_ hs_ => (fun e_ => (by first | exact .inl (HZ0.out k_ e_.symm) | exact .inl (xown_z HZ0.out (e_.symm)))) hs_)); replace HB := ax (hb); (try clear hb); (try clear hkp); (try clear hy0)))
                first | go_end0 | ((try simp only [Exit.inBlock, Exit.then]); refine bodyPost_ret (results_none rfl _ _ _) rfl ?_)
                exact ⟨xe, xN HO_0.out, xb HB.out, by repeat (first | (with_reducible first | exact HK.out | apply Kept.alloc | apply Kept.drewN | apply Kept.drew) | exact HK.out)⟩
              ·as_aux_lemma =>
               replace c86 := Bool.eq_false_iff.mpr c86
               subst c86
               rw [if_neg (show ¬ (false = true) by decide)] at H
               by_cases c98 : (wrap64 ((IntKind.u64.wrap (wrap64 (a1 + a3))) / 2)) < (wrap64 ((wrap64 ((wrap64 ((IntKind.u64.wrap (wrap64 (a1 + a3))) / 2)) + a2)) - x20_2))
               ·rw [if_pos c98] at H
                have c98b0 := decide_eq_true c98
                clear c98
                by_cases c99 : (wrap64 ((wrap64 ((wrap64 ((IntKind.u64.wrap (wrap64 (a1 + a3))) / 2)) + a2)) - x20_2)) < a3
                ·rw [if_pos c99] at H
                 have c99b0 := decide_eq_true c99
                 clear c99
                 obtain ⟨t248, A100, H⟩ := xI H
                 obtain rfl := Option.some.inj H
                 obtain ⟨Ao101, co101, eo101⟩ := Kd.N_slice HO_0.out
                 subst eo101
                 go_wp2_with (first | ((with_reducible refine gate_callee (f := 91) rfl ?_); refine goesL_ (some 219) rfl rfl Try.func91 (by kernel_rfl) rfl #[.slice Ao101 x0_78.length co101, .int .i64 (wrap64 ((IntKind.u64.wrap (wrap64 (a1 + a3))) / 2)), .int .i64 (wrap64 ((wrap64 ((wrap64 ((IntKind.u64.wrap (wrap64 (a1 + a3))) / 2)) + a2)) - x20_2)), .int .i64 a3, .func (.func 60) #[] #[]] rfl xm ?_; (with_reducible refine (ih kj83 (by have := HJ59.out; have := HK2.out; have := HJ76.out; have := HJ78.out; have := HJ83.out; omega) (fun k_ => P0_ k_) (fun k_ => some k_ = (.slice Ao101 x0_78.length co101 : Value).ownBlock) (.slice Ao101 x0_78.length co101) x0_78 (wrap64 ((IntKind.u64.wrap (wrap64 (a1 + a3))) / 2)) (wrap64 ((wrap64 ((wrap64 ((IntKind.u64.wrap (wrap64 (a1 + a3))) / 2)) + a2)) - x20_2)) a3  t248 w0 _ ?side1 ?side2 ?side3 A100.out).mono ?_); (case side1 => exact xb HB.out); (case side2 => exact HO_0.out); (case side3 => exact fun k_ e_ => e_.symm); rintro e w102 ⟨rfl, hy0, hb, hkp⟩; refine ⟨_, rfl, ?_⟩; replace HO_0 := ax (hy0); replace HK := ax (Kept.then_ (S := (fun k_ => Z0_ k_)) (by repeat (first | (with_reducible first | exact HK.out | apply Kept.alloc | apply Kept.drewN | apply Kept.drew) | exact HK.out)) hkp (fun k_ hs_ => (fun e_ => (by first | exact .inl (HZ0.out k_ e_.symm) | exact .inl (xown_z HZ0.out (e_.symm)))) hs_)); replace HB := ax (hb); (try clear hb); (try clear hkp); (try clear hy0)))
                 first | go_end0 | ((try simp only [Exit.inBlock, Exit.then]); refine bodyPost_ret (results_none rfl _ _ _) rfl ?_)
                 exact ⟨xe, xN HO_0.out, xb HB.out, by repeat (first | (with_reducible first | exact HK.out | apply Kept.alloc | apply Kept.drewN | apply Kept.drew) | exact HK.out)⟩
                ·rw [if_neg c99] at H
                 have c99b0 := decide_eq_false c99
                 clear c99
                 obtain rfl := Option.some.inj H
                 go_wp2
                 first | go_end0 | ((try simp only [Exit.inBlock, Exit.then]); refine bodyPost_ret (results_none rfl _ _ _) rfl ?_)
                 exact ⟨xe, xN HO_0.out, xb HB.out, by repeat (first | (with_reducible first | exact HK.out | apply Kept.alloc | apply Kept.drewN | apply Kept.drew) | exact HK.out)⟩
               ·rw [if_neg c98] at H
                have c98b0 := decide_eq_false c98
                clear c98
                obtain rfl := Option.some.inj H
                go_wp2
                first | go_end0 | ((try simp only [Exit.inBlock, Exit.then]); refine bodyPost_ret (results_none rfl _ _ _) rfl ?_)
                exact ⟨xe, xN HO_0.out, xb HB.out, by repeat (first | (with_reducible first | exact HK.out | apply Kept.alloc | apply Kept.drewN | apply Kept.drew) | exact HK.out)⟩

end Go.Proofs.Ytneipehcmmigeaa.PFnExactCountTableaux
