-- Written by a program of this session (wip/print/xprint.py).
import Derived.Test.YtopmggldaicpaabPFnCharactersx0
import Derived.Test.YtopmggldaicpaabPFnCharactersx1
import Derived.Test.YtopmggldaicpaabPFnCharactersx2
import Derived.Test.YtopmggldaicpaabPFnCharactersx6
import Derived.Test.YtopmggldaicpaabPFnCharactersx7
import Derived.Test.YtopmggldaicpaabPFnCharactersx8
import Derived.Test.YtopmggldaicpaabPFnCharactersx14
import Derived.Test.YtopmggldaicpaabPFnCharactersx15
import Derived.Test.YtopmggldaicpaabPFnCharactersx16
import Derived.Test.YtopmggldaicpaabPFnCharactersx17
namespace Go.Proofs.Ytopmggldaicpaab.PFnCharacters
open Go.RowKit Go.Proofs.YtopmggldaicpaabW.PrintWords Go.Proofs.YtopmggldaicpaabW.PrintLast Go.Proofs.YtopmggldaicpaabW.PrintMore
attribute [local go_sem] max2_int min2_int max_two min_two max_three min_three max_four min_four   -- for this text's walks alone
set_option linter.unusedVariables false
set_option linter.unusedSimpArgs false

/-! ### laws_FnCharacters: function 3 -/
mutual
def laws_FnCharacters.j0 : Nat → List Int → List Int → Int → Int → List (List Int) → Bool → Option (Bool)
 | 0, _, _, _, _, _, _ => none
 | k + 1, x3, x4, x5, x8, x9, x64 => if x64 = true then (some false) else ((spec_IsPartition.f k x3).bind fun t649 => (if t649 = true then ((spec_IsPartition.f k x4).bind fun t650 => (if t650 = true then ((spec_Conjugate.f k x3).bind fun t651 => ((impl_CharacterOf.f k t651 x4).bind fun t654 => ((impl_SignOf.f k x4).bind fun t655 => (laws_FnCharacters.j1 k x3 x8 x9 (t654 != (wrap64 (x5 * t655))))))) else (laws_FnCharacters.j1 k x3 x8 x9 false))) else (laws_FnCharacters.j1 k x3 x8 x9 false)))
def laws_FnCharacters.j1 : Nat → List Int → Int → List (List Int) → Bool → Option (Bool)
 | 0, _, _, _, _ => none
 | k + 1, x3, x8, x9, x81 => if x81 = true then (some false) else (laws_FnCharacters.l0 k x3 x8 x9 (([] : List Int)) 0)
def laws_FnCharacters.l0 : Nat → List Int → Int → List (List Int) → List Int → Int → Option (Bool)
 | 0, _, _, _, _, _ => none
 | k + 1, x3, x8, x9, x11, x12 => (spec_SizeOf.f k x3).bind fun t659 => (if x12 < t659 then (if x11.length < 17592186044416 then (laws_FnCharacters.l0 k x3 x8 x9 (x11 ++ [1]) (wrap64 (x12 + 1))) else (none)) else ((impl_CharacterOf.f k x3 x11).bind fun t663 => ((spec_StandardCount.f k x3).bind fun t664 => (if t663 = t664 then ((spec_PartitionsOf.f k x8).bind fun t665 => (laws_FnCharacters.l1 k x8 x9 t665 0)) else (some false)))))
def laws_FnCharacters.l1 : Nat → Int → List (List Int) → List (List Int) → Int → Option (Bool)
 | 0, _, _, _, _ => none
 | k + 1, x8, x9, x13, x14 => if x14 < (x9.length : Int) then (laws_FnCharacters.l2 k x8 x9 x13 x14 0) else (if (x9.length : Int) = (x13.length : Int) then (some true) else (some (decide (x8 > 6))))
def laws_FnCharacters.l2 : Nat → Int → List (List Int) → List (List Int) → Int → Int → Option (Bool)
 | 0, _, _, _, _, _ => none
 | k + 1, x8, x9, x13, x14, x15 => if x15 < (x9.length : Int) then (laws_FnCharacters.l3 k x8 x9 x13 x14 x15 0 0) else (laws_FnCharacters.l1 k x8 x9 x13 (wrap64 (x14 + 1)))
def laws_FnCharacters.l3 : Nat → Int → List (List Int) → List (List Int) → Int → Int → Int → Int → Option (Bool)
 | 0, _, _, _, _, _, _, _ => none
 | k + 1, x8, x9, x13, x14, x15, x16, x17 => if x17 < (x9.length : Int) then (if 0 ≤ x15 then (if x15 < (x9.length : Int) then (laws_FnCharacters.j6 k x8 x9 x13 x14 x15 x16 x17 (decide (x17 < ((rd_L2 x9 x15).length : Int)))) else (none)) else (none)) else (laws_FnCharacters.j6 k x8 x9 x13 x14 x15 x16 x17 false)
def laws_FnCharacters.j6 : Nat → Int → List (List Int) → List (List Int) → Int → Int → Int → Int → Bool → Option (Bool)
 | 0, _, _, _, _, _, _, _, _ => none
 | k + 1, x8, x9, x13, x14, x15, x16, x17, x124 => if x124 = true then (if 0 ≤ x14 then (if x14 < (x9.length : Int) then (if ((rd_L2 x9 x14).length : Int) = (x9.length : Int) then (if 0 ≤ x15 then (if x15 < (x9.length : Int) then (if ((rd_L2 x9 x15).length : Int) = (x9.length : Int) then (if 0 ≤ x17 then (if x17 < (x13.length : Int) then ((spec_ClassSize.f k (rd_L2 x13 x17)).bind fun t672 => (if x17 < ((rd_L2 x9 x14).length : Int) then (if x17 < ((rd_L2 x9 x15).length : Int) then (laws_FnCharacters.l3 k x8 x9 x13 x14 x15 (wrap64 (x16 + (wrap64 ((wrap64 (t672 * (rd (rd_L2 x9 x14) x17))) * (rd (rd_L2 x9 x15) x17))))) (wrap64 (x17 + 1))) else (none)) else (none))) else (none)) else (none)) else (some false)) else (none)) else (none)) else (some false)) else (none)) else (none)) else (if x14 = x15 then ((laws_factorial.f k x8).bind fun t677 => (if x16 = t677 then (laws_FnCharacters.l2 k x8 x9 x13 x14 (wrap64 (x15 + 1))) else (some false))) else (if x16 = 0 then (laws_FnCharacters.l2 k x8 x9 x13 x14 (wrap64 (x15 + 1))) else (some false)))
end
def laws_FnCharacters.f (k : Nat) (l0 : List Int) : Option (Bool) := (laws_big.f l0).bind fun t617 => (if t617 = true then (some true) else ((spec_DrawCharacterOf.f k l0).bind fun bt618 => ((impl_CharacterOf.f k bt618.1 bt618.2).bind fun t624 => ((spec_DrawSchurOfPower.f k l0).bind fun t625 => ((impl_SchurOfPower.f k t625).bind fun t628 => ((spec_DrawCharacterTable.f k l0).bind fun t631 => ((impl_CharacterTable.f k t631).bind fun t632 => ((spec_DrawSignOf.f k l0).bind fun t635 => ((spec_CharacterOf.f k bt618.1 bt618.2).bind fun t638 => (if t624 = t638 then ((spec_SchurOfPower.f k t625).bind fun t639 => ((laws_sameInts.f k t628 t639).bind fun t642 => (if t642 = true then ((spec_CharacterTable.f k t631).bind fun t643 => ((laws_sameLists.f k t632 t643).bind fun t646 => (if t646 = true then ((impl_SignOf.f k t635).bind fun t647 => ((spec_SignOf.f k t635).bind fun t648 => (laws_FnCharacters.j0 k bt618.1 bt618.2 t624 t631 t632 (t647 != t648)))) else (laws_FnCharacters.j0 k bt618.1 bt618.2 t624 t631 t632 true)))) else (laws_FnCharacters.j0 k bt618.1 bt618.2 t624 t631 t632 true)))) else (laws_FnCharacters.j0 k bt618.1 bt618.2 t624 t631 t632 true)))))))))))
theorem laws_FnCharacters.mono_l : ∀ k, (∀ y0 y1 y2 y3 y4 y5, LeO (laws_FnCharacters.j0 k y0 y1 y2 y3 y4 y5) (laws_FnCharacters.j0 (k + 1) y0 y1 y2 y3 y4 y5)) ∧ (∀ y0 y1 y2 y3, LeO (laws_FnCharacters.j1 k y0 y1 y2 y3) (laws_FnCharacters.j1 (k + 1) y0 y1 y2 y3)) ∧ (∀ y0 y1 y2 y3 y4, LeO (laws_FnCharacters.l0 k y0 y1 y2 y3 y4) (laws_FnCharacters.l0 (k + 1) y0 y1 y2 y3 y4)) ∧ (∀ y0 y1 y2 y3, LeO (laws_FnCharacters.l1 k y0 y1 y2 y3) (laws_FnCharacters.l1 (k + 1) y0 y1 y2 y3)) ∧ (∀ y0 y1 y2 y3 y4, LeO (laws_FnCharacters.l2 k y0 y1 y2 y3 y4) (laws_FnCharacters.l2 (k + 1) y0 y1 y2 y3 y4)) ∧ (∀ y0 y1 y2 y3 y4 y5 y6, LeO (laws_FnCharacters.l3 k y0 y1 y2 y3 y4 y5 y6) (laws_FnCharacters.l3 (k + 1) y0 y1 y2 y3 y4 y5 y6)) ∧ (∀ y0 y1 y2 y3 y4 y5 y6 y7, LeO (laws_FnCharacters.j6 k y0 y1 y2 y3 y4 y5 y6 y7) (laws_FnCharacters.j6 (k + 1) y0 y1 y2 y3 y4 y5 y6 y7))
 | 0 => ⟨fun _ _ _ _ _ _ r h => by simp [laws_FnCharacters.j0] at h, fun _ _ _ _ r h => by simp [laws_FnCharacters.j1] at h, fun _ _ _ _ _ r h => by simp [laws_FnCharacters.l0] at h, fun _ _ _ _ r h => by simp [laws_FnCharacters.l1] at h, fun _ _ _ _ _ r h => by simp [laws_FnCharacters.l2] at h, fun _ _ _ _ _ _ _ r h => by simp [laws_FnCharacters.l3] at h, fun _ _ _ _ _ _ _ _ r h => by simp [laws_FnCharacters.j6] at h⟩
 | k + 1 => by
  obtain ⟨ih0, ih1, ih2, ih3, ih4, ih5, ih6⟩ := laws_FnCharacters.mono_l k
  refine ⟨?_, ?_, ?_, ?_, ?_, ?_, ?_⟩
  ·intro y0 y1 y2 y3 y4 y5
   unfold laws_FnCharacters.j0
   repeat' with_reducible first | exact ih0 _ _ _ _ _ _ | exact ih1 _ _ _ _ | exact ih2 _ _ _ _ _ | exact ih3 _ _ _ _ | exact ih4 _ _ _ _ _ | exact ih5 _ _ _ _ _ _ _ | exact ih6 _ _ _ _ _ _ _ _ | exact impl_CharacterOf.mono _ _ _ | exact impl_CharacterTable.mono _ _ | exact impl_SchurOfPower.mono _ _ | exact impl_SignOf.mono _ _ | exact laws_factorial.mono _ _ | exact laws_sameInts.mono _ _ _ | exact laws_sameLists.mono _ _ _ | exact spec_CharacterOf.mono _ _ _ | exact spec_CharacterTable.mono _ _ | exact spec_ClassSize.mono _ _ | exact spec_Conjugate.mono _ _ | exact spec_DrawCharacterOf.mono _ _ | exact spec_DrawCharacterTable.mono _ _ | exact spec_DrawSchurOfPower.mono _ _ | exact spec_DrawSignOf.mono _ _ | exact spec_IsPartition.mono _ _ | exact spec_PartitionsOf.mono _ _ | exact spec_SchurOfPower.mono _ _ | exact spec_SignOf.mono _ _ | exact spec_SizeOf.mono _ _ | exact spec_StandardCount.mono _ _ | exact xl | refine LeO.ite ?_ ?_ | refine LeO.bind ?_ fun _ => ?_
  ·intro y0 y1 y2 y3
   unfold laws_FnCharacters.j1
   repeat' with_reducible first | exact ih0 _ _ _ _ _ _ | exact ih1 _ _ _ _ | exact ih2 _ _ _ _ _ | exact ih3 _ _ _ _ | exact ih4 _ _ _ _ _ | exact ih5 _ _ _ _ _ _ _ | exact ih6 _ _ _ _ _ _ _ _ | exact impl_CharacterOf.mono _ _ _ | exact impl_CharacterTable.mono _ _ | exact impl_SchurOfPower.mono _ _ | exact impl_SignOf.mono _ _ | exact laws_factorial.mono _ _ | exact laws_sameInts.mono _ _ _ | exact laws_sameLists.mono _ _ _ | exact spec_CharacterOf.mono _ _ _ | exact spec_CharacterTable.mono _ _ | exact spec_ClassSize.mono _ _ | exact spec_Conjugate.mono _ _ | exact spec_DrawCharacterOf.mono _ _ | exact spec_DrawCharacterTable.mono _ _ | exact spec_DrawSchurOfPower.mono _ _ | exact spec_DrawSignOf.mono _ _ | exact spec_IsPartition.mono _ _ | exact spec_PartitionsOf.mono _ _ | exact spec_SchurOfPower.mono _ _ | exact spec_SignOf.mono _ _ | exact spec_SizeOf.mono _ _ | exact spec_StandardCount.mono _ _ | exact xl | refine LeO.ite ?_ ?_ | refine LeO.bind ?_ fun _ => ?_
  ·intro y0 y1 y2 y3 y4
   unfold laws_FnCharacters.l0
   repeat' with_reducible first | exact ih0 _ _ _ _ _ _ | exact ih1 _ _ _ _ | exact ih2 _ _ _ _ _ | exact ih3 _ _ _ _ | exact ih4 _ _ _ _ _ | exact ih5 _ _ _ _ _ _ _ | exact ih6 _ _ _ _ _ _ _ _ | exact impl_CharacterOf.mono _ _ _ | exact impl_CharacterTable.mono _ _ | exact impl_SchurOfPower.mono _ _ | exact impl_SignOf.mono _ _ | exact laws_factorial.mono _ _ | exact laws_sameInts.mono _ _ _ | exact laws_sameLists.mono _ _ _ | exact spec_CharacterOf.mono _ _ _ | exact spec_CharacterTable.mono _ _ | exact spec_ClassSize.mono _ _ | exact spec_Conjugate.mono _ _ | exact spec_DrawCharacterOf.mono _ _ | exact spec_DrawCharacterTable.mono _ _ | exact spec_DrawSchurOfPower.mono _ _ | exact spec_DrawSignOf.mono _ _ | exact spec_IsPartition.mono _ _ | exact spec_PartitionsOf.mono _ _ | exact spec_SchurOfPower.mono _ _ | exact spec_SignOf.mono _ _ | exact spec_SizeOf.mono _ _ | exact spec_StandardCount.mono _ _ | exact xl | refine LeO.ite ?_ ?_ | refine LeO.bind ?_ fun _ => ?_
  ·intro y0 y1 y2 y3
   unfold laws_FnCharacters.l1
   repeat' with_reducible first | exact ih0 _ _ _ _ _ _ | exact ih1 _ _ _ _ | exact ih2 _ _ _ _ _ | exact ih3 _ _ _ _ | exact ih4 _ _ _ _ _ | exact ih5 _ _ _ _ _ _ _ | exact ih6 _ _ _ _ _ _ _ _ | exact impl_CharacterOf.mono _ _ _ | exact impl_CharacterTable.mono _ _ | exact impl_SchurOfPower.mono _ _ | exact impl_SignOf.mono _ _ | exact laws_factorial.mono _ _ | exact laws_sameInts.mono _ _ _ | exact laws_sameLists.mono _ _ _ | exact spec_CharacterOf.mono _ _ _ | exact spec_CharacterTable.mono _ _ | exact spec_ClassSize.mono _ _ | exact spec_Conjugate.mono _ _ | exact spec_DrawCharacterOf.mono _ _ | exact spec_DrawCharacterTable.mono _ _ | exact spec_DrawSchurOfPower.mono _ _ | exact spec_DrawSignOf.mono _ _ | exact spec_IsPartition.mono _ _ | exact spec_PartitionsOf.mono _ _ | exact spec_SchurOfPower.mono _ _ | exact spec_SignOf.mono _ _ | exact spec_SizeOf.mono _ _ | exact spec_StandardCount.mono _ _ | exact xl | refine LeO.ite ?_ ?_ | refine LeO.bind ?_ fun _ => ?_
  ·intro y0 y1 y2 y3 y4
   unfold laws_FnCharacters.l2
   repeat' with_reducible first | exact ih0 _ _ _ _ _ _ | exact ih1 _ _ _ _ | exact ih2 _ _ _ _ _ | exact ih3 _ _ _ _ | exact ih4 _ _ _ _ _ | exact ih5 _ _ _ _ _ _ _ | exact ih6 _ _ _ _ _ _ _ _ | exact impl_CharacterOf.mono _ _ _ | exact impl_CharacterTable.mono _ _ | exact impl_SchurOfPower.mono _ _ | exact impl_SignOf.mono _ _ | exact laws_factorial.mono _ _ | exact laws_sameInts.mono _ _ _ | exact laws_sameLists.mono _ _ _ | exact spec_CharacterOf.mono _ _ _ | exact spec_CharacterTable.mono _ _ | exact spec_ClassSize.mono _ _ | exact spec_Conjugate.mono _ _ | exact spec_DrawCharacterOf.mono _ _ | exact spec_DrawCharacterTable.mono _ _ | exact spec_DrawSchurOfPower.mono _ _ | exact spec_DrawSignOf.mono _ _ | exact spec_IsPartition.mono _ _ | exact spec_PartitionsOf.mono _ _ | exact spec_SchurOfPower.mono _ _ | exact spec_SignOf.mono _ _ | exact spec_SizeOf.mono _ _ | exact spec_StandardCount.mono _ _ | exact xl | refine LeO.ite ?_ ?_ | refine LeO.bind ?_ fun _ => ?_
  ·intro y0 y1 y2 y3 y4 y5 y6
   unfold laws_FnCharacters.l3
   repeat' with_reducible first | exact ih0 _ _ _ _ _ _ | exact ih1 _ _ _ _ | exact ih2 _ _ _ _ _ | exact ih3 _ _ _ _ | exact ih4 _ _ _ _ _ | exact ih5 _ _ _ _ _ _ _ | exact ih6 _ _ _ _ _ _ _ _ | exact impl_CharacterOf.mono _ _ _ | exact impl_CharacterTable.mono _ _ | exact impl_SchurOfPower.mono _ _ | exact impl_SignOf.mono _ _ | exact laws_factorial.mono _ _ | exact laws_sameInts.mono _ _ _ | exact laws_sameLists.mono _ _ _ | exact spec_CharacterOf.mono _ _ _ | exact spec_CharacterTable.mono _ _ | exact spec_ClassSize.mono _ _ | exact spec_Conjugate.mono _ _ | exact spec_DrawCharacterOf.mono _ _ | exact spec_DrawCharacterTable.mono _ _ | exact spec_DrawSchurOfPower.mono _ _ | exact spec_DrawSignOf.mono _ _ | exact spec_IsPartition.mono _ _ | exact spec_PartitionsOf.mono _ _ | exact spec_SchurOfPower.mono _ _ | exact spec_SignOf.mono _ _ | exact spec_SizeOf.mono _ _ | exact spec_StandardCount.mono _ _ | exact xl | refine LeO.ite ?_ ?_ | refine LeO.bind ?_ fun _ => ?_
  ·intro y0 y1 y2 y3 y4 y5 y6 y7
   unfold laws_FnCharacters.j6
   repeat' with_reducible first | exact ih0 _ _ _ _ _ _ | exact ih1 _ _ _ _ | exact ih2 _ _ _ _ _ | exact ih3 _ _ _ _ | exact ih4 _ _ _ _ _ | exact ih5 _ _ _ _ _ _ _ | exact ih6 _ _ _ _ _ _ _ _ | exact impl_CharacterOf.mono _ _ _ | exact impl_CharacterTable.mono _ _ | exact impl_SchurOfPower.mono _ _ | exact impl_SignOf.mono _ _ | exact laws_factorial.mono _ _ | exact laws_sameInts.mono _ _ _ | exact laws_sameLists.mono _ _ _ | exact spec_CharacterOf.mono _ _ _ | exact spec_CharacterTable.mono _ _ | exact spec_ClassSize.mono _ _ | exact spec_Conjugate.mono _ _ | exact spec_DrawCharacterOf.mono _ _ | exact spec_DrawCharacterTable.mono _ _ | exact spec_DrawSchurOfPower.mono _ _ | exact spec_DrawSignOf.mono _ _ | exact spec_IsPartition.mono _ _ | exact spec_PartitionsOf.mono _ _ | exact spec_SchurOfPower.mono _ _ | exact spec_SignOf.mono _ _ | exact spec_SizeOf.mono _ _ | exact spec_StandardCount.mono _ _ | exact xl | refine LeO.ite ?_ ?_ | refine LeO.bind ?_ fun _ => ?_
theorem laws_FnCharacters.mono : ∀ a0 k, LeO (laws_FnCharacters.f k a0) (laws_FnCharacters.f (k + 1) a0) := by
 intro a0 k
 obtain ⟨ih0, ih1, ih2, ih3, ih4, ih5, ih6⟩ := laws_FnCharacters.mono_l k
 unfold laws_FnCharacters.f
 repeat' with_reducible first | exact ih0 _ _ _ _ _ _ | exact ih1 _ _ _ _ | exact ih2 _ _ _ _ _ | exact ih3 _ _ _ _ | exact ih4 _ _ _ _ _ | exact ih5 _ _ _ _ _ _ _ | exact ih6 _ _ _ _ _ _ _ _ | exact impl_CharacterOf.mono _ _ _ | exact impl_CharacterTable.mono _ _ | exact impl_SchurOfPower.mono _ _ | exact impl_SignOf.mono _ _ | exact laws_factorial.mono _ _ | exact laws_sameInts.mono _ _ _ | exact laws_sameLists.mono _ _ _ | exact spec_CharacterOf.mono _ _ _ | exact spec_CharacterTable.mono _ _ | exact spec_ClassSize.mono _ _ | exact spec_Conjugate.mono _ _ | exact spec_DrawCharacterOf.mono _ _ | exact spec_DrawCharacterTable.mono _ _ | exact spec_DrawSchurOfPower.mono _ _ | exact spec_DrawSignOf.mono _ _ | exact spec_IsPartition.mono _ _ | exact spec_PartitionsOf.mono _ _ | exact spec_SchurOfPower.mono _ _ | exact spec_SignOf.mono _ _ | exact spec_SizeOf.mono _ _ | exact spec_StandardCount.mono _ _ | exact xl | refine LeO.ite ?_ ?_ | refine LeO.bind ?_ fun _ => ?_
def laws_FnCharacters.T34 : Bool × List (List Nat × List Nat) := (true, [([], []), ([], []), ([], []), ([1, 2], [1, 2]), ([3], [3]), ([4], [4]), ([], []), ([], []), ([6, 7], [6, 7]), ([8], [8]), ([], []), ([9, 10], [9, 10]), ([11], [11]), ([5, 12], [5, 12]), ([], []), ([], []), ([14, 15], [14, 15]), ([16], [16]), ([], []), ([17, 18], [17, 18]), ([19], [19]), ([13, 20], [13, 20]), ([0, 21], [0, 21]), ([22, 5, 0, 1, 2, 3, 4, 5, 6, 7, 8, 9, 10, 11, 12, 13, 14, 15, 16, 17, 18, 19, 20, 21, 22], [0, 22])])
def laws_FnCharacters.B34 : List Nat := [0, 0, 0, 6, 14, 30, 0, 0, 192, 448, 0, 1984, 4032, 8190, 0, 0, 49152, 114688, 0, 507904, 1032192, 2097150, 4194303, 8388607]
theorem laws_FnCharacters.tab34 : rtab .any (opsOf Try.f3 34) = laws_FnCharacters.T34 := by kernel_rfl
theorem laws_FnCharacters.bits34 : waitsOk laws_FnCharacters.T34.2 laws_FnCharacters.B34 = true := by kernel_rfl
set_option maxHeartbeats 8000000 in
set_option maxRecDepth 100000 in
theorem laws_FnCharacters.calls (k : Nat) (A0 : Option Addr) (c0 : Nat) (l0 : List Int) (r : Bool) (w : World) (hr0 : Kd.C (Kd.int .u8) w A0 l0.length l0) (hc0 : l0.length ≤ c0) (h : laws_FnCharacters.f k l0 = some r) :
  Calls Try.prog 3 #[.slice A0 l0.length c0] w fun e w' => e = .returned (.bool r) ∧ Below w.heap.size w w' := by
 have HR0 := ax hr0
 have HC0 := ax hc0
 clear hr0 hc0
 have HB := ax (Below.refl w.heap.size w)
 have H : ((laws_big.f l0).bind fun t617 => (if t617 = true then (some true) else ((spec_DrawCharacterOf.f k l0).bind fun bt618 => ((impl_CharacterOf.f k bt618.1 bt618.2).bind fun t624 => ((spec_DrawSchurOfPower.f k l0).bind fun t625 => ((impl_SchurOfPower.f k t625).bind fun t628 => ((spec_DrawCharacterTable.f k l0).bind fun t631 => ((impl_CharacterTable.f k t631).bind fun t632 => ((spec_DrawSignOf.f k l0).bind fun t635 => ((spec_CharacterOf.f k bt618.1 bt618.2).bind fun t638 => (if t624 = t638 then ((spec_SchurOfPower.f k t625).bind fun t639 => ((laws_sameInts.f k t628 t639).bind fun t642 => (if t642 = true then ((spec_CharacterTable.f k t631).bind fun t643 => ((laws_sameLists.f k t632 t643).bind fun t646 => (if t646 = true then ((impl_SignOf.f k t635).bind fun t647 => ((spec_SignOf.f k t635).bind fun t648 => (laws_FnCharacters.j0 k bt618.1 bt618.2 t624 t631 t632 (t647 != t648)))) else (laws_FnCharacters.j0 k bt618.1 bt618.2 t624 t631 t632 true)))) else (laws_FnCharacters.j0 k bt618.1 bt618.2 t624 t631 t632 true)))) else (laws_FnCharacters.j0 k bt618.1 bt618.2 t624 t631 t632 true)))))))))))) = some r := h
 clear h
 obtain ⟨t617, A2, H⟩ := xI H
 by_cases c3 : t617 = true
 ·subst c3
  rw [if_pos rfl] at H
  obtain rfl := Option.some.inj H
  go_enter Try.func3, Try.ntmps3
  go_wp2_with (first | ((with_reducible refine gate_callee (f := 4) rfl ?_); refine goesL_ (some 20) rfl rfl Try.func4 (by kernel_rfl) rfl #[.slice A0 l0.length c0] rfl xm ?_; (with_reducible refine (laws_big.calls _ _ l0 true _ ?side1 ?side2 A2.out).mono ?_); (case side1 => exact xc HR0.out); (case side2 => exact HC0.out); rintro e w' ⟨rfl, ⟨nd, rfl⟩⟩; refine ⟨_, rfl, ?_⟩))
  go_ret
  exact ⟨xe, xb HB.out⟩
 ·replace c3 := Bool.eq_false_iff.mpr c3
  subst c3
  rw [if_neg (show ¬ (false = true) by decide)] at H
  obtain ⟨⟨t618, t619⟩, A4, H⟩ := xI H
  dsimp only at H
  obtain ⟨t624, A5, H⟩ := xI H
  obtain ⟨t625, A6, H⟩ := xI H
  obtain ⟨t628, A7, H⟩ := xI H
  obtain ⟨t631, A8, H⟩ := xI H
  obtain ⟨t632, A9, H⟩ := xI H
  obtain ⟨t635, A10, H⟩ := xI H
  have HC11 := ax H
  clear H
  go_enter Try.func3, Try.ntmps3
  go_upto_region 10 with (first | ((with_reducible refine gate_callee (f := 4) rfl ?_); refine goesL_ (some 20) rfl rfl Try.func4 (by kernel_rfl) rfl #[.slice A0 l0.length c0] rfl xm ?_; (with_reducible refine (laws_big.calls _ _ l0 false _ ?side1 ?side2 A2.out).mono ?_); (case side1 => exact xc HR0.out); (case side2 => exact HC0.out); rintro e w' ⟨rfl, ⟨nd, rfl⟩⟩; refine ⟨_, rfl, ?_⟩) | ((with_reducible refine gate_callee (f := 5) rfl ?_); refine goesL_ (some 23) rfl rfl Try.func5 (by kernel_rfl) rfl #[.slice A0 l0.length c0] rfl xm ?_; (with_reducible refine (spec_DrawCharacterOf.calls k _ _ l0 t618 t619 _ ?side1 ?side2 A4.out).mono ?_); (case side1 => exact xc HR0.out); (case side2 => exact HC0.out); rintro e w12 ⟨v620, v622, rfl, ho0, ho1, hb⟩; refine ⟨_, rfl, ?_⟩; have HO621 := ax (Kd.R_lower ho0 (below_size (xb HB.out))); have HO623 := ax (Kd.R_lower ho1 (below_size (xb HB.out))); replace HB := ax (below_step (xb HB.out) hb); (try clear hb); (try clear hb2); (try clear hk); (try clear hi); (try clear ho0); (try clear ho1); obtain ⟨Ao13, co13, eo13⟩ := Kd.R_slice HO621.out; subst eo13; obtain ⟨Ao14, co14, eo14⟩ := Kd.R_slice HO623.out; subst eo14) | ((with_reducible refine gate_callee (f := 6) rfl ?_); refine goesL_ (some 28) rfl rfl Try.func6 (by kernel_rfl) rfl #[.slice Ao13 t618.length co13, .slice Ao14 t619.length co14] rfl xm ?_; (with_reducible refine (impl_CharacterOf.calls k _ _ t618 _ _ t619 t624 _ ?side1 ?side2 ?side3 ?side4 A5.out).mono ?_); (case side1 => exact xc (Kd.R_reads' HO621.out).2.2); (case side2 => exact (Kd.R_reads' HO621.out).2.1); (case side3 => exact xc (Kd.R_reads' HO623.out).2.2); (case side4 => exact (Kd.R_reads' HO623.out).2.1); rintro e w15 ⟨rfl, hb⟩; refine ⟨_, rfl, ?_⟩; replace HO621 := ax (Kd.R_below (xR HO621.out) hb); replace HO623 := ax (Kd.R_below (xR HO623.out) hb); replace HB := ax (below_step (xb HB.out) hb); (try clear hb); (try clear hb2); (try clear hk); (try clear hi)) | ((with_reducible refine gate_callee (f := 7) rfl ?_); refine goesL_ (some 30) rfl rfl Try.func7 (by kernel_rfl) rfl #[.slice A0 l0.length c0] rfl xm ?_; (with_reducible refine (spec_DrawSchurOfPower.calls k _ _ l0 t625 _ ?side1 ?side2 A6.out).mono ?_); (case side1 => exact xz HR0.out (Kd.C_below · HB.out)); (case side2 => exact HC0.out); rintro e w16 ⟨v626, rfl, ho0, hb⟩; refine ⟨_, rfl, ?_⟩; have HO627 := ax (Kd.R_lower (Kd.R_new' (Kd.R_new' ho0 (Kd.R_lt (xR HO621.out))) (Kd.R_lt (xR HO623.out))) (below_size (xb HB.out))); replace HO621 := ax (Kd.R_elder' (xR HO621.out) (Kd.R_base ho0) hb); replace HO623 := ax (Kd.R_elder' (xR HO623.out) (Kd.R_base ho0) hb); replace HB := ax (below_step (xb HB.out) hb); (try clear hb); (try clear hb2); (try clear hk); (try clear hi); (try clear ho0); obtain ⟨Ao17, co17, eo17⟩ := Kd.R_slice HO627.out; subst eo17) | ((with_reducible refine gate_callee (f := 8) rfl ?_); refine goesL_ (some 32) rfl rfl Try.func8 (by kernel_rfl) rfl #[.slice Ao17 t625.length co17] rfl xm ?_; (with_reducible refine (impl_SchurOfPower.calls k _ _ t625 t628 _ ?side1 ?side2 A7.out).mono ?_); (case side1 => exact xc (Kd.R_reads' HO627.out).2.2); (case side2 => exact (Kd.R_reads' HO627.out).2.1); rintro e w18 ⟨v629, rfl, ho0, hb⟩; refine ⟨_, rfl, ?_⟩; have HO630 := ax (Kd.R_lower (Kd.R_new' (Kd.R_new' (Kd.R_new' ho0 (Kd.R_lt (xR HO621.out))) (Kd.R_lt (xR HO623.out))) (Kd.R_lt (xR HO627.out))) (below_size (xb HB.out))); replace HO621 := ax (Kd.R_elder' (xR HO621.out) (Kd.R_base ho0) hb); replace HO623 := ax (Kd.R_elder' (xR HO623.out) (Kd.R_base ho0) hb); replace HO627 := ax (Kd.R_elder' (xR HO627.out) (Kd.R_base ho0) hb); replace HB := ax (below_step (xb HB.out) hb); (try clear hb); (try clear hb2); (try clear hk); (try clear hi); (try clear ho0)) | ((with_reducible refine gate_callee (f := 9) rfl ?_); refine goesL_ (some 34) rfl rfl Try.func9 (by kernel_rfl) rfl #[.slice A0 l0.length c0] rfl xm ?_; (with_reducible refine (spec_DrawCharacterTable.calls k _ _ l0 t631 _ ?side1 ?side2 A8.out).mono ?_); (case side1 => exact xz HR0.out (Kd.C_below · HB.out)); (case side2 => exact HC0.out); rintro e w19 ⟨rfl, hb⟩; refine ⟨_, rfl, ?_⟩; replace HO621 := ax (Kd.R_below (xR HO621.out) hb); replace HO623 := ax (Kd.R_below (xR HO623.out) hb); replace HO627 := ax (Kd.R_below (xR HO627.out) hb); replace HO630 := ax (Kd.R_below (xR HO630.out) hb); replace HB := ax (below_step (xb HB.out) hb); (try clear hb); (try clear hb2); (try clear hk); (try clear hi)) | ((with_reducible refine gate_callee (f := 10) rfl ?_); refine goesL_ (some 36) rfl rfl Try.func10 (by kernel_rfl) rfl #[.int .i64 t631] rfl xm ?_; (with_reducible refine (impl_CharacterTable.calls k t631 t632 _ A9.out).mono ?_); rintro e w20 ⟨v633, rfl, ho0, hb⟩; refine ⟨_, rfl, ?_⟩; have HO634 := ax (Kd.N_lower (Kd.N_mono (ok' := fun k_ => some k_ ≠ (.slice Ao13 t618.length co13 : Value).ownBlock ∧ some k_ ≠ (.slice Ao14 t619.length co14 : Value).ownBlock ∧ some k_ ≠ (.slice Ao17 t625.length co17 : Value).ownBlock ∧ some k_ ≠ (v629 : Value).ownBlock) ho0 (fun k_ hk_ => ⟨(Kd.fresh' (Kd.R_lt (xR HO621.out)) k_ hk_), (Kd.fresh' (Kd.R_lt (xR HO623.out)) k_ hk_), (Kd.fresh' (Kd.R_lt (xR HO627.out)) k_ hk_), (Kd.fresh' (Kd.R_lt (xR HO630.out)) k_ hk_)⟩)) (below_size (xb HB.out))); replace HO621 := ax (Kd.R_below (xR HO621.out) hb); replace HO623 := ax (Kd.R_below (xR HO623.out) hb); replace HO627 := ax (Kd.R_below (xR HO627.out) hb); replace HO630 := ax (Kd.R_below (xR HO630.out) hb); replace HB := ax (below_step (xb HB.out) hb); (try clear hb); (try clear hb2); (try clear hk); (try clear hi); (try clear ho0)) | ((with_reducible refine gate_callee (f := 11) rfl ?_); refine goesL_ (some 38) rfl rfl Try.func11 (by kernel_rfl) rfl #[.slice A0 l0.length c0] rfl xm ?_; (with_reducible refine (spec_DrawSignOf.calls k _ _ l0 t635 _ ?side1 ?side2 A10.out).mono ?_); (case side1 => exact xz HR0.out (Kd.C_below · HB.out)); (case side2 => exact HC0.out); rintro e w21 ⟨v636, rfl, ho0, hb⟩; refine ⟨_, rfl, ?_⟩; replace HO634 := ax (Kd.N_elder' (xN HO634.out) (Kd.R_base ho0) hb); have HO637 := ax (Kd.R_lower (Kd.R_new' (Kd.R_new' (Kd.R_new' (Kd.R_new' ho0 (Kd.R_lt (xR HO621.out))) (Kd.R_lt (xR HO623.out))) (Kd.R_lt (xR HO627.out))) (Kd.R_lt (xR HO630.out))) (below_size (xb HB.out))); replace HO621 := ax (Kd.R_elder' (xR HO621.out) (Kd.R_base ho0) hb); replace HO623 := ax (Kd.R_elder' (xR HO623.out) (Kd.R_base ho0) hb); replace HO627 := ax (Kd.R_elder' (xR HO627.out) (Kd.R_base ho0) hb); replace HO630 := ax (Kd.R_elder' (xR HO630.out) (Kd.R_base ho0) hb); replace HB := ax (below_step (xb HB.out) hb); (try clear hb); (try clear hb2); (try clear hk); (try clear hi); (try clear ho0)))
  (try simp only [Act.put, List.setIfInBounds_toArray, List.set_cons_zero, List.set_cons_succ])
  go_cut [64] (fun v64 wc => ∃ (kq : Nat) (x64_10 : Bool), v64 = .bool x64_10 ∧ Aside0 (laws_FnCharacters.j0 kq t618 t619 t624 t631 t632 x64_10 = some r) ∧ Aside0 (kq ≤ k) ∧ Aside0 (Kd.R (Kd.int .i64) 3 wc w.heap.size (fun k_ => some k_ ≠ ((.slice Ao14 t619.length co14) : Value).ownBlock) (.slice Ao13 t618.length co13) t618) ∧ Aside0 (Kd.R (Kd.int .i64) 3 wc w.heap.size (fun k_ => some k_ ≠ ((.slice Ao13 t618.length co13) : Value).ownBlock) (.slice Ao14 t619.length co14) t619) ∧ Aside0 (Kd.N (Kd.slice 3 (Kd.int .i64)) 24 wc w.heap.size (fun k_ => some k_ ≠ ((.slice Ao13 t618.length co13) : Value).ownBlock ∧ some k_ ≠ ((.slice Ao14 t619.length co14) : Value).ownBlock) v633 t632) ∧ Aside0 (Below w.heap.size w wc))
  case first =>
   have H := HC11.out
   clear HC11
   obtain ⟨t638, A22, H⟩ := xI H
   by_cases c23 : t624 = t638
   ·rw [if_pos c23] at H
    have c23b0 : (t624 == t638) = true := beq_iff_eq.mpr c23
    have c23b1 : (t624 != t638) = false := bne_eq_false_iff_eq.mpr c23
    clear c23
    (first | rw [c23b0] | (simp only [i64_w, i32_w]; rw [c23b0]) | skip)
    obtain ⟨t639, A24, H⟩ := xI H
    obtain ⟨t642, A25, H⟩ := xI H
    by_cases c26 : t642 = true
    ·subst c26
     rw [if_pos rfl] at H
     obtain ⟨t643, A27, H⟩ := xI H
     obtain ⟨t646, A28, H⟩ := xI H
     by_cases c29 : t646 = true
     ·subst c29
      rw [if_pos rfl] at H
      obtain ⟨t647, A30, H⟩ := xI H
      obtain ⟨t648, A31, H⟩ := xI H
      have H' := ax H
      clear H
      go_wp2_with (first | ((with_reducible refine gate_callee (f := 12) rfl ?_); refine goesL_ (some 42) rfl rfl Try.func12 (by kernel_rfl) rfl #[.slice Ao13 t618.length co13, .slice Ao14 t619.length co14] rfl xm ?_; (with_reducible refine (spec_CharacterOf.calls k _ _ t618 _ _ t619 t638 _ ?side1 ?side2 ?side3 ?side4 A22.out).mono ?_); (case side1 => exact xc (Kd.R_reads' HO621.out).2.2); (case side2 => exact (Kd.R_reads' HO621.out).2.1); (case side3 => exact xc (Kd.R_reads' HO623.out).2.2); (case side4 => exact (Kd.R_reads' HO623.out).2.1); rintro e w32 ⟨rfl, hb⟩; refine ⟨_, rfl, ?_⟩; replace HO621 := ax (Kd.R_below (xR HO621.out) hb); replace HO623 := ax (Kd.R_below (xR HO623.out) hb); replace HO627 := ax (Kd.R_below (xR HO627.out) hb); replace HO630 := ax (Kd.R_below (xR HO630.out) hb); replace HO634 := ax (Kd.N_below (xN HO634.out) hb); replace HO637 := ax (Kd.R_below (xR HO637.out) hb); replace HB := ax (below_step (xb HB.out) hb); (try clear hb); (try clear hb2); (try clear hk); (try clear hi)) | (go_at_call 14; (with_reducible refine (spec_SchurOfPower.calls k _ _ t625 t639 _ ?side1 ?side2 A24.out).mono ?_); (case side1 => exact xc (Kd.R_reads' HO627.out).2.2); (case side2 => exact (Kd.R_reads' HO627.out).2.1); rintro e w33 ⟨v640, rfl, ho0, hb⟩; replace HO634 := ax (Kd.N_elder' (xN HO634.out) (Kd.R_base ho0) hb); have HO641 := ax (Kd.R_lower (Kd.R_new' (Kd.R_new' (Kd.R_new' (Kd.R_new' (Kd.R_new' ho0 (Kd.R_lt (xR HO621.out))) (Kd.R_lt (xR HO623.out))) (Kd.R_lt (xR HO627.out))) (Kd.R_lt (xR HO630.out))) (Kd.R_lt (xR HO637.out))) (below_size (xb HB.out))); replace HO621 := ax (Kd.R_elder' (xR HO621.out) (Kd.R_base ho0) hb); replace HO623 := ax (Kd.R_elder' (xR HO623.out) (Kd.R_base ho0) hb); replace HO627 := ax (Kd.R_elder' (xR HO627.out) (Kd.R_base ho0) hb); replace HO630 := ax (Kd.R_elder' (xR HO630.out) (Kd.R_base ho0) hb); replace HO637 := ax (Kd.R_elder' (xR HO637.out) (Kd.R_base ho0) hb); replace HB := ax (below_step (xb HB.out) hb); (try clear hb); (try clear hb2); (try clear hk); (try clear hi); (try clear ho0); obtain ⟨Ao34, co34, eo34⟩ := Kd.R_slice HO630.out; subst eo34; obtain ⟨Ao35, co35, eo35⟩ := Kd.R_slice HO641.out; subst eo35) | (go_at_call 13; (with_reducible refine (laws_sameInts.calls k _ _ t628 _ _ t639 true _ ?side1 ?side2 ?side3 ?side4 A25.out).mono ?_); (case side1 => exact xc (Kd.R_reads' HO630.out).2.2); (case side2 => exact (Kd.R_reads' HO630.out).2.1); (case side3 => exact xc (Kd.R_reads' HO641.out).2.2); (case side4 => exact (Kd.R_reads' HO641.out).2.1); rintro e w' ⟨rfl, ⟨nd, rfl⟩⟩) | (go_at_call 16; (with_reducible refine (spec_CharacterTable.calls k t631 t643 _ A27.out).mono ?_); rintro e w36 ⟨v644, rfl, ho0, hb⟩; have HO645 := ax (Kd.N_lower (Kd.N_mono (ok' := fun k_ => some k_ ≠ (.slice Ao13 t618.length co13 : Value).ownBlock ∧ some k_ ≠ (.slice Ao14 t619.length co14 : Value).ownBlock ∧ some k_ ≠ (.slice Ao17 t625.length co17 : Value).ownBlock ∧ some k_ ≠ (.slice Ao34 t628.length co34 : Value).ownBlock ∧ some k_ ≠ (v633 : Value).ownBlock ∧ some k_ ≠ (v636 : Value).ownBlock ∧ some k_ ≠ (.slice Ao35 t639.length co35 : Value).ownBlock) (Kd.S_N (Kd.S_bound ho0)) (fun k_ hk_ => ⟨(Kd.fresh' (Kd.R_lt (xR HO621.out)) k_ hk_.2.1), (Kd.fresh' (Kd.R_lt (xR HO623.out)) k_ hk_.2.1), (Kd.fresh' (Kd.R_lt (xR HO627.out)) k_ hk_.2.1), (Kd.fresh' (Kd.R_lt (xR HO630.out)) k_ hk_.2.1), (Kd.fresh' (Kd.N_lt (xN HO634.out)) k_ hk_.2.1), (Kd.fresh' (Kd.R_lt (xR HO637.out)) k_ hk_.2.1), (Kd.fresh' (Kd.R_lt (xR HO641.out)) k_ hk_.2.1)⟩)) (below_size (xb HB.out))); replace HO621 := ax (Kd.R_below (xR HO621.out) hb); replace HO623 := ax (Kd.R_below (xR HO623.out) hb); replace HO627 := ax (Kd.R_below (xR HO627.out) hb); replace HO630 := ax (Kd.R_below (xR HO630.out) hb); replace HO634 := ax (Kd.N_elder' (xN HO634.out) (by first | exact Kd.N_base ho0 | exact Kd.S_base ho0 | exact Kd.R_base ho0) hb); replace HO637 := ax (Kd.R_below (xR HO637.out) hb); replace HO641 := ax (Kd.R_below (xR HO641.out) hb); replace HB := ax (below_step (xb HB.out) hb); (try clear hb); (try clear hb2); (try clear hk); (try clear hi); (try clear ho0); obtain ⟨Ao37, co37, eo37⟩ := Kd.N_slice HO634.out; subst eo37; obtain ⟨Ao38, co38, eo38⟩ := Kd.N_slice HO645.out; subst eo38) | (go_at_call 15; (with_reducible refine (laws_sameLists.calls k _ _ t632 _ _ t643 true _ ?side1 ?side2 ?side3 ?side4 A28.out).mono ?_); (case side1 => exact xc (Kd.N_reads' HO634.out).2.2); (case side2 => exact (Kd.N_reads' HO634.out).2.1); (case side3 => exact xc (Kd.N_reads' HO645.out).2.2); (case side4 => exact (Kd.N_reads' HO645.out).2.1); rintro e w' ⟨rfl, ⟨nd, rfl⟩⟩; obtain ⟨Ao39, co39, eo39⟩ := Kd.R_slice HO637.out; subst eo39) | (go_at_call 17; (with_reducible refine (impl_SignOf.calls k _ _ t635 t647 _ ?side1 ?side2 A30.out).mono ?_); (case side1 => exact xc (Kd.R_reads' HO637.out).2.2); (case side2 => exact (Kd.R_reads' HO637.out).2.1); rintro e w' ⟨rfl, ⟨nd, rfl⟩⟩) | (go_at_call 18; (with_reducible refine (spec_SignOf.calls k _ _ t635 t648 _ ?side1 ?side2 A31.out).mono ?_); (case side1 => exact xc (Kd.R_reads' HO637.out).2.2); (case side2 => exact (Kd.R_reads' HO637.out).2.1); rintro e w40 ⟨rfl, hb⟩; replace HO621 := ax (Kd.R_below (xR HO621.out) hb); replace HO623 := ax (Kd.R_below (xR HO623.out) hb); replace HO627 := ax (Kd.R_below (xR HO627.out) hb); replace HO630 := ax (Kd.R_below (xR HO630.out) hb); replace HO634 := ax (Kd.N_below (xN HO634.out) hb); replace HO637 := ax (Kd.R_below (xR HO637.out) hb); replace HO641 := ax (Kd.R_below (xR HO641.out) hb); replace HO645 := ax (Kd.N_below (xN HO645.out) hb); replace HB := ax (below_step (xb HB.out) hb); (try clear hb); (try clear hb2); (try clear hk); (try clear hi)))
      go_meet
      case rel => exact ⟨_, ((t647 != t648)), xr, H', ⟨by first | omega | exact Nat.le_refl _⟩, ⟨by (with_reducible repeat (first | apply Kd.R_alloc | apply Kd.R_drewN | apply Kd.R_drew)); exact Kd.R_mono HO621.out (fun _ hk => hk.1.1.1.1)⟩, ⟨by (with_reducible repeat (first | apply Kd.R_alloc | apply Kd.R_drewN | apply Kd.R_drew)); exact Kd.R_mono HO623.out (fun _ hk => hk.1.1.1.1)⟩, ⟨by (with_reducible repeat (first | apply Kd.N_alloc | apply Kd.N_drewN | apply Kd.N_drew)); exact Kd.N_mono HO634.out (fun _ hk => ⟨hk.1.1.1.1, hk.1.1.1.2.1⟩)⟩, ⟨xb HB.out⟩⟩
     ·replace c29 := Bool.eq_false_iff.mpr c29
      subst c29
      rw [if_neg (show ¬ (false = true) by decide)] at H
      have H' := ax H
      clear H
      go_wp2_with (first | ((with_reducible refine gate_callee (f := 12) rfl ?_); refine goesL_ (some 42) rfl rfl Try.func12 (by kernel_rfl) rfl #[.slice Ao13 t618.length co13, .slice Ao14 t619.length co14] rfl xm ?_; (with_reducible refine (spec_CharacterOf.calls k _ _ t618 _ _ t619 t638 _ ?side1 ?side2 ?side3 ?side4 A22.out).mono ?_); (case side1 => exact xc (Kd.R_reads' HO621.out).2.2); (case side2 => exact (Kd.R_reads' HO621.out).2.1); (case side3 => exact xc (Kd.R_reads' HO623.out).2.2); (case side4 => exact (Kd.R_reads' HO623.out).2.1); rintro e w41 ⟨rfl, hb⟩; refine ⟨_, rfl, ?_⟩; replace HO621 := ax (Kd.R_below (xR HO621.out) hb); replace HO623 := ax (Kd.R_below (xR HO623.out) hb); replace HO627 := ax (Kd.R_below (xR HO627.out) hb); replace HO630 := ax (Kd.R_below (xR HO630.out) hb); replace HO634 := ax (Kd.N_below (xN HO634.out) hb); replace HO637 := ax (Kd.R_below (xR HO637.out) hb); replace HB := ax (below_step (xb HB.out) hb); (try clear hb); (try clear hb2); (try clear hk); (try clear hi)) | (go_at_call 14; (with_reducible refine (spec_SchurOfPower.calls k _ _ t625 t639 _ ?side1 ?side2 A24.out).mono ?_); (case side1 => exact xc (Kd.R_reads' HO627.out).2.2); (case side2 => exact (Kd.R_reads' HO627.out).2.1); rintro e w42 ⟨v640, rfl, ho0, hb⟩; replace HO634 := ax (Kd.N_elder' (xN HO634.out) (Kd.R_base ho0) hb); have HO641 := ax (Kd.R_lower (Kd.R_new' (Kd.R_new' (Kd.R_new' (Kd.R_new' (Kd.R_new' ho0 (Kd.R_lt (xR HO621.out))) (Kd.R_lt (xR HO623.out))) (Kd.R_lt (xR HO627.out))) (Kd.R_lt (xR HO630.out))) (Kd.R_lt (xR HO637.out))) (below_size (xb HB.out))); replace HO621 := ax (Kd.R_elder' (xR HO621.out) (Kd.R_base ho0) hb); replace HO623 := ax (Kd.R_elder' (xR HO623.out) (Kd.R_base ho0) hb); replace HO627 := ax (Kd.R_elder' (xR HO627.out) (Kd.R_base ho0) hb); replace HO630 := ax (Kd.R_elder' (xR HO630.out) (Kd.R_base ho0) hb); replace HO637 := ax (Kd.R_elder' (xR HO637.out) (Kd.R_base ho0) hb); replace HB := ax (below_step (xb HB.out) hb); (try clear hb); (try clear hb2); (try clear hk); (try clear hi); (try clear ho0); obtain ⟨Ao43, co43, eo43⟩ := Kd.R_slice HO630.out; subst eo43; obtain ⟨Ao44, co44, eo44⟩ := Kd.R_slice HO641.out; subst eo44) | (go_at_call 13; (with_reducible refine (laws_sameInts.calls k _ _ t628 _ _ t639 true _ ?side1 ?side2 ?side3 ?side4 A25.out).mono ?_); (case side1 => exact xc (Kd.R_reads' HO630.out).2.2); (case side2 => exact (Kd.R_reads' HO630.out).2.1); (case side3 => exact xc (Kd.R_reads' HO641.out).2.2); (case side4 => exact (Kd.R_reads' HO641.out).2.1); rintro e w' ⟨rfl, ⟨nd, rfl⟩⟩) | (go_at_call 16; (with_reducible refine (spec_CharacterTable.calls k t631 t643 _ A27.out).mono ?_); rintro e w45 ⟨v644, rfl, ho0, hb⟩; have HO645 := ax (Kd.N_lower (Kd.N_mono (ok' := fun k_ => some k_ ≠ (.slice Ao13 t618.length co13 : Value).ownBlock ∧ some k_ ≠ (.slice Ao14 t619.length co14 : Value).ownBlock ∧ some k_ ≠ (.slice Ao17 t625.length co17 : Value).ownBlock ∧ some k_ ≠ (.slice Ao43 t628.length co43 : Value).ownBlock ∧ some k_ ≠ (v633 : Value).ownBlock ∧ some k_ ≠ (v636 : Value).ownBlock ∧ some k_ ≠ (.slice Ao44 t639.length co44 : Value).ownBlock) (Kd.S_N (Kd.S_bound ho0)) (fun k_ hk_ => ⟨(Kd.fresh' (Kd.R_lt (xR HO621.out)) k_ hk_.2.1), (Kd.fresh' (Kd.R_lt (xR HO623.out)) k_ hk_.2.1), (Kd.fresh' (Kd.R_lt (xR HO627.out)) k_ hk_.2.1), (Kd.fresh' (Kd.R_lt (xR HO630.out)) k_ hk_.2.1), (Kd.fresh' (Kd.N_lt (xN HO634.out)) k_ hk_.2.1), (Kd.fresh' (Kd.R_lt (xR HO637.out)) k_ hk_.2.1), (Kd.fresh' (Kd.R_lt (xR HO641.out)) k_ hk_.2.1)⟩)) (below_size (xb HB.out))); replace HO621 := ax (Kd.R_below (xR HO621.out) hb); replace HO623 := ax (Kd.R_below (xR HO623.out) hb); replace HO627 := ax (Kd.R_below (xR HO627.out) hb); replace HO630 := ax (Kd.R_below (xR HO630.out) hb); replace HO634 := ax (Kd.N_elder' (xN HO634.out) (by first | exact Kd.N_base ho0 | exact Kd.S_base ho0 | exact Kd.R_base ho0) hb); replace HO637 := ax (Kd.R_below (xR HO637.out) hb); replace HO641 := ax (Kd.R_below (xR HO641.out) hb); replace HB := ax (below_step (xb HB.out) hb); (try clear hb); (try clear hb2); (try clear hk); (try clear hi); (try clear ho0); obtain ⟨Ao46, co46, eo46⟩ := Kd.N_slice HO634.out; subst eo46; obtain ⟨Ao47, co47, eo47⟩ := Kd.N_slice HO645.out; subst eo47) | (go_at_call 15; (with_reducible refine (laws_sameLists.calls k _ _ t632 _ _ t643 false _ ?side1 ?side2 ?side3 ?side4 A28.out).mono ?_); (case side1 => exact xc (Kd.N_reads' HO634.out).2.2); (case side2 => exact (Kd.N_reads' HO634.out).2.1); (case side3 => exact xc (Kd.N_reads' HO645.out).2.2); (case side4 => exact (Kd.N_reads' HO645.out).2.1); rintro e w' ⟨rfl, ⟨nd, rfl⟩⟩))
      go_meet
      case rel => exact ⟨_, (true), xr, H', ⟨by first | omega | exact Nat.le_refl _⟩, ⟨by (with_reducible repeat (first | apply Kd.R_alloc | apply Kd.R_drewN | apply Kd.R_drew)); exact Kd.R_mono HO621.out (fun _ hk => hk.1.1.1.1)⟩, ⟨by (with_reducible repeat (first | apply Kd.R_alloc | apply Kd.R_drewN | apply Kd.R_drew)); exact Kd.R_mono HO623.out (fun _ hk => hk.1.1.1.1)⟩, ⟨by (with_reducible repeat (first | apply Kd.N_alloc | apply Kd.N_drewN | apply Kd.N_drew)); exact Kd.N_mono HO634.out (fun _ hk => ⟨hk.1.1.1.1, hk.1.1.1.2.1⟩)⟩, ⟨xb HB.out⟩⟩
    ·replace c26 := Bool.eq_false_iff.mpr c26
     subst c26
     rw [if_neg (show ¬ (false = true) by decide)] at H
     have H' := ax H
     clear H
     go_wp2_with (first | ((with_reducible refine gate_callee (f := 12) rfl ?_); refine goesL_ (some 42) rfl rfl Try.func12 (by kernel_rfl) rfl #[.slice Ao13 t618.length co13, .slice Ao14 t619.length co14] rfl xm ?_; (with_reducible refine (spec_CharacterOf.calls k _ _ t618 _ _ t619 t638 _ ?side1 ?side2 ?side3 ?side4 A22.out).mono ?_); (case side1 => exact xc (Kd.R_reads' HO621.out).2.2); (case side2 => exact (Kd.R_reads' HO621.out).2.1); (case side3 => exact xc (Kd.R_reads' HO623.out).2.2); (case side4 => exact (Kd.R_reads' HO623.out).2.1); rintro e w48 ⟨rfl, hb⟩; refine ⟨_, rfl, ?_⟩; replace HO621 := ax (Kd.R_below (xR HO621.out) hb); replace HO623 := ax (Kd.R_below (xR HO623.out) hb); replace HO627 := ax (Kd.R_below (xR HO627.out) hb); replace HO630 := ax (Kd.R_below (xR HO630.out) hb); replace HO634 := ax (Kd.N_below (xN HO634.out) hb); replace HO637 := ax (Kd.R_below (xR HO637.out) hb); replace HB := ax (below_step (xb HB.out) hb); (try clear hb); (try clear hb2); (try clear hk); (try clear hi)) | (go_at_call 14; (with_reducible refine (spec_SchurOfPower.calls k _ _ t625 t639 _ ?side1 ?side2 A24.out).mono ?_); (case side1 => exact xc (Kd.R_reads' HO627.out).2.2); (case side2 => exact (Kd.R_reads' HO627.out).2.1); rintro e w49 ⟨v640, rfl, ho0, hb⟩; replace HO634 := ax (Kd.N_elder' (xN HO634.out) (Kd.R_base ho0) hb); have HO641 := ax (Kd.R_lower (Kd.R_new' (Kd.R_new' (Kd.R_new' (Kd.R_new' (Kd.R_new' ho0 (Kd.R_lt (xR HO621.out))) (Kd.R_lt (xR HO623.out))) (Kd.R_lt (xR HO627.out))) (Kd.R_lt (xR HO630.out))) (Kd.R_lt (xR HO637.out))) (below_size (xb HB.out))); replace HO621 := ax (Kd.R_elder' (xR HO621.out) (Kd.R_base ho0) hb); replace HO623 := ax (Kd.R_elder' (xR HO623.out) (Kd.R_base ho0) hb); replace HO627 := ax (Kd.R_elder' (xR HO627.out) (Kd.R_base ho0) hb); replace HO630 := ax (Kd.R_elder' (xR HO630.out) (Kd.R_base ho0) hb); replace HO637 := ax (Kd.R_elder' (xR HO637.out) (Kd.R_base ho0) hb); replace HB := ax (below_step (xb HB.out) hb); (try clear hb); (try clear hb2); (try clear hk); (try clear hi); (try clear ho0); obtain ⟨Ao50, co50, eo50⟩ := Kd.R_slice HO630.out; subst eo50; obtain ⟨Ao51, co51, eo51⟩ := Kd.R_slice HO641.out; subst eo51) | (go_at_call 13; (with_reducible refine (laws_sameInts.calls k _ _ t628 _ _ t639 false _ ?side1 ?side2 ?side3 ?side4 A25.out).mono ?_); (case side1 => exact xc (Kd.R_reads' HO630.out).2.2); (case side2 => exact (Kd.R_reads' HO630.out).2.1); (case side3 => exact xc (Kd.R_reads' HO641.out).2.2); (case side4 => exact (Kd.R_reads' HO641.out).2.1); rintro e w' ⟨rfl, ⟨nd, rfl⟩⟩))
     go_meet
     case rel => exact ⟨_, (true), xr, H', ⟨by first | omega | exact Nat.le_refl _⟩, ⟨by (with_reducible repeat (first | apply Kd.R_alloc | apply Kd.R_drewN | apply Kd.R_drew)); exact Kd.R_mono HO621.out (fun _ hk => hk.1.1.1.1)⟩, ⟨by (with_reducible repeat (first | apply Kd.R_alloc | apply Kd.R_drewN | apply Kd.R_drew)); exact Kd.R_mono HO623.out (fun _ hk => hk.1.1.1.1)⟩, ⟨by (with_reducible repeat (first | apply Kd.N_alloc | apply Kd.N_drewN | apply Kd.N_drew)); exact Kd.N_mono HO634.out (fun _ hk => ⟨hk.1.1.1, hk.1.1.2.1⟩)⟩, ⟨xb HB.out⟩⟩
   ·rw [if_neg c23] at H
    have c23b0 : (t624 == t638) = false := beq_eq_false_iff_ne.mpr c23
    have c23b1 : (t624 != t638) = true := bne_iff_ne.mpr c23
    (first | rw [c23b0] | (simp only [i64_w, i32_w]; rw [c23b0]) | skip)
    have H' := ax H
    clear H
    go_wp2_with (first | ((with_reducible refine gate_callee (f := 12) rfl ?_); refine goesL_ (some 42) rfl rfl Try.func12 (by kernel_rfl) rfl #[.slice Ao13 t618.length co13, .slice Ao14 t619.length co14] rfl xm ?_; (with_reducible refine (spec_CharacterOf.calls k _ _ t618 _ _ t619 t638 _ ?side1 ?side2 ?side3 ?side4 A22.out).mono ?_); (case side1 => exact xc (Kd.R_reads' HO621.out).2.2); (case side2 => exact (Kd.R_reads' HO621.out).2.1); (case side3 => exact xc (Kd.R_reads' HO623.out).2.2); (case side4 => exact (Kd.R_reads' HO623.out).2.1); rintro e w52 ⟨rfl, hb⟩; refine ⟨_, rfl, ?_⟩; replace HO621 := ax (Kd.R_below (xR HO621.out) hb); replace HO623 := ax (Kd.R_below (xR HO623.out) hb); replace HO627 := ax (Kd.R_below (xR HO627.out) hb); replace HO630 := ax (Kd.R_below (xR HO630.out) hb); replace HO634 := ax (Kd.N_below (xN HO634.out) hb); replace HO637 := ax (Kd.R_below (xR HO637.out) hb); replace HB := ax (below_step (xb HB.out) hb); (try clear hb); (try clear hb2); (try clear hk); (try clear hi)))
    go_meet
    case rel => exact ⟨_, (true), xr, H', ⟨by first | omega | exact Nat.le_refl _⟩, ⟨by (with_reducible repeat (first | apply Kd.R_alloc | apply Kd.R_drewN | apply Kd.R_drew)); exact Kd.R_mono HO621.out (fun _ hk => hk.1.1.1)⟩, ⟨by (with_reducible repeat (first | apply Kd.R_alloc | apply Kd.R_drewN | apply Kd.R_drew)); exact Kd.R_mono HO623.out (fun _ hk => hk.1.1.1)⟩, ⟨by (with_reducible repeat (first | apply Kd.N_alloc | apply Kd.N_drewN | apply Kd.N_drew)); exact Kd.N_mono HO634.out (fun _ hk => ⟨hk.1.1, hk.1.2.1⟩)⟩, ⟨xb HB.out⟩⟩
  case rest =>
   clear HC11
   (try clear c1); (try clear c2); (try clear p2); (try clear c3); (try clear c4); (try clear c5); (try clear c6); (try clear c7); (try clear c8); (try clear c9); (try clear c10); (try clear c11); (try clear c12); (try clear c23); (try clear c23b0); (try clear c23b1); (try clear c26); (try clear c29)
   obtain ⟨kq, x64_10, rfl, HA, HJ10, HO_3, HO_4, HO_9, HB⟩ := hcut
   cases kq with
   | zero => exact absurd HA.out (by simp [laws_FnCharacters.j0])
   | succ kj10 =>
    have H := HA.out
    clear HA
    simp only [laws_FnCharacters.j0] at H
    by_cases c53 : x64_10 = true
    ·subst c53
     rw [if_pos rfl] at H
     obtain rfl := Option.some.inj H
     go_wp2
     go_ret
     exact ⟨xe, xb HB.out⟩
    ·replace c53 := Bool.eq_false_iff.mpr c53
     subst c53
     rw [if_neg (show ¬ (false = true) by decide)] at H
     have HC54 := ax H
     clear H
     go_upto_region 12 with (fail)
     go_cut [81] (fun v81 wc => ∃ (kq : Nat) (x81_53 : Bool), v81 = .bool x81_53 ∧ Aside0 (laws_FnCharacters.j1 kq t618 t631 t632 x81_53 = some r) ∧ Aside0 (kq ≤ kj10) ∧ Aside0 (Kd.R (Kd.int .i64) 3 wc w.heap.size (fun _ => True) (.slice Ao13 t618.length co13) t618) ∧ Aside0 (Kd.N (Kd.slice 3 (Kd.int .i64)) 24 wc w.heap.size (fun k_ => some k_ ≠ ((.slice Ao13 t618.length co13) : Value).ownBlock) v633 t632) ∧ Aside0 (Below w.heap.size w wc))
     case first =>
      have H := HC54.out
      clear HC54
      obtain ⟨t649, A55, H⟩ := xI H
      by_cases c56 : t649 = true
      ·subst c56
       rw [if_pos rfl] at H
       obtain ⟨t650, A57, H⟩ := xI H
       by_cases c58 : t650 = true
       ·subst c58
        rw [if_pos rfl] at H
        obtain ⟨t651, A59, H⟩ := xI H
        obtain ⟨t654, A60, H⟩ := xI H
        obtain ⟨t655, A61, H⟩ := xI H
        have H' := ax H
        clear H
        go_wp2_with (first | ((with_reducible refine gate_callee (f := 19) rfl ?_); refine goesL_ (some 66) rfl rfl Try.func19 (by kernel_rfl) rfl #[.slice Ao13 t618.length co13] rfl xm ?_; (with_reducible refine (spec_IsPartition.calls kj10 _ _ t618 true _ ?side1 ?side2 A55.out).mono ?_); (case side1 => exact xc (Kd.R_reads' HO_3.out).2.2); (case side2 => exact (Kd.R_reads' HO_3.out).2.1); rintro e w62 ⟨rfl, hb⟩; refine ⟨_, rfl, ?_⟩; replace HO_3 := ax (Kd.R_below (xR HO_3.out) hb); replace HO_4 := ax (Kd.R_below (xR HO_4.out) hb); replace HO_9 := ax (Kd.N_below (xN HO_9.out) hb); replace HB := ax (below_step (xb HB.out) hb); (try clear hb); (try clear hb2); (try clear hk); (try clear hi)) | (go_at_call 19; (with_reducible refine (spec_IsPartition.calls kj10 _ _ t619 true _ ?side1 ?side2 A57.out).mono ?_); (case side1 => exact xc (Kd.R_reads' HO_4.out).2.2); (case side2 => exact (Kd.R_reads' HO_4.out).2.1); rintro e w63 ⟨rfl, hb⟩; replace HO_3 := ax (Kd.R_below (xR HO_3.out) hb); replace HO_4 := ax (Kd.R_below (xR HO_4.out) hb); replace HO_9 := ax (Kd.N_below (xN HO_9.out) hb); replace HB := ax (below_step (xb HB.out) hb); (try clear hb); (try clear hb2); (try clear hk); (try clear hi)) | (go_at_call 20; (with_reducible refine (spec_Conjugate.calls kj10 _ _ t618 t651 _ ?side1 ?side2 A59.out).mono ?_); (case side1 => exact xc (Kd.R_reads' HO_3.out).2.2); (case side2 => exact (Kd.R_reads' HO_3.out).2.1); rintro e w64 ⟨v652, rfl, ho0, hb⟩; replace HO_9 := ax (Kd.N_elder' (xN HO_9.out) (Kd.R_base ho0) hb); have HO653 := ax (Kd.R_lower (Kd.R_new' (Kd.R_new' ho0 (Kd.R_lt (xR HO_3.out))) (Kd.R_lt (xR HO_4.out))) (below_size (xb HB.out))); replace HO_3 := ax (Kd.R_elder' (xR HO_3.out) (Kd.R_base ho0) hb); replace HO_4 := ax (Kd.R_elder' (xR HO_4.out) (Kd.R_base ho0) hb); replace HB := ax (below_step (xb HB.out) hb); (try clear hb); (try clear hb2); (try clear hk); (try clear hi); (try clear ho0); obtain ⟨Ao65, co65, eo65⟩ := Kd.R_slice HO653.out; subst eo65) | (go_at_call 6; (with_reducible refine (impl_CharacterOf.calls kj10 _ _ t651 _ _ t619 t654 _ ?side1 ?side2 ?side3 ?side4 A60.out).mono ?_); (case side1 => exact xc (Kd.R_reads' HO653.out).2.2); (case side2 => exact (Kd.R_reads' HO653.out).2.1); (case side3 => exact xc (Kd.R_reads' HO_4.out).2.2); (case side4 => exact (Kd.R_reads' HO_4.out).2.1); rintro e w66 ⟨rfl, hb⟩; replace HO_3 := ax (Kd.R_below (xR HO_3.out) hb); replace HO_4 := ax (Kd.R_below (xR HO_4.out) hb); replace HO_9 := ax (Kd.N_below (xN HO_9.out) hb); replace HO653 := ax (Kd.R_below (xR HO653.out) hb); replace HB := ax (below_step (xb HB.out) hb); (try clear hb); (try clear hb2); (try clear hk); (try clear hi)) | (go_at_call 17; (with_reducible refine (impl_SignOf.calls kj10 _ _ t619 t655 _ ?side1 ?side2 A61.out).mono ?_); (case side1 => exact xc (Kd.R_reads' HO_4.out).2.2); (case side2 => exact (Kd.R_reads' HO_4.out).2.1); rintro e w' ⟨rfl, ⟨nd, rfl⟩⟩))
        go_meet
        case rel => exact ⟨_, ((t654 != (wrap64 (t624 * t655)))), xr, H', ⟨by have := HJ10.out; first | omega | exact Nat.le_refl _⟩, ⟨by (with_reducible repeat (first | apply Kd.R_alloc | apply Kd.R_drewN | apply Kd.R_drew)); exact Kd.R_mono HO_3.out (fun _ hk => trivial)⟩, ⟨by (with_reducible repeat (first | apply Kd.N_alloc | apply Kd.N_drewN | apply Kd.N_drew)); exact Kd.N_mono HO_9.out (fun _ hk => hk.1.1)⟩, ⟨xb HB.out⟩⟩
       ·replace c58 := Bool.eq_false_iff.mpr c58
        subst c58
        rw [if_neg (show ¬ (false = true) by decide)] at H
        have H' := ax H
        clear H
        go_wp2_with (first | ((with_reducible refine gate_callee (f := 19) rfl ?_); refine goesL_ (some 66) rfl rfl Try.func19 (by kernel_rfl) rfl #[.slice Ao13 t618.length co13] rfl xm ?_; (with_reducible refine (spec_IsPartition.calls kj10 _ _ t618 true _ ?side1 ?side2 A55.out).mono ?_); (case side1 => exact xc (Kd.R_reads' HO_3.out).2.2); (case side2 => exact (Kd.R_reads' HO_3.out).2.1); rintro e w67 ⟨rfl, hb⟩; refine ⟨_, rfl, ?_⟩; replace HO_3 := ax (Kd.R_below (xR HO_3.out) hb); replace HO_4 := ax (Kd.R_below (xR HO_4.out) hb); replace HO_9 := ax (Kd.N_below (xN HO_9.out) hb); replace HB := ax (below_step (xb HB.out) hb); (try clear hb); (try clear hb2); (try clear hk); (try clear hi)) | (go_at_call 19; (with_reducible refine (spec_IsPartition.calls kj10 _ _ t619 false _ ?side1 ?side2 A57.out).mono ?_); (case side1 => exact xc (Kd.R_reads' HO_4.out).2.2); (case side2 => exact (Kd.R_reads' HO_4.out).2.1); rintro e w68 ⟨rfl, hb⟩; replace HO_3 := ax (Kd.R_below (xR HO_3.out) hb); replace HO_4 := ax (Kd.R_below (xR HO_4.out) hb); replace HO_9 := ax (Kd.N_below (xN HO_9.out) hb); replace HB := ax (below_step (xb HB.out) hb); (try clear hb); (try clear hb2); (try clear hk); (try clear hi)))
        go_meet
        case rel => exact ⟨_, (false), xr, H', ⟨by have := HJ10.out; first | omega | exact Nat.le_refl _⟩, ⟨by (with_reducible repeat (first | apply Kd.R_alloc | apply Kd.R_drewN | apply Kd.R_drew)); exact Kd.R_mono HO_3.out (fun _ hk => trivial)⟩, ⟨by (with_reducible repeat (first | apply Kd.N_alloc | apply Kd.N_drewN | apply Kd.N_drew)); exact Kd.N_mono HO_9.out (fun _ hk => hk.1)⟩, ⟨xb HB.out⟩⟩
      ·replace c56 := Bool.eq_false_iff.mpr c56
       subst c56
       rw [if_neg (show ¬ (false = true) by decide)] at H
       have H' := ax H
       clear H
       go_wp2_with (first | ((with_reducible refine gate_callee (f := 19) rfl ?_); refine goesL_ (some 66) rfl rfl Try.func19 (by kernel_rfl) rfl #[.slice Ao13 t618.length co13] rfl xm ?_; (with_reducible refine (spec_IsPartition.calls kj10 _ _ t618 false _ ?side1 ?side2 A55.out).mono ?_); (case side1 => exact xc (Kd.R_reads' HO_3.out).2.2); (case side2 => exact (Kd.R_reads' HO_3.out).2.1); rintro e w69 ⟨rfl, hb⟩; refine ⟨_, rfl, ?_⟩; replace HO_3 := ax (Kd.R_below (xR HO_3.out) hb); replace HO_4 := ax (Kd.R_below (xR HO_4.out) hb); replace HO_9 := ax (Kd.N_below (xN HO_9.out) hb); replace HB := ax (below_step (xb HB.out) hb); (try clear hb); (try clear hb2); (try clear hk); (try clear hi)))
       go_meet
       case rel => exact ⟨_, (false), xr, H', ⟨by have := HJ10.out; first | omega | exact Nat.le_refl _⟩, ⟨by (with_reducible repeat (first | apply Kd.R_alloc | apply Kd.R_drewN | apply Kd.R_drew)); exact Kd.R_mono HO_3.out (fun _ hk => trivial)⟩, ⟨by (with_reducible repeat (first | apply Kd.N_alloc | apply Kd.N_drewN | apply Kd.N_drew)); exact Kd.N_mono HO_9.out (fun _ hk => hk.1)⟩, ⟨xb HB.out⟩⟩
     case rest =>
      clear HC54
      (try clear c1); (try clear c2); (try clear p2); (try clear c3); (try clear c4); (try clear c5); (try clear c6); (try clear p6); (try clear c7); (try clear c8); (try clear c9); (try clear c10); (try clear c11); (try clear c12); (try clear c19); (try clear c23); (try clear c23b0); (try clear c23b1); (try clear c26); (try clear c29); (try clear c53); (try clear c56); (try clear c58); (try clear p64); (try clear p2)
      obtain ⟨kq, x81_53, rfl, HA, HJ53, HO_3, HO_9, HB⟩ := hcut
      cases kq with
      | zero => exact absurd HA.out (by simp [laws_FnCharacters.j1])
      | succ kj53 =>
       have H := HA.out
       clear HA
       simp only [laws_FnCharacters.j1] at H
       by_cases c70 : x81_53 = true
       ·subst c70
        rw [if_pos rfl] at H
        obtain rfl := Option.some.inj H
        go_wp2
        go_ret
        exact ⟨xe, xb HB.out⟩
       ·replace c70 := Bool.eq_false_iff.mpr c70
        subst c70
        rw [if_neg (show ¬ (false = true) by decide)] at H
        obtain ⟨y656, hy656⟩ : ∃ y_ : List Int, y_ = (([] : List Int)) := ⟨_, rfl⟩
        replace H : (laws_FnCharacters.l0 kj53 t618 t631 t632 y656 0) = some r := by first | (rw [hy656]; with_reducible exact H) | (have H2_ := (Option.bind_some _ _).symm.trans H; rw [hy656]; with_reducible exact H2_) | (have H2_ := (Option.bind_some _ _).symm.trans H; with_reducible exact H2_) | with_reducible exact H | (rw [hy656]; exact H) | exact H
        have Ny656 := ax hy656
        clear hy656
        have H' := ax H
        clear H
        go_wp2_with (first | ((with_reducible refine gate_dst (N := 82) rfl ?_); (try (refine gate_guard (by rfl) ?_; dsimp only)); refine Kd.R_lit (Kd.int .i64) _ 3 ?hg (N := 82) ?hd (xs := ([] : List Int)) (inner := []) (ok := fun _ => True) (okp := fun _ => True) ?hr ?hp (fun _ hk => hk) trivial (Below.refl _ _) (Nat.le_refl _) (by simp) ?_; (case hd => rfl); (case hg => rfl); (case hr => first | (go_simp; done) | (go_simp; rfl)); (case hp => exact (Reps.none _ _)); intro v657 w71 ho72 hb hg_ hnew_; clear hg_ hnew_; (first | rw [← Ny656.out] at ho72 | (simp only [Int.reduceToNat] at ho72; rw [← Ny656.out] at ho72)); replace HO_9 := ax (Kd.N_elder' (xN HO_9.out) (Kd.R_base ho72) hb); have HO658 := ax (Kd.R_lower (Kd.R_new' ho72 (Kd.R_lt (xR HO_3.out))) (below_size (xb HB.out))); replace HO_3 := ax (Kd.R_elder' (xR HO_3.out) (Kd.R_base ho72) hb); replace HB := ax (below_step (xb HB.out) hb); clear hb ho72))
        go_loopg [11, 12] kj53 (fun kq v11 v12 w' => ∃ (x11_3 : List Int) (x12_3 : Int), v12 = .int .i64 x12_3 ∧ Aside0 (laws_FnCharacters.l0 kq t618 t631 t632 x11_3 x12_3 = some r) ∧ Aside0 (kq ≤ kj53) ∧ Aside0 (Kd.R (Kd.int .i64) 3 w' w.heap.size (fun k_ => some k_ ≠ (v11 : Value).ownBlock) (.slice Ao13 t618.length co13) t618) ∧ Aside0 (Kd.N (Kd.slice 3 (Kd.int .i64)) 24 w' w.heap.size (fun k_ => some k_ ≠ ((.slice Ao13 t618.length co13) : Value).ownBlock ∧ some k_ ≠ (v11 : Value).ownBlock) v633 t632) ∧ Aside0 (Kd.R (Kd.int .i64) 3 w' w.heap.size (fun k_ => some k_ ≠ ((.slice Ao13 t618.length co13) : Value).ownBlock) v11 x11_3) ∧ Aside0 (Below w.heap.size w w'))
        case atStart => exact ⟨(y656), (0), xr, H', ⟨Nat.le_refl _⟩, ⟨by (with_reducible repeat (first | apply Kd.R_alloc | apply Kd.R_drewN | apply Kd.R_drew)); exact Kd.R_mono HO_3.out (fun _ hk => hk.2)⟩, ⟨xN HO_9.out⟩, ⟨by (with_reducible repeat (first | apply Kd.R_alloc | apply Kd.R_drewN | apply Kd.R_drew)); exact Kd.R_mono HO658.out (fun _ hk => hk.2)⟩, ⟨xb HB.out⟩⟩
        case round =>
         clear H'
         (try clear c1); (try clear c2); (try clear p2); (try clear c3); (try clear c4); (try clear c5); (try clear c6); (try clear p6); (try clear c7); (try clear c8); (try clear c9); (try clear c10); (try clear c11); (try clear c12); (try clear c19); (try clear c23); (try clear c23b0); (try clear c23b1); (try clear c26); (try clear c29); (try clear c53); (try clear c56); (try clear c58); (try clear p64); (try clear c70); (try clear p2); (try clear p6); (try clear p64)
         obtain ⟨x11_3, x12_3, rfl, HA, HK3, HO_3, HO_9, HO_11, HB⟩ := hrel
         cases gk with
         | zero => exact absurd HA.out (by simp [laws_FnCharacters.l0])
         | succ k3 =>
          have H := HA.out
          clear HA
          simp only [laws_FnCharacters.l0] at H
          obtain ⟨t659, A73, H⟩ := xI H
          by_cases c74 : x12_3 < t659
          ·rw [if_pos c74] at H
           have c74b0 := decide_eq_true c74
           clear c74
           by_cases c75 : x11_3.length < 17592186044416
           case neg => (rw [if_neg c75] at H; exact absurd H (by simp))
           rw [if_pos c75] at H
           have LMc75 := ax c75
           clear c75
           obtain ⟨y660, hy660⟩ : ∃ y_ : List Int, y_ = (x11_3 ++ [1]) := ⟨_, rfl⟩
           replace H : (laws_FnCharacters.l0 k3 t618 t631 t632 y660 (wrap64 (x12_3 + 1))) = some r := by first | (rw [hy660]; with_reducible exact H) | (have H2_ := (Option.bind_some _ _).symm.trans H; rw [hy660]; with_reducible exact H2_) | (have H2_ := (Option.bind_some _ _).symm.trans H; with_reducible exact H2_) | with_reducible exact H | (rw [hy660]; exact H) | exact H
           have Ny660 := ax hy660
           clear hy660
           have H' := ax H
           clear H
           go_wp2_with (first | ((with_reducible refine gate_callee (f := 21) rfl ?_); refine goesL_ (some 85) rfl rfl Try.func21 (by kernel_rfl) rfl #[.slice Ao13 t618.length co13] rfl xm ?_; (with_reducible refine (spec_SizeOf.calls k3 _ _ t618 t659 _ ?side1 ?side2 A73.out).mono ?_); (case side1 => exact xc (Kd.R_reads' HO_3.out).2.2); (case side2 => exact (Kd.R_reads' HO_3.out).2.1); rintro e w76 ⟨rfl, hb⟩; refine ⟨_, rfl, ?_⟩; replace HO_3 := ax (Kd.R_below (xR HO_3.out) hb); replace HO_9 := ax (Kd.N_below (xN HO_9.out) hb); replace HO_11 := ax (Kd.R_below (xR HO_11.out) hb); replace HB := ax (below_step (xb HB.out) hb); (try clear hb); (try clear hb2); (try clear hk); (try clear hi)) | ((with_reducible refine gate_builtin (b := .append) (xs := #[.tmp 89, .tmp 90]) rfl ?_); (try (refine gate_guard (by rfl) ?_; dsimp only)); at_builtin; refine Kd.R_append (Kd.int .i64) (w0 := w) w.heap.size rfl (.tmp 89) (.tmp 90) 24 3 (.int .i64 0) 8 rfl Try.underlying24 info3 rfl (by decide) (by omega) u11 x11_3 1 [.int .i64 1] (fun k_ => some k_ ≠ (.slice Ao13 t618.length co13 : Value).ownBlock) (fun _ => False) rfl rfl ?aP (fun _ hk => hk.elim) ?aF ?aO ?aB ?aS ?aL ?_; (case aP => exact rfl); (case aB => exact (xb HB.out)); (case aF => exact (fun k_ hk => Kd.fresh' (Kd.R_lt (xR HO_3.out)) k_ hk)); (case aO => exact (xR HO_11.out)); (case aS => exact (below_size (xb HB.out))); (case aL => have := LMc75.out; omega); intro v661 w77 ho hb hg hat; rw [← Ny660.out] at ho; have n0_ := ax (Kd.R_after (ok := (fun _ => True)) (by (with_reducible repeat (first | apply Kd.R_alloc | apply Kd.R_drewN | apply Kd.R_drew)); exact Kd.R_mono HO_3.out (fun _ hk => ⟨trivial, by first | exact hk | simpa only [xw_own] using hk⟩)) hg hat); have n1_ := ax (Kd.N_afterv (ok := (fun k_ => some k_ ≠ (.slice Ao13 t618.length co13 : Value).ownBlock)) (xN HO_9.out) hg hat); have n2_ := ax (hb); have n3_ := ax (ho); clear HO_3; clear HO_9; clear HB; clear HO_11; have HO_3 := n0_; have HO_9 := n1_; have HB := n2_; have HO662 := n3_; clear n0_ n1_ n2_ n3_; clear ho hb hg hat))
           go_roundg k3
           case measure => have := HJ10.out; have := HJ53.out; have := HK3.out; omega
           case rel => exact ⟨(y660), (wrap64 (x12_3 + 1)), xr, H', ⟨by have := HJ10.out; have := HJ53.out; have := HK3.out; omega⟩, ⟨by (with_reducible repeat (first | apply Kd.R_alloc | apply Kd.R_drewN | apply Kd.R_drew)); exact Kd.R_mono HO_3.out (fun _ hk => hk.2)⟩, ⟨xN HO_9.out⟩, ⟨xR HO662.out⟩, ⟨xb HB.out⟩⟩
          ·rw [if_neg c74] at H
           have c74b0 := decide_eq_false c74
           clear c74
           obtain ⟨t663, A78, H⟩ := xI H
           obtain ⟨t664, A79, H⟩ := xI H
           by_cases c80 : t663 = t664
           ·rw [if_pos c80] at H
            have c80b0 : (t663 == t664) = true := beq_iff_eq.mpr c80
            have c80b1 : (t663 != t664) = false := bne_eq_false_iff_eq.mpr c80
            clear c80
            obtain ⟨t665, A81, H⟩ := xI H
            have H' := ax H
            clear H
            go_wp2_with (first | ((with_reducible refine gate_callee (f := 21) rfl ?_); refine goesL_ (some 85) rfl rfl Try.func21 (by kernel_rfl) rfl #[.slice Ao13 t618.length co13] rfl xm ?_; (with_reducible refine (spec_SizeOf.calls k3 _ _ t618 t659 _ ?side1 ?side2 A73.out).mono ?_); (case side1 => exact xc (Kd.R_reads' HO_3.out).2.2); (case side2 => exact (Kd.R_reads' HO_3.out).2.1); rintro e w82 ⟨rfl, hb⟩; refine ⟨_, rfl, ?_⟩; replace HO_3 := ax (Kd.R_below (xR HO_3.out) hb); replace HO_9 := ax (Kd.N_below (xN HO_9.out) hb); replace HO_11 := ax (Kd.R_below (xR HO_11.out) hb); replace HB := ax (below_step (xb HB.out) hb); (try clear hb); (try clear hb2); (try clear hk); (try clear hi); obtain ⟨Ao83, co83, eo83⟩ := Kd.R_slice HO_11.out; subst eo83) | ((with_reducible refine gate_callee (f := 6) rfl ?_); refine goesL_ (some 94) rfl rfl Try.func6 (by kernel_rfl) rfl #[.slice Ao13 t618.length co13, .slice Ao83 x11_3.length co83] rfl xm ?_; (with_reducible refine (impl_CharacterOf.calls k3 _ _ t618 _ _ x11_3 t663 _ ?side1 ?side2 ?side3 ?side4 A78.out).mono ?_); (case side1 => exact xc (Kd.R_reads' HO_3.out).2.2); (case side2 => exact (Kd.R_reads' HO_3.out).2.1); (case side3 => exact xc (Kd.R_reads' HO_11.out).2.2); (case side4 => exact (Kd.R_reads' HO_11.out).2.1); rintro e w84 ⟨rfl, hb⟩; refine ⟨_, rfl, ?_⟩; replace HO_3 := ax (Kd.R_below (xR HO_3.out) hb); replace HO_9 := ax (Kd.N_below (xN HO_9.out) hb); replace HO_11 := ax (Kd.R_below (xR HO_11.out) hb); replace HB := ax (below_step (xb HB.out) hb); (try clear hb); (try clear hb2); (try clear hk); (try clear hi)) | ((with_reducible refine gate_callee (f := 22) rfl ?_); refine goesL_ (some 96) rfl rfl Try.func22 (by kernel_rfl) rfl #[.slice Ao13 t618.length co13] rfl xm ?_; (with_reducible refine (spec_StandardCount.calls k3 _ _ t618 t664 _ ?side1 ?side2 A79.out).mono ?_); (case side1 => exact xc (Kd.R_reads' HO_3.out).2.2); (case side2 => exact (Kd.R_reads' HO_3.out).2.1); rintro e w85 ⟨rfl, hb⟩; refine ⟨_, rfl, ?_⟩; replace HO_3 := ax (Kd.R_below (xR HO_3.out) hb); replace HO_9 := ax (Kd.N_below (xN HO_9.out) hb); replace HO_11 := ax (Kd.R_below (xR HO_11.out) hb); replace HB := ax (below_step (xb HB.out) hb); (try clear hb); (try clear hb2); (try clear hk); (try clear hi)) | ((with_reducible refine gate_callee (f := 23) rfl ?_); refine goesL_ (some 99) rfl rfl Try.func23 (by kernel_rfl) rfl #[.int .i64 t631] rfl xm ?_; (with_reducible refine (spec_PartitionsOf.calls k3 t631 t665 _ A81.out).mono ?_); rintro e w86 ⟨v666, rfl, ho0, hb⟩; refine ⟨_, rfl, ?_⟩; have HO667 := ax (Kd.N_lower (Kd.N_mono (ok' := fun k_ => some k_ ≠ (.slice Ao13 t618.length co13 : Value).ownBlock ∧ some k_ ≠ (v633 : Value).ownBlock ∧ some k_ ≠ (.slice Ao83 x11_3.length co83 : Value).ownBlock) (Kd.S_N (Kd.S_bound ho0)) (fun k_ hk_ => ⟨(Kd.fresh' (Kd.R_lt (xR HO_3.out)) k_ hk_.2.1), (Kd.fresh' (Kd.N_lt (xN HO_9.out)) k_ hk_.2.1), (Kd.fresh' (Kd.R_lt (xR HO_11.out)) k_ hk_.2.1)⟩)) (below_size (xb HB.out))); replace HO_3 := ax (Kd.R_below (xR HO_3.out) hb); replace HO_9 := ax (Kd.N_elder' (xN HO_9.out) (by first | exact Kd.N_base ho0 | exact Kd.S_base ho0 | exact Kd.R_base ho0) hb); replace HO_11 := ax (Kd.R_below (xR HO_11.out) hb); replace HB := ax (below_step (xb HB.out) hb); (try clear hb); (try clear hb2); (try clear hk); (try clear hi); (try clear ho0)))
            go_loopg [14] k3 (fun kq v14 w' => ∃ (x14_4 : Int), v14 = .int .i64 x14_4 ∧ Aside0 (laws_FnCharacters.l1 kq t631 t632 t665 x14_4 = some r) ∧ Aside0 (kq ≤ k3) ∧ Aside0 (Kd.N (Kd.slice 3 (Kd.int .i64)) 24 w' w.heap.size (fun k_ => some k_ ≠ (v666 : Value).ownBlock) v633 t632) ∧ Aside0 (Kd.N (Kd.slice 3 (Kd.int .i64)) 24 w' w.heap.size (fun k_ => some k_ ≠ (v633 : Value).ownBlock) v666 t665) ∧ Aside0 (Below w.heap.size w w'))
            case atStart => exact ⟨(0), xr, H', ⟨Nat.le_refl _⟩, ⟨by (with_reducible repeat (first | apply Kd.N_alloc | apply Kd.N_drewN | apply Kd.N_drew)); exact Kd.N_mono HO_9.out (fun _ hk => hk.2)⟩, ⟨by (with_reducible repeat (first | apply Kd.N_alloc | apply Kd.N_drewN | apply Kd.N_drew)); exact Kd.N_mono HO667.out (fun _ hk => hk.2.1)⟩, ⟨xb HB.out⟩⟩
            case round =>
             clear H'
             (try clear c1); (try clear c2); (try clear p2); (try clear c3); (try clear c4); (try clear c5); (try clear c6); (try clear p6); (try clear c7); (try clear c8); (try clear c9); (try clear c10); (try clear c11); (try clear c12); (try clear c19); (try clear c21); (try clear c22); (try clear c23); (try clear c23b0); (try clear c23b1); (try clear c26); (try clear c29); (try clear c53); (try clear c56); (try clear c58); (try clear p64); (try clear c70); (try clear c74); (try clear c74b0); (try clear c75); (try clear c80); (try clear c80b0); (try clear c80b1); (try clear p2); (try clear p6); (try clear p64)
             obtain ⟨x14_4, rfl, HA, HK4, HO_9, HO_13, HB⟩ := hrel
             cases gk with
             | zero => exact absurd HA.out (by simp [laws_FnCharacters.l1])
             | succ k4 =>
              have H := HA.out
              clear HA
              simp only [laws_FnCharacters.l1] at H
              by_cases c87 : x14_4 < (t632.length : Int)
              ·rw [if_pos c87] at H
               have c87b0 := decide_eq_true c87
               clear c87
               have H' := ax H
               clear H
               obtain ⟨Ao88, co88, eo88⟩ := Kd.N_slice HO_9.out
               subst eo88
               go_wp2
               go_loopg [15] k4 (fun kq v15 w' => ∃ (x15_5 : Int), v15 = .int .i64 x15_5 ∧ Aside0 (laws_FnCharacters.l2 kq t631 t632 t665 x14_4 x15_5 = some r) ∧ Aside0 (kq ≤ k4) ∧ Aside0 (Kd.N (Kd.slice 3 (Kd.int .i64)) 24 w' w.heap.size (fun k_ => some k_ ≠ (v666 : Value).ownBlock) (.slice Ao88 t632.length co88) t632) ∧ Aside0 (Kd.N (Kd.slice 3 (Kd.int .i64)) 24 w' w.heap.size (fun k_ => some k_ ≠ ((.slice Ao88 t632.length co88) : Value).ownBlock) v666 t665) ∧ Aside0 (Below w.heap.size w w'))
               case atStart => exact ⟨(0), xr, H', ⟨Nat.le_refl _⟩, ⟨xN HO_9.out⟩, ⟨xN HO_13.out⟩, ⟨xb HB.out⟩⟩
               case round =>
                clear H'
                (try clear c1); (try clear c2); (try clear p2); (try clear c3); (try clear c4); (try clear c5); (try clear c6); (try clear p6); (try clear c7); (try clear c8); (try clear c9); (try clear c10); (try clear c11); (try clear c12); (try clear c19); (try clear c21); (try clear c22); (try clear c23); (try clear c23b0); (try clear c23b1); (try clear c26); (try clear c29); (try clear c53); (try clear c56); (try clear c58); (try clear p64); (try clear c70); (try clear c74); (try clear c74b0); (try clear c75); (try clear c80); (try clear c80b0); (try clear c80b1); (try clear c87); (try clear c87b0); (try clear p2); (try clear p6); (try clear p64)
                obtain ⟨x15_5, rfl, HA, HK5, HO_9, HO_13, HB⟩ := hrel
                cases gk with
                | zero => exact absurd HA.out (by simp [laws_FnCharacters.l2])
                | succ k5 =>
                 have H := HA.out
                 clear HA
                 simp only [laws_FnCharacters.l2] at H
                 by_cases c89 : x15_5 < (t632.length : Int)
                 ·rw [if_pos c89] at H
                  have c89b0 := decide_eq_true c89
                  clear c89
                  have H' := ax H
                  clear H
                  go_wp2
                  go_loopg [16, 17] k5 (fun kq v16 v17 w' => ∃ (x16_6 : Int) (x17_6 : Int), v16 = .int .i64 x16_6 ∧ v17 = .int .i64 x17_6 ∧ Aside0 (laws_FnCharacters.l3 kq t631 t632 t665 x14_4 x15_5 x16_6 x17_6 = some r) ∧ Aside0 (kq ≤ k5) ∧ Aside0 (Kd.N (Kd.slice 3 (Kd.int .i64)) 24 w' w.heap.size (fun k_ => some k_ ≠ (v666 : Value).ownBlock) (.slice Ao88 t632.length co88) t632) ∧ Aside0 (Kd.N (Kd.slice 3 (Kd.int .i64)) 24 w' w.heap.size (fun k_ => some k_ ≠ ((.slice Ao88 t632.length co88) : Value).ownBlock) v666 t665) ∧ Aside0 (Below w.heap.size w w'))
                  case atStart => exact ⟨(0), (0), xr, xr, H', ⟨Nat.le_refl _⟩, ⟨xN HO_9.out⟩, ⟨xN HO_13.out⟩, ⟨xb HB.out⟩⟩
                  case round =>
                   clear H'
                   (try clear c1); (try clear c2); (try clear p2); (try clear c3); (try clear c4); (try clear c5); (try clear c6); (try clear p6); (try clear c7); (try clear c8); (try clear c9); (try clear c10); (try clear c11); (try clear c12); (try clear c19); (try clear c21); (try clear c22); (try clear c23); (try clear c23b0); (try clear c23b1); (try clear c26); (try clear c29); (try clear c53); (try clear c56); (try clear c58); (try clear p64); (try clear c70); (try clear c74); (try clear c74b0); (try clear c75); (try clear c80); (try clear c80b0); (try clear c80b1); (try clear c87); (try clear c87b0); (try clear c89); (try clear c89b0); (try clear p2); (try clear p6); (try clear p64)
                   obtain ⟨x16_6, x17_6, rfl, rfl, HA, HK6, HO_9, HO_13, HB⟩ := hrel
                   cases gk with
                   | zero => exact absurd HA.out (by simp [laws_FnCharacters.l3])
                   | succ k6 =>
                    have H := HA.out
                    clear HA
                    simp only [laws_FnCharacters.l3] at H
                    have HC90 := ax H
                    clear H
                    go_upto_region 30 with (fail)
                    go_cut [124] (fun v124 wc => ∃ (kq : Nat) (x124_89 : Bool), v124 = .bool x124_89 ∧ Aside0 (laws_FnCharacters.j6 kq t631 t632 t665 x14_4 x15_5 x16_6 x17_6 x124_89 = some r) ∧ Aside0 (kq ≤ k6) ∧ Aside0 (Kd.N (Kd.slice 3 (Kd.int .i64)) 24 wc w.heap.size (fun k_ => some k_ ≠ (v666 : Value).ownBlock) (.slice Ao88 t632.length co88) t632) ∧ Aside0 (Kd.N (Kd.slice 3 (Kd.int .i64)) 24 wc w.heap.size (fun k_ => some k_ ≠ ((.slice Ao88 t632.length co88) : Value).ownBlock) v666 t665) ∧ Aside0 (Below w.heap.size w wc))
                    case first =>
                     have H := HC90.out
                     clear HC90
                     by_cases c91 : x17_6 < (t632.length : Int)
                     ·rw [if_pos c91] at H
                      have c91b0 := decide_eq_true c91
                      clear c91
                      (first | rw [c91b0] | (simp only [i64_w, i32_w]; rw [c91b0]) | skip)
                      by_cases c92 : 0 ≤ x15_5
                      case neg => (rw [if_neg c92] at H; exact absurd H (by simp))
                      rw [if_pos c92] at H
                      have c92b0 := decide_eq_true c92
                      clear c92
                      by_cases c93 : x15_5 < (t632.length : Int)
                      case neg => (rw [if_neg c93] at H; exact absurd H (by simp))
                      rw [if_pos c93] at H
                      have c93b0 := decide_eq_true c93
                      clear c93
                      have H' := ax H
                      clear H
                      have p668 : 0 ≤ (x15_5 : Int) := xd
                      have q668 : x15_5 < (t632.length : Int) := xd
                      obtain ⟨ad668, A668_0, c668_0, e668, hx668_0, hl668_0, hi668_0⟩ := at_L2 (Kd.N_reads' HO_9.out).2.2 x15_5 p668 q668
                      cases e668
                      obtain ⟨ce668, hce668, hMe668, hcc668⟩ := Kd.N_get HO_9.out [] x15_5 p668 (by first | exact q668 | exact xd | (have e_ := (Kd.N_reads' HO_9.out).1; omega))
                      obtain ⟨ua668_0, uc668_0, rfl, ul668_0, ge668_0⟩ := Kd.FK_slice_open hMe668
                      have hv668_0 := hcc668 0 _ rfl
                      rw [Nat.add_zero, show ((Kd.slice 3 (Kd.int .i64))).sz = 1 from rfl, Nat.mul_one] at hv668_0
                      replace hv668_0 := Option.some.inj (hv668_0.symm.trans hx668_0)
                      injection hv668_0 with hva_ hvn_ hvc_
                      rw [hva_] at ge668_0
                      rw [hvc_] at ul668_0
                      have HL668_0 := ax (show Kd.V (Kd.int .i64) 3 _ w.heap.size _ _ (rd_L2 t632 x15_5) from Kd.V_mk ul668_0 ge668_0)
                      clear hva_ hvn_ hvc_ ge668_0 ul668_0 hcc668 hce668
                      have HR668_0 := ax hi668_0
                      have HC668_0 := ax hl668_0
                      clear hi668_0 hl668_0
                      replace p668 := eq_true p668
                      replace q668 := eq_true q668
                      go_wp2
                      go_meet
                      case rel => exact ⟨_, (decide (x17_6 < ((rd_L2 t632 x15_5).length : Int))), xr, H', ⟨by have := HJ10.out; have := HJ53.out; have := HK3.out; have := HK4.out; have := HK5.out; have := HK6.out; first | omega | exact Nat.le_refl _⟩, ⟨xN HO_9.out⟩, ⟨xN HO_13.out⟩, ⟨xb HB.out⟩⟩
                     ·rw [if_neg c91] at H
                      have c91b0 := decide_eq_false c91
                      clear c91
                      (first | rw [c91b0] | (simp only [i64_w, i32_w]; rw [c91b0]) | skip)
                      have H' := ax H
                      clear H
                      go_wp2
                      go_meet
                      case rel => exact ⟨_, (false), xr, H', ⟨by have := HJ10.out; have := HJ53.out; have := HK3.out; have := HK4.out; have := HK5.out; have := HK6.out; first | omega | exact Nat.le_refl _⟩, ⟨xN HO_9.out⟩, ⟨xN HO_13.out⟩, ⟨xb HB.out⟩⟩
                    case rest =>
                     clear HC90
                     (try clear c1); (try clear c2); (try clear p2); (try clear c3); (try clear c4); (try clear c5); (try clear c6); (try clear p6); (try clear q6); (try clear hx6); (try clear c7); (try clear c8); (try clear c9); (try clear c10); (try clear c11); (try clear c12); (try clear c19); (try clear c21); (try clear c22); (try clear c23); (try clear c23b0); (try clear c23b1); (try clear c26); (try clear c29); (try clear c53); (try clear c56); (try clear c58); (try clear p64); (try clear c66); (try clear p66); (try clear q66); (try clear hx66); (try clear c70); (try clear c74); (try clear c74b0); (try clear c75); (try clear c80); (try clear c80b0); (try clear c80b1); (try clear c87); (try clear c87b0); (try clear c89); (try clear c89b0); (try clear c91); (try clear c91b0); (try clear c92); (try clear c92b0); (try clear c93); (try clear c93b0); (try clear hx668_0); (try clear p2); (try clear p6); (try clear p64); (try clear p668); (try clear q668)
                     obtain ⟨kq, x124_89, rfl, HA, HJ89, HO_9, HO_13, HB⟩ := hcut
                     cases kq with
                     | zero => exact absurd HA.out (by simp [laws_FnCharacters.j6])
                     | succ kj89 =>
                      have H := HA.out
                      clear HA
                      simp only [laws_FnCharacters.j6] at H
                      by_cases c94 : x124_89 = true
                      ·subst c94
                       rw [if_pos rfl] at H
                       by_cases c95 : 0 ≤ x14_4
                       case neg => (rw [if_neg c95] at H; exact absurd H (by simp))
                       rw [if_pos c95] at H
                       have c95b0 := decide_eq_true c95
                       clear c95
                       by_cases c96 : x14_4 < (t632.length : Int)
                       case neg => (rw [if_neg c96] at H; exact absurd H (by simp))
                       rw [if_pos c96] at H
                       have c96b0 := decide_eq_true c96
                       clear c96
                       by_cases c97 : ((rd_L2 t632 x14_4).length : Int) = (t632.length : Int)
                       ·rw [if_pos c97] at H
                        have c97b0 : (((rd_L2 t632 x14_4).length : Int) == (t632.length : Int)) = true := beq_iff_eq.mpr c97
                        have c97b1 : (((rd_L2 t632 x14_4).length : Int) != (t632.length : Int)) = false := bne_eq_false_iff_eq.mpr c97
                        have c97b2 : ((rd_L2 t632 x14_4).length == t632.length) = true := by first | simpa using c97 | (simp at c97 ⊢; omega)
                        clear c97
                        by_cases c98 : 0 ≤ x15_5
                        case neg => (rw [if_neg c98] at H; exact absurd H (by simp))
                        rw [if_pos c98] at H
                        have c98b0 := decide_eq_true c98
                        clear c98
                        by_cases c99 : x15_5 < (t632.length : Int)
                        case neg => (rw [if_neg c99] at H; exact absurd H (by simp))
                        rw [if_pos c99] at H
                        have c99b0 := decide_eq_true c99
                        clear c99
                        by_cases c100 : ((rd_L2 t632 x15_5).length : Int) = (t632.length : Int)
                        ·rw [if_pos c100] at H
                         have c100b0 : (((rd_L2 t632 x15_5).length : Int) == (t632.length : Int)) = true := beq_iff_eq.mpr c100
                         have c100b1 : (((rd_L2 t632 x15_5).length : Int) != (t632.length : Int)) = false := bne_eq_false_iff_eq.mpr c100
                         have c100b2 : ((rd_L2 t632 x15_5).length == t632.length) = true := by first | simpa using c100 | (simp at c100 ⊢; omega)
                         clear c100
                         by_cases c101 : 0 ≤ x17_6
                         case neg => (rw [if_neg c101] at H; exact absurd H (by simp))
                         rw [if_pos c101] at H
                         have c101b0 := decide_eq_true c101
                         clear c101
                         by_cases c102 : x17_6 < (t665.length : Int)
                         case neg => (rw [if_neg c102] at H; exact absurd H (by simp))
                         rw [if_pos c102] at H
                         have c102b0 := decide_eq_true c102
                         clear c102
                         obtain ⟨t672, A103, H⟩ := xI H
                         by_cases c104 : x17_6 < ((rd_L2 t632 x14_4).length : Int)
                         case neg => (rw [if_neg c104] at H; exact absurd H (by simp))
                         rw [if_pos c104] at H
                         have c104b0 := decide_eq_true c104
                         clear c104
                         by_cases c105 : x17_6 < ((rd_L2 t632 x15_5).length : Int)
                         case neg => (rw [if_neg c105] at H; exact absurd H (by simp))
                         rw [if_pos c105] at H
                         have c105b0 := decide_eq_true c105
                         clear c105
                         have H' := ax H
                         clear H
                         have p669 : 0 ≤ (x14_4 : Int) := xd
                         have q669 : x14_4 < (t632.length : Int) := xd
                         obtain ⟨ad669, A669_0, c669_0, e669, hx669_0, hl669_0, hi669_0⟩ := at_L2 (Kd.N_reads' HO_9.out).2.2 x14_4 p669 q669
                         cases e669
                         obtain ⟨ce669, hce669, hMe669, hcc669⟩ := Kd.N_get HO_9.out [] x14_4 p669 (by first | exact q669 | exact xd | (have e_ := (Kd.N_reads' HO_9.out).1; omega))
                         obtain ⟨ua669_0, uc669_0, rfl, ul669_0, ge669_0⟩ := Kd.FK_slice_open hMe669
                         have hv669_0 := hcc669 0 _ rfl
                         rw [Nat.add_zero, show ((Kd.slice 3 (Kd.int .i64))).sz = 1 from rfl, Nat.mul_one] at hv669_0
                         replace hv669_0 := Option.some.inj (hv669_0.symm.trans hx669_0)
                         injection hv669_0 with hva_ hvn_ hvc_
                         rw [hva_] at ge669_0
                         rw [hvc_] at ul669_0
                         have HL669_0 := ax (show Kd.V (Kd.int .i64) 3 _ w.heap.size _ _ (rd_L2 t632 x14_4) from Kd.V_mk ul669_0 ge669_0)
                         clear hva_ hvn_ hvc_ ge669_0 ul669_0 hcc669 hce669
                         have HR669_0 := ax hi669_0
                         have HC669_0 := ax hl669_0
                         clear hi669_0 hl669_0
                         replace p669 := eq_true p669
                         replace q669 := eq_true q669
                         have p670 : 0 ≤ (x15_5 : Int) := xd
                         have q670 : x15_5 < (t632.length : Int) := xd
                         obtain ⟨ad670, A670_0, c670_0, e670, hx670_0, hl670_0, hi670_0⟩ := at_L2 (Kd.N_reads' HO_9.out).2.2 x15_5 p670 q670
                         obtain rfl : ad669 = ad670 := (by injection e670)
                         obtain ⟨ce670, hce670, hMe670, hcc670⟩ := Kd.N_get HO_9.out [] x15_5 p670 (by first | exact q670 | exact xd | (have e_ := (Kd.N_reads' HO_9.out).1; omega))
                         obtain ⟨ua670_0, uc670_0, rfl, ul670_0, ge670_0⟩ := Kd.FK_slice_open hMe670
                         have hv670_0 := hcc670 0 _ rfl
                         rw [Nat.add_zero, show ((Kd.slice 3 (Kd.int .i64))).sz = 1 from rfl, Nat.mul_one] at hv670_0
                         replace hv670_0 := Option.some.inj (hv670_0.symm.trans hx670_0)
                         injection hv670_0 with hva_ hvn_ hvc_
                         rw [hva_] at ge670_0
                         rw [hvc_] at ul670_0
                         have HL670_0 := ax (show Kd.V (Kd.int .i64) 3 _ w.heap.size _ _ (rd_L2 t632 x15_5) from Kd.V_mk ul670_0 ge670_0)
                         clear hva_ hvn_ hvc_ ge670_0 ul670_0 hcc670 hce670
                         have HR670_0 := ax hi670_0
                         have HC670_0 := ax hl670_0
                         clear hi670_0 hl670_0
                         replace p670 := eq_true p670
                         replace q670 := eq_true q670
                         try go_wp2
                         replace HO_9 := ax (Kd.N_drew HO_9.out); replace HO_13 := ax (Kd.N_drew HO_13.out); replace HL669_0 := ax (Kd.V_drew HL669_0.out); replace HL670_0 := ax (Kd.V_drew HL670_0.out); replace HR669_0 := ax (Kd.C_drew HR669_0.out); replace HR670_0 := ax (Kd.C_drew HR670_0.out); replace HB := ax (below_drew1 HB.out)
                         obtain ⟨Ao107, co107, eo107⟩ := Kd.N_slice HO_13.out
                         (first | subst eo107 | (injection eo107 with f1_ f2_ f3_; have f4_ := f1_.symm; have f5_ := f3_.symm; clear f1_ f2_ f3_; subst f4_; subst f5_))
                         have p671 : 0 ≤ (x17_6 : Int) := xd
                         have q671 : x17_6 < (t665.length : Int) := xd
                         obtain ⟨ad671, A671_0, c671_0, e671, hx671_0, hl671_0, hi671_0⟩ := at_L2 (Kd.N_reads' HO_13.out).2.2 x17_6 p671 q671
                         cases e671
                         obtain ⟨ce671, hce671, hMe671, hcc671⟩ := Kd.N_get HO_13.out [] x17_6 p671 (by first | exact q671 | exact xd | (have e_ := (Kd.N_reads' HO_13.out).1; omega))
                         obtain ⟨ua671_0, uc671_0, rfl, ul671_0, ge671_0⟩ := Kd.FK_slice_open hMe671
                         have hv671_0 := hcc671 0 _ rfl
                         rw [Nat.add_zero, show ((Kd.slice 3 (Kd.int .i64))).sz = 1 from rfl, Nat.mul_one] at hv671_0
                         replace hv671_0 := Option.some.inj (hv671_0.symm.trans hx671_0)
                         injection hv671_0 with hva_ hvn_ hvc_
                         rw [hva_] at ge671_0
                         rw [hvc_] at ul671_0
                         have HL671_0 := ax (show Kd.V (Kd.int .i64) 3 _ w.heap.size _ _ (rd_L2 t665 x17_6) from Kd.V_mk ul671_0 ge671_0)
                         clear hva_ hvn_ hvc_ ge671_0 ul671_0 hcc671 hce671
                         have HR671_0 := ax hi671_0
                         have HC671_0 := ax hl671_0
                         clear hi671_0 hl671_0
                         replace p671 := eq_true p671
                         replace q671 := eq_true q671
                         have p673 : 0 ≤ (x14_4 : Int) := xd
                         have q673 : x14_4 < (t632.length : Int) := xd
                         obtain ⟨ad673, A673_0, c673_0, e673, hx673_0, hl673_0, hi673_0⟩ := at_L2 (Kd.N_reads' HO_9.out).2.2 x14_4 p673 q673
                         obtain rfl : ad669 = ad673 := (by injection e673)
                         obtain ⟨ce673, hce673, hMe673, hcc673⟩ := Kd.N_get HO_9.out [] x14_4 p673 (by first | exact q673 | exact xd | (have e_ := (Kd.N_reads' HO_9.out).1; omega))
                         obtain ⟨ua673_0, uc673_0, rfl, ul673_0, ge673_0⟩ := Kd.FK_slice_open hMe673
                         have hv673_0 := hcc673 0 _ rfl
                         rw [Nat.add_zero, show ((Kd.slice 3 (Kd.int .i64))).sz = 1 from rfl, Nat.mul_one] at hv673_0
                         replace hv673_0 := Option.some.inj (hv673_0.symm.trans hx673_0)
                         injection hv673_0 with hva_ hvn_ hvc_
                         rw [hva_] at ge673_0
                         rw [hvc_] at ul673_0
                         have HL673_0 := ax (show Kd.V (Kd.int .i64) 3 _ w.heap.size _ _ (rd_L2 t632 x14_4) from Kd.V_mk ul673_0 ge673_0)
                         clear hva_ hvn_ hvc_ ge673_0 ul673_0 hcc673 hce673
                         have HR673_0 := ax hi673_0
                         have HC673_0 := ax hl673_0
                         clear hi673_0 hl673_0
                         replace p673 := eq_true p673
                         replace q673 := eq_true q673
                         have p674 : 0 ≤ (x17_6 : Int) := xd
                         have q674 : x17_6 < ((rd_L2 t632 x14_4).length : Int) := xd
                         obtain ⟨ad674, e674, hx674_0⟩ := Kd.at_int (xw HR673_0.out) x17_6 p674 q674
                         cases e674
                         replace p674 := eq_true p674
                         replace q674 := eq_true q674
                         have p675 : 0 ≤ (x15_5 : Int) := xd
                         have q675 : x15_5 < (t632.length : Int) := xd
                         obtain ⟨ad675, A675_0, c675_0, e675, hx675_0, hl675_0, hi675_0⟩ := at_L2 (Kd.N_reads' HO_9.out).2.2 x15_5 p675 q675
                         obtain rfl : ad669 = ad675 := (by injection e675)
                         obtain ⟨ce675, hce675, hMe675, hcc675⟩ := Kd.N_get HO_9.out [] x15_5 p675 (by first | exact q675 | exact xd | (have e_ := (Kd.N_reads' HO_9.out).1; omega))
                         obtain ⟨ua675_0, uc675_0, rfl, ul675_0, ge675_0⟩ := Kd.FK_slice_open hMe675
                         have hv675_0 := hcc675 0 _ rfl
                         rw [Nat.add_zero, show ((Kd.slice 3 (Kd.int .i64))).sz = 1 from rfl, Nat.mul_one] at hv675_0
                         replace hv675_0 := Option.some.inj (hv675_0.symm.trans hx675_0)
                         injection hv675_0 with hva_ hvn_ hvc_
                         rw [hva_] at ge675_0
                         rw [hvc_] at ul675_0
                         have HL675_0 := ax (show Kd.V (Kd.int .i64) 3 _ w.heap.size _ _ (rd_L2 t632 x15_5) from Kd.V_mk ul675_0 ge675_0)
                         clear hva_ hvn_ hvc_ ge675_0 ul675_0 hcc675 hce675
                         have HR675_0 := ax hi675_0
                         have HC675_0 := ax hl675_0
                         clear hi675_0 hl675_0
                         replace p675 := eq_true p675
                         replace q675 := eq_true q675
                         have p676 : 0 ≤ (x17_6 : Int) := xd
                         have q676 : x17_6 < ((rd_L2 t632 x15_5).length : Int) := xd
                         obtain ⟨ad676, e676, hx676_0⟩ := Kd.at_int (xw HR675_0.out) x17_6 p676 q676
                         cases e676
                         replace p676 := eq_true p676
                         replace q676 := eq_true q676
                         refine start_ (n := 24) (S := fun w' => w'.cell? (ad671.add (x17_6).toNat) = some (.slice A671_0 (rd_L2 t665 x17_6).length c671_0) ∧ w'.cell? (ad669.add (x14_4).toNat) = some (.slice (some ad674) (rd_L2 t632 x14_4).length c673_0) ∧ w'.cell? (ad674.add (x17_6).toNat) = some (.int .i64 (rd (rd_L2 t632 x14_4) x17_6)) ∧ w'.cell? (ad669.add (x15_5).toNat) = some (.slice (some ad676) (rd_L2 t632 x15_5).length c675_0) ∧ w'.cell? (ad676.add (x17_6).toNat) = some (.int .i64 (rd (rd_L2 t632 x15_5) x17_6))) (ds := []) (xB 24 0) (by kernel_rfl) rfl (by kernel_rfl) ⟨hx671_0, hx673_0, hx674_0, hx675_0, hx676_0⟩ (fun hHeld => ?_); refine with_tabW laws_FnCharacters.tab34 laws_FnCharacters.bits34 (fun HT_ HW_ => ?_)
                         generalize wc.drew = w106 at HO_9 HO_13 HL669_0 HL670_0 HR669_0 HR670_0 HB HL671_0 HL673_0 HL675_0 HR671_0 HR673_0 HR675_0 hx671_0 hx673_0 hx674_0 hx675_0 hx676_0 hHeld ⊢
                         refine pu (i := 0) (N := some 145) (xB 24 1) HT_.out ?_
                         refine pu (i := 1) (N := some 146) (xB 24 3) HT_.out ?_
                         refine pu (i := 2) (N := some 147) (xB 24 7) HT_.out ?_
                         refine pu (i := 3) (N := some 148) (xB 24 15) HT_.out ?_
                         refine pu (i := 6) (N := some 151) (xB 24 79) HT_.out ?_
                         refine pu (i := 7) (N := some 152) (xB 24 207) HT_.out ?_
                         refine pu (i := 8) (N := some 153) (xB 24 463) HT_.out ?_
                         refine pu (i := 10) (N := some 155) (xB 24 1487) HT_.out ?_
                         refine pu (i := 14) (N := some 159) (xB 24 17871) HT_.out ?_
                         refine pu (i := 15) (N := some 160) (xB 24 50639) HT_.out ?_
                         refine pu (i := 16) (N := some 161) (xB 24 116175) HT_.out ?_
                         refine pu (i := 18) (N := some 163) (xB 24 378319) HT_.out ?_
                         refine tk (i := 4) (N := some 149) (xB 24 378335) HT_.out HW_.out hHeld ?_
                         refine tk (i := 9) (N := some 154) (xB 24 378847) HT_.out HW_.out hHeld ?_
                         refine pu (i := 11) (N := some 156) (xB 24 380895) HT_.out ?_
                         refine tk (i := 12) (N := some 157) (xB 24 384991) HT_.out HW_.out hHeld ?_
                         refine tk (i := 17) (N := some 162) (xB 24 516063) HT_.out HW_.out hHeld ?_
                         refine pu (i := 19) (N := some 164) (xB 24 1040351) HT_.out ?_
                         refine tk (i := 20) (N := some 165) (xB 24 2088927) HT_.out HW_.out hHeld ?_
                         refine one_ (i := 5) (N := some 150) (xB 24 2088959) rfl rfl (one_of HT_.out (by kernel_rfl)) (by decide) (fun K hK => ?_)
                         refine goes_ Try.func24 (by kernel_rfl) rfl #[.slice A671_0 (rd_L2 t665 x17_6).length c671_0] (by rfl) rfl rfl xm ?_
                         with_reducible refine (spec_ClassSize.calls kj89 _ _ (rd_L2 t665 x17_6) t672 _ ?side1 ?side2 A103.out).mono ?_
                         (case side1 => exact xw HR671_0.out)
                         (case side2 => exact HC671_0.out)
                         rintro e w108 ⟨rfl, hb⟩
                         have HS0_ := (hb.cell (World.block_lt_of_cell? _ _ (hHeld.1))).trans (hHeld.1)
                         have HS1_ := (hb.cell (World.block_lt_of_cell? _ _ (hHeld.2.1))).trans (hHeld.2.1)
                         have HS2_ := (hb.cell (World.block_lt_of_cell? _ _ (hHeld.2.2.1))).trans (hHeld.2.2.1)
                         have HS3_ := (hb.cell (World.block_lt_of_cell? _ _ (hHeld.2.2.2.1))).trans (hHeld.2.2.2.1)
                         have HS4_ := (hb.cell (World.block_lt_of_cell? _ _ (hHeld.2.2.2.2))).trans (hHeld.2.2.2.2)
                         refine ⟨_, rfl, ?_⟩
                         replace HO_9 := ax (Kd.N_below (xN HO_9.out) hb); replace HO_13 := ax (Kd.N_below (xN HO_13.out) hb); replace HL669_0 := ax (Kd.V_below (xV HL669_0.out) hb); replace HL670_0 := ax (Kd.V_below (xV HL670_0.out) hb); replace HL671_0 := ax (Kd.V_below (xV HL671_0.out) hb); replace HL673_0 := ax (Kd.V_below (xV HL673_0.out) hb); replace HL675_0 := ax (Kd.V_below (xV HL675_0.out) hb); replace HR669_0 := ax (Kd.C_below (xw HR669_0.out) hb); replace HR670_0 := ax (Kd.C_below (xw HR670_0.out) hb); replace HR671_0 := ax (Kd.C_below (xw HR671_0.out) hb); replace HR673_0 := ax (Kd.C_below (xw HR673_0.out) hb); replace HR675_0 := ax (Kd.C_below (xw HR675_0.out) hb); replace HB := ax (below_step (xb HB.out) hb)
                         (try clear hb)
                         (try clear hb2)
                         (try clear hk)
                         (try clear hi)
                         refine hK.out _ _ ⟨HS0_, HS1_, HS2_, HS3_, HS4_⟩ (fun hHeld => ?_)
                         clear hK K
                         refine norm_ (a' := ?_) ?_ ?_
                         rotate_left
                         ·show Act.put _ (some 150) _ = _
                          simp only [Act.put, List.setIfInBounds_toArray, List.set_cons_zero, List.set_cons_succ, i64_w, i32_w]
                          rfl
                         refine pu (i := 13) (N := some 158) (xB 24 2097151) HT_.out ?_
                         refine pu (i := 21) (N := some 166) (xB 24 4194303) HT_.out ?_
                         refine pu (i := 22) (N := some 167) (xB 24 8388607) HT_.out ?_
                         refine pu (i := 23) (N := some 16) (xB 24 16777215) HT_.out ?_
                         refine done_ (done_of HT_.out (by kernel_rfl)) ?_
                         try go_wp2
                         go_roundg kj89
                         case measure => have := HJ10.out; have := HJ53.out; have := HK3.out; have := HK4.out; have := HK5.out; have := HK6.out; have := HJ89.out; omega
                         case rel => exact ⟨(wrap64 (x16_6 + (wrap64 ((wrap64 (t672 * (rd (rd_L2 t632 x14_4) x17_6))) * (rd (rd_L2 t632 x15_5) x17_6))))), (wrap64 (x17_6 + 1)), xr, xr, H', ⟨by have := HJ10.out; have := HJ53.out; have := HK3.out; have := HK4.out; have := HK5.out; have := HK6.out; have := HJ89.out; omega⟩, ⟨xN HO_9.out⟩, ⟨xN HO_13.out⟩, ⟨xb HB.out⟩⟩
                        ·rw [if_neg c100] at H
                         have c100b0 : (((rd_L2 t632 x15_5).length : Int) == (t632.length : Int)) = false := beq_eq_false_iff_ne.mpr c100
                         have c100b1 : (((rd_L2 t632 x15_5).length : Int) != (t632.length : Int)) = true := bne_iff_ne.mpr c100
                         have c100b2 : ((rd_L2 t632 x15_5).length == t632.length) = false := by first | simpa using c100 | (simp at c100 ⊢; omega)
                         obtain rfl := Option.some.inj H
                         have p669 : 0 ≤ (x14_4 : Int) := xd
                         have q669 : x14_4 < (t632.length : Int) := xd
                         obtain ⟨ad669, A669_0, c669_0, e669, hx669_0, hl669_0, hi669_0⟩ := at_L2 (Kd.N_reads' HO_9.out).2.2 x14_4 p669 q669
                         cases e669
                         obtain ⟨ce669, hce669, hMe669, hcc669⟩ := Kd.N_get HO_9.out [] x14_4 p669 (by first | exact q669 | exact xd | (have e_ := (Kd.N_reads' HO_9.out).1; omega))
                         obtain ⟨ua669_0, uc669_0, rfl, ul669_0, ge669_0⟩ := Kd.FK_slice_open hMe669
                         have hv669_0 := hcc669 0 _ rfl
                         rw [Nat.add_zero, show ((Kd.slice 3 (Kd.int .i64))).sz = 1 from rfl, Nat.mul_one] at hv669_0
                         replace hv669_0 := Option.some.inj (hv669_0.symm.trans hx669_0)
                         injection hv669_0 with hva_ hvn_ hvc_
                         rw [hva_] at ge669_0
                         rw [hvc_] at ul669_0
                         have HL669_0 := ax (show Kd.V (Kd.int .i64) 3 _ w.heap.size _ _ (rd_L2 t632 x14_4) from Kd.V_mk ul669_0 ge669_0)
                         clear hva_ hvn_ hvc_ ge669_0 ul669_0 hcc669 hce669
                         have HR669_0 := ax hi669_0
                         have HC669_0 := ax hl669_0
                         clear hi669_0 hl669_0
                         replace p669 := eq_true p669
                         replace q669 := eq_true q669
                         have p670 : 0 ≤ (x15_5 : Int) := xd
                         have q670 : x15_5 < (t632.length : Int) := xd
                         obtain ⟨ad670, A670_0, c670_0, e670, hx670_0, hl670_0, hi670_0⟩ := at_L2 (Kd.N_reads' HO_9.out).2.2 x15_5 p670 q670
                         obtain rfl : ad669 = ad670 := (by injection e670)
                         obtain ⟨ce670, hce670, hMe670, hcc670⟩ := Kd.N_get HO_9.out [] x15_5 p670 (by first | exact q670 | exact xd | (have e_ := (Kd.N_reads' HO_9.out).1; omega))
                         obtain ⟨ua670_0, uc670_0, rfl, ul670_0, ge670_0⟩ := Kd.FK_slice_open hMe670
                         have hv670_0 := hcc670 0 _ rfl
                         rw [Nat.add_zero, show ((Kd.slice 3 (Kd.int .i64))).sz = 1 from rfl, Nat.mul_one] at hv670_0
                         replace hv670_0 := Option.some.inj (hv670_0.symm.trans hx670_0)
                         injection hv670_0 with hva_ hvn_ hvc_
                         rw [hva_] at ge670_0
                         rw [hvc_] at ul670_0
                         have HL670_0 := ax (show Kd.V (Kd.int .i64) 3 _ w.heap.size _ _ (rd_L2 t632 x15_5) from Kd.V_mk ul670_0 ge670_0)
                         clear hva_ hvn_ hvc_ ge670_0 ul670_0 hcc670 hce670
                         have HR670_0 := ax hi670_0
                         have HC670_0 := ax hl670_0
                         clear hi670_0 hl670_0
                         replace p670 := eq_true p670
                         replace q670 := eq_true q670
                         go_wp2
                         go_ret
                         exact ⟨xe, xb HB.out⟩
                       ·rw [if_neg c97] at H
                        have c97b0 : (((rd_L2 t632 x14_4).length : Int) == (t632.length : Int)) = false := beq_eq_false_iff_ne.mpr c97
                        have c97b1 : (((rd_L2 t632 x14_4).length : Int) != (t632.length : Int)) = true := bne_iff_ne.mpr c97
                        have c97b2 : ((rd_L2 t632 x14_4).length == t632.length) = false := by first | simpa using c97 | (simp at c97 ⊢; omega)
                        obtain rfl := Option.some.inj H
                        have p669 : 0 ≤ (x14_4 : Int) := xd
                        have q669 : x14_4 < (t632.length : Int) := xd
                        obtain ⟨ad669, A669_0, c669_0, e669, hx669_0, hl669_0, hi669_0⟩ := at_L2 (Kd.N_reads' HO_9.out).2.2 x14_4 p669 q669
                        cases e669
                        obtain ⟨ce669, hce669, hMe669, hcc669⟩ := Kd.N_get HO_9.out [] x14_4 p669 (by first | exact q669 | exact xd | (have e_ := (Kd.N_reads' HO_9.out).1; omega))
                        obtain ⟨ua669_0, uc669_0, rfl, ul669_0, ge669_0⟩ := Kd.FK_slice_open hMe669
                        have hv669_0 := hcc669 0 _ rfl
                        rw [Nat.add_zero, show ((Kd.slice 3 (Kd.int .i64))).sz = 1 from rfl, Nat.mul_one] at hv669_0
                        replace hv669_0 := Option.some.inj (hv669_0.symm.trans hx669_0)
                        injection hv669_0 with hva_ hvn_ hvc_
                        rw [hva_] at ge669_0
                        rw [hvc_] at ul669_0
                        have HL669_0 := ax (show Kd.V (Kd.int .i64) 3 _ w.heap.size _ _ (rd_L2 t632 x14_4) from Kd.V_mk ul669_0 ge669_0)
                        clear hva_ hvn_ hvc_ ge669_0 ul669_0 hcc669 hce669
                        have HR669_0 := ax hi669_0
                        have HC669_0 := ax hl669_0
                        clear hi669_0 hl669_0
                        replace p669 := eq_true p669
                        replace q669 := eq_true q669
                        go_wp2
                        go_ret
                        exact ⟨xe, xb HB.out⟩
                      ·replace c94 := Bool.eq_false_iff.mpr c94
                       subst c94
                       rw [if_neg (show ¬ (false = true) by decide)] at H
                       by_cases c109 : x14_4 = x15_5
                       ·rw [if_pos c109] at H
                        have c109b0 : (x14_4 == x15_5) = true := beq_iff_eq.mpr c109
                        have c109b1 : (x14_4 != x15_5) = false := bne_eq_false_iff_eq.mpr c109
                        clear c109
                        obtain ⟨t677, A110, H⟩ := xI H
                        by_cases c111 : x16_6 = t677
                        ·rw [if_pos c111] at H
                         have c111b0 : (x16_6 == t677) = true := beq_iff_eq.mpr c111
                         have c111b1 : (x16_6 != t677) = false := bne_eq_false_iff_eq.mpr c111
                         clear c111
                         have H' := ax H
                         clear H
                         go_wp2_with (first | ((with_reducible refine gate_callee (f := 25) rfl ?_); refine goesL_ (some 172) rfl rfl Try.func25 (by kernel_rfl) rfl #[.int .i64 t631] rfl xm ?_; (with_reducible refine (laws_factorial.calls kj89 t631 t677 _ A110.out).mono ?_); rintro e w' ⟨rfl, ⟨nd, rfl⟩⟩; refine ⟨_, rfl, ?_⟩))
                         go_roundg kj89
                         case measure => have := HJ10.out; have := HJ53.out; have := HK3.out; have := HK4.out; have := HK5.out; have := HK6.out; have := HJ89.out; omega
                         case rel => exact ⟨(wrap64 (x15_5 + 1)), xr, H', ⟨by have := HJ10.out; have := HJ53.out; have := HK3.out; have := HK4.out; have := HK5.out; have := HK6.out; have := HJ89.out; omega⟩, ⟨xN HO_9.out⟩, ⟨xN HO_13.out⟩, ⟨xb HB.out⟩⟩
                        ·rw [if_neg c111] at H
                         have c111b0 : (x16_6 == t677) = false := beq_eq_false_iff_ne.mpr c111
                         have c111b1 : (x16_6 != t677) = true := bne_iff_ne.mpr c111
                         obtain rfl := Option.some.inj H
                         go_wp2_with (first | ((with_reducible refine gate_callee (f := 25) rfl ?_); refine goesL_ (some 172) rfl rfl Try.func25 (by kernel_rfl) rfl #[.int .i64 t631] rfl xm ?_; (with_reducible refine (laws_factorial.calls kj89 t631 t677 _ A110.out).mono ?_); rintro e w' ⟨rfl, ⟨nd, rfl⟩⟩; refine ⟨_, rfl, ?_⟩))
                         go_ret
                         exact ⟨xe, xb HB.out⟩
                       ·rw [if_neg c109] at H
                        have c109b0 : (x14_4 == x15_5) = false := beq_eq_false_iff_ne.mpr c109
                        have c109b1 : (x14_4 != x15_5) = true := bne_iff_ne.mpr c109
                        by_cases c112 : x16_6 = 0
                        ·rw [if_pos c112] at H
                         have c112b0 : (x16_6 == 0) = true := beq_iff_eq.mpr c112
                         have c112b1 : (x16_6 != 0) = false := bne_eq_false_iff_eq.mpr c112
                         clear c112
                         have H' := ax H
                         clear H
                         go_wp2
                         go_roundg kj89
                         case measure => have := HJ10.out; have := HJ53.out; have := HK3.out; have := HK4.out; have := HK5.out; have := HK6.out; have := HJ89.out; omega
                         case rel => exact ⟨(wrap64 (x15_5 + 1)), xr, H', ⟨by have := HJ10.out; have := HJ53.out; have := HK3.out; have := HK4.out; have := HK5.out; have := HK6.out; have := HJ89.out; omega⟩, ⟨xN HO_9.out⟩, ⟨xN HO_13.out⟩, ⟨xb HB.out⟩⟩
                        ·rw [if_neg c112] at H
                         have c112b0 : (x16_6 == 0) = false := beq_eq_false_iff_ne.mpr c112
                         have c112b1 : (x16_6 != 0) = true := bne_iff_ne.mpr c112
                         obtain rfl := Option.some.inj H
                         go_wp2
                         go_ret
                         exact ⟨xe, xb HB.out⟩
                 ·rw [if_neg c89] at H
                  have c89b0 := decide_eq_false c89
                  clear c89
                  have H' := ax H
                  clear H
                  go_wp2
                  go_roundg k5
                  case measure => have := HJ10.out; have := HJ53.out; have := HK3.out; have := HK4.out; have := HK5.out; omega
                  case rel => exact ⟨(wrap64 (x14_4 + 1)), xr, H', ⟨by have := HJ10.out; have := HJ53.out; have := HK3.out; have := HK4.out; have := HK5.out; omega⟩, ⟨xN HO_9.out⟩, ⟨xN HO_13.out⟩, ⟨xb HB.out⟩⟩
              ·rw [if_neg c87] at H
               have c87b0 := decide_eq_false c87
               clear c87
               by_cases c113 : (t632.length : Int) = (t665.length : Int)
               ·rw [if_pos c113] at H
                have c113b0 : ((t632.length : Int) == (t665.length : Int)) = true := beq_iff_eq.mpr c113
                have c113b1 : ((t632.length : Int) != (t665.length : Int)) = false := bne_eq_false_iff_eq.mpr c113
                have c113b2 : (t632.length == t665.length) = true := by first | simpa using c113 | (simp at c113 ⊢; omega)
                clear c113
                obtain rfl := Option.some.inj H
                obtain ⟨Ao114, co114, eo114⟩ := Kd.N_slice HO_9.out
                subst eo114
                obtain ⟨Ao115, co115, eo115⟩ := Kd.N_slice HO_13.out
                subst eo115
                go_wp2
                go_ret
                exact ⟨xe, xb HB.out⟩
               ·rw [if_neg c113] at H
                have c113b0 : ((t632.length : Int) == (t665.length : Int)) = false := beq_eq_false_iff_ne.mpr c113
                have c113b1 : ((t632.length : Int) != (t665.length : Int)) = true := bne_iff_ne.mpr c113
                have c113b2 : (t632.length == t665.length) = false := by first | simpa using c113 | (simp at c113 ⊢; omega)
                obtain rfl := Option.some.inj H
                obtain ⟨Ao116, co116, eo116⟩ := Kd.N_slice HO_9.out
                subst eo116
                obtain ⟨Ao117, co117, eo117⟩ := Kd.N_slice HO_13.out
                subst eo117
                go_wp2
                go_ret
                exact ⟨xe, xb HB.out⟩
           ·rw [if_neg c80] at H
            have c80b0 : (t663 == t664) = false := beq_eq_false_iff_ne.mpr c80
            have c80b1 : (t663 != t664) = true := bne_iff_ne.mpr c80
            obtain rfl := Option.some.inj H
            go_wp2_with (first | ((with_reducible refine gate_callee (f := 21) rfl ?_); refine goesL_ (some 85) rfl rfl Try.func21 (by kernel_rfl) rfl #[.slice Ao13 t618.length co13] rfl xm ?_; (with_reducible refine (spec_SizeOf.calls k3 _ _ t618 t659 _ ?side1 ?side2 A73.out).mono ?_); (case side1 => exact xc (Kd.R_reads' HO_3.out).2.2); (case side2 => exact (Kd.R_reads' HO_3.out).2.1); rintro e w118 ⟨rfl, hb⟩; refine ⟨_, rfl, ?_⟩; replace HO_3 := ax (Kd.R_below (xR HO_3.out) hb); replace HO_9 := ax (Kd.N_below (xN HO_9.out) hb); replace HO_11 := ax (Kd.R_below (xR HO_11.out) hb); replace HB := ax (below_step (xb HB.out) hb); (try clear hb); (try clear hb2); (try clear hk); (try clear hi); obtain ⟨Ao119, co119, eo119⟩ := Kd.R_slice HO_11.out; subst eo119) | ((with_reducible refine gate_callee (f := 6) rfl ?_); refine goesL_ (some 94) rfl rfl Try.func6 (by kernel_rfl) rfl #[.slice Ao13 t618.length co13, .slice Ao119 x11_3.length co119] rfl xm ?_; (with_reducible refine (impl_CharacterOf.calls k3 _ _ t618 _ _ x11_3 t663 _ ?side1 ?side2 ?side3 ?side4 A78.out).mono ?_); (case side1 => exact xc (Kd.R_reads' HO_3.out).2.2); (case side2 => exact (Kd.R_reads' HO_3.out).2.1); (case side3 => exact xc (Kd.R_reads' HO_11.out).2.2); (case side4 => exact (Kd.R_reads' HO_11.out).2.1); rintro e w120 ⟨rfl, hb⟩; refine ⟨_, rfl, ?_⟩; replace HO_3 := ax (Kd.R_below (xR HO_3.out) hb); replace HO_9 := ax (Kd.N_below (xN HO_9.out) hb); replace HO_11 := ax (Kd.R_below (xR HO_11.out) hb); replace HB := ax (below_step (xb HB.out) hb); (try clear hb); (try clear hb2); (try clear hk); (try clear hi)) | ((with_reducible refine gate_callee (f := 22) rfl ?_); refine goesL_ (some 96) rfl rfl Try.func22 (by kernel_rfl) rfl #[.slice Ao13 t618.length co13] rfl xm ?_; (with_reducible refine (spec_StandardCount.calls k3 _ _ t618 t664 _ ?side1 ?side2 A79.out).mono ?_); (case side1 => exact xc (Kd.R_reads' HO_3.out).2.2); (case side2 => exact (Kd.R_reads' HO_3.out).2.1); rintro e w121 ⟨rfl, hb⟩; refine ⟨_, rfl, ?_⟩; replace HO_3 := ax (Kd.R_below (xR HO_3.out) hb); replace HO_9 := ax (Kd.N_below (xN HO_9.out) hb); replace HO_11 := ax (Kd.R_below (xR HO_11.out) hb); replace HB := ax (below_step (xb HB.out) hb); (try clear hb); (try clear hb2); (try clear hk); (try clear hi)))
            go_ret
            exact ⟨xe, xb HB.out⟩

/-- THE ONE PURE STATEMENT of laws_FnCharacters: yours. -/
def laws_FnCharacters.Pure : Prop := ∀ (l0 : List Int), l0.length ≤ maxLen → l0.length * 1 ≤ 140737488351232 → (∀ x ∈ l0, (Lit.int .u8 x).wf = true) → ∃ k, laws_FnCharacters.f k l0 = some true
theorem laws_FnCharacters.walk (P : laws_FnCharacters.Pure) (a0 : Option Addr) (len0 cap0 : Nat) (z0 : List Int) (w : World) (w0 : (a0 = none ∧ len0 = 0 ∧ cap0 = 0 ∧ z0 = []) ∨ ∃ x, a0 = some x ∧ len0 ≤ cap0 ∧ cap0 ≤ maxLen ∧ z0.length = cap0 ∧ (∀ i, i < z0.length → w.cell? (x.add i) = some (.int .u8 (z0.getD i 0))) ∧ ∀ n ∈ z0, (Lit.int .u8 n).wf = true) (y0 : len0 * 1 ≤ 140737488351232) :
  Calls Try.prog 3 #[.slice a0 len0 cap0] w fun e w' => e = .returned (.bool true) ∧ Below w.heap.size w w' := by
 obtain ⟨l0, rfl, hr0, hm0, hw0, hc0⟩ := ReadsInt.ofRowC w0
 obtain ⟨k, h⟩ := P l0 hm0 y0 hw0
 refine (laws_FnCharacters.calls k _ _ l0 true w (Kd.C_of_reads (d := (0 : Int)) (h1 := fun _ => rfl) hr0) hc0 h).mono ?_
 rintro e w' ⟨rfl, hd⟩
 exact ⟨rfl, hd⟩

end Go.Proofs.Ytopmggldaicpaab.PFnCharacters
