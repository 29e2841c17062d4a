-- The row of the law laws_FnExactHooksOfReverse, out of its Pure and the printed walk (a program of this session).
import Derived.Test.YtnmndjpkfcnaoaaRows
import Derived.Test.YtnmndjpkfcnaoaaPFnExactHooksOfReversex12
import Derived.Test.YtnmndjpkfcnaoaaPureFnExactHooksOfReverse
import Derived.Test.YtnmndjpkfcnaoaaVOpenFnExactHooksOfReverse
import Derived.WalkKit
import Derived.ProofKit
import Derived.OpenShut
import Derived.ShutString
import Derived.ChangeOld
import Derived.Below
import Derived.SizedLaws
namespace Go.Proofs.Ytnmndjpkfcnaoaa.fnExactHooksOfReverse
open Go.ChangeShapes Go.WideShapes Go.ChangeAt Go.RowKit Go.Proofs.YtnmndjpkfcnaoaaW.PrintWords Go.Proofs.Ytnmndjpkfcnaoaa.PFnExactHooksOfReverse
open Go.ChangeMaps (open_string shut_string)
set_option linter.unusedVariables false
theorem own : ownKnob Try.prog.godebug = none := by kernel_rfl
theorem laidOut : laidOutB Try.prog = true := by kernel_rfl
set_option maxRecDepth 100000 in
theorem lifted (os : Os) (started : os.Started) (H : Type) (enc : TypeId × Value → H) :
    ReturnsInHanded {} Try.checked os 4 .any (Rows.fnExactHooksOfReverseSpec.pre6 enc Try.prog Try.f4 Rows.fnExactHooksOfReverseRow.domain false) (Rows.fnExactHooksOfReverseSpec.post enc Try.prog Try.f4 false true false false) := by
  refine returnsInHanded_of_change_sized (C := Try.checked) own started (by kernel_rfl) Try.func4
    (ChangeSpec.witness6 (enc := enc) (C := Try.checked) false ⟨#[], #[.slice none 0 0, .slice none 0 0], []⟩ 8 (by kernel_rfl) (by kernel_rfl) (by kernel_rfl) (by kernel_rfl)) ?_
  intro W base args ds gs before hval0 hW hcnd hsz0 _
  have hsz : (DataW.weightsEach Try.prog (Try.f4.params.toList ++ Rows.fnExactHooksOfReverseSpec.plain.varTypes Try.prog) (ds ++ gs)).all (· ≤ reachBytes) = true := hsz0
  have hval : ∀ (j : Nat) t v, Try.f4.params[j]? = some t → args[j]? = some v → Value.okWide Try.prog W .any base t v := hval0
  have hW' := hW
  obtain ⟨p, q, hA0, hV, rfl, hfz, hnd⟩ := hW
  have hA : DataW.TrodAll enc Try.prog W 0 (fun _ => true) true Try.f4.params.toList args.toList ds p := hA0
  rw [Try.params4] at hA hval hsz
  obtain ⟨v0, vs0, d0, ds0, p0, q0, hargs, rfl, rfl, h0, r0⟩ := trodAll_cons hA
  obtain ⟨v1, vs1, d1, ds1, p1, q1, rfl, rfl, rfl, h1, r1⟩ := trodAll_cons r0
  obtain ⟨rfl, rfl, rfl⟩ := trodAll_nil r1
  obtain rfl : args = #[v0, v1] := by cases args; simp_all
  obtain ⟨rfl, rfl⟩ := trodVars_none hV
  have k0 := h0
  have lt0 : ∀ x ∈ p0, x.block < W.heap.size := by obtain ⟨m, hm⟩ := k0; exact DataW.trod_lt m _ _ _ hm
  obtain ⟨a0, len0, cap0, rfl⟩ := okWide_slice (show Try.prog.underlying 22 = _ from Try.underlying22) (hval 0 22 v0 rfl rfl)
  obtain ⟨l0, hl0, hc0, hr0, hF0⟩ : ∃ l : List Int, l.length = len0 ∧ l.length ≤ cap0 ∧ Kd.C (Kd.int .i64) W a0 l.length l ∧ (l.length ≤ maxLen ∧ ∀ y0_ ∈ l, (Lit.int .i64 y0_).wf = true) := by
    obtain ⟨fuel, hf⟩ := h0
    obtain ⟨A, c, xs, e, h1, h2, h3, h4⟩ := XOpen.slice_read (show Try.prog.underlying 22 = _ from Try.underlying22) (show Try.prog.cellsOf 3 = 1 from by kernel_rfl) (XOpen.opens_int (show Try.prog.underlying 3 = _ from Try.underlying3)) hf
    simp [Value.cells] at e
    obtain ⟨rfl, rfl, rfl⟩ := e
    exact ⟨xs, rfl, h1, h2, h3, h4⟩
  subst hl0
  have k1 := h1
  have lt1 : ∀ x ∈ p1, x.block < W.heap.size := by obtain ⟨m, hm⟩ := k1; exact DataW.trod_lt m _ _ _ hm
  obtain ⟨a1, len1, cap1, rfl⟩ := okWide_slice (show Try.prog.underlying 23 = _ from Try.underlying23) (hval 1 23 v1 rfl rfl)
  obtain ⟨l1, hl1, hc1, hr1, hF1⟩ : ∃ l : List (List Int), l.length = len1 ∧ l.length ≤ cap1 ∧ Kd.C (Kd.slice 3 (Kd.int .i64)) W a1 l.length l ∧ (l.length ≤ maxLen ∧ ∀ y0_ ∈ l, (y0_.length ≤ maxLen ∧ ∀ y1_ ∈ y0_, (Lit.int .i64 y1_).wf = true)) := by
    obtain ⟨fuel, hf⟩ := h1
    obtain ⟨A, c, xs, e, h1, h2, h3, h4⟩ := XOpen.slice_read (show Try.prog.underlying 23 = _ from Try.underlying23) (show Try.prog.cellsOf 22 = 1 from by kernel_rfl) (XOpen.opens_slice (show Try.prog.underlying 22 = _ from Try.underlying22) (show Try.prog.cellsOf 3 = 1 from by kernel_rfl) (XOpen.opens_int (show Try.prog.underlying 3 = _ from Try.underlying3))) hf
    simp [Value.cells] at e
    obtain ⟨rfl, rfl, rfl⟩ := e
    exact ⟨xs, rfl, h1, h2, h3, h4⟩
  subst hl1
  clear hA0 hval0 hsz0 hsz
  refine (laws_FnExactHooksOfReverse.walk Pure.FnExactHooksOfReverse a0 cap0 l0 a1 cap1 l1 W hr0 hc0 hr1 hc1 hF0 hF1).mono fun e W' ⟨he, bel⟩ => ?_
  subst he
  exact ⟨_, rfl, _, _, _, [], _, [], hW', trodAll_mk1 (shut_bool (show Try.prog.underlying 4 = _ from Try.underlying4) _), (trodAll_cons_mk (Below.trod laidOut (by kernel_rfl) (of_decide_eq_true (by kernel_rfl)) k0 bel lt0) (trodAll_cons_mk (Below.trod laidOut (by kernel_rfl) (of_decide_eq_true (by kernel_rfl)) k1 bel lt1) trodAll_mk0)), rfl, bel.frame _, fun h => by cases h⟩
set_option maxHeartbeats 0 in
theorem facts : joinedFacts Try.prog 4 Try.f4 Rows.fnExactHooksOfReverseSpec Rows.fnExactHooksOfReverseRow = true := by
  unfold joinedFacts
  simp only [Bool.and_eq_true]
  repeat' apply And.intro
  all_goals (as_aux_lemma => kernel_rfl)
theorem over : Rows.fnExactHooksOfReverseRow.holds Try.pinned (OpenSpec.ofChange Rows.fnExactHooksOfReverseSpec) :=
  OpenClaim.holds_of_wide 4 Try.f4 rfl rfl rfl rfl rfl rfl rfl ⟨rfl, rfl, rfl, rfl, rfl⟩ rfl rfl rfl rfl rfl (by as_aux_lemma => kernel_rfl) Try.func4 facts
    (of_decide_eq_true (by as_aux_lemma => kernel_rfl)) (by as_aux_lemma => unfold Func.isWrapper; first | (rw [if_pos (by decide +kernel)]; kernel_rfl) | (rw [if_neg (by decide +kernel)]; exact ⟨rfl, rfl⟩))
    (fun os started H enc _ => lifted os started H enc)
theorem proved : Rows.FnExactHooksOfReverseSaid := over
#print axioms proved
end Go.Proofs.Ytnmndjpkfcnaoaa.fnExactHooksOfReverse
namespace Go.Proofs.Ytnmndjpkfcnaoaa
/-- The row, under a short name, for the claim. -/
theorem fnExactHooksOfReverse_holds : Rows.FnExactHooksOfReverseSaid := fnExactHooksOfReverse.proved
end Go.Proofs.Ytnmndjpkfcnaoaa
