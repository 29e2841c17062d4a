-- The row of the law laws_FnExactMajorOfTableau, out of its Pure and the printed walk (a program of this session).
import Derived.Test.YtdjohgfelmkooaaRows
import Derived.Test.YtdjohgfelmkooaaPFnExactMajorOfTableaux13
import Derived.Test.YtdjohgfelmkooaaPureFnExactMajorOfTableau
import Derived.Test.YtdjohgfelmkooaaVOpenFnExactMajorOfTableau
import Derived.WalkKit
import Derived.ProofKit
import Derived.OpenShut
import Derived.ShutString
import Derived.ChangeOld
import Derived.Below
import Derived.SizedLaws
namespace Go.Proofs.Ytdjohgfelmkooaa.fnExactMajorOfTableau
open Go.ChangeShapes Go.WideShapes Go.ChangeAt Go.RowKit Go.Proofs.YtdjohgfelmkooaaW.PrintWords Go.Proofs.Ytdjohgfelmkooaa.PFnExactMajorOfTableau
open Go.ChangeMaps (open_string shut_string)
set_option linter.unusedVariables false
theorem own : ownKnob Try.prog.godebug = none := by kernel_rfl
theorem laidOut : laidOutB Try.prog = true := by kernel_rfl
set_option maxRecDepth 100000 in
theorem lifted (os : Os) (started : os.Started) (H : Type) (enc : TypeId × Value → H) :
    ReturnsInHanded {} Try.checked os 9 .any (Rows.fnExactMajorOfTableauSpec.pre6 enc Try.prog Try.f9 Rows.fnExactMajorOfTableauRow.domain false) (Rows.fnExactMajorOfTableauSpec.post enc Try.prog Try.f9 false true false false) := by
  refine returnsInHanded_of_change_sized (C := Try.checked) own started (by kernel_rfl) Try.func9
    (ChangeSpec.witness6 (enc := enc) (C := Try.checked) false ⟨#[], #[.agg #[.slice none 0 0, .slice none 0 0]], []⟩ 8 (by kernel_rfl) (by kernel_rfl) (by kernel_rfl) (by kernel_rfl)) ?_
  intro W base args ds gs before hval0 hW hcnd hsz0 _
  have hsz : (DataW.weightsEach Try.prog (Try.f9.params.toList ++ Rows.fnExactMajorOfTableauSpec.plain.varTypes Try.prog) (ds ++ gs)).all (· ≤ reachBytes) = true := hsz0
  have hval : ∀ (j : Nat) t v, Try.f9.params[j]? = some t → args[j]? = some v → Value.okWide Try.prog W .any base t v := hval0
  have hW' := hW
  obtain ⟨p, q, hA0, hV, rfl, hfz, hnd⟩ := hW
  have hA : DataW.TrodAll enc Try.prog W 0 (fun _ => true) true Try.f9.params.toList args.toList ds p := hA0
  rw [Try.params9] at hA hval hsz
  obtain ⟨v0, vs0, d0, ds0, p0, q0, hargs, rfl, rfl, h0, r0⟩ := trodAll_cons hA
  obtain ⟨rfl, rfl, rfl⟩ := trodAll_nil r0
  obtain rfl : args = #[v0] := by cases args; simp_all
  obtain ⟨rfl, rfl⟩ := trodVars_none hV
  have k0 := h0
  have lt0 : ∀ x ∈ p0, x.block < W.heap.size := by obtain ⟨m, hm⟩ := k0; exact DataW.trod_lt m _ _ _ hm
  obtain ⟨fu0, hf0⟩ := h0
  obtain ⟨u0_0, u0_1, n0, y0_0, y0_1, rfl, g0_0, g0_1⟩ := XOpen.arg_two (show Try.prog.underlying 41 = _ from Try.underlying41) (show Try.prog.cellsOf 41 = 2 from by kernel_rfl) rfl rfl (show Try.prog.cellsOf 22 = 1 from by kernel_rfl) (show Try.prog.cellsOf 29 = 1 from by kernel_rfl) hf0
  obtain ⟨A0_0, c0_0, l0_0, e0_0, hc0_0, hr0_0, hm0_0, hn0_0⟩ := XOpen.slice_read (show Try.prog.underlying 22 = _ from Try.underlying22) (show Try.prog.cellsOf 3 = 1 from by kernel_rfl) (XOpen.opens_int (show Try.prog.underlying 3 = _ from Try.underlying3)) g0_0
  obtain rfl : u0_0 = _ := List.singleton_inj.1 e0_0
  obtain ⟨A0_1, c0_1, l0_1, e0_1, hc0_1, hr0_1, hm0_1, hn0_1⟩ := XOpen.slice_read (show Try.prog.underlying 29 = _ from Try.underlying29) (show Try.prog.cellsOf 22 = 1 from by kernel_rfl) (XOpen.opens_slice (show Try.prog.underlying 22 = _ from Try.underlying22) (show Try.prog.cellsOf 3 = 1 from by kernel_rfl) (XOpen.opens_int (show Try.prog.underlying 3 = _ from Try.underlying3))) g0_1
  obtain rfl : u0_1 = _ := List.singleton_inj.1 e0_1
  clear hA0 hval0 hsz0 hsz
  refine (laws_FnExactMajorOfTableau.walk Pure.FnExactMajorOfTableau A0_0 c0_0 l0_0 A0_1 c0_1 l0_1 W hr0_0 hc0_0 hr0_1 hc0_1 ⟨hm0_0, hn0_0⟩ ⟨hm0_1, hn0_1⟩).mono fun e W' ⟨he, bel⟩ => ?_
  subst he
  exact ⟨_, rfl, _, _, _, [], _, [], hW', trodAll_mk1 (shut_bool (show Try.prog.underlying 4 = _ from Try.underlying4) _), (trodAll_cons_mk (Below.trod laidOut (by kernel_rfl) (of_decide_eq_true (by kernel_rfl)) k0 bel lt0) trodAll_mk0), rfl, bel.frame _, fun h => by cases h⟩
set_option maxHeartbeats 0 in
theorem facts : joinedFacts Try.prog 9 Try.f9 Rows.fnExactMajorOfTableauSpec Rows.fnExactMajorOfTableauRow = true := by
  unfold joinedFacts
  simp only [Bool.and_eq_true]
  repeat' apply And.intro
  all_goals (as_aux_lemma => kernel_rfl)
theorem over : Rows.fnExactMajorOfTableauRow.holds Try.pinned (OpenSpec.ofChange Rows.fnExactMajorOfTableauSpec) :=
  OpenClaim.holds_of_wide 9 Try.f9 rfl rfl rfl rfl rfl rfl rfl ⟨rfl, rfl, rfl, rfl, rfl⟩ rfl rfl rfl rfl rfl (by as_aux_lemma => kernel_rfl) Try.func9 facts
    (of_decide_eq_true (by as_aux_lemma => kernel_rfl)) (by as_aux_lemma => unfold Func.isWrapper; first | (rw [if_pos (by decide +kernel)]; kernel_rfl) | (rw [if_neg (by decide +kernel)]; exact ⟨rfl, rfl⟩))
    (fun os started H enc _ => lifted os started H enc)
theorem proved : Rows.FnExactMajorOfTableauSaid := over
#print axioms proved
end Go.Proofs.Ytdjohgfelmkooaa.fnExactMajorOfTableau
namespace Go.Proofs.Ytdjohgfelmkooaa
/-- The row, under a short name, for the claim. -/
theorem fnExactMajorOfTableau_holds : Rows.FnExactMajorOfTableauSaid := fnExactMajorOfTableau.proved
end Go.Proofs.Ytdjohgfelmkooaa
