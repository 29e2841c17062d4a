-- The row of the law zap, out of its Pure and the printed walk (a program of this session).
import Derived.Test.YtneipehcmmigeaaRows
import Derived.Test.YtneipehcmmigeaaPFnExactSchurPolyx18
import Derived.Test.YtneipehcmmigeaaPureFnExactSchurPoly
import Derived.Test.YtneipehcmmigeaaVOpenFnExactSchurPoly
import Derived.WalkKit
import Derived.ProofKit
import Derived.OpenShut
import Derived.ShutString
import Derived.ChangeOld
import Derived.Below
import Derived.SizedLaws
namespace Go.Proofs.Ytneipehcmmigeaa.fnExactSchurPoly
open Go.ChangeShapes Go.WideShapes Go.ChangeAt Go.RowKit Go.Proofs.YtneipehcmmigeaaW.PrintWords Go.Proofs.Ytneipehcmmigeaa.PFnExactSchurPoly
open Go.ChangeMaps (open_string shut_string)
set_option linter.unusedVariables false
theorem own : ownKnob Try.prog.godebug = none := by kernel_rfl
theorem laidOut : laidOutB Try.prog = true := by kernel_rfl
set_option maxRecDepth 100000 in
theorem lifted (os : Os) (started : os.Started) (H : Type) (enc : TypeId × Value → H) :
    ReturnsInHanded {} Try.checked os 6 .any (Rows.fnExactSchurPolySpec.pre6 enc Try.prog Try.f6 Rows.fnExactSchurPolyRow.domain false) (Rows.fnExactSchurPolySpec.post enc Try.prog Try.f6 false true false false) := by
  refine returnsInHanded_of_change_sized (C := Try.checked) own started (by kernel_rfl) Try.func6
    (ChangeSpec.witness6 (enc := enc) (C := Try.checked) false ⟨#[], #[.agg #[.slice none 0 0, .slice none 0 0], .int .i64 0], []⟩ 8 (by kernel_rfl) (by kernel_rfl) (by kernel_rfl) (by kernel_rfl)) ?_
  intro W base args ds gs before hval0 hW hcnd hsz0 _
  have hsz : (DataW.weightsEach Try.prog (Try.f6.params.toList ++ Rows.fnExactSchurPolySpec.plain.varTypes Try.prog) (ds ++ gs)).all (· ≤ reachBytes) = true := hsz0
  have hval : ∀ (j : Nat) t v, Try.f6.params[j]? = some t → args[j]? = some v → Value.okWide Try.prog W .any base t v := hval0
  have hW' := hW
  obtain ⟨p, q, hA0, hV, rfl, hfz, hnd⟩ := hW
  have hA : DataW.TrodAll enc Try.prog W 0 (fun _ => true) true Try.f6.params.toList args.toList ds p := hA0
  rw [Try.params6] at hA hval hsz
  obtain ⟨v0, vs0, d0, ds0, p0, q0, hargs, rfl, rfl, h0, r0⟩ := trodAll_cons hA
  obtain ⟨v1, vs1, d1, ds1, p1, q1, rfl, rfl, rfl, h1, r1⟩ := trodAll_cons r0
  obtain ⟨rfl, rfl, rfl⟩ := trodAll_nil r1
  obtain rfl : args = #[v0, v1] := by cases args; simp_all
  obtain ⟨rfl, rfl⟩ := trodVars_none hV
  have k0 := h0
  have lt0 : ∀ x ∈ p0, x.block < W.heap.size := by obtain ⟨m, hm⟩ := k0; exact DataW.trod_lt m _ _ _ hm
  obtain ⟨fu0, hf0⟩ := h0
  obtain ⟨u0_0, u0_1, n0, y0_0, y0_1, rfl, g0_0, g0_1⟩ := XOpen.zks (show Try.prog.underlying 37 = _ from Try.underlying37) (show Try.prog.cellsOf 37 = 2 from by kernel_rfl) rfl rfl (show Try.prog.cellsOf 35 = 1 from by kernel_rfl) (show Try.prog.cellsOf 35 = 1 from by kernel_rfl) hf0
  obtain ⟨A0_0, c0_0, l0_0, e0_0, hc0_0, hr0_0, hm0_0, hn0_0⟩ := XOpen.zei (show Try.prog.underlying 35 = _ from Try.underlying35) (show Try.prog.cellsOf 3 = 1 from by kernel_rfl) (XOpen.zg (show Try.prog.underlying 3 = _ from Try.underlying3)) g0_0
  obtain rfl : u0_0 = _ := List.singleton_inj.1 e0_0
  obtain ⟨A0_1, c0_1, l0_1, e0_1, hc0_1, hr0_1, hm0_1, hn0_1⟩ := XOpen.zei (show Try.prog.underlying 35 = _ from Try.underlying35) (show Try.prog.cellsOf 3 = 1 from by kernel_rfl) (XOpen.zg (show Try.prog.underlying 3 = _ from Try.underlying3)) g0_1
  obtain rfl : u0_1 = _ := List.singleton_inj.1 e0_1
  obtain ⟨a1, rfl, rfl, rfl, w1⟩ := open_int (show Try.prog.underlying 3 = _ from Try.underlying3) (hval 1 3 v1 rfl rfl) h1
  clear hA0 hval0 hsz0 hsz
  refine (zap.walk Pure.zeK A0_0 c0_0 l0_0 A0_1 c0_1 l0_1 a1 W hr0_0 hc0_0 hr0_1 hc0_1 ⟨hm0_0, hn0_0⟩ ⟨hm0_1, hn0_1⟩ w1).mono fun e W' ⟨he, bel⟩ => ?_
  subst he
  exact ⟨_, rfl, _, _, _, [], _, [], hW', trodAll_mk1 (shut_bool (show Try.prog.underlying 4 = _ from Try.underlying4) _), (trodAll_cons_mk (Below.trod laidOut (by kernel_rfl) (of_decide_eq_true (by kernel_rfl)) k0 bel lt0) (trodAll_cons_mk (shut_int (show Try.prog.underlying 3 = _ from Try.underlying3) w1) trodAll_mk0)), rfl, bel.frame _, fun h => by cases h⟩
set_option maxHeartbeats 0 in
theorem facts : joinedFacts Try.prog 6 Try.f6 Rows.fnExactSchurPolySpec Rows.fnExactSchurPolyRow = true := by
  unfold joinedFacts
  simp only [Bool.and_eq_true]
  repeat' apply And.intro
  all_goals (as_aux_lemma => kernel_rfl)
theorem over : Rows.fnExactSchurPolyRow.holds Try.pinned (OpenSpec.ofChange Rows.fnExactSchurPolySpec) :=
  OpenClaim.holds_of_wide 6 Try.f6 rfl rfl rfl rfl rfl rfl rfl ⟨rfl, rfl, rfl, rfl, rfl⟩ rfl rfl rfl rfl rfl (by as_aux_lemma => kernel_rfl) Try.func6 facts
    (of_decide_eq_true (by as_aux_lemma => kernel_rfl)) (by as_aux_lemma => unfold Func.isWrapper; first | (rw [if_pos (by decide +kernel)]; kernel_rfl) | (rw [if_neg (by decide +kernel)]; exact ⟨rfl, rfl⟩))
    (fun os started H enc _ => lifted os started H enc)
theorem proved : Rows.FnExactSchurPolySaid := over
#print axioms proved
end Go.Proofs.Ytneipehcmmigeaa.fnExactSchurPoly
namespace Go.Proofs.Ytneipehcmmigeaa
/-- The row, under a short name, for the claim. -/
theorem fnExactSchurPoly_holds : Rows.FnExactSchurPolySaid := fnExactSchurPoly.proved
end Go.Proofs.Ytneipehcmmigeaa
