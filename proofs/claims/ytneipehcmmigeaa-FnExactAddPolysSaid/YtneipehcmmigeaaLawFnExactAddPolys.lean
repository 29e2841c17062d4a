-- The row of the law zak, out of its Pure and the printed walk (a program of this session).
import Derived.Test.YtneipehcmmigeaaRows
import Derived.Test.YtneipehcmmigeaaPFnExactAddPolysx17
import Derived.Test.YtneipehcmmigeaaPureFnExactAddPolys
import Derived.Test.YtneipehcmmigeaaVOpenFnExactAddPolys
import Derived.WalkKit
import Derived.ProofKit
import Derived.OpenShut
import Derived.ShutString
import Derived.ChangeOld
import Derived.Below
import Derived.SizedLaws
namespace Go.Proofs.Ytneipehcmmigeaa.fnExactAddPolys
open Go.ChangeShapes Go.WideShapes Go.ChangeAt Go.RowKit Go.Proofs.YtneipehcmmigeaaW.PrintWords Go.Proofs.Ytneipehcmmigeaa.PFnExactAddPolys
open Go.ChangeMaps (open_string shut_string)
set_option linter.unusedVariables false
theorem own : ownKnob Try.prog.godebug = none := by kernel_rfl
theorem laidOut : laidOutB Try.prog = true := by kernel_rfl
set_option maxRecDepth 100000 in
theorem lifted (os : Os) (started : os.Started) (H : Type) (enc : TypeId × Value → H) :
    ReturnsInHanded {} Try.checked os 5 .any (Rows.fnExactAddPolysSpec.pre6 enc Try.prog Try.f5 Rows.fnExactAddPolysRow.domain false) (Rows.fnExactAddPolysSpec.post enc Try.prog Try.f5 false true false false) := by
  refine returnsInHanded_of_change_sized (C := Try.checked) own started (by kernel_rfl) Try.func5
    (ChangeSpec.witness6 (enc := enc) (C := Try.checked) false ⟨#[], #[.agg #[.int .i64 0, .slice none 0 0], .agg #[.int .i64 0, .slice none 0 0]], []⟩ 8 (by kernel_rfl) (by kernel_rfl) (by kernel_rfl) (by kernel_rfl)) ?_
  intro W base args ds gs before hval0 hW hcnd hsz0 _
  have hsz : (DataW.weightsEach Try.prog (Try.f5.params.toList ++ Rows.fnExactAddPolysSpec.plain.varTypes Try.prog) (ds ++ gs)).all (· ≤ reachBytes) = true := hsz0
  have hval : ∀ (j : Nat) t v, Try.f5.params[j]? = some t → args[j]? = some v → Value.okWide Try.prog W .any base t v := hval0
  have hW' := hW
  obtain ⟨p, q, hA0, hV, rfl, hfz, hnd⟩ := hW
  have hA : DataW.TrodAll enc Try.prog W 0 (fun _ => true) true Try.f5.params.toList args.toList ds p := hA0
  rw [Try.params5] at hA hval hsz
  obtain ⟨v0, vs0, d0, ds0, p0, q0, hargs, rfl, rfl, h0, r0⟩ := trodAll_cons hA
  obtain ⟨v1, vs1, d1, ds1, p1, q1, rfl, rfl, rfl, h1, r1⟩ := trodAll_cons r0
  obtain ⟨rfl, rfl, rfl⟩ := trodAll_nil r1
  obtain rfl : args = #[v0, v1] := by cases args; simp_all
  obtain ⟨rfl, rfl⟩ := trodVars_none hV
  have k0 := h0
  have lt0 : ∀ x ∈ p0, x.block < W.heap.size := by obtain ⟨m, hm⟩ := k0; exact DataW.trod_lt m _ _ _ hm
  obtain ⟨fu0, hf0⟩ := h0
  obtain ⟨u0_0, u0_1, n0, y0_0, y0_1, rfl, g0_0, g0_1⟩ := XOpen.zhN (show Try.prog.underlying 24 = _ from Try.underlying24) (show Try.prog.cellsOf 24 = 2 from by kernel_rfl) rfl rfl (show Try.prog.cellsOf 3 = 1 from by kernel_rfl) (show Try.prog.cellsOf 22 = 1 from by kernel_rfl) hf0
  obtain ⟨a0_0, e0_0, _, hw0_0⟩ := DataW.trod_int (show Try.prog.underlying 3 = _ from Try.underlying3) g0_0
  obtain rfl : u0_0 = _ := List.singleton_inj.1 e0_0
  obtain ⟨A0_1, c0_1, l0_1, e0_1, hc0_1, hr0_1, hm0_1, hn0_1⟩ := XOpen.zd1 (show Try.prog.underlying 22 = _ from Try.underlying22) (show Try.prog.cellsOf 69 = 2 from by kernel_rfl) (XOpen.zfw (fun x : S69 => (x.f0, x.f1)) (fun a b => ⟨a, b⟩) (fun _ _ => rfl) (show Try.prog.underlying 69 = _ from Try.underlying69) (show Try.prog.cellsOf 69 = 2 from by kernel_rfl) rfl rfl (show Try.prog.cellsOf 35 = 1 from by kernel_rfl) (show Try.prog.cellsOf 3 = 1 from by kernel_rfl) (XOpen.zes (show Try.prog.underlying 35 = _ from Try.underlying35) (show Try.prog.cellsOf 3 = 1 from by kernel_rfl) (XOpen.zdW (show Try.prog.underlying 3 = _ from Try.underlying3))) (XOpen.zdW (show Try.prog.underlying 3 = _ from Try.underlying3))) g0_1
  obtain rfl : u0_1 = _ := List.singleton_inj.1 e0_1
  have k1 := h1
  have lt1 : ∀ x ∈ p1, x.block < W.heap.size := by obtain ⟨m, hm⟩ := k1; exact DataW.trod_lt m _ _ _ hm
  obtain ⟨fu1, hf1⟩ := h1
  obtain ⟨u1_0, u1_1, n1, y1_0, y1_1, rfl, g1_0, g1_1⟩ := XOpen.zhN (show Try.prog.underlying 24 = _ from Try.underlying24) (show Try.prog.cellsOf 24 = 2 from by kernel_rfl) rfl rfl (show Try.prog.cellsOf 3 = 1 from by kernel_rfl) (show Try.prog.cellsOf 22 = 1 from by kernel_rfl) hf1
  obtain ⟨a1_0, e1_0, _, hw1_0⟩ := DataW.trod_int (show Try.prog.underlying 3 = _ from Try.underlying3) g1_0
  obtain rfl : u1_0 = _ := List.singleton_inj.1 e1_0
  obtain ⟨A1_1, c1_1, l1_1, e1_1, hc1_1, hr1_1, hm1_1, hn1_1⟩ := XOpen.zd1 (show Try.prog.underlying 22 = _ from Try.underlying22) (show Try.prog.cellsOf 69 = 2 from by kernel_rfl) (XOpen.zfw (fun x : S69 => (x.f0, x.f1)) (fun a b => ⟨a, b⟩) (fun _ _ => rfl) (show Try.prog.underlying 69 = _ from Try.underlying69) (show Try.prog.cellsOf 69 = 2 from by kernel_rfl) rfl rfl (show Try.prog.cellsOf 35 = 1 from by kernel_rfl) (show Try.prog.cellsOf 3 = 1 from by kernel_rfl) (XOpen.zes (show Try.prog.underlying 35 = _ from Try.underlying35) (show Try.prog.cellsOf 3 = 1 from by kernel_rfl) (XOpen.zdW (show Try.prog.underlying 3 = _ from Try.underlying3))) (XOpen.zdW (show Try.prog.underlying 3 = _ from Try.underlying3))) g1_1
  obtain rfl : u1_1 = _ := List.singleton_inj.1 e1_1
  clear hA0 hval0 hsz0 hsz
  refine (zak.walk Pure.zeD a0_0 A0_1 c0_1 l0_1 a1_0 A1_1 c1_1 l1_1 W hr0_1 hc0_1 hr1_1 hc1_1 hw0_0 ⟨hm0_1, hn0_1⟩ hw1_0 ⟨hm1_1, hn1_1⟩).mono fun e W' ⟨he, bel⟩ => ?_
  subst he
  exact ⟨_, rfl, _, _, _, [], _, [], hW', trodAll_mk1 (shut_bool (show Try.prog.underlying 4 = _ from Try.underlying4) _), (trodAll_cons_mk (Below.trod laidOut (by kernel_rfl) (of_decide_eq_true (by kernel_rfl)) k0 bel lt0) (trodAll_cons_mk (Below.trod laidOut (by kernel_rfl) (of_decide_eq_true (by kernel_rfl)) k1 bel lt1) trodAll_mk0)), rfl, bel.frame _, fun h => by cases h⟩
set_option maxHeartbeats 0 in
theorem facts : joinedFacts Try.prog 5 Try.f5 Rows.fnExactAddPolysSpec Rows.fnExactAddPolysRow = true := by
  unfold joinedFacts
  simp only [Bool.and_eq_true]
  repeat' apply And.intro
  all_goals (as_aux_lemma => kernel_rfl)
theorem over : Rows.fnExactAddPolysRow.holds Try.pinned (OpenSpec.ofChange Rows.fnExactAddPolysSpec) :=
  OpenClaim.holds_of_wide 5 Try.f5 rfl rfl rfl rfl rfl rfl rfl ⟨rfl, rfl, rfl, rfl, rfl⟩ rfl rfl rfl rfl rfl (by as_aux_lemma => kernel_rfl) Try.func5 facts
    (of_decide_eq_true (by as_aux_lemma => kernel_rfl)) (by as_aux_lemma => unfold Func.isWrapper; first | (rw [if_pos (by decide +kernel)]; kernel_rfl) | (rw [if_neg (by decide +kernel)]; exact ⟨rfl, rfl⟩))
    (fun os started H enc _ => lifted os started H enc)
theorem proved : Rows.FnExactAddPolysSaid := over
#print axioms proved
end Go.Proofs.Ytneipehcmmigeaa.fnExactAddPolys
namespace Go.Proofs.Ytneipehcmmigeaa
/-- The row, under a short name, for the claim. -/
theorem fnExactAddPolys_holds : Rows.FnExactAddPolysSaid := fnExactAddPolys.proved
end Go.Proofs.Ytneipehcmmigeaa
