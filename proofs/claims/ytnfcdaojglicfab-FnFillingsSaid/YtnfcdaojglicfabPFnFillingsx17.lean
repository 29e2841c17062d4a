import Derived.Test.YtnfcdaojglicfabPFnFillingsx6
import Derived.Test.YtnfcdaojglicfabPFnFillingsx11
import Derived.Test.YtnfcdaojglicfabPFnFillingsx15
import Derived.Test.YtnfcdaojglicfabPFnFillingsx16
namespace Go.Proofs.Ytnfcdaojglicfab.PFnFillings
open Go.RowKit Go.Proofs.YtnfcdaojglicfabW.PrintWords Go.Proofs.YtnfcdaojglicfabW.PrintLast Go.Proofs.YtnfcdaojglicfabW.PrintMore
set_option linter.unusedVariables false
set_option linter.unusedSimpArgs false
set_option maxHeartbeats 8000000
set_option maxRecDepth 100000
/-! ### laws_FnFillings: function 3 -/
mutual
def laws_FnFillings.j0 : Nat → List Int → List (List Int) → List (List Int) → Bool → List Int → List (List Int) → List (List Int) → Bool → Bool → Option (Bool)
 | 0, _, _, _, _, _, _, _, _, _ => none
 | k + 1, x3, x4, x5, x6, x9, x10, x11, x12, x117 => if x117 = true then (some false) else (if x6 = true then ((impl_ReverseOfHooks.f k x3 x5).bind fun bt540 => (laws_FnFillings.l0 k x3 x4 x5 x9 x10 x11 x12 bt540.1 bt540.2 0 0)) else (laws_FnFillings.j2 k x9 x10 x11 x12))
def laws_FnFillings.j2 : Nat → List Int → List (List Int) → List (List Int) → Bool → Option (Bool)
 | 0, _, _, _, _ => none
 | k + 1, x9, x10, x11, x12 => if x12 = true then ((impl_HooksOfReverse.f k x9 x11).bind fun bt548 => (if bt548.2 = true then ((laws_sameLists.f k bt548.1 x10).bind fun t552 => (if t552 = true then ((impl_IsReverse.f k x9 x11).bind fun t553 => (some t553)) else (some false))) else (some false))) else (some true)
def laws_FnFillings.l0 : Nat → List Int → List (List Int) → List (List Int) → List Int → List (List Int) → List (List Int) → Bool → List (List Int) → Bool → Int → Int → Option (Bool)
 | 0, _, _, _, _, _, _, _, _, _, _, _ => none
 | k + 1, x3, x4, x5, x9, x10, x11, x12, x19, x20, x21, x22 => if x22 < (x4.length : Int) then (if 0 ≤ x22 then ((laws_total.f k (rd_L2 x4 x22)).bind fun t545 => (laws_FnFillings.l0 k x3 x4 x5 x9 x10 x11 x12 x19 x20 (wrap64 (x21 + t545)) (wrap64 (x22 + 1)))) else (none)) else (if x20 = true then ((laws_sameLists.f k x19 x4).bind fun t546 => (if t546 = true then ((impl_HookWeight.f k x3 x5).bind fun t547 => (if t547 = x21 then (laws_FnFillings.j2 k x9 x10 x11 x12) else (some false))) else (some false))) else (some false))
end
def laws_FnFillings.f (k : Nat) (l0 : List Int) : Option (Bool) := (laws_big.f l0).bind fun t491 => (if t491 = true then (some true) else ((spec_DrawHooksOfReverse.f k l0).bind fun bt492 => ((impl_HooksOfReverse.f k bt492.1 bt492.2).bind fun bt498 => ((spec_HooksOfReverse.f k bt492.1 bt492.2).bind fun bt502 => ((spec_DrawReverseOfHooks.f k l0).bind fun bt506 => ((impl_ReverseOfHooks.f k bt506.1 bt506.2).bind fun bt512 => ((spec_ReverseOfHooks.f k bt506.1 bt506.2).bind fun bt516 => ((spec_DrawIsReverse.f k l0).bind fun bt520 => ((spec_DrawHookWeight.f k l0).bind fun bt526 => (if (bt498.2 != bt502.2) = true then (laws_FnFillings.j0 k bt492.1 bt492.2 bt498.1 bt498.2 bt506.1 bt506.2 bt512.1 bt512.2 true) else ((laws_sameLists.f k bt498.1 bt502.1).bind fun t532 => (if t532 = true then (if (bt512.2 != bt516.2) = true then (laws_FnFillings.j0 k bt492.1 bt492.2 bt498.1 bt498.2 bt506.1 bt506.2 bt512.1 bt512.2 true) else ((laws_sameLists.f k bt512.1 bt516.1).bind fun t533 => (if t533 = true then ((impl_IsReverse.f k bt520.1 bt520.2).bind fun t534 => ((spec_IsReverse.f k bt520.1 bt520.2).bind fun t535 => (if (t534 != t535) = true then (laws_FnFillings.j0 k bt492.1 bt492.2 bt498.1 bt498.2 bt506.1 bt506.2 bt512.1 bt512.2 true) else ((impl_IsFilling.f k bt520.1 bt520.2).bind fun t536 => ((spec_IsFilling.f k bt520.1 bt520.2).bind fun t537 => (if (t536 != t537) = true then (laws_FnFillings.j0 k bt492.1 bt492.2 bt498.1 bt498.2 bt506.1 bt506.2 bt512.1 bt512.2 true) else ((impl_HookWeight.f k bt526.1 bt526.2).bind fun t538 => ((spec_HookWeight.f k bt526.1 bt526.2).bind fun t539 => (laws_FnFillings.j0 k bt492.1 bt492.2 bt498.1 bt498.2 bt506.1 bt506.2 bt512.1 bt512.2 (t538 != t539)))))))))) else (laws_FnFillings.j0 k bt492.1 bt492.2 bt498.1 bt498.2 bt506.1 bt506.2 bt512.1 bt512.2 true)))) else (laws_FnFillings.j0 k bt492.1 bt492.2 bt498.1 bt498.2 bt506.1 bt506.2 bt512.1 bt512.2 true)))))))))))))
theorem laws_FnFillings.mono_l : ∀ k, (∀ y0 y1 y2 y3 y4 y5 y6 y7 y8, LeO (laws_FnFillings.j0 k y0 y1 y2 y3 y4 y5 y6 y7 y8) (laws_FnFillings.j0 (k + 1) y0 y1 y2 y3 y4 y5 y6 y7 y8)) ∧ (∀ y0 y1 y2 y3, LeO (laws_FnFillings.j2 k y0 y1 y2 y3) (laws_FnFillings.j2 (k + 1) y0 y1 y2 y3)) ∧ (∀ y0 y1 y2 y3 y4 y5 y6 y7 y8 y9 y10, LeO (laws_FnFillings.l0 k y0 y1 y2 y3 y4 y5 y6 y7 y8 y9 y10) (laws_FnFillings.l0 (k + 1) y0 y1 y2 y3 y4 y5 y6 y7 y8 y9 y10))
 | 0 => ⟨fun _ _ _ _ _ _ _ _ _ r h => by simp [laws_FnFillings.j0] at h, fun _ _ _ _ r h => by simp [laws_FnFillings.j2] at h, fun _ _ _ _ _ _ _ _ _ _ _ r h => by simp [laws_FnFillings.l0] at h⟩
 | k + 1 => by
  obtain ⟨ih0, ih1, ih2⟩ := laws_FnFillings.mono_l k
  refine ⟨?_, ?_, ?_⟩
  ·intro y0 y1 y2 y3 y4 y5 y6 y7 y8
   unfold laws_FnFillings.j0
   repeat' with_reducible first | exact ih0 _ _ _ _ _ _ _ _ _ | exact ih1 _ _ _ _ | exact ih2 _ _ _ _ _ _ _ _ _ _ _ | exact impl_HookWeight.mono _ _ _ | exact impl_HooksOfReverse.mono _ _ _ | exact impl_IsFilling.mono _ _ _ | exact impl_IsReverse.mono _ _ _ | exact impl_ReverseOfHooks.mono _ _ _ | exact laws_sameLists.mono _ _ _ | exact laws_total.mono _ _ | exact spec_DrawHookWeight.mono _ _ | exact spec_DrawHooksOfReverse.mono _ _ | exact spec_DrawIsReverse.mono _ _ | exact spec_DrawReverseOfHooks.mono _ _ | exact spec_HookWeight.mono _ _ _ | exact spec_HooksOfReverse.mono _ _ _ | exact spec_IsFilling.mono _ _ _ | exact spec_IsReverse.mono _ _ _ | exact spec_ReverseOfHooks.mono _ _ _ | exact xl | refine LeO.ite ?_ ?_ | refine LeO.bind ?_ fun _ => ?_
  ·intro y0 y1 y2 y3
   unfold laws_FnFillings.j2
   repeat' with_reducible first | exact ih0 _ _ _ _ _ _ _ _ _ | exact ih1 _ _ _ _ | exact ih2 _ _ _ _ _ _ _ _ _ _ _ | exact impl_HookWeight.mono _ _ _ | exact impl_HooksOfReverse.mono _ _ _ | exact impl_IsFilling.mono _ _ _ | exact impl_IsReverse.mono _ _ _ | exact impl_ReverseOfHooks.mono _ _ _ | exact laws_sameLists.mono _ _ _ | exact laws_total.mono _ _ | exact spec_DrawHookWeight.mono _ _ | exact spec_DrawHooksOfReverse.mono _ _ | exact spec_DrawIsReverse.mono _ _ | exact spec_DrawReverseOfHooks.mono _ _ | exact spec_HookWeight.mono _ _ _ | exact spec_HooksOfReverse.mono _ _ _ | exact spec_IsFilling.mono _ _ _ | exact spec_IsReverse.mono _ _ _ | exact spec_ReverseOfHooks.mono _ _ _ | exact xl | refine LeO.ite ?_ ?_ | refine LeO.bind ?_ fun _ => ?_
  ·intro y0 y1 y2 y3 y4 y5 y6 y7 y8 y9 y10
   unfold laws_FnFillings.l0
   repeat' with_reducible first | exact ih0 _ _ _ _ _ _ _ _ _ | exact ih1 _ _ _ _ | exact ih2 _ _ _ _ _ _ _ _ _ _ _ | exact impl_HookWeight.mono _ _ _ | exact impl_HooksOfReverse.mono _ _ _ | exact impl_IsFilling.mono _ _ _ | exact impl_IsReverse.mono _ _ _ | exact impl_ReverseOfHooks.mono _ _ _ | exact laws_sameLists.mono _ _ _ | exact laws_total.mono _ _ | exact spec_DrawHookWeight.mono _ _ | exact spec_DrawHooksOfReverse.mono _ _ | exact spec_DrawIsReverse.mono _ _ | exact spec_DrawReverseOfHooks.mono _ _ | exact spec_HookWeight.mono _ _ _ | exact spec_HooksOfReverse.mono _ _ _ | exact spec_IsFilling.mono _ _ _ | exact spec_IsReverse.mono _ _ _ | exact spec_ReverseOfHooks.mono _ _ _ | exact xl | refine LeO.ite ?_ ?_ | refine LeO.bind ?_ fun _ => ?_
theorem laws_FnFillings.mono : ∀ a0 k, LeO (laws_FnFillings.f k a0) (laws_FnFillings.f (k + 1) a0) := by
 intro a0 k
 obtain ⟨ih0, ih1, ih2⟩ := laws_FnFillings.mono_l k
 unfold laws_FnFillings.f
 repeat' with_reducible first | exact ih0 _ _ _ _ _ _ _ _ _ | exact ih1 _ _ _ _ | exact ih2 _ _ _ _ _ _ _ _ _ _ _ | exact impl_HookWeight.mono _ _ _ | exact impl_HooksOfReverse.mono _ _ _ | exact impl_IsFilling.mono _ _ _ | exact impl_IsReverse.mono _ _ _ | exact impl_ReverseOfHooks.mono _ _ _ | exact laws_sameLists.mono _ _ _ | exact laws_total.mono _ _ | exact spec_DrawHookWeight.mono _ _ | exact spec_DrawHooksOfReverse.mono _ _ | exact spec_DrawIsReverse.mono _ _ | exact spec_DrawReverseOfHooks.mono _ _ | exact spec_HookWeight.mono _ _ _ | exact spec_HooksOfReverse.mono _ _ _ | exact spec_IsFilling.mono _ _ _ | exact spec_IsReverse.mono _ _ _ | exact spec_ReverseOfHooks.mono _ _ _ | exact xl | refine LeO.ite ?_ ?_ | refine LeO.bind ?_ fun _ => ?_
theorem laws_FnFillings.calls (k : Nat) (A0 : Option Addr) (c0 : Nat) (l0 : List Int) (r : Bool) (w : World) (hr0 : Kd.C (Kd.int .u8) w A0 l0.length l0) (hc0 : l0.length ≤ c0) (h : laws_FnFillings.f k l0 = some r) :
  Calls Try.prog 3 #[.slice A0 l0.length c0] w fun e w' => e = .returned (.bool r) ∧ Below w.heap.size w w' := by
 have HR0 := ax hr0
 have HC0 := ax hc0
 clear hr0 hc0
 have HB := ax (Below.refl w.heap.size w)
 have H : ((laws_big.f l0).bind fun t491 => (if t491 = true then (some true) else ((spec_DrawHooksOfReverse.f k l0).bind fun bt492 => ((impl_HooksOfReverse.f k bt492.1 bt492.2).bind fun bt498 => ((spec_HooksOfReverse.f k bt492.1 bt492.2).bind fun bt502 => ((spec_DrawReverseOfHooks.f k l0).bind fun bt506 => ((impl_ReverseOfHooks.f k bt506.1 bt506.2).bind fun bt512 => ((spec_ReverseOfHooks.f k bt506.1 bt506.2).bind fun bt516 => ((spec_DrawIsReverse.f k l0).bind fun bt520 => ((spec_DrawHookWeight.f k l0).bind fun bt526 => (if (bt498.2 != bt502.2) = true then (laws_FnFillings.j0 k bt492.1 bt492.2 bt498.1 bt498.2 bt506.1 bt506.2 bt512.1 bt512.2 true) else ((laws_sameLists.f k bt498.1 bt502.1).bind fun t532 => (if t532 = true then (if (bt512.2 != bt516.2) = true then (laws_FnFillings.j0 k bt492.1 bt492.2 bt498.1 bt498.2 bt506.1 bt506.2 bt512.1 bt512.2 true) else ((laws_sameLists.f k bt512.1 bt516.1).bind fun t533 => (if t533 = true then ((impl_IsReverse.f k bt520.1 bt520.2).bind fun t534 => ((spec_IsReverse.f k bt520.1 bt520.2).bind fun t535 => (if (t534 != t535) = true then (laws_FnFillings.j0 k bt492.1 bt492.2 bt498.1 bt498.2 bt506.1 bt506.2 bt512.1 bt512.2 true) else ((impl_IsFilling.f k bt520.1 bt520.2).bind fun t536 => ((spec_IsFilling.f k bt520.1 bt520.2).bind fun t537 => (if (t536 != t537) = true then (laws_FnFillings.j0 k bt492.1 bt492.2 bt498.1 bt498.2 bt506.1 bt506.2 bt512.1 bt512.2 true) else ((impl_HookWeight.f k bt526.1 bt526.2).bind fun t538 => ((spec_HookWeight.f k bt526.1 bt526.2).bind fun t539 => (laws_FnFillings.j0 k bt492.1 bt492.2 bt498.1 bt498.2 bt506.1 bt506.2 bt512.1 bt512.2 (t538 != t539)))))))))) else (laws_FnFillings.j0 k bt492.1 bt492.2 bt498.1 bt498.2 bt506.1 bt506.2 bt512.1 bt512.2 true)))) else (laws_FnFillings.j0 k bt492.1 bt492.2 bt498.1 bt498.2 bt506.1 bt506.2 bt512.1 bt512.2 true)))))))))))))) = some r := h
 clear h
 obtain ⟨t491, A2, H⟩ := xI H
 by_cases c3 : t491 = true
 ·subst c3
  rw [if_pos rfl] at H
  obtain rfl := Option.some.inj H
  go_enter Try.func3, Try.ntmps3
  go_wp2_with (first | ((with_reducible refine gate_callee (f := 4) rfl ?_); refine goesL_ (some 26) rfl rfl Try.func4 (by kernel_rfl) rfl #[.slice A0 l0.length c0] rfl xm ?_; (with_reducible refine (laws_big.calls _ _ l0 true _ ?side1 ?side2 A2.out).mono ?_); (case side1 => exact xc HR0.out); (case side2 => exact HC0.out); rintro e w' ⟨rfl, ⟨nd, rfl⟩⟩; refine ⟨_, rfl, ?_⟩))
  go_ret
  exact ⟨xe, xb HB.out⟩
 ·replace c3 := Bool.eq_false_iff.mpr c3
  subst c3
  rw [if_neg (show ¬ (false = true) by decide)] at H
  obtain ⟨⟨t492, t493⟩, A4, H⟩ := xI H
  dsimp only at H
  obtain ⟨⟨t498, t499⟩, A5, H⟩ := xI H
  dsimp only at H
  obtain ⟨⟨t502, t503⟩, A6, H⟩ := xI H
  dsimp only at H
  obtain ⟨⟨t506, t507⟩, A7, H⟩ := xI H
  dsimp only at H
  obtain ⟨⟨t512, t513⟩, A8, H⟩ := xI H
  dsimp only at H
  obtain ⟨⟨t516, t517⟩, A9, H⟩ := xI H
  dsimp only at H
  obtain ⟨⟨t520, t521⟩, A10, H⟩ := xI H
  dsimp only at H
  obtain ⟨⟨t526, t527⟩, A11, H⟩ := xI H
  dsimp only at H
  have HC12 := ax H
  clear H
  go_enter Try.func3, Try.ntmps3
  go_upto_region 11 with (first | ((with_reducible refine gate_callee (f := 4) rfl ?_); refine goesL_ (some 26) rfl rfl Try.func4 (by kernel_rfl) rfl #[.slice A0 l0.length c0] rfl xm ?_; (with_reducible refine (laws_big.calls _ _ l0 false _ ?side1 ?side2 A2.out).mono ?_); (case side1 => exact xc HR0.out); (case side2 => exact HC0.out); rintro e w' ⟨rfl, ⟨nd, rfl⟩⟩; refine ⟨_, rfl, ?_⟩) | ((with_reducible refine gate_callee (f := 5) rfl ?_); refine goesL_ (some 29) rfl rfl Try.func5 (by kernel_rfl) rfl #[.slice A0 l0.length c0] rfl xm ?_; (with_reducible refine (spec_DrawHooksOfReverse.calls k _ _ l0 t492 t493 _ ?side1 ?side2 A4.out).mono ?_); (case side1 => exact xc HR0.out); (case side2 => exact HC0.out); rintro e w13 ⟨v494, v496, rfl, ho0, ho1, hb⟩; refine ⟨_, rfl, ?_⟩; have HO495 := ax (Kd.R_lower ho0 (below_size (xb HB.out))); have HO497 := ax (Kd.S_lower ho1 (below_size (xb HB.out))); replace HB := yB HB hb; (try clear hb); (try clear ho0); (try clear ho1); obtain ⟨Ao14, co14, eo14⟩ := Kd.R_slice HO495.out; subst eo14; obtain ⟨Ao15, co15, eo15⟩ := Kd.S_slice HO497.out; subst eo15) | ((with_reducible refine gate_callee (f := 6) rfl ?_); refine goesL_ (some 35) rfl rfl Try.func6 (by kernel_rfl) rfl #[.slice Ao14 t492.length co14, .slice Ao15 t493.length co15] rfl xm ?_; (with_reducible refine (impl_HooksOfReverse.calls k _ _ t492 _ _ t493 t498 t499 _ ?side1 ?side2 ?side3 ?side4 A5.out).mono ?_); (case side1 => exact xc (Kd.R_reads' HO495.out).2.2); (case side2 => exact (Kd.R_reads' HO495.out).2.1); (case side3 => exact xc (Kd.S_reads' HO497.out).2.2); (case side4 => exact (Kd.S_reads' HO497.out).2.1); rintro e w16 ⟨v500, rfl, ho0, hb⟩; refine ⟨_, rfl, ?_⟩; replace ho0 := Kd.deep0 ho0; obtain ⟨N554_, ho0, hN554_⟩ := ho0; have HO501 := ax (Kd.S_lower (Kd.S_new' (Kd.S_new' ho0 (Kd.R_lt (xR HO495.out))) (Kd.S_lt (xS HO497.out))) (below_size (xb HB.out))); replace HO495 := yR HO495 hb; replace HO497 := ax (Kd.S_elderD (xS HO497.out) hN554_ (Kd.S_base ho0) hb); replace HB := yB HB hb; (try clear hb); (try clear ho0); (try clear hN554_)) | ((with_reducible refine gate_callee (f := 7) rfl ?_); refine goesL_ (some 41) rfl rfl Try.func7 (by kernel_rfl) rfl #[.slice Ao14 t492.length co14, .slice Ao15 t493.length co15] rfl xm ?_; (with_reducible refine (spec_HooksOfReverse.calls k _ _ t492 _ _ t493 t502 t503 _ ?side1 ?side2 ?side3 ?side4 A6.out).mono ?_); (case side1 => exact xc (Kd.R_reads' HO495.out).2.2); (case side2 => exact (Kd.R_reads' HO495.out).2.1); (case side3 => exact xc (Kd.S_reads' HO497.out).2.2); (case side4 => exact (Kd.S_reads' HO497.out).2.1); rintro e w17 ⟨v504, rfl, ho0, hb⟩; refine ⟨_, rfl, ?_⟩; replace ho0 := Kd.deep0 ho0; obtain ⟨N556_, ho0, hN556_⟩ := ho0; have HO505 := ax (Kd.S_lower (Kd.S_new' (Kd.S_new' (Kd.S_new' ho0 (Kd.R_lt (xR HO495.out))) (Kd.S_lt (xS HO497.out))) (Kd.S_lt (xS HO501.out))) (below_size (xb HB.out))); replace HO495 := yR HO495 hb; replace HO497 := ax (Kd.S_elderD (xS HO497.out) hN556_ (Kd.S_base ho0) hb); replace HO501 := ax (Kd.S_elderD (xS HO501.out) hN556_ (Kd.S_base ho0) hb); replace HB := yB HB hb; (try clear hb); (try clear ho0); (try clear hN556_)) | ((with_reducible refine gate_callee (f := 8) rfl ?_); refine goesL_ (some 46) rfl rfl Try.func8 (by kernel_rfl) rfl #[.slice A0 l0.length c0] rfl xm ?_; (with_reducible refine (spec_DrawReverseOfHooks.calls k _ _ l0 t506 t507 _ ?side1 ?side2 A7.out).mono ?_); (case side1 => exact xz HR0.out HB.out); (case side2 => exact HC0.out); rintro e w18 ⟨v508, v510, rfl, ho0, ho1, hb⟩; refine ⟨_, rfl, ?_⟩; have HO509 := ax (Kd.R_lower (Kd.R_new' ho0 (Kd.R_lt (xR HO495.out))) (below_size (xb HB.out))); have HO511 := ax (Kd.S_lower (Kd.S_new' (Kd.S_new' (Kd.S_new' (Kd.S_new' ho1 (Kd.R_lt (xR HO495.out))) (Kd.S_lt (xS HO497.out))) (Kd.S_lt (xS HO501.out))) (Kd.S_lt (xS HO505.out))) (below_size (xb HB.out))); replace HO495 := ax (Kd.R_elder' (xR HO495.out) (Kd.R_base ho0) hb); replace HO497 := ax (Kd.S_mono (Kd.S_told (Kd.S_told (Kd.S_old (xS HO497.out) hb) (Kd.R_base ho0)) (Kd.S_base ho1)) (fun _ h_ => h_.1)); replace HO501 := ax (Kd.S_mono (Kd.S_told (Kd.S_told (Kd.S_old (xS HO501.out) hb) (Kd.R_base ho0)) (Kd.S_base ho1)) (fun _ h_ => h_.1)); replace HO505 := ax (Kd.S_mono (Kd.S_told (Kd.S_told (Kd.S_old (xS HO505.out) hb) (Kd.R_base ho0)) (Kd.S_base ho1)) (fun _ h_ => h_.1)); replace HB := yB HB hb; (try clear hb); (try clear ho0); (try clear ho1); obtain ⟨Ao19, co19, eo19⟩ := Kd.R_slice HO509.out; subst eo19; obtain ⟨Ao20, co20, eo20⟩ := Kd.S_slice HO511.out; subst eo20) | ((with_reducible refine gate_callee (f := 9) rfl ?_); refine goesL_ (some 52) rfl rfl Try.func9 (by kernel_rfl) rfl #[.slice Ao19 t506.length co19, .slice Ao20 t507.length co20] rfl xm ?_; (with_reducible refine (impl_ReverseOfHooks.calls k _ _ t506 _ _ t507 t512 t513 _ ?side1 ?side2 ?side3 ?side4 A8.out).mono ?_); (case side1 => exact xc (Kd.R_reads' HO509.out).2.2); (case side2 => exact (Kd.R_reads' HO509.out).2.1); (case side3 => exact xc (Kd.S_reads' HO511.out).2.2); (case side4 => exact (Kd.S_reads' HO511.out).2.1); rintro e w21 ⟨v514, rfl, ho0, hb⟩; refine ⟨_, rfl, ?_⟩; replace ho0 := Kd.deep0 ho0; obtain ⟨N558_, ho0, hN558_⟩ := ho0; have HO515 := ax (Kd.S_lower (Kd.S_new' (Kd.S_new' (Kd.S_new' (Kd.S_new' (Kd.S_new' (Kd.S_new' ho0 (Kd.R_lt (xR HO495.out))) (Kd.S_lt (xS HO497.out))) (Kd.S_lt (xS HO501.out))) (Kd.S_lt (xS HO505.out))) (Kd.R_lt (xR HO509.out))) (Kd.S_lt (xS HO511.out))) (below_size (xb HB.out))); replace HO495 := yR HO495 hb; replace HO497 := ax (Kd.S_elderD (xS HO497.out) hN558_ (Kd.S_base ho0) hb); replace HO501 := ax (Kd.S_elderD (xS HO501.out) hN558_ (Kd.S_base ho0) hb); replace HO505 := ax (Kd.S_elderD (xS HO505.out) hN558_ (Kd.S_base ho0) hb); replace HO509 := yR HO509 hb; replace HO511 := ax (Kd.S_elderD (xS HO511.out) hN558_ (Kd.S_base ho0) hb); replace HB := yB HB hb; (try clear hb); (try clear ho0); (try clear hN558_)) | ((with_reducible refine gate_callee (f := 10) rfl ?_); refine goesL_ (some 58) rfl rfl Try.func10 (by kernel_rfl) rfl #[.slice Ao19 t506.length co19, .slice Ao20 t507.length co20] rfl xm ?_; (with_reducible refine (spec_ReverseOfHooks.calls k _ _ t506 _ _ t507 t516 t517 _ ?side1 ?side2 ?side3 ?side4 A9.out).mono ?_); (case side1 => exact xc (Kd.R_reads' HO509.out).2.2); (case side2 => exact (Kd.R_reads' HO509.out).2.1); (case side3 => exact xc (Kd.S_reads' HO511.out).2.2); (case side4 => exact (Kd.S_reads' HO511.out).2.1); rintro e w22 ⟨v518, rfl, ho0, hb⟩; refine ⟨_, rfl, ?_⟩; replace ho0 := Kd.deep0 ho0; obtain ⟨N560_, ho0, hN560_⟩ := ho0; have HO519 := ax (Kd.S_lower (Kd.S_new' (Kd.S_new' (Kd.S_new' (Kd.S_new' (Kd.S_new' (Kd.S_new' (Kd.S_new' ho0 (Kd.R_lt (xR HO495.out))) (Kd.S_lt (xS HO497.out))) (Kd.S_lt (xS HO501.out))) (Kd.S_lt (xS HO505.out))) (Kd.R_lt (xR HO509.out))) (Kd.S_lt (xS HO511.out))) (Kd.S_lt (xS HO515.out))) (below_size (xb HB.out))); replace HO495 := yR HO495 hb; replace HO497 := ax (Kd.S_elderD (xS HO497.out) hN560_ (Kd.S_base ho0) hb); replace HO501 := ax (Kd.S_elderD (xS HO501.out) hN560_ (Kd.S_base ho0) hb); replace HO505 := ax (Kd.S_elderD (xS HO505.out) hN560_ (Kd.S_base ho0) hb); replace HO509 := yR HO509 hb; replace HO511 := ax (Kd.S_elderD (xS HO511.out) hN560_ (Kd.S_base ho0) hb); replace HO515 := ax (Kd.S_elderD (xS HO515.out) hN560_ (Kd.S_base ho0) hb); replace HB := yB HB hb; (try clear hb); (try clear ho0); (try clear hN560_)) | ((with_reducible refine gate_callee (f := 11) rfl ?_); refine goesL_ (some 63) rfl rfl Try.func11 (by kernel_rfl) rfl #[.slice A0 l0.length c0] rfl xm ?_; (with_reducible refine (spec_DrawIsReverse.calls k _ _ l0 t520 t521 _ ?side1 ?side2 A10.out).mono ?_); (case side1 => exact xz HR0.out HB.out); (case side2 => exact HC0.out); rintro e w23 ⟨v522, v524, rfl, ho0, ho1, hb⟩; refine ⟨_, rfl, ?_⟩; have HO523 := ax (Kd.R_lower (Kd.R_new' (Kd.R_new' ho0 (Kd.R_lt (xR HO495.out))) (Kd.R_lt (xR HO509.out))) (below_size (xb HB.out))); have HO525 := ax (Kd.S_lower (Kd.S_new' (Kd.S_new' (Kd.S_new' (Kd.S_new' (Kd.S_new' (Kd.S_new' (Kd.S_new' (Kd.S_new' ho1 (Kd.R_lt (xR HO495.out))) (Kd.S_lt (xS HO497.out))) (Kd.S_lt (xS HO501.out))) (Kd.S_lt (xS HO505.out))) (Kd.R_lt (xR HO509.out))) (Kd.S_lt (xS HO511.out))) (Kd.S_lt (xS HO515.out))) (Kd.S_lt (xS HO519.out))) (below_size (xb HB.out))); replace HO495 := ax (Kd.R_elder' (xR HO495.out) (Kd.R_base ho0) hb); replace HO497 := ax (Kd.S_mono (Kd.S_told (Kd.S_told (Kd.S_old (xS HO497.out) hb) (Kd.R_base ho0)) (Kd.S_base ho1)) (fun _ h_ => h_.1)); replace HO501 := ax (Kd.S_mono (Kd.S_told (Kd.S_told (Kd.S_old (xS HO501.out) hb) (Kd.R_base ho0)) (Kd.S_base ho1)) (fun _ h_ => h_.1)); replace HO505 := ax (Kd.S_mono (Kd.S_told (Kd.S_told (Kd.S_old (xS HO505.out) hb) (Kd.R_base ho0)) (Kd.S_base ho1)) (fun _ h_ => h_.1)); replace HO509 := ax (Kd.R_elder' (xR HO509.out) (Kd.R_base ho0) hb); replace HO511 := ax (Kd.S_mono (Kd.S_told (Kd.S_told (Kd.S_old (xS HO511.out) hb) (Kd.R_base ho0)) (Kd.S_base ho1)) (fun _ h_ => h_.1)); replace HO515 := ax (Kd.S_mono (Kd.S_told (Kd.S_told (Kd.S_old (xS HO515.out) hb) (Kd.R_base ho0)) (Kd.S_base ho1)) (fun _ h_ => h_.1)); replace HO519 := ax (Kd.S_mono (Kd.S_told (Kd.S_told (Kd.S_old (xS HO519.out) hb) (Kd.R_base ho0)) (Kd.S_base ho1)) (fun _ h_ => h_.1)); replace HB := yB HB hb; (try clear hb); (try clear ho0); (try clear ho1)) | ((with_reducible refine gate_callee (f := 12) rfl ?_); refine goesL_ (some 68) rfl rfl Try.func12 (by kernel_rfl) rfl #[.slice A0 l0.length c0] rfl xm ?_; (with_reducible refine (spec_DrawHookWeight.calls k _ _ l0 t526 t527 _ ?side1 ?side2 A11.out).mono ?_); (case side1 => exact xz HR0.out HB.out); (case side2 => exact HC0.out); rintro e w24 ⟨v528, v530, rfl, ho0, ho1, hb⟩; refine ⟨_, rfl, ?_⟩; have HO529 := ax (Kd.R_lower (Kd.R_new' (Kd.R_new' (Kd.R_new' ho0 (Kd.R_lt (xR HO495.out))) (Kd.R_lt (xR HO509.out))) (Kd.R_lt (xR HO523.out))) (below_size (xb HB.out))); have HO531 := ax (Kd.S_lower (Kd.S_new' (Kd.S_new' (Kd.S_new' (Kd.S_new' (Kd.S_new' (Kd.S_new' (Kd.S_new' (Kd.S_new' (Kd.S_new' (Kd.S_new' ho1 (Kd.R_lt (xR HO495.out))) (Kd.S_lt (xS HO497.out))) (Kd.S_lt (xS HO501.out))) (Kd.S_lt (xS HO505.out))) (Kd.R_lt (xR HO509.out))) (Kd.S_lt (xS HO511.out))) (Kd.S_lt (xS HO515.out))) (Kd.S_lt (xS HO519.out))) (Kd.R_lt (xR HO523.out))) (Kd.S_lt (xS HO525.out))) (below_size (xb HB.out))); replace HO495 := ax (Kd.R_elder' (xR HO495.out) (Kd.R_base ho0) hb); replace HO497 := ax (Kd.S_mono (Kd.S_told (Kd.S_told (Kd.S_old (xS HO497.out) hb) (Kd.R_base ho0)) (Kd.S_base ho1)) (fun _ h_ => h_.1)); replace HO501 := ax (Kd.S_mono (Kd.S_told (Kd.S_told (Kd.S_old (xS HO501.out) hb) (Kd.R_base ho0)) (Kd.S_base ho1)) (fun _ h_ => h_.1)); replace HO505 := ax (Kd.S_mono (Kd.S_told (Kd.S_told (Kd.S_old (xS HO505.out) hb) (Kd.R_base ho0)) (Kd.S_base ho1)) (fun _ h_ => h_.1)); replace HO509 := ax (Kd.R_elder' (xR HO509.out) (Kd.R_base ho0) hb); replace HO511 := ax (Kd.S_mono (Kd.S_told (Kd.S_told (Kd.S_old (xS HO511.out) hb) (Kd.R_base ho0)) (Kd.S_base ho1)) (fun _ h_ => h_.1)); replace HO515 := ax (Kd.S_mono (Kd.S_told (Kd.S_told (Kd.S_old (xS HO515.out) hb) (Kd.R_base ho0)) (Kd.S_base ho1)) (fun _ h_ => h_.1)); replace HO519 := ax (Kd.S_mono (Kd.S_told (Kd.S_told (Kd.S_old (xS HO519.out) hb) (Kd.R_base ho0)) (Kd.S_base ho1)) (fun _ h_ => h_.1)); replace HO523 := ax (Kd.R_elder' (xR HO523.out) (Kd.R_base ho0) hb); replace HO525 := ax (Kd.S_mono (Kd.S_told (Kd.S_told (Kd.S_old (xS HO525.out) hb) (Kd.R_base ho0)) (Kd.S_base ho1)) (fun _ h_ => h_.1)); replace HB := yB HB hb; (try clear hb); (try clear ho0); (try clear ho1)))
  (try simp only [Act.put, List.setIfInBounds_toArray, List.set_cons_zero, List.set_cons_succ])
  go_cut [117] (fun v117 wc => ∃ (kq : Nat) (x117_11 : Bool), v117 = .bool x117_11 ∧ Aside0 (laws_FnFillings.j0 kq t492 t493 t498 t499 t506 t507 t512 t513 x117_11 = some r) ∧ Aside0 (kq ≤ k) ∧ Aside0 (Kd.R (Kd.int .i64) 3 wc w.heap.size (fun k_ => some k_ ≠ ((.slice Ao19 t506.length co19) : Value).ownBlock) (.slice Ao14 t492.length co14) t492) ∧ Aside0 (Kd.S (Kd.slice 3 (Kd.int .i64)) 24 wc w.heap.size (fun k_ => some k_ ≠ ((.slice Ao14 t492.length co14) : Value).ownBlock ∧ some k_ ≠ (v500 : Value).ownBlock ∧ some k_ ≠ ((.slice Ao19 t506.length co19) : Value).ownBlock ∧ some k_ ≠ ((.slice Ao20 t507.length co20) : Value).ownBlock ∧ some k_ ≠ (v514 : Value).ownBlock ∧ k_ ≠ dmO N554_ k_ ∧ k_ ≠ dmO N556_ k_ ∧ k_ ≠ dmO N558_ k_ ∧ k_ ≠ dmO N560_ k_) (.slice Ao15 t493.length co15) t493) ∧ Aside0 (Kd.S (Kd.slice 3 (Kd.int .i64)) 24 wc w.heap.size (fun k_ => some k_ ≠ ((.slice Ao14 t492.length co14) : Value).ownBlock ∧ some k_ ≠ ((.slice Ao15 t493.length co15) : Value).ownBlock ∧ some k_ ≠ ((.slice Ao19 t506.length co19) : Value).ownBlock ∧ some k_ ≠ ((.slice Ao20 t507.length co20) : Value).ownBlock ∧ some k_ ≠ (v514 : Value).ownBlock ∧ k_ ≠ dmI N554_ k_ ∧ k_ ≠ dmO N556_ k_ ∧ k_ ≠ dmO N558_ k_ ∧ k_ ≠ dmO N560_ k_) v500 t498) ∧ Aside0 (Kd.R (Kd.int .i64) 3 wc w.heap.size (fun k_ => some k_ ≠ ((.slice Ao14 t492.length co14) : Value).ownBlock) (.slice Ao19 t506.length co19) t506) ∧ Aside0 (Kd.S (Kd.slice 3 (Kd.int .i64)) 24 wc w.heap.size (fun k_ => some k_ ≠ ((.slice Ao14 t492.length co14) : Value).ownBlock ∧ some k_ ≠ ((.slice Ao15 t493.length co15) : Value).ownBlock ∧ some k_ ≠ (v500 : Value).ownBlock ∧ some k_ ≠ ((.slice Ao19 t506.length co19) : Value).ownBlock ∧ some k_ ≠ (v514 : Value).ownBlock ∧ k_ ≠ dmO N558_ k_ ∧ k_ ≠ dmO N560_ k_) (.slice Ao20 t507.length co20) t507) ∧ Aside0 (Kd.S (Kd.slice 3 (Kd.int .i64)) 24 wc w.heap.size (fun k_ => some k_ ≠ ((.slice Ao14 t492.length co14) : Value).ownBlock ∧ some k_ ≠ ((.slice Ao15 t493.length co15) : Value).ownBlock ∧ some k_ ≠ (v500 : Value).ownBlock ∧ some k_ ≠ ((.slice Ao19 t506.length co19) : Value).ownBlock ∧ some k_ ≠ ((.slice Ao20 t507.length co20) : Value).ownBlock ∧ k_ ≠ dmI N558_ k_ ∧ k_ ≠ dmO N560_ k_) v514 t512) ∧ Aside0 (Below w.heap.size w wc))
  case first =>
   have H := HC12.out
   clear HC12
   by_cases c25 : (t499 != t503) = true
   ·rw [if_pos c25] at H
    have c25b0 : (t499 != t503) = true := c25
    (try (have c25b1 : decide (t499 = t503) = false := by simpa using c25))
    (try (have c25b2 : (t499 == t503) = false := by simpa using c25))
    (try (have c25b3 : ¬ (t499 = t503) := by simpa using c25))
    clear c25
    (first | rw [c25b0] | (simp only [i64_w, i32_w]; rw [c25b0]) | skip)
    have H' := ax H
    clear H
    go_wp2
    go_meet
    case rel => exact ⟨_, (true), xr, H', ⟨by first | omega | exact Nat.le_refl _⟩, ⟨by (with_reducible repeat (first | apply Kd.R_alloc | apply Kd.R_drewN | apply Kd.R_drew)); exact Kd.R_mono HO495.out (fun _ hk => hk.1.1.2)⟩, ⟨by (with_reducible repeat (first | apply Kd.S_alloc | apply Kd.S_drewN | apply Kd.S_drew)); exact Kd.S_mono HO497.out (fun _ hk => ⟨hk.1.1.1.1.1.1.1.1.1.1.1.1.1.1, ⟨hk.1.1.1.1.1.1.1.1.1.1.1.1.1.2, ⟨hk.1.1.1.1.1.1.1.1.1.2, ⟨hk.1.1.1.1.1.1.1.1.2, ⟨hk.1.1.1.1.1.1.1.2, ⟨hk.1.1.1.1.1.1.1.1.1.1.1.1.2, ⟨hk.1.1.1.1.1.1.1.1.1.1.2, ⟨hk.1.1.1.1.1.1.2, hk.1.1.1.1.2⟩⟩⟩⟩⟩⟩⟩⟩)⟩, ⟨by (with_reducible repeat (first | apply Kd.S_alloc | apply Kd.S_drewN | apply Kd.S_drew)); exact Kd.S_mono HO501.out (fun _ hk => ⟨hk.1.1.1.1.1.1.1.1.1.1.1.1.1.2, ⟨hk.1.1.1.1.1.1.1.1.1.1.1.1.2, ⟨hk.1.1.1.1.1.1.1.1.1.2, ⟨hk.1.1.1.1.1.1.1.1.2, ⟨hk.1.1.1.1.1.1.1.2, ⟨hk.1.1.1.1.1.1.1.1.1.1.1.1.1.1, ⟨hk.1.1.1.1.1.1.1.1.1.1.2, ⟨hk.1.1.1.1.1.1.2, hk.1.1.1.1.2⟩⟩⟩⟩⟩⟩⟩⟩)⟩, ⟨by (with_reducible repeat (first | apply Kd.R_alloc | apply Kd.R_drewN | apply Kd.R_drew)); exact Kd.R_mono HO509.out (fun _ hk => hk.1.1.2)⟩, ⟨by (with_reducible repeat (first | apply Kd.S_alloc | apply Kd.S_drewN | apply Kd.S_drew)); exact Kd.S_mono HO511.out (fun _ hk => ⟨hk.1.1.1.1.1.1.1.1.1.1.1.2, ⟨hk.1.1.1.1.1.1.1.1.1.1.2, ⟨hk.1.1.1.1.1.1.1.1.1.2, ⟨hk.1.1.1.1.1.1.1.1.1.1.1.1, ⟨hk.1.1.1.1.1.1.1.2, ⟨hk.1.1.1.1.1.1.2, hk.1.1.1.1.2⟩⟩⟩⟩⟩⟩)⟩, ⟨by (with_reducible repeat (first | apply Kd.S_alloc | apply Kd.S_drewN | apply Kd.S_drew)); exact Kd.S_mono HO515.out (fun _ hk => ⟨hk.1.1.1.1.1.1.1.1.1.1.1.2, ⟨hk.1.1.1.1.1.1.1.1.1.1.2, ⟨hk.1.1.1.1.1.1.1.1.1.2, ⟨hk.1.1.1.1.1.1.1.2, ⟨hk.1.1.1.1.1.1.2, ⟨hk.1.1.1.1.1.1.1.1.1.1.1.1, hk.1.1.1.1.2⟩⟩⟩⟩⟩⟩)⟩, ⟨xb HB.out⟩⟩
   ·rw [if_neg c25] at H
    have c25b0 : (t499 != t503) = false := by simpa using c25
    (try (have c25b1 : decide (t499 = t503) = true := by simpa using c25))
    (try (have c25b2 : (t499 == t503) = true := by simpa using c25))
    clear c25
    (first | rw [c25b0] | (simp only [i64_w, i32_w]; rw [c25b0]) | skip)
    obtain ⟨t532, A26, H⟩ := xI H
    by_cases c27 : t532 = true
    ·subst c27
     rw [if_pos rfl] at H
     by_cases c28 : (t513 != t517) = true
     ·rw [if_pos c28] at H
      have c28b0 : (t513 != t517) = true := c28
      (try (have c28b1 : decide (t513 = t517) = false := by simpa using c28))
      (try (have c28b2 : (t513 == t517) = false := by simpa using c28))
      (try (have c28b3 : ¬ (t513 = t517) := by simpa using c28))
      clear c28
      have H' := ax H
      clear H
      obtain ⟨Ao29, co29, eo29⟩ := Kd.S_slice HO501.out
      subst eo29
      obtain ⟨Ao30, co30, eo30⟩ := Kd.S_slice HO505.out
      subst eo30
      go_wp2_with (first | (go_at_call 13; (with_reducible refine (laws_sameLists.calls k _ _ t498 _ _ t502 true _ ?side1 ?side2 ?side3 ?side4 A26.out).mono ?_); (case side1 => exact xc (Kd.S_reads' HO501.out).2.2); (case side2 => exact (Kd.S_reads' HO501.out).2.1); (case side3 => exact xc (Kd.S_reads' HO505.out).2.2); (case side4 => exact (Kd.S_reads' HO505.out).2.1); rintro e w' ⟨rfl, ⟨nd, rfl⟩⟩))
      go_meet
      case rel => exact ⟨_, (true), xr, H', ⟨by first | omega | exact Nat.le_refl _⟩, ⟨by (with_reducible repeat (first | apply Kd.R_alloc | apply Kd.R_drewN | apply Kd.R_drew)); exact Kd.R_mono HO495.out (fun _ hk => hk.1.1.2)⟩, ⟨by (with_reducible repeat (first | apply Kd.S_alloc | apply Kd.S_drewN | apply Kd.S_drew)); exact Kd.S_mono HO497.out (fun _ hk => ⟨hk.1.1.1.1.1.1.1.1.1.1.1.1.1.1, ⟨hk.1.1.1.1.1.1.1.1.1.1.1.1.1.2, ⟨hk.1.1.1.1.1.1.1.1.1.2, ⟨hk.1.1.1.1.1.1.1.1.2, ⟨hk.1.1.1.1.1.1.1.2, ⟨hk.1.1.1.1.1.1.1.1.1.1.1.1.2, ⟨hk.1.1.1.1.1.1.1.1.1.1.2, ⟨hk.1.1.1.1.1.1.2, hk.1.1.1.1.2⟩⟩⟩⟩⟩⟩⟩⟩)⟩, ⟨by (with_reducible repeat (first | apply Kd.S_alloc | apply Kd.S_drewN | apply Kd.S_drew)); exact Kd.S_mono HO501.out (fun _ hk => ⟨hk.1.1.1.1.1.1.1.1.1.1.1.1.1.2, ⟨hk.1.1.1.1.1.1.1.1.1.1.1.1.2, ⟨hk.1.1.1.1.1.1.1.1.1.2, ⟨hk.1.1.1.1.1.1.1.1.2, ⟨hk.1.1.1.1.1.1.1.2, ⟨hk.1.1.1.1.1.1.1.1.1.1.1.1.1.1, ⟨hk.1.1.1.1.1.1.1.1.1.1.2, ⟨hk.1.1.1.1.1.1.2, hk.1.1.1.1.2⟩⟩⟩⟩⟩⟩⟩⟩)⟩, ⟨by (with_reducible repeat (first | apply Kd.R_alloc | apply Kd.R_drewN | apply Kd.R_drew)); exact Kd.R_mono HO509.out (fun _ hk => hk.1.1.2)⟩, ⟨by (with_reducible repeat (first | apply Kd.S_alloc | apply Kd.S_drewN | apply Kd.S_drew)); exact Kd.S_mono HO511.out (fun _ hk => ⟨hk.1.1.1.1.1.1.1.1.1.1.1.2, ⟨hk.1.1.1.1.1.1.1.1.1.1.2, ⟨hk.1.1.1.1.1.1.1.1.1.2, ⟨hk.1.1.1.1.1.1.1.1.1.1.1.1, ⟨hk.1.1.1.1.1.1.1.2, ⟨hk.1.1.1.1.1.1.2, hk.1.1.1.1.2⟩⟩⟩⟩⟩⟩)⟩, ⟨by (with_reducible repeat (first | apply Kd.S_alloc | apply Kd.S_drewN | apply Kd.S_drew)); exact Kd.S_mono HO515.out (fun _ hk => ⟨hk.1.1.1.1.1.1.1.1.1.1.1.2, ⟨hk.1.1.1.1.1.1.1.1.1.1.2, ⟨hk.1.1.1.1.1.1.1.1.1.2, ⟨hk.1.1.1.1.1.1.1.2, ⟨hk.1.1.1.1.1.1.2, ⟨hk.1.1.1.1.1.1.1.1.1.1.1.1, hk.1.1.1.1.2⟩⟩⟩⟩⟩⟩)⟩, ⟨xb HB.out⟩⟩
     ·rw [if_neg c28] at H
      have c28b0 : (t513 != t517) = false := by simpa using c28
      (try (have c28b1 : decide (t513 = t517) = true := by simpa using c28))
      (try (have c28b2 : (t513 == t517) = true := by simpa using c28))
      clear c28
      obtain ⟨t533, A31, H⟩ := xI H
      by_cases c32 : t533 = true
      ·subst c32
       rw [if_pos rfl] at H
       obtain ⟨t534, A33, H⟩ := xI H
       obtain ⟨t535, A34, H⟩ := xI H
       by_cases c35 : (t534 != t535) = true
       ·rw [if_pos c35] at H
        have c35b0 : (t534 != t535) = true := c35
        (try (have c35b1 : decide (t534 = t535) = false := by simpa using c35))
        (try (have c35b2 : (t534 == t535) = false := by simpa using c35))
        (try (have c35b3 : ¬ (t534 = t535) := by simpa using c35))
        clear c35
        have H' := ax H
        clear H
        obtain ⟨Ao36, co36, eo36⟩ := Kd.S_slice HO501.out
        subst eo36
        obtain ⟨Ao37, co37, eo37⟩ := Kd.S_slice HO505.out
        subst eo37
        go_wp2_with (first | (go_at_call 13; (with_reducible refine (laws_sameLists.calls k _ _ t498 _ _ t502 true _ ?side1 ?side2 ?side3 ?side4 A26.out).mono ?_); (case side1 => exact xc (Kd.S_reads' HO501.out).2.2); (case side2 => exact (Kd.S_reads' HO501.out).2.1); (case side3 => exact xc (Kd.S_reads' HO505.out).2.2); (case side4 => exact (Kd.S_reads' HO505.out).2.1); rintro e w' ⟨rfl, ⟨nd, rfl⟩⟩; obtain ⟨Ao38, co38, eo38⟩ := Kd.S_slice HO515.out; subst eo38; obtain ⟨Ao39, co39, eo39⟩ := Kd.S_slice HO519.out; subst eo39) | (go_at_call 13; (with_reducible refine (laws_sameLists.calls k _ _ t512 _ _ t516 true _ ?side1 ?side2 ?side3 ?side4 A31.out).mono ?_); (case side1 => exact xc (Kd.S_reads' HO515.out).2.2); (case side2 => exact (Kd.S_reads' HO515.out).2.1); (case side3 => exact xc (Kd.S_reads' HO519.out).2.2); (case side4 => exact (Kd.S_reads' HO519.out).2.1); rintro e w' ⟨rfl, ⟨nd, rfl⟩⟩; obtain ⟨Ao40, co40, eo40⟩ := Kd.R_slice HO523.out; subst eo40; obtain ⟨Ao41, co41, eo41⟩ := Kd.S_slice HO525.out; subst eo41) | (go_at_call 14; (with_reducible refine (impl_IsReverse.calls k _ _ t520 _ _ t521 t534 _ ?side1 ?side2 ?side3 ?side4 A33.out).mono ?_); (case side1 => exact xc (Kd.R_reads' HO523.out).2.2); (case side2 => exact (Kd.R_reads' HO523.out).2.1); (case side3 => exact xc (Kd.S_reads' HO525.out).2.2); (case side4 => exact (Kd.S_reads' HO525.out).2.1); rintro e w' ⟨rfl, ⟨nd, rfl⟩⟩) | (go_at_call 15; (with_reducible refine (spec_IsReverse.calls k _ _ t520 _ _ t521 t535 _ ?side1 ?side2 ?side3 ?side4 A34.out).mono ?_); (case side1 => exact xc (Kd.R_reads' HO523.out).2.2); (case side2 => exact (Kd.R_reads' HO523.out).2.1); (case side3 => exact xc (Kd.S_reads' HO525.out).2.2); (case side4 => exact (Kd.S_reads' HO525.out).2.1); rintro e w42 ⟨rfl, hb⟩; replace HO495 := yR HO495 hb; replace HO497 := ax (Kd.S_below (xS HO497.out) hb); replace HO501 := ax (Kd.S_below (xS HO501.out) hb); replace HO505 := ax (Kd.S_below (xS HO505.out) hb); replace HO509 := yR HO509 hb; replace HO511 := ax (Kd.S_below (xS HO511.out) hb); replace HO515 := ax (Kd.S_below (xS HO515.out) hb); replace HO519 := ax (Kd.S_below (xS HO519.out) hb); replace HO523 := yR HO523 hb; replace HO525 := ax (Kd.S_below (xS HO525.out) hb); replace HO529 := yR HO529 hb; replace HO531 := ax (Kd.S_below (xS HO531.out) hb); replace HB := yB HB hb; (try clear hb)))
        go_meet
        case rel => exact ⟨_, (true), xr, H', ⟨by first | omega | exact Nat.le_refl _⟩, ⟨by (with_reducible repeat (first | apply Kd.R_alloc | apply Kd.R_drewN | apply Kd.R_drew)); exact Kd.R_mono HO495.out (fun _ hk => hk.1.1.2)⟩, ⟨by (with_reducible repeat (first | apply Kd.S_alloc | apply Kd.S_drewN | apply Kd.S_drew)); exact Kd.S_mono HO497.out (fun _ hk => ⟨hk.1.1.1.1.1.1.1.1.1.1.1.1.1.1, ⟨hk.1.1.1.1.1.1.1.1.1.1.1.1.1.2, ⟨hk.1.1.1.1.1.1.1.1.1.2, ⟨hk.1.1.1.1.1.1.1.1.2, ⟨hk.1.1.1.1.1.1.1.2, ⟨hk.1.1.1.1.1.1.1.1.1.1.1.1.2, ⟨hk.1.1.1.1.1.1.1.1.1.1.2, ⟨hk.1.1.1.1.1.1.2, hk.1.1.1.1.2⟩⟩⟩⟩⟩⟩⟩⟩)⟩, ⟨by (with_reducible repeat (first | apply Kd.S_alloc | apply Kd.S_drewN | apply Kd.S_drew)); exact Kd.S_mono HO501.out (fun _ hk => ⟨hk.1.1.1.1.1.1.1.1.1.1.1.1.1.2, ⟨hk.1.1.1.1.1.1.1.1.1.1.1.1.2, ⟨hk.1.1.1.1.1.1.1.1.1.2, ⟨hk.1.1.1.1.1.1.1.1.2, ⟨hk.1.1.1.1.1.1.1.2, ⟨hk.1.1.1.1.1.1.1.1.1.1.1.1.1.1, ⟨hk.1.1.1.1.1.1.1.1.1.1.2, ⟨hk.1.1.1.1.1.1.2, hk.1.1.1.1.2⟩⟩⟩⟩⟩⟩⟩⟩)⟩, ⟨by (with_reducible repeat (first | apply Kd.R_alloc | apply Kd.R_drewN | apply Kd.R_drew)); exact Kd.R_mono HO509.out (fun _ hk => hk.1.1.2)⟩, ⟨by (with_reducible repeat (first | apply Kd.S_alloc | apply Kd.S_drewN | apply Kd.S_drew)); exact Kd.S_mono HO511.out (fun _ hk => ⟨hk.1.1.1.1.1.1.1.1.1.1.1.2, ⟨hk.1.1.1.1.1.1.1.1.1.1.2, ⟨hk.1.1.1.1.1.1.1.1.1.2, ⟨hk.1.1.1.1.1.1.1.1.1.1.1.1, ⟨hk.1.1.1.1.1.1.1.2, ⟨hk.1.1.1.1.1.1.2, hk.1.1.1.1.2⟩⟩⟩⟩⟩⟩)⟩, ⟨by (with_reducible repeat (first | apply Kd.S_alloc | apply Kd.S_drewN | apply Kd.S_drew)); exact Kd.S_mono HO515.out (fun _ hk => ⟨hk.1.1.1.1.1.1.1.1.1.1.1.2, ⟨hk.1.1.1.1.1.1.1.1.1.1.2, ⟨hk.1.1.1.1.1.1.1.1.1.2, ⟨hk.1.1.1.1.1.1.1.2, ⟨hk.1.1.1.1.1.1.2, ⟨hk.1.1.1.1.1.1.1.1.1.1.1.1, hk.1.1.1.1.2⟩⟩⟩⟩⟩⟩)⟩, ⟨xb HB.out⟩⟩
       ·rw [if_neg c35] at H
        have c35b0 : (t534 != t535) = false := by simpa using c35
        (try (have c35b1 : decide (t534 = t535) = true := by simpa using c35))
        (try (have c35b2 : (t534 == t535) = true := by simpa using c35))
        clear c35
        obtain ⟨t536, A43, H⟩ := xI H
        obtain ⟨t537, A44, H⟩ := xI H
        by_cases c45 : (t536 != t537) = true
        ·rw [if_pos c45] at H
         have c45b0 : (t536 != t537) = true := c45
         (try (have c45b1 : decide (t536 = t537) = false := by simpa using c45))
         (try (have c45b2 : (t536 == t537) = false := by simpa using c45))
         (try (have c45b3 : ¬ (t536 = t537) := by simpa using c45))
         clear c45
         have H' := ax H
         clear H
         obtain ⟨Ao46, co46, eo46⟩ := Kd.S_slice HO501.out
         subst eo46
         obtain ⟨Ao47, co47, eo47⟩ := Kd.S_slice HO505.out
         subst eo47
         go_wp2_with (first | (go_at_call 13; (with_reducible refine (laws_sameLists.calls k _ _ t498 _ _ t502 true _ ?side1 ?side2 ?side3 ?side4 A26.out).mono ?_); (case side1 => exact xc (Kd.S_reads' HO501.out).2.2); (case side2 => exact (Kd.S_reads' HO501.out).2.1); (case side3 => exact xc (Kd.S_reads' HO505.out).2.2); (case side4 => exact (Kd.S_reads' HO505.out).2.1); rintro e w' ⟨rfl, ⟨nd, rfl⟩⟩; obtain ⟨Ao48, co48, eo48⟩ := Kd.S_slice HO515.out; subst eo48; obtain ⟨Ao49, co49, eo49⟩ := Kd.S_slice HO519.out; subst eo49) | (go_at_call 13; (with_reducible refine (laws_sameLists.calls k _ _ t512 _ _ t516 true _ ?side1 ?side2 ?side3 ?side4 A31.out).mono ?_); (case side1 => exact xc (Kd.S_reads' HO515.out).2.2); (case side2 => exact (Kd.S_reads' HO515.out).2.1); (case side3 => exact xc (Kd.S_reads' HO519.out).2.2); (case side4 => exact (Kd.S_reads' HO519.out).2.1); rintro e w' ⟨rfl, ⟨nd, rfl⟩⟩; obtain ⟨Ao50, co50, eo50⟩ := Kd.R_slice HO523.out; subst eo50; obtain ⟨Ao51, co51, eo51⟩ := Kd.S_slice HO525.out; subst eo51) | (go_at_call 14; (with_reducible refine (impl_IsReverse.calls k _ _ t520 _ _ t521 t534 _ ?side1 ?side2 ?side3 ?side4 A33.out).mono ?_); (case side1 => exact xc (Kd.R_reads' HO523.out).2.2); (case side2 => exact (Kd.R_reads' HO523.out).2.1); (case side3 => exact xc (Kd.S_reads' HO525.out).2.2); (case side4 => exact (Kd.S_reads' HO525.out).2.1); rintro e w' ⟨rfl, ⟨nd, rfl⟩⟩) | (go_at_call 15; (with_reducible refine (spec_IsReverse.calls k _ _ t520 _ _ t521 t535 _ ?side1 ?side2 ?side3 ?side4 A34.out).mono ?_); (case side1 => exact xc (Kd.R_reads' HO523.out).2.2); (case side2 => exact (Kd.R_reads' HO523.out).2.1); (case side3 => exact xc (Kd.S_reads' HO525.out).2.2); (case side4 => exact (Kd.S_reads' HO525.out).2.1); rintro e w52 ⟨rfl, hb⟩; replace HO495 := yR HO495 hb; replace HO497 := ax (Kd.S_below (xS HO497.out) hb); replace HO501 := ax (Kd.S_below (xS HO501.out) hb); replace HO505 := ax (Kd.S_below (xS HO505.out) hb); replace HO509 := yR HO509 hb; replace HO511 := ax (Kd.S_below (xS HO511.out) hb); replace HO515 := ax (Kd.S_below (xS HO515.out) hb); replace HO519 := ax (Kd.S_below (xS HO519.out) hb); replace HO523 := yR HO523 hb; replace HO525 := ax (Kd.S_below (xS HO525.out) hb); replace HO529 := yR HO529 hb; replace HO531 := ax (Kd.S_below (xS HO531.out) hb); replace HB := yB HB hb; (try clear hb)) | (go_at_call 16; (with_reducible refine (impl_IsFilling.calls k _ _ t520 _ _ t521 t536 _ ?side1 ?side2 ?side3 ?side4 A43.out).mono ?_); (case side1 => exact xc (Kd.R_reads' HO523.out).2.2); (case side2 => exact (Kd.R_reads' HO523.out).2.1); (case side3 => exact xc (Kd.S_reads' HO525.out).2.2); (case side4 => exact (Kd.S_reads' HO525.out).2.1); rintro e w' ⟨rfl, ⟨nd, rfl⟩⟩) | (go_at_call 17; (with_reducible refine (spec_IsFilling.calls k _ _ t520 _ _ t521 t537 _ ?side1 ?side2 ?side3 ?side4 A44.out).mono ?_); (case side1 => exact xc (Kd.R_reads' HO523.out).2.2); (case side2 => exact (Kd.R_reads' HO523.out).2.1); (case side3 => exact xc (Kd.S_reads' HO525.out).2.2); (case side4 => exact (Kd.S_reads' HO525.out).2.1); rintro e w53 ⟨rfl, hb⟩; replace HO495 := yR HO495 hb; replace HO497 := ax (Kd.S_below (xS HO497.out) hb); replace HO501 := ax (Kd.S_below (xS HO501.out) hb); replace HO505 := ax (Kd.S_below (xS HO505.out) hb); replace HO509 := yR HO509 hb; replace HO511 := ax (Kd.S_below (xS HO511.out) hb); replace HO515 := ax (Kd.S_below (xS HO515.out) hb); replace HO519 := ax (Kd.S_below (xS HO519.out) hb); replace HO523 := yR HO523 hb; replace HO525 := ax (Kd.S_below (xS HO525.out) hb); replace HO529 := yR HO529 hb; replace HO531 := ax (Kd.S_below (xS HO531.out) hb); replace HB := yB HB hb; (try clear hb)))
         go_meet
         case rel => exact ⟨_, (true), xr, H', ⟨by first | omega | exact Nat.le_refl _⟩, ⟨by (with_reducible repeat (first | apply Kd.R_alloc | apply Kd.R_drewN | apply Kd.R_drew)); exact Kd.R_mono HO495.out (fun _ hk => hk.1.1.2)⟩, ⟨by (with_reducible repeat (first | apply Kd.S_alloc | apply Kd.S_drewN | apply Kd.S_drew)); exact Kd.S_mono HO497.out (fun _ hk => ⟨hk.1.1.1.1.1.1.1.1.1.1.1.1.1.1, ⟨hk.1.1.1.1.1.1.1.1.1.1.1.1.1.2, ⟨hk.1.1.1.1.1.1.1.1.1.2, ⟨hk.1.1.1.1.1.1.1.1.2, ⟨hk.1.1.1.1.1.1.1.2, ⟨hk.1.1.1.1.1.1.1.1.1.1.1.1.2, ⟨hk.1.1.1.1.1.1.1.1.1.1.2, ⟨hk.1.1.1.1.1.1.2, hk.1.1.1.1.2⟩⟩⟩⟩⟩⟩⟩⟩)⟩, ⟨by (with_reducible repeat (first | apply Kd.S_alloc | apply Kd.S_drewN | apply Kd.S_drew)); exact Kd.S_mono HO501.out (fun _ hk => ⟨hk.1.1.1.1.1.1.1.1.1.1.1.1.1.2, ⟨hk.1.1.1.1.1.1.1.1.1.1.1.1.2, ⟨hk.1.1.1.1.1.1.1.1.1.2, ⟨hk.1.1.1.1.1.1.1.1.2, ⟨hk.1.1.1.1.1.1.1.2, ⟨hk.1.1.1.1.1.1.1.1.1.1.1.1.1.1, ⟨hk.1.1.1.1.1.1.1.1.1.1.2, ⟨hk.1.1.1.1.1.1.2, hk.1.1.1.1.2⟩⟩⟩⟩⟩⟩⟩⟩)⟩, ⟨by (with_reducible repeat (first | apply Kd.R_alloc | apply Kd.R_drewN | apply Kd.R_drew)); exact Kd.R_mono HO509.out (fun _ hk => hk.1.1.2)⟩, ⟨by (with_reducible repeat (first | apply Kd.S_alloc | apply Kd.S_drewN | apply Kd.S_drew)); exact Kd.S_mono HO511.out (fun _ hk => ⟨hk.1.1.1.1.1.1.1.1.1.1.1.2, ⟨hk.1.1.1.1.1.1.1.1.1.1.2, ⟨hk.1.1.1.1.1.1.1.1.1.2, ⟨hk.1.1.1.1.1.1.1.1.1.1.1.1, ⟨hk.1.1.1.1.1.1.1.2, ⟨hk.1.1.1.1.1.1.2, hk.1.1.1.1.2⟩⟩⟩⟩⟩⟩)⟩, ⟨by (with_reducible repeat (first | apply Kd.S_alloc | apply Kd.S_drewN | apply Kd.S_drew)); exact Kd.S_mono HO515.out (fun _ hk => ⟨hk.1.1.1.1.1.1.1.1.1.1.1.2, ⟨hk.1.1.1.1.1.1.1.1.1.1.2, ⟨hk.1.1.1.1.1.1.1.1.1.2, ⟨hk.1.1.1.1.1.1.1.2, ⟨hk.1.1.1.1.1.1.2, ⟨hk.1.1.1.1.1.1.1.1.1.1.1.1, hk.1.1.1.1.2⟩⟩⟩⟩⟩⟩)⟩, ⟨xb HB.out⟩⟩
        ·rw [if_neg c45] at H
         have c45b0 : (t536 != t537) = false := by simpa using c45
         (try (have c45b1 : decide (t536 = t537) = true := by simpa using c45))
         (try (have c45b2 : (t536 == t537) = true := by simpa using c45))
         clear c45
         obtain ⟨t538, A54, H⟩ := xI H
         obtain ⟨t539, A55, H⟩ := xI H
         have H' := ax H
         clear H
         obtain ⟨Ao56, co56, eo56⟩ := Kd.S_slice HO501.out
         subst eo56
         obtain ⟨Ao57, co57, eo57⟩ := Kd.S_slice HO505.out
         subst eo57
         go_wp2_with (first | (go_at_call 13; (with_reducible refine (laws_sameLists.calls k _ _ t498 _ _ t502 true _ ?side1 ?side2 ?side3 ?side4 A26.out).mono ?_); (case side1 => exact xc (Kd.S_reads' HO501.out).2.2); (case side2 => exact (Kd.S_reads' HO501.out).2.1); (case side3 => exact xc (Kd.S_reads' HO505.out).2.2); (case side4 => exact (Kd.S_reads' HO505.out).2.1); rintro e w' ⟨rfl, ⟨nd, rfl⟩⟩; obtain ⟨Ao58, co58, eo58⟩ := Kd.S_slice HO515.out; subst eo58; obtain ⟨Ao59, co59, eo59⟩ := Kd.S_slice HO519.out; subst eo59) | (go_at_call 13; (with_reducible refine (laws_sameLists.calls k _ _ t512 _ _ t516 true _ ?side1 ?side2 ?side3 ?side4 A31.out).mono ?_); (case side1 => exact xc (Kd.S_reads' HO515.out).2.2); (case side2 => exact (Kd.S_reads' HO515.out).2.1); (case side3 => exact xc (Kd.S_reads' HO519.out).2.2); (case side4 => exact (Kd.S_reads' HO519.out).2.1); rintro e w' ⟨rfl, ⟨nd, rfl⟩⟩; obtain ⟨Ao60, co60, eo60⟩ := Kd.R_slice HO523.out; subst eo60; obtain ⟨Ao61, co61, eo61⟩ := Kd.S_slice HO525.out; subst eo61) | (go_at_call 14; (with_reducible refine (impl_IsReverse.calls k _ _ t520 _ _ t521 t534 _ ?side1 ?side2 ?side3 ?side4 A33.out).mono ?_); (case side1 => exact xc (Kd.R_reads' HO523.out).2.2); (case side2 => exact (Kd.R_reads' HO523.out).2.1); (case side3 => exact xc (Kd.S_reads' HO525.out).2.2); (case side4 => exact (Kd.S_reads' HO525.out).2.1); rintro e w' ⟨rfl, ⟨nd, rfl⟩⟩) | (go_at_call 15; (with_reducible refine (spec_IsReverse.calls k _ _ t520 _ _ t521 t535 _ ?side1 ?side2 ?side3 ?side4 A34.out).mono ?_); (case side1 => exact xc (Kd.R_reads' HO523.out).2.2); (case side2 => exact (Kd.R_reads' HO523.out).2.1); (case side3 => exact xc (Kd.S_reads' HO525.out).2.2); (case side4 => exact (Kd.S_reads' HO525.out).2.1); rintro e w62 ⟨rfl, hb⟩; replace HO495 := yR HO495 hb; replace HO497 := ax (Kd.S_below (xS HO497.out) hb); replace HO501 := ax (Kd.S_below (xS HO501.out) hb); replace HO505 := ax (Kd.S_below (xS HO505.out) hb); replace HO509 := yR HO509 hb; replace HO511 := ax (Kd.S_below (xS HO511.out) hb); replace HO515 := ax (Kd.S_below (xS HO515.out) hb); replace HO519 := ax (Kd.S_below (xS HO519.out) hb); replace HO523 := yR HO523 hb; replace HO525 := ax (Kd.S_below (xS HO525.out) hb); replace HO529 := yR HO529 hb; replace HO531 := ax (Kd.S_below (xS HO531.out) hb); replace HB := yB HB hb; (try clear hb)) | (go_at_call 16; (with_reducible refine (impl_IsFilling.calls k _ _ t520 _ _ t521 t536 _ ?side1 ?side2 ?side3 ?side4 A43.out).mono ?_); (case side1 => exact xc (Kd.R_reads' HO523.out).2.2); (case side2 => exact (Kd.R_reads' HO523.out).2.1); (case side3 => exact xc (Kd.S_reads' HO525.out).2.2); (case side4 => exact (Kd.S_reads' HO525.out).2.1); rintro e w' ⟨rfl, ⟨nd, rfl⟩⟩) | (go_at_call 17; (with_reducible refine (spec_IsFilling.calls k _ _ t520 _ _ t521 t537 _ ?side1 ?side2 ?side3 ?side4 A44.out).mono ?_); (case side1 => exact xc (Kd.R_reads' HO523.out).2.2); (case side2 => exact (Kd.R_reads' HO523.out).2.1); (case side3 => exact xc (Kd.S_reads' HO525.out).2.2); (case side4 => exact (Kd.S_reads' HO525.out).2.1); rintro e w63 ⟨rfl, hb⟩; replace HO495 := yR HO495 hb; replace HO497 := ax (Kd.S_below (xS HO497.out) hb); replace HO501 := ax (Kd.S_below (xS HO501.out) hb); replace HO505 := ax (Kd.S_below (xS HO505.out) hb); replace HO509 := yR HO509 hb; replace HO511 := ax (Kd.S_below (xS HO511.out) hb); replace HO515 := ax (Kd.S_below (xS HO515.out) hb); replace HO519 := ax (Kd.S_below (xS HO519.out) hb); replace HO523 := yR HO523 hb; replace HO525 := ax (Kd.S_below (xS HO525.out) hb); replace HO529 := yR HO529 hb; replace HO531 := ax (Kd.S_below (xS HO531.out) hb); replace HB := yB HB hb; (try clear hb); obtain ⟨Ao64, co64, eo64⟩ := Kd.R_slice HO529.out; subst eo64; obtain ⟨Ao65, co65, eo65⟩ := Kd.S_slice HO531.out; subst eo65) | (go_at_call 18; (with_reducible refine (impl_HookWeight.calls k _ _ t526 _ _ t527 t538 _ ?side1 ?side2 ?side3 ?side4 A54.out).mono ?_); (case side1 => exact xc (Kd.R_reads' HO529.out).2.2); (case side2 => exact (Kd.R_reads' HO529.out).2.1); (case side3 => exact xc (Kd.S_reads' HO531.out).2.2); (case side4 => exact (Kd.S_reads' HO531.out).2.1); rintro e w' ⟨rfl, ⟨nd, rfl⟩⟩) | (go_at_call 19; (with_reducible refine (spec_HookWeight.calls k _ _ t526 _ _ t527 t539 _ ?side1 ?side2 ?side3 ?side4 A55.out).mono ?_); (case side1 => exact xc (Kd.R_reads' HO529.out).2.2); (case side2 => exact (Kd.R_reads' HO529.out).2.1); (case side3 => exact xc (Kd.S_reads' HO531.out).2.2); (case side4 => exact (Kd.S_reads' HO531.out).2.1); rintro e w66 ⟨rfl, hb⟩; replace HO495 := yR HO495 hb; replace HO497 := ax (Kd.S_below (xS HO497.out) hb); replace HO501 := ax (Kd.S_below (xS HO501.out) hb); replace HO505 := ax (Kd.S_below (xS HO505.out) hb); replace HO509 := yR HO509 hb; replace HO511 := ax (Kd.S_below (xS HO511.out) hb); replace HO515 := ax (Kd.S_below (xS HO515.out) hb); replace HO519 := ax (Kd.S_below (xS HO519.out) hb); replace HO523 := yR HO523 hb; replace HO525 := ax (Kd.S_below (xS HO525.out) hb); replace HO529 := yR HO529 hb; replace HO531 := ax (Kd.S_below (xS HO531.out) hb); replace HB := yB HB hb; (try clear hb)))
         go_meet
         case rel => exact ⟨_, ((t538 != t539)), xr, H', ⟨by first | omega | exact Nat.le_refl _⟩, ⟨by (with_reducible repeat (first | apply Kd.R_alloc | apply Kd.R_drewN | apply Kd.R_drew)); exact Kd.R_mono HO495.out (fun _ hk => hk.1.1.2)⟩, ⟨by (with_reducible repeat (first | apply Kd.S_alloc | apply Kd.S_drewN | apply Kd.S_drew)); exact Kd.S_mono HO497.out (fun _ hk => ⟨hk.1.1.1.1.1.1.1.1.1.1.1.1.1.1, ⟨hk.1.1.1.1.1.1.1.1.1.1.1.1.1.2, ⟨hk.1.1.1.1.1.1.1.1.1.2, ⟨hk.1.1.1.1.1.1.1.1.2, ⟨hk.1.1.1.1.1.1.1.2, ⟨hk.1.1.1.1.1.1.1.1.1.1.1.1.2, ⟨hk.1.1.1.1.1.1.1.1.1.1.2, ⟨hk.1.1.1.1.1.1.2, hk.1.1.1.1.2⟩⟩⟩⟩⟩⟩⟩⟩)⟩, ⟨by (with_reducible repeat (first | apply Kd.S_alloc | apply Kd.S_drewN | apply Kd.S_drew)); exact Kd.S_mono HO501.out (fun _ hk => ⟨hk.1.1.1.1.1.1.1.1.1.1.1.1.1.2, ⟨hk.1.1.1.1.1.1.1.1.1.1.1.1.2, ⟨hk.1.1.1.1.1.1.1.1.1.2, ⟨hk.1.1.1.1.1.1.1.1.2, ⟨hk.1.1.1.1.1.1.1.2, ⟨hk.1.1.1.1.1.1.1.1.1.1.1.1.1.1, ⟨hk.1.1.1.1.1.1.1.1.1.1.2, ⟨hk.1.1.1.1.1.1.2, hk.1.1.1.1.2⟩⟩⟩⟩⟩⟩⟩⟩)⟩, ⟨by (with_reducible repeat (first | apply Kd.R_alloc | apply Kd.R_drewN | apply Kd.R_drew)); exact Kd.R_mono HO509.out (fun _ hk => hk.1.1.2)⟩, ⟨by (with_reducible repeat (first | apply Kd.S_alloc | apply Kd.S_drewN | apply Kd.S_drew)); exact Kd.S_mono HO511.out (fun _ hk => ⟨hk.1.1.1.1.1.1.1.1.1.1.1.2, ⟨hk.1.1.1.1.1.1.1.1.1.1.2, ⟨hk.1.1.1.1.1.1.1.1.1.2, ⟨hk.1.1.1.1.1.1.1.1.1.1.1.1, ⟨hk.1.1.1.1.1.1.1.2, ⟨hk.1.1.1.1.1.1.2, hk.1.1.1.1.2⟩⟩⟩⟩⟩⟩)⟩, ⟨by (with_reducible repeat (first | apply Kd.S_alloc | apply Kd.S_drewN | apply Kd.S_drew)); exact Kd.S_mono HO515.out (fun _ hk => ⟨hk.1.1.1.1.1.1.1.1.1.1.1.2, ⟨hk.1.1.1.1.1.1.1.1.1.1.2, ⟨hk.1.1.1.1.1.1.1.1.1.2, ⟨hk.1.1.1.1.1.1.1.2, ⟨hk.1.1.1.1.1.1.2, ⟨hk.1.1.1.1.1.1.1.1.1.1.1.1, hk.1.1.1.1.2⟩⟩⟩⟩⟩⟩)⟩, ⟨xb HB.out⟩⟩
      ·replace c32 := Bool.eq_false_iff.mpr c32
       subst c32
       rw [if_neg (show ¬ (false = true) by decide)] at H
       have H' := ax H
       clear H
       obtain ⟨Ao67, co67, eo67⟩ := Kd.S_slice HO501.out
       subst eo67
       obtain ⟨Ao68, co68, eo68⟩ := Kd.S_slice HO505.out
       subst eo68
       go_wp2_with (first | (go_at_call 13; (with_reducible refine (laws_sameLists.calls k _ _ t498 _ _ t502 true _ ?side1 ?side2 ?side3 ?side4 A26.out).mono ?_); (case side1 => exact xc (Kd.S_reads' HO501.out).2.2); (case side2 => exact (Kd.S_reads' HO501.out).2.1); (case side3 => exact xc (Kd.S_reads' HO505.out).2.2); (case side4 => exact (Kd.S_reads' HO505.out).2.1); rintro e w' ⟨rfl, ⟨nd, rfl⟩⟩; obtain ⟨Ao69, co69, eo69⟩ := Kd.S_slice HO515.out; subst eo69; obtain ⟨Ao70, co70, eo70⟩ := Kd.S_slice HO519.out; subst eo70) | (go_at_call 13; (with_reducible refine (laws_sameLists.calls k _ _ t512 _ _ t516 false _ ?side1 ?side2 ?side3 ?side4 A31.out).mono ?_); (case side1 => exact xc (Kd.S_reads' HO515.out).2.2); (case side2 => exact (Kd.S_reads' HO515.out).2.1); (case side3 => exact xc (Kd.S_reads' HO519.out).2.2); (case side4 => exact (Kd.S_reads' HO519.out).2.1); rintro e w' ⟨rfl, ⟨nd, rfl⟩⟩))
       go_meet
       case rel => exact ⟨_, (true), xr, H', ⟨by first | omega | exact Nat.le_refl _⟩, ⟨by (with_reducible repeat (first | apply Kd.R_alloc | apply Kd.R_drewN | apply Kd.R_drew)); exact Kd.R_mono HO495.out (fun _ hk => hk.1.1.2)⟩, ⟨by (with_reducible repeat (first | apply Kd.S_alloc | apply Kd.S_drewN | apply Kd.S_drew)); exact Kd.S_mono HO497.out (fun _ hk => ⟨hk.1.1.1.1.1.1.1.1.1.1.1.1.1.1, ⟨hk.1.1.1.1.1.1.1.1.1.1.1.1.1.2, ⟨hk.1.1.1.1.1.1.1.1.1.2, ⟨hk.1.1.1.1.1.1.1.1.2, ⟨hk.1.1.1.1.1.1.1.2, ⟨hk.1.1.1.1.1.1.1.1.1.1.1.1.2, ⟨hk.1.1.1.1.1.1.1.1.1.1.2, ⟨hk.1.1.1.1.1.1.2, hk.1.1.1.1.2⟩⟩⟩⟩⟩⟩⟩⟩)⟩, ⟨by (with_reducible repeat (first | apply Kd.S_alloc | apply Kd.S_drewN | apply Kd.S_drew)); exact Kd.S_mono HO501.out (fun _ hk => ⟨hk.1.1.1.1.1.1.1.1.1.1.1.1.1.2, ⟨hk.1.1.1.1.1.1.1.1.1.1.1.1.2, ⟨hk.1.1.1.1.1.1.1.1.1.2, ⟨hk.1.1.1.1.1.1.1.1.2, ⟨hk.1.1.1.1.1.1.1.2, ⟨hk.1.1.1.1.1.1.1.1.1.1.1.1.1.1, ⟨hk.1.1.1.1.1.1.1.1.1.1.2, ⟨hk.1.1.1.1.1.1.2, hk.1.1.1.1.2⟩⟩⟩⟩⟩⟩⟩⟩)⟩, ⟨by (with_reducible repeat (first | apply Kd.R_alloc | apply Kd.R_drewN | apply Kd.R_drew)); exact Kd.R_mono HO509.out (fun _ hk => hk.1.1.2)⟩, ⟨by (with_reducible repeat (first | apply Kd.S_alloc | apply Kd.S_drewN | apply Kd.S_drew)); exact Kd.S_mono HO511.out (fun _ hk => ⟨hk.1.1.1.1.1.1.1.1.1.1.1.2, ⟨hk.1.1.1.1.1.1.1.1.1.1.2, ⟨hk.1.1.1.1.1.1.1.1.1.2, ⟨hk.1.1.1.1.1.1.1.1.1.1.1.1, ⟨hk.1.1.1.1.1.1.1.2, ⟨hk.1.1.1.1.1.1.2, hk.1.1.1.1.2⟩⟩⟩⟩⟩⟩)⟩, ⟨by (with_reducible repeat (first | apply Kd.S_alloc | apply Kd.S_drewN | apply Kd.S_drew)); exact Kd.S_mono HO515.out (fun _ hk => ⟨hk.1.1.1.1.1.1.1.1.1.1.1.2, ⟨hk.1.1.1.1.1.1.1.1.1.1.2, ⟨hk.1.1.1.1.1.1.1.1.1.2, ⟨hk.1.1.1.1.1.1.1.2, ⟨hk.1.1.1.1.1.1.2, ⟨hk.1.1.1.1.1.1.1.1.1.1.1.1, hk.1.1.1.1.2⟩⟩⟩⟩⟩⟩)⟩, ⟨xb HB.out⟩⟩
    ·replace c27 := Bool.eq_false_iff.mpr c27
     subst c27
     rw [if_neg (show ¬ (false = true) by decide)] at H
     have H' := ax H
     clear H
     obtain ⟨Ao71, co71, eo71⟩ := Kd.S_slice HO501.out
     subst eo71
     obtain ⟨Ao72, co72, eo72⟩ := Kd.S_slice HO505.out
     subst eo72
     go_wp2_with (first | (go_at_call 13; (with_reducible refine (laws_sameLists.calls k _ _ t498 _ _ t502 false _ ?side1 ?side2 ?side3 ?side4 A26.out).mono ?_); (case side1 => exact xc (Kd.S_reads' HO501.out).2.2); (case side2 => exact (Kd.S_reads' HO501.out).2.1); (case side3 => exact xc (Kd.S_reads' HO505.out).2.2); (case side4 => exact (Kd.S_reads' HO505.out).2.1); rintro e w' ⟨rfl, ⟨nd, rfl⟩⟩))
     go_meet
     case rel => exact ⟨_, (true), xr, H', ⟨by first | omega | exact Nat.le_refl _⟩, ⟨by (with_reducible repeat (first | apply Kd.R_alloc | apply Kd.R_drewN | apply Kd.R_drew)); exact Kd.R_mono HO495.out (fun _ hk => hk.1.1.2)⟩, ⟨by (with_reducible repeat (first | apply Kd.S_alloc | apply Kd.S_drewN | apply Kd.S_drew)); exact Kd.S_mono HO497.out (fun _ hk => ⟨hk.1.1.1.1.1.1.1.1.1.1.1.1.1.1, ⟨hk.1.1.1.1.1.1.1.1.1.1.1.1.1.2, ⟨hk.1.1.1.1.1.1.1.1.1.2, ⟨hk.1.1.1.1.1.1.1.1.2, ⟨hk.1.1.1.1.1.1.1.2, ⟨hk.1.1.1.1.1.1.1.1.1.1.1.1.2, ⟨hk.1.1.1.1.1.1.1.1.1.1.2, ⟨hk.1.1.1.1.1.1.2, hk.1.1.1.1.2⟩⟩⟩⟩⟩⟩⟩⟩)⟩, ⟨by (with_reducible repeat (first | apply Kd.S_alloc | apply Kd.S_drewN | apply Kd.S_drew)); exact Kd.S_mono HO501.out (fun _ hk => ⟨hk.1.1.1.1.1.1.1.1.1.1.1.1.1.2, ⟨hk.1.1.1.1.1.1.1.1.1.1.1.1.2, ⟨hk.1.1.1.1.1.1.1.1.1.2, ⟨hk.1.1.1.1.1.1.1.1.2, ⟨hk.1.1.1.1.1.1.1.2, ⟨hk.1.1.1.1.1.1.1.1.1.1.1.1.1.1, ⟨hk.1.1.1.1.1.1.1.1.1.1.2, ⟨hk.1.1.1.1.1.1.2, hk.1.1.1.1.2⟩⟩⟩⟩⟩⟩⟩⟩)⟩, ⟨by (with_reducible repeat (first | apply Kd.R_alloc | apply Kd.R_drewN | apply Kd.R_drew)); exact Kd.R_mono HO509.out (fun _ hk => hk.1.1.2)⟩, ⟨by (with_reducible repeat (first | apply Kd.S_alloc | apply Kd.S_drewN | apply Kd.S_drew)); exact Kd.S_mono HO511.out (fun _ hk => ⟨hk.1.1.1.1.1.1.1.1.1.1.1.2, ⟨hk.1.1.1.1.1.1.1.1.1.1.2, ⟨hk.1.1.1.1.1.1.1.1.1.2, ⟨hk.1.1.1.1.1.1.1.1.1.1.1.1, ⟨hk.1.1.1.1.1.1.1.2, ⟨hk.1.1.1.1.1.1.2, hk.1.1.1.1.2⟩⟩⟩⟩⟩⟩)⟩, ⟨by (with_reducible repeat (first | apply Kd.S_alloc | apply Kd.S_drewN | apply Kd.S_drew)); exact Kd.S_mono HO515.out (fun _ hk => ⟨hk.1.1.1.1.1.1.1.1.1.1.1.2, ⟨hk.1.1.1.1.1.1.1.1.1.1.2, ⟨hk.1.1.1.1.1.1.1.1.1.2, ⟨hk.1.1.1.1.1.1.1.2, ⟨hk.1.1.1.1.1.1.2, ⟨hk.1.1.1.1.1.1.1.1.1.1.1.1, hk.1.1.1.1.2⟩⟩⟩⟩⟩⟩)⟩, ⟨xb HB.out⟩⟩
  case rest =>
   clear HC12
   (try clear c3); (try clear c25); (try clear c25b0); (try clear c25b1); (try clear c25b2); (try clear c27); (try clear c28); (try clear c28b0); (try clear c28b1); (try clear c28b2); (try clear c32); (try clear c35); (try clear c35b0); (try clear c35b1); (try clear c35b2); (try clear c45); (try clear c45b0); (try clear c45b1); (try clear c45b2)
   obtain ⟨kq, x117_11, rfl, HA, HJ11, HO_3, HO_4, HO_5, HO_9, HO_10, HO_11, HB⟩ := hcut
   cases kq with
   | zero => exact absurd HA.out (by simp [laws_FnFillings.j0])
   | succ kj11 =>
    have H := HA.out
    clear HA
    simp only [laws_FnFillings.j0] at H
    by_cases c73 : x117_11 = true
    ·subst c73
     rw [if_pos rfl] at H
     obtain rfl := Option.some.inj H
     go_wp2
     go_ret
     exact ⟨xe, xb HB.out⟩
    ·replace c73 := Bool.eq_false_iff.mpr c73
     subst c73
     rw [if_neg (show ¬ (false = true) by decide)] at H
     have HC74 := ax H
     clear H
     go_upto_if 118 with (fail)
     go_cut [] (fun wc => ∃ (kq : Nat), Aside0 (laws_FnFillings.j2 kq t506 t507 t512 t513 = some r) ∧ Aside0 (kq ≤ kj11) ∧ Aside0 (Kd.R (Kd.int .i64) 3 wc w.heap.size (fun _ => True) (.slice Ao19 t506.length co19) t506) ∧ Aside0 (Kd.S (Kd.slice 3 (Kd.int .i64)) 24 wc w.heap.size (fun k_ => some k_ ≠ ((.slice Ao19 t506.length co19) : Value).ownBlock ∧ some k_ ≠ (v514 : Value).ownBlock ∧ k_ ≠ dmO N558_ k_ ∧ k_ ≠ dmO N560_ k_) (.slice Ao20 t507.length co20) t507) ∧ Aside0 (Kd.S (Kd.slice 3 (Kd.int .i64)) 24 wc w.heap.size (fun k_ => some k_ ≠ ((.slice Ao19 t506.length co19) : Value).ownBlock ∧ some k_ ≠ ((.slice Ao20 t507.length co20) : Value).ownBlock ∧ k_ ≠ dmI N558_ k_ ∧ k_ ≠ dmO N560_ k_) v514 t512) ∧ Aside0 (Below w.heap.size w wc))
     case first =>
      have H := HC74.out
      clear HC74
      by_cases c75 : t499 = true
      ·subst c75
       rw [if_pos rfl] at H
       obtain ⟨⟨t540, t541⟩, A76, H⟩ := xI H
       dsimp only at H
       have H' := ax H
       clear H
       obtain ⟨Ao77, co77, eo77⟩ := Kd.S_slice HO_5.out
       subst eo77
       go_wp2_with (first | ((with_reducible refine gate_callee (f := 9) rfl ?_); refine goesL_ (some 122) rfl rfl Try.func9 (by kernel_rfl) rfl #[.slice Ao14 t492.length co14, .slice Ao77 t498.length co77] rfl xm ?_; (with_reducible refine (impl_ReverseOfHooks.calls kj11 _ _ t492 _ _ t498 t540 t541 _ ?side1 ?side2 ?side3 ?side4 A76.out).mono ?_); (case side1 => exact xc (Kd.R_reads' HO_3.out).2.2); (case side2 => exact (Kd.R_reads' HO_3.out).2.1); (case side3 => exact xc (Kd.S_reads' HO_5.out).2.2); (case side4 => exact (Kd.S_reads' HO_5.out).2.1); rintro e w78 ⟨v542, rfl, ho0, hb⟩; refine ⟨_, rfl, ?_⟩; replace ho0 := Kd.deep0 ho0; obtain ⟨N562_, ho0, hN562_⟩ := ho0; have HO543 := ax (Kd.S_lower (Kd.S_new' (Kd.S_new' (Kd.S_new' (Kd.S_new' (Kd.S_new' (Kd.S_new' ho0 (Kd.R_lt (xR HO_3.out))) (Kd.S_lt (xS HO_4.out))) (Kd.S_lt (xS HO_5.out))) (Kd.R_lt (xR HO_9.out))) (Kd.S_lt (xS HO_10.out))) (Kd.S_lt (xS HO_11.out))) (below_size (xb HB.out))); replace HO_3 := yR HO_3 hb; replace HO_4 := ax (Kd.S_elderD (xS HO_4.out) hN562_ (Kd.S_base ho0) hb); replace HO_5 := ax (Kd.S_elderD (xS HO_5.out) hN562_ (Kd.S_base ho0) hb); replace HO_9 := yR HO_9 hb; replace HO_10 := ax (Kd.S_elderD (xS HO_10.out) hN562_ (Kd.S_base ho0) hb); replace HO_11 := ax (Kd.S_elderD (xS HO_11.out) hN562_ (Kd.S_base ho0) hb); replace HB := yB HB hb; (try clear hb); (try clear ho0); (try clear hN562_)))
       go_loopg [21, 22] kj11 (fun kq v21 v22 w' => ∃ (x21_2 : Int) (x22_2 : Int), v21 = .int .i64 x21_2 ∧ v22 = .int .i64 x22_2 ∧ Aside0 (laws_FnFillings.l0 kq t492 t493 t498 t506 t507 t512 t513 t540 t541 x21_2 x22_2 = some r) ∧ Aside0 (kq ≤ kj11) ∧ Aside0 (Kd.R (Kd.int .i64) 3 w' w.heap.size (fun k_ => some k_ ≠ ((.slice Ao19 t506.length co19) : Value).ownBlock) (.slice Ao14 t492.length co14) t492) ∧ Aside0 (Kd.S (Kd.slice 3 (Kd.int .i64)) 24 w' w.heap.size (fun k_ => some k_ ≠ ((.slice Ao14 t492.length co14) : Value).ownBlock ∧ some k_ ≠ ((.slice Ao77 t498.length co77) : Value).ownBlock ∧ some k_ ≠ ((.slice Ao19 t506.length co19) : Value).ownBlock ∧ some k_ ≠ ((.slice Ao20 t507.length co20) : Value).ownBlock ∧ some k_ ≠ (v514 : Value).ownBlock ∧ some k_ ≠ (v542 : Value).ownBlock ∧ k_ ≠ dmO N554_ k_ ∧ k_ ≠ dmO N556_ k_ ∧ k_ ≠ dmO N558_ k_ ∧ k_ ≠ dmO N560_ k_ ∧ k_ ≠ dmO N562_ k_) (.slice Ao15 t493.length co15) t493) ∧ Aside0 (Kd.S (Kd.slice 3 (Kd.int .i64)) 24 w' w.heap.size (fun k_ => some k_ ≠ ((.slice Ao14 t492.length co14) : Value).ownBlock ∧ some k_ ≠ ((.slice Ao15 t493.length co15) : Value).ownBlock ∧ some k_ ≠ ((.slice Ao19 t506.length co19) : Value).ownBlock ∧ some k_ ≠ ((.slice Ao20 t507.length co20) : Value).ownBlock ∧ some k_ ≠ (v514 : Value).ownBlock ∧ some k_ ≠ (v542 : Value).ownBlock ∧ k_ ≠ dmI N554_ k_ ∧ k_ ≠ dmO N556_ k_ ∧ k_ ≠ dmO N558_ k_ ∧ k_ ≠ dmO N560_ k_ ∧ k_ ≠ dmO N562_ k_) (.slice Ao77 t498.length co77) t498) ∧ Aside0 (Kd.R (Kd.int .i64) 3 w' w.heap.size (fun k_ => some k_ ≠ ((.slice Ao14 t492.length co14) : Value).ownBlock) (.slice Ao19 t506.length co19) t506) ∧ Aside0 (Kd.S (Kd.slice 3 (Kd.int .i64)) 24 w' w.heap.size (fun k_ => some k_ ≠ ((.slice Ao14 t492.length co14) : Value).ownBlock ∧ some k_ ≠ ((.slice Ao15 t493.length co15) : Value).ownBlock ∧ some k_ ≠ ((.slice Ao77 t498.length co77) : Value).ownBlock ∧ some k_ ≠ ((.slice Ao19 t506.length co19) : Value).ownBlock ∧ some k_ ≠ (v514 : Value).ownBlock ∧ some k_ ≠ (v542 : Value).ownBlock ∧ k_ ≠ dmO N558_ k_ ∧ k_ ≠ dmO N560_ k_ ∧ k_ ≠ dmO N562_ k_) (.slice Ao20 t507.length co20) t507) ∧ Aside0 (Kd.S (Kd.slice 3 (Kd.int .i64)) 24 w' w.heap.size (fun k_ => some k_ ≠ ((.slice Ao14 t492.length co14) : Value).ownBlock ∧ some k_ ≠ ((.slice Ao15 t493.length co15) : Value).ownBlock ∧ some k_ ≠ ((.slice Ao77 t498.length co77) : Value).ownBlock ∧ some k_ ≠ ((.slice Ao19 t506.length co19) : Value).ownBlock ∧ some k_ ≠ ((.slice Ao20 t507.length co20) : Value).ownBlock ∧ some k_ ≠ (v542 : Value).ownBlock ∧ k_ ≠ dmI N558_ k_ ∧ k_ ≠ dmO N560_ k_ ∧ k_ ≠ dmO N562_ k_) v514 t512) ∧ Aside0 (Kd.S (Kd.slice 3 (Kd.int .i64)) 24 w' w.heap.size (fun k_ => some k_ ≠ ((.slice Ao14 t492.length co14) : Value).ownBlock ∧ some k_ ≠ ((.slice Ao15 t493.length co15) : Value).ownBlock ∧ some k_ ≠ ((.slice Ao77 t498.length co77) : Value).ownBlock ∧ some k_ ≠ ((.slice Ao19 t506.length co19) : Value).ownBlock ∧ some k_ ≠ ((.slice Ao20 t507.length co20) : Value).ownBlock ∧ some k_ ≠ (v514 : Value).ownBlock ∧ k_ ≠ dmI N562_ k_) v542 t540) ∧ Aside0 (Below w.heap.size w w'))
       case atStart => exact ⟨(0), (0), xr, xr, H', ⟨Nat.le_refl _⟩, ⟨xR HO_3.out⟩, ⟨by (with_reducible repeat (first | apply Kd.S_alloc | apply Kd.S_drewN | apply Kd.S_drew)); exact Kd.S_mono HO_4.out (fun _ hk => ⟨hk.1.1.1, ⟨hk.1.1.2.1, ⟨hk.1.1.2.2.1, ⟨hk.1.1.2.2.2.1, ⟨hk.1.1.2.2.2.2.1, ⟨hk.1.2, ⟨hk.1.1.2.2.2.2.2.1, ⟨hk.1.1.2.2.2.2.2.2.1, ⟨hk.1.1.2.2.2.2.2.2.2.1, ⟨hk.1.1.2.2.2.2.2.2.2.2, hk.2⟩⟩⟩⟩⟩⟩⟩⟩⟩⟩)⟩, ⟨by (with_reducible repeat (first | apply Kd.S_alloc | apply Kd.S_drewN | apply Kd.S_drew)); exact Kd.S_mono HO_5.out (fun _ hk => ⟨hk.1.1.1, ⟨hk.1.1.2.1, ⟨hk.1.1.2.2.1, ⟨hk.1.1.2.2.2.1, ⟨hk.1.1.2.2.2.2.1, ⟨hk.1.2, ⟨hk.1.1.2.2.2.2.2.1, ⟨hk.1.1.2.2.2.2.2.2.1, ⟨hk.1.1.2.2.2.2.2.2.2.1, ⟨hk.1.1.2.2.2.2.2.2.2.2, hk.2⟩⟩⟩⟩⟩⟩⟩⟩⟩⟩)⟩, ⟨xR HO_9.out⟩, ⟨by (with_reducible repeat (first | apply Kd.S_alloc | apply Kd.S_drewN | apply Kd.S_drew)); exact Kd.S_mono HO_10.out (fun _ hk => ⟨hk.1.1.1, ⟨hk.1.1.2.1, ⟨hk.1.1.2.2.1, ⟨hk.1.1.2.2.2.1, ⟨hk.1.1.2.2.2.2.1, ⟨hk.1.2, ⟨hk.1.1.2.2.2.2.2.1, ⟨hk.1.1.2.2.2.2.2.2, hk.2⟩⟩⟩⟩⟩⟩⟩⟩)⟩, ⟨by (with_reducible repeat (first | apply Kd.S_alloc | apply Kd.S_drewN | apply Kd.S_drew)); exact Kd.S_mono HO_11.out (fun _ hk => ⟨hk.1.1.1, ⟨hk.1.1.2.1, ⟨hk.1.1.2.2.1, ⟨hk.1.1.2.2.2.1, ⟨hk.1.1.2.2.2.2.1, ⟨hk.1.2, ⟨hk.1.1.2.2.2.2.2.1, ⟨hk.1.1.2.2.2.2.2.2, hk.2⟩⟩⟩⟩⟩⟩⟩⟩)⟩, ⟨by (with_reducible repeat (first | apply Kd.S_alloc | apply Kd.S_drewN | apply Kd.S_drew)); exact Kd.S_mono HO543.out (fun _ hk => ⟨hk.1.1.1.1.1.2, ⟨hk.1.1.1.1.2, ⟨hk.1.1.1.2, ⟨hk.1.1.2, ⟨hk.1.2, ⟨hk.2, hk.1.1.1.1.1.1⟩⟩⟩⟩⟩⟩)⟩, ⟨xb HB.out⟩⟩
       case round =>
        clear H'
        (try clear c3); (try clear c25); (try clear c25b0); (try clear c25b1); (try clear c25b2); (try clear c27); (try clear c28); (try clear c28b0); (try clear c28b1); (try clear c28b2); (try clear c32); (try clear c35); (try clear c35b0); (try clear c35b1); (try clear c35b2); (try clear c45); (try clear c45b0); (try clear c45b1); (try clear c45b2); (try clear c73); (try clear c75)
        obtain ⟨x21_2, x22_2, rfl, rfl, HA, HK2, HO_3, HO_4, HO_5, HO_9, HO_10, HO_11, HO_19, HB⟩ := hrel
        cases gk with
        | zero => exact absurd HA.out (by simp [laws_FnFillings.l0])
        | succ k2 =>
         have H := HA.out
         clear HA
         simp only [laws_FnFillings.l0] at H
         by_cases c79 : x22_2 < (t493.length : Int)
         ·rw [if_pos c79] at H
          have c79b0 := decide_eq_true c79
          clear c79
          (first | rw [c79b0] | (simp only [i64_w, i32_w]; rw [c79b0]) | skip)
          obtain ⟨c80b0, H⟩ := xq H
          obtain ⟨t545, A81, H⟩ := xI H
          have H' := ax H
          clear H
          have p544 : 0 ≤ (x22_2 : Int) := xd
          have q544 : x22_2 < (t493.length : Int) := xd
          obtain ⟨ad544, A544_0, c544_0, e544, hx544_0, hl544_0, hi544_0⟩ := at_L2 (Kd.S_reads' HO_4.out).2.2 x22_2 p544 q544
          cases e544
          obtain ⟨ce544, hce544, hMe544, hcc544⟩ := Kd.S_get HO_4.out [] x22_2 p544 (by first | exact q544 | exact xd | (have e_ := (Kd.S_reads' HO_4.out).1; omega))
          obtain ⟨ve544_0, rfl, ge544_0⟩ := hMe544
          have hv544_0 := hcc544 0 _ rfl
          rw [Nat.add_zero, show ((Kd.slice 3 (Kd.int .i64))).sz = 1 from rfl, Nat.mul_one] at hv544_0
          replace hv544_0 := Option.some.inj (hv544_0.symm.trans hx544_0)
          rw [hv544_0] at ge544_0
          have HL544_0 := ax (show Kd.R (Kd.int .i64) 3 _ _ _ _ (rd_L2 t493 x22_2) from ge544_0)
          clear hv544_0 ge544_0 hcc544 hce544
          have HR544_0 := ax hi544_0
          have HC544_0 := ax hl544_0
          clear hi544_0 hl544_0
          replace p544 := eq_true p544
          replace q544 := eq_true q544
          go_wp2_with (first | ((with_reducible refine gate_callee (f := 20) rfl ?_); refine goesL_ (some 136) rfl rfl Try.func20 (by kernel_rfl) rfl #[.slice A544_0 (rd_L2 t493 x22_2).length c544_0] rfl xm ?_; (with_reducible refine (laws_total.calls k2 _ _ (rd_L2 t493 x22_2) t545 _ ?side1 ?side2 A81.out).mono ?_); (case side1 => exact xw HR544_0.out); (case side2 => exact HC544_0.out); rintro e w' ⟨rfl, ⟨nd, rfl⟩⟩; refine ⟨_, rfl, ?_⟩))
          go_roundg k2
          case measure => have := HJ11.out; have := HK2.out; omega
          case rel => exact ⟨(wrap64 (x21_2 + t545)), (wrap64 (x22_2 + 1)), xr, xr, H', ⟨by have := HJ11.out; have := HK2.out; omega⟩, ⟨xR HO_3.out⟩, ⟨xS HO_4.out⟩, ⟨xS HO_5.out⟩, ⟨xR HO_9.out⟩, ⟨xS HO_10.out⟩, ⟨xS HO_11.out⟩, ⟨xS HO_19.out⟩, ⟨xb HB.out⟩⟩
         ·rw [if_neg c79] at H
          have c79b0 := decide_eq_false c79
          clear c79
          (first | rw [c79b0] | (simp only [i64_w, i32_w]; rw [c79b0]) | skip)
          by_cases c82 : t541 = true
          ·subst c82
           rw [if_pos rfl] at H
           obtain ⟨t546, A83, H⟩ := xI H
           by_cases c84 : t546 = true
           ·subst c84
            rw [if_pos rfl] at H
            obtain ⟨t547, A85, H⟩ := xI H
            by_cases c86 : t547 = x21_2
            ·rw [if_pos c86] at H
             have c86b0 : (t547 == x21_2) = true := beq_iff_eq.mpr c86
             have c86b1 : (t547 != x21_2) = false := bne_eq_false_iff_eq.mpr c86
             clear c86
             have H' := ax H
             clear H
             obtain ⟨Ao87, co87, eo87⟩ := Kd.S_slice HO_19.out
             subst eo87
             go_wp2_with (first | (go_at_call 13; (with_reducible refine (laws_sameLists.calls k2 _ _ t540 _ _ t493 true _ ?side1 ?side2 ?side3 ?side4 A83.out).mono ?_); (case side1 => exact xc (Kd.S_reads' HO_19.out).2.2); (case side2 => exact (Kd.S_reads' HO_19.out).2.1); (case side3 => exact xc (Kd.S_reads' HO_4.out).2.2); (case side4 => exact (Kd.S_reads' HO_4.out).2.1); rintro e w' ⟨rfl, ⟨nd, rfl⟩⟩) | (go_at_call 18; (with_reducible refine (impl_HookWeight.calls k2 _ _ t492 _ _ t498 t547 _ ?side1 ?side2 ?side3 ?side4 A85.out).mono ?_); (case side1 => exact xc (Kd.R_reads' HO_3.out).2.2); (case side2 => exact (Kd.R_reads' HO_3.out).2.1); (case side3 => exact xc (Kd.S_reads' HO_5.out).2.2); (case side4 => exact (Kd.S_reads' HO_5.out).2.1); rintro e w' ⟨rfl, ⟨nd, rfl⟩⟩))
             go_meet
             case rel => exact ⟨_, H', ⟨by have := HJ11.out; have := HK2.out; first | omega | exact Nat.le_refl _⟩, ⟨by (with_reducible repeat (first | apply Kd.R_alloc | apply Kd.R_drewN | apply Kd.R_drew)); exact Kd.R_mono HO_9.out (fun _ hk => trivial)⟩, ⟨by (with_reducible repeat (first | apply Kd.S_alloc | apply Kd.S_drewN | apply Kd.S_drew)); exact Kd.S_mono HO_10.out (fun _ hk => ⟨hk.2.2.2.1, ⟨hk.2.2.2.2.1, ⟨hk.2.2.2.2.2.2.1, hk.2.2.2.2.2.2.2.1⟩⟩⟩)⟩, ⟨by (with_reducible repeat (first | apply Kd.S_alloc | apply Kd.S_drewN | apply Kd.S_drew)); exact Kd.S_mono HO_11.out (fun _ hk => ⟨hk.2.2.2.1, ⟨hk.2.2.2.2.1, ⟨hk.2.2.2.2.2.2.1, hk.2.2.2.2.2.2.2.1⟩⟩⟩)⟩, ⟨xb HB.out⟩⟩
            ·rw [if_neg c86] at H
             have c86b0 : (t547 == x21_2) = false := beq_eq_false_iff_ne.mpr c86
             have c86b1 : (t547 != x21_2) = true := bne_iff_ne.mpr c86
             obtain rfl := Option.some.inj H
             obtain ⟨Ao88, co88, eo88⟩ := Kd.S_slice HO_19.out
             subst eo88
             go_wp2_with (first | (go_at_call 13; (with_reducible refine (laws_sameLists.calls k2 _ _ t540 _ _ t493 true _ ?side1 ?side2 ?side3 ?side4 A83.out).mono ?_); (case side1 => exact xc (Kd.S_reads' HO_19.out).2.2); (case side2 => exact (Kd.S_reads' HO_19.out).2.1); (case side3 => exact xc (Kd.S_reads' HO_4.out).2.2); (case side4 => exact (Kd.S_reads' HO_4.out).2.1); rintro e w' ⟨rfl, ⟨nd, rfl⟩⟩) | (go_at_call 18; (with_reducible refine (impl_HookWeight.calls k2 _ _ t492 _ _ t498 t547 _ ?side1 ?side2 ?side3 ?side4 A85.out).mono ?_); (case side1 => exact xc (Kd.R_reads' HO_3.out).2.2); (case side2 => exact (Kd.R_reads' HO_3.out).2.1); (case side3 => exact xc (Kd.S_reads' HO_5.out).2.2); (case side4 => exact (Kd.S_reads' HO_5.out).2.1); rintro e w' ⟨rfl, ⟨nd, rfl⟩⟩))
             go_ret
             exact ⟨xe, xb HB.out⟩
           ·replace c84 := Bool.eq_false_iff.mpr c84
            subst c84
            rw [if_neg (show ¬ (false = true) by decide)] at H
            obtain rfl := Option.some.inj H
            obtain ⟨Ao89, co89, eo89⟩ := Kd.S_slice HO_19.out
            subst eo89
            go_wp2_with (first | (go_at_call 13; (with_reducible refine (laws_sameLists.calls k2 _ _ t540 _ _ t493 false _ ?side1 ?side2 ?side3 ?side4 A83.out).mono ?_); (case side1 => exact xc (Kd.S_reads' HO_19.out).2.2); (case side2 => exact (Kd.S_reads' HO_19.out).2.1); (case side3 => exact xc (Kd.S_reads' HO_4.out).2.2); (case side4 => exact (Kd.S_reads' HO_4.out).2.1); rintro e w' ⟨rfl, ⟨nd, rfl⟩⟩))
            go_ret
            exact ⟨xe, xb HB.out⟩
          ·replace c82 := Bool.eq_false_iff.mpr c82
           subst c82
           rw [if_neg (show ¬ (false = true) by decide)] at H
           obtain rfl := Option.some.inj H
           go_wp2
           go_ret
           exact ⟨xe, xb HB.out⟩
      ·replace c75 := Bool.eq_false_iff.mpr c75
       subst c75
       rw [if_neg (show ¬ (false = true) by decide)] at H
       have H' := ax H
       clear H
       go_wp2
       go_meet
       case rel => exact ⟨_, H', ⟨by have := HJ11.out; first | omega | exact Nat.le_refl _⟩, ⟨by (with_reducible repeat (first | apply Kd.R_alloc | apply Kd.R_drewN | apply Kd.R_drew)); exact Kd.R_mono HO_9.out (fun _ hk => trivial)⟩, ⟨by (with_reducible repeat (first | apply Kd.S_alloc | apply Kd.S_drewN | apply Kd.S_drew)); exact Kd.S_mono HO_10.out (fun _ hk => ⟨hk.2.2.2.1, ⟨hk.2.2.2.2.1, ⟨hk.2.2.2.2.2.1, hk.2.2.2.2.2.2⟩⟩⟩)⟩, ⟨by (with_reducible repeat (first | apply Kd.S_alloc | apply Kd.S_drewN | apply Kd.S_drew)); exact Kd.S_mono HO_11.out (fun _ hk => ⟨hk.2.2.2.1, ⟨hk.2.2.2.2.1, ⟨hk.2.2.2.2.2.1, hk.2.2.2.2.2.2⟩⟩⟩)⟩, ⟨xb HB.out⟩⟩
     case rest =>
      clear HC74
      (try clear c3); (try clear c25); (try clear c25b0); (try clear c25b1); (try clear c25b2); (try clear c27); (try clear c28); (try clear c28b0); (try clear c28b1); (try clear c28b2); (try clear c32); (try clear c35); (try clear c35b0); (try clear c35b1); (try clear c35b2); (try clear c45); (try clear c45b0); (try clear c45b1); (try clear c45b2); (try clear c73); (try clear c75); (try clear c79); (try clear c79b0); (try clear c80); (try clear c80b0); (try clear c82); (try clear c84); (try clear c86); (try clear c86b0); (try clear c86b1); (try clear hx544_0); (try clear p544); (try clear q544)
      obtain ⟨kq, HA, HJ73, HO_9, HO_10, HO_11, HB⟩ := hcut
      cases kq with
      | zero => exact absurd HA.out (by simp [laws_FnFillings.j2])
      | succ kj73 =>
       have H := HA.out
       clear HA
       simp only [laws_FnFillings.j2] at H
       by_cases c90 : t513 = true
       ·subst c90
        rw [if_pos rfl] at H
        obtain ⟨⟨t548, t549⟩, A91, H⟩ := xI H
        dsimp only at H
        by_cases c92 : t549 = true
        ·subst c92
         rw [if_pos rfl] at H
         obtain ⟨t552, A93, H⟩ := xI H
         by_cases c94 : t552 = true
         ·subst c94
          rw [if_pos rfl] at H
          obtain ⟨t553, A95, H⟩ := xI H
          obtain rfl := Option.some.inj H
          obtain ⟨Ao96, co96, eo96⟩ := Kd.S_slice HO_11.out
          subst eo96
          go_wp2_with (first | ((with_reducible refine gate_callee (f := 6) rfl ?_); refine goesL_ (some 158) rfl rfl Try.func6 (by kernel_rfl) rfl #[.slice Ao19 t506.length co19, .slice Ao96 t512.length co96] rfl xm ?_; (with_reducible refine (impl_HooksOfReverse.calls kj73 _ _ t506 _ _ t512 t548 true _ ?side1 ?side2 ?side3 ?side4 A91.out).mono ?_); (case side1 => exact xc (Kd.R_reads' HO_9.out).2.2); (case side2 => exact (Kd.R_reads' HO_9.out).2.1); (case side3 => exact xc (Kd.S_reads' HO_11.out).2.2); (case side4 => exact (Kd.S_reads' HO_11.out).2.1); rintro e w97 ⟨v550, rfl, ho0, hb⟩; refine ⟨_, rfl, ?_⟩; replace ho0 := Kd.deep0 ho0; obtain ⟨N564_, ho0, hN564_⟩ := ho0; have HO551 := ax (Kd.S_lower (Kd.S_new' (Kd.S_new' (Kd.S_new' ho0 (Kd.R_lt (xR HO_9.out))) (Kd.S_lt (xS HO_10.out))) (Kd.S_lt (xS HO_11.out))) (below_size (xb HB.out))); replace HO_9 := yR HO_9 hb; replace HO_10 := ax (Kd.S_elderD (xS HO_10.out) hN564_ (Kd.S_base ho0) hb); replace HO_11 := ax (Kd.S_elderD (xS HO_11.out) hN564_ (Kd.S_base ho0) hb); replace HB := yB HB hb; (try clear hb); (try clear ho0); (try clear hN564_); obtain ⟨Ao98, co98, eo98⟩ := Kd.S_slice HO551.out; subst eo98) | (go_at_call 13; (with_reducible refine (laws_sameLists.calls kj73 _ _ t548 _ _ t507 true _ ?side1 ?side2 ?side3 ?side4 A93.out).mono ?_); (case side1 => exact xc (Kd.S_reads' HO551.out).2.2); (case side2 => exact (Kd.S_reads' HO551.out).2.1); (case side3 => exact xc (Kd.S_reads' HO_10.out).2.2); (case side4 => exact (Kd.S_reads' HO_10.out).2.1); rintro e w' ⟨rfl, ⟨nd, rfl⟩⟩) | (go_at_call 14; (with_reducible refine (impl_IsReverse.calls kj73 _ _ t506 _ _ t512 t553 _ ?side1 ?side2 ?side3 ?side4 A95.out).mono ?_); (case side1 => exact xc (Kd.R_reads' HO_9.out).2.2); (case side2 => exact (Kd.R_reads' HO_9.out).2.1); (case side3 => exact xc (Kd.S_reads' HO_11.out).2.2); (case side4 => exact (Kd.S_reads' HO_11.out).2.1); rintro e w' ⟨rfl, ⟨nd, rfl⟩⟩))
          go_ret
          exact ⟨xe, xb HB.out⟩
         ·replace c94 := Bool.eq_false_iff.mpr c94
          subst c94
          rw [if_neg (show ¬ (false = true) by decide)] at H
          obtain rfl := Option.some.inj H
          obtain ⟨Ao99, co99, eo99⟩ := Kd.S_slice HO_11.out
          subst eo99
          go_wp2_with (first | ((with_reducible refine gate_callee (f := 6) rfl ?_); refine goesL_ (some 158) rfl rfl Try.func6 (by kernel_rfl) rfl #[.slice Ao19 t506.length co19, .slice Ao99 t512.length co99] rfl xm ?_; (with_reducible refine (impl_HooksOfReverse.calls kj73 _ _ t506 _ _ t512 t548 true _ ?side1 ?side2 ?side3 ?side4 A91.out).mono ?_); (case side1 => exact xc (Kd.R_reads' HO_9.out).2.2); (case side2 => exact (Kd.R_reads' HO_9.out).2.1); (case side3 => exact xc (Kd.S_reads' HO_11.out).2.2); (case side4 => exact (Kd.S_reads' HO_11.out).2.1); rintro e w100 ⟨v550, rfl, ho0, hb⟩; refine ⟨_, rfl, ?_⟩; replace ho0 := Kd.deep0 ho0; obtain ⟨N566_, ho0, hN566_⟩ := ho0; have HO551 := ax (Kd.S_lower (Kd.S_new' (Kd.S_new' (Kd.S_new' ho0 (Kd.R_lt (xR HO_9.out))) (Kd.S_lt (xS HO_10.out))) (Kd.S_lt (xS HO_11.out))) (below_size (xb HB.out))); replace HO_9 := yR HO_9 hb; replace HO_10 := ax (Kd.S_elderD (xS HO_10.out) hN566_ (Kd.S_base ho0) hb); replace HO_11 := ax (Kd.S_elderD (xS HO_11.out) hN566_ (Kd.S_base ho0) hb); replace HB := yB HB hb; (try clear hb); (try clear ho0); (try clear hN566_); obtain ⟨Ao101, co101, eo101⟩ := Kd.S_slice HO551.out; subst eo101) | (go_at_call 13; (with_reducible refine (laws_sameLists.calls kj73 _ _ t548 _ _ t507 false _ ?side1 ?side2 ?side3 ?side4 A93.out).mono ?_); (case side1 => exact xc (Kd.S_reads' HO551.out).2.2); (case side2 => exact (Kd.S_reads' HO551.out).2.1); (case side3 => exact xc (Kd.S_reads' HO_10.out).2.2); (case side4 => exact (Kd.S_reads' HO_10.out).2.1); rintro e w' ⟨rfl, ⟨nd, rfl⟩⟩))
          go_ret
          exact ⟨xe, xb HB.out⟩
        ·replace c92 := Bool.eq_false_iff.mpr c92
         subst c92
         rw [if_neg (show ¬ (false = true) by decide)] at H
         obtain rfl := Option.some.inj H
         obtain ⟨Ao102, co102, eo102⟩ := Kd.S_slice HO_11.out
         subst eo102
         go_wp2_with (first | ((with_reducible refine gate_callee (f := 6) rfl ?_); refine goesL_ (some 158) rfl rfl Try.func6 (by kernel_rfl) rfl #[.slice Ao19 t506.length co19, .slice Ao102 t512.length co102] rfl xm ?_; (with_reducible refine (impl_HooksOfReverse.calls kj73 _ _ t506 _ _ t512 t548 false _ ?side1 ?side2 ?side3 ?side4 A91.out).mono ?_); (case side1 => exact xc (Kd.R_reads' HO_9.out).2.2); (case side2 => exact (Kd.R_reads' HO_9.out).2.1); (case side3 => exact xc (Kd.S_reads' HO_11.out).2.2); (case side4 => exact (Kd.S_reads' HO_11.out).2.1); rintro e w103 ⟨v550, rfl, ho0, hb⟩; refine ⟨_, rfl, ?_⟩; replace ho0 := Kd.deep0 ho0; obtain ⟨N568_, ho0, hN568_⟩ := ho0; have HO551 := ax (Kd.S_lower (Kd.S_new' (Kd.S_new' (Kd.S_new' ho0 (Kd.R_lt (xR HO_9.out))) (Kd.S_lt (xS HO_10.out))) (Kd.S_lt (xS HO_11.out))) (below_size (xb HB.out))); replace HO_9 := yR HO_9 hb; replace HO_10 := ax (Kd.S_elderD (xS HO_10.out) hN568_ (Kd.S_base ho0) hb); replace HO_11 := ax (Kd.S_elderD (xS HO_11.out) hN568_ (Kd.S_base ho0) hb); replace HB := yB HB hb; (try clear hb); (try clear ho0); (try clear hN568_)))
         go_ret
         exact ⟨xe, xb HB.out⟩
       ·replace c90 := Bool.eq_false_iff.mpr c90
        subst c90
        rw [if_neg (show ¬ (false = true) by decide)] at H
        obtain rfl := Option.some.inj H
        go_wp2
        go_ret
        exact ⟨xe, xb HB.out⟩

/-- THE ONE PURE STATEMENT of laws_FnFillings: yours. -/
def laws_FnFillings.Pure : Prop := ∀ (l0 : List Int), l0.length ≤ maxLen → l0.length * 1 ≤ 140737488351232 → (∀ x ∈ l0, (Lit.int .u8 x).wf = true) → ∃ k, laws_FnFillings.f k l0 = some true
theorem laws_FnFillings.walk (P : laws_FnFillings.Pure) (a0 : Option Addr) (len0 cap0 : Nat) (z0 : List Int) (w : World) (w0 : (a0 = none ∧ len0 = 0 ∧ cap0 = 0 ∧ z0 = []) ∨ ∃ x, a0 = some x ∧ len0 ≤ cap0 ∧ cap0 ≤ maxLen ∧ z0.length = cap0 ∧ (∀ i, i < z0.length → w.cell? (x.add i) = some (.int .u8 (z0.getD i 0))) ∧ ∀ n ∈ z0, (Lit.int .u8 n).wf = true) (y0 : len0 * 1 ≤ 140737488351232) :
  Calls Try.prog 3 #[.slice a0 len0 cap0] w fun e w' => e = .returned (.bool true) ∧ Below w.heap.size w w' := by
 obtain ⟨l0, rfl, hr0, hm0, hw0, hc0⟩ := ReadsInt.ofRowC w0
 obtain ⟨k, h⟩ := P l0 hm0 y0 hw0
 refine (laws_FnFillings.calls k _ _ l0 true w (Kd.C_of_reads (d := (0 : Int)) (h1 := fun _ => rfl) hr0) hc0 h).mono ?_
 rintro e w' ⟨rfl, hd⟩
 exact ⟨rfl, hd⟩

end Go.Proofs.Ytnfcdaojglicfab.PFnFillings
