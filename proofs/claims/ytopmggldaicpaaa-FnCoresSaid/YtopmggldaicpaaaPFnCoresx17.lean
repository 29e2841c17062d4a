import Derived.Test.YtopmggldaicpaaaPFnCoresx16
namespace Go.Proofs.Ytopmggldaicpaaa.PFnCores
open Go.RowKit Go.Proofs.YtopmggldaicpaaaW.PrintWords Go.Proofs.YtopmggldaicpaaaW.PrintLast Go.Proofs.YtopmggldaicpaaaW.PrintMore
set_option linter.unusedVariables false
set_option linter.unusedSimpArgs false
set_option maxHeartbeats 8000000
set_option maxRecDepth 100000
/-! ### laws_FnCores: function 3 -/
mutual
def laws_FnCores.j0 : Nat → List Int → Int → List Int → Int → List (List Int) → List Int → List Int → Bool → Option (Bool)
 | 0, _, _, _, _, _, _, _, _ => none
 | k + 1, x3, x4, x5, x6, x7, x8, x10, x106 => if x106 = true then (some false) else (if (x10.length : Int) > 0 then ((impl_FromBeta.f k x10).bind fun bt665 => (if bt665.2 = true then ((laws_sameInts.f k bt665.1 x8).bind fun t669 => (if t669 = true then (laws_FnCores.j1 k x3 x4 x5 x6 x7) else (some false))) else (some false))) else (laws_FnCores.j1 k x3 x4 x5 x6 x7))
def laws_FnCores.j1 : Nat → List Int → Int → List Int → Int → List (List Int) → Option (Bool)
 | 0, _, _, _, _, _ => none
 | k + 1, x3, x4, x5, x6, x7 => if x6 < 0 then (if (x5.length : Int) = 0 then (some ((x7.length : Int) == 0)) else (some false)) else (laws_FnCores.l0 k x3 x4 x5 x6 x7 0 0)
def laws_FnCores.l0 : Nat → List Int → Int → List Int → Int → List (List Int) → Int → Int → Option (Bool)
 | 0, _, _, _, _, _, _, _ => none
 | k + 1, x3, x4, x5, x6, x7, x18, x19 => if x19 < (x7.length : Int) then (if 0 ≤ x19 then ((spec_SizeOf.f k (rd_L2 x7 x19)).bind fun t671 => (laws_FnCores.l0 k x3 x4 x5 x6 x7 (wrap64 (x18 + t671)) (wrap64 (x19 + 1)))) else (none)) else ((spec_RibbonsInside.f k x3 x4).bind fun t672 => (laws_FnCores.l1 k x3 x4 x5 x6 x7 x18 t672 0))
def laws_FnCores.l1 : Nat → List Int → Int → List Int → Int → List (List Int) → Int → List (S41) → Int → Option (Bool)
 | 0, _, _, _, _, _, _, _, _ => none
 | k + 1, x3, x4, x5, x6, x7, x18, x20, x21 => if x21 < (x20.length : Int) then (if 0 ≤ x21 then ((impl_CoreOf.f k ((rd_T41 x20 x21).f1) x4).bind fun t679 => ((laws_sameInts.f k t679 x5).bind fun t682 => (if t682 = true then (laws_FnCores.l1 k x3 x4 x5 x6 x7 x18 x20 (wrap64 (x21 + 1))) else (some false)))) else (none)) else (if (x7.length : Int) = x4 then (if x18 = x6 then ((spec_SizeOf.f k x5).bind fun t675 => ((spec_SizeOf.f k x3).bind fun t676 => (if (wrap64 (t675 + (wrap64 (x4 * x6)))) = t676 then ((impl_IsCore.f k x5 x4).bind fun t677 => (some t677)) else (some false)))) else (some false)) else (some false))
end
def laws_FnCores.f (k : Nat) (l0 : List Int) : Option (Bool) := (laws_big.f l0).bind fun t619 => (if t619 = true then (some true) else ((spec_DrawCoreOf.f k l0).bind fun bt620 => ((impl_CoreOf.f k bt620.1 bt620.2).bind fun t624 => ((impl_CoreWeight.f k bt620.1 bt620.2).bind fun t627 => ((impl_QuotientOf.f k bt620.1 bt620.2).bind fun t628 => ((spec_DrawBetaNumbers.f k l0).bind fun bt631 => ((impl_BetaNumbers.f k bt631.1 bt631.2).bind fun t635 => ((spec_DrawFromBeta.f k l0).bind fun t638 => ((impl_FromBeta.f k t638).bind fun bt641 => ((spec_FromBeta.f k t638).bind fun bt645 => ((spec_CoreOf.f k bt620.1 bt620.2).bind fun t649 => ((laws_sameInts.f k t624 t649).bind fun t652 => (if t652 = true then ((spec_CoreWeight.f k bt620.1 bt620.2).bind fun t653 => (if t627 = t653 then ((spec_QuotientOf.f k bt620.1 bt620.2).bind fun t654 => ((laws_sameLists.f k t628 t654).bind fun t657 => (if t657 = true then ((spec_BetaNumbers.f k bt631.1 bt631.2).bind fun t658 => ((laws_sameInts.f k t635 t658).bind fun t661 => (if t661 = true then (if (bt641.2 != bt645.2) = true then (laws_FnCores.j0 k bt620.1 bt620.2 t624 t627 t628 bt631.1 t635 true) else ((laws_sameInts.f k bt641.1 bt645.1).bind fun t662 => (if t662 = true then ((impl_IsCore.f k bt620.1 bt620.2).bind fun t663 => ((spec_IsCore.f k bt620.1 bt620.2).bind fun t664 => (laws_FnCores.j0 k bt620.1 bt620.2 t624 t627 t628 bt631.1 t635 (t663 != t664)))) else (laws_FnCores.j0 k bt620.1 bt620.2 t624 t627 t628 bt631.1 t635 true)))) else (laws_FnCores.j0 k bt620.1 bt620.2 t624 t627 t628 bt631.1 t635 true)))) else (laws_FnCores.j0 k bt620.1 bt620.2 t624 t627 t628 bt631.1 t635 true)))) else (laws_FnCores.j0 k bt620.1 bt620.2 t624 t627 t628 bt631.1 t635 true))) else (laws_FnCores.j0 k bt620.1 bt620.2 t624 t627 t628 bt631.1 t635 true))))))))))))))
theorem laws_FnCores.mono_l : ∀ k, (∀ y0 y1 y2 y3 y4 y5 y6 y7, LeO (laws_FnCores.j0 k y0 y1 y2 y3 y4 y5 y6 y7) (laws_FnCores.j0 (k + 1) y0 y1 y2 y3 y4 y5 y6 y7)) ∧ (∀ y0 y1 y2 y3 y4, LeO (laws_FnCores.j1 k y0 y1 y2 y3 y4) (laws_FnCores.j1 (k + 1) y0 y1 y2 y3 y4)) ∧ (∀ y0 y1 y2 y3 y4 y5 y6, LeO (laws_FnCores.l0 k y0 y1 y2 y3 y4 y5 y6) (laws_FnCores.l0 (k + 1) y0 y1 y2 y3 y4 y5 y6)) ∧ (∀ y0 y1 y2 y3 y4 y5 y6 y7, LeO (laws_FnCores.l1 k y0 y1 y2 y3 y4 y5 y6 y7) (laws_FnCores.l1 (k + 1) y0 y1 y2 y3 y4 y5 y6 y7))
 | 0 => ⟨fun _ _ _ _ _ _ _ _ r h => by simp [laws_FnCores.j0] at h, fun _ _ _ _ _ r h => by simp [laws_FnCores.j1] at h, fun _ _ _ _ _ _ _ r h => by simp [laws_FnCores.l0] at h, fun _ _ _ _ _ _ _ _ r h => by simp [laws_FnCores.l1] at h⟩
 | k + 1 => by
  obtain ⟨ih0, ih1, ih2, ih3⟩ := laws_FnCores.mono_l k
  refine ⟨?_, ?_, ?_, ?_⟩
  ·intro y0 y1 y2 y3 y4 y5 y6 y7
   unfold laws_FnCores.j0
   repeat' with_reducible first | exact ih0 _ _ _ _ _ _ _ _ | exact ih1 _ _ _ _ _ | exact ih2 _ _ _ _ _ _ _ | exact ih3 _ _ _ _ _ _ _ _ | exact impl_BetaNumbers.mono _ _ _ | exact impl_CoreOf.mono _ _ _ | exact impl_CoreWeight.mono _ _ _ | exact impl_FromBeta.mono _ _ | exact impl_IsCore.mono _ _ _ | exact impl_QuotientOf.mono _ _ _ | exact laws_sameInts.mono _ _ _ | exact laws_sameLists.mono _ _ _ | exact spec_BetaNumbers.mono _ _ _ | exact spec_CoreOf.mono _ _ _ | exact spec_CoreWeight.mono _ _ _ | exact spec_DrawBetaNumbers.mono _ _ | exact spec_DrawCoreOf.mono _ _ | exact spec_DrawFromBeta.mono _ _ | exact spec_FromBeta.mono _ _ | exact spec_IsCore.mono _ _ _ | exact spec_QuotientOf.mono _ _ _ | exact spec_RibbonsInside.mono _ _ _ | exact spec_SizeOf.mono _ _ | exact xl | refine LeO.ite ?_ ?_ | refine LeO.bind ?_ fun _ => ?_
  ·intro y0 y1 y2 y3 y4
   unfold laws_FnCores.j1
   repeat' with_reducible first | exact ih0 _ _ _ _ _ _ _ _ | exact ih1 _ _ _ _ _ | exact ih2 _ _ _ _ _ _ _ | exact ih3 _ _ _ _ _ _ _ _ | exact impl_BetaNumbers.mono _ _ _ | exact impl_CoreOf.mono _ _ _ | exact impl_CoreWeight.mono _ _ _ | exact impl_FromBeta.mono _ _ | exact impl_IsCore.mono _ _ _ | exact impl_QuotientOf.mono _ _ _ | exact laws_sameInts.mono _ _ _ | exact laws_sameLists.mono _ _ _ | exact spec_BetaNumbers.mono _ _ _ | exact spec_CoreOf.mono _ _ _ | exact spec_CoreWeight.mono _ _ _ | exact spec_DrawBetaNumbers.mono _ _ | exact spec_DrawCoreOf.mono _ _ | exact spec_DrawFromBeta.mono _ _ | exact spec_FromBeta.mono _ _ | exact spec_IsCore.mono _ _ _ | exact spec_QuotientOf.mono _ _ _ | exact spec_RibbonsInside.mono _ _ _ | exact spec_SizeOf.mono _ _ | exact xl | refine LeO.ite ?_ ?_ | refine LeO.bind ?_ fun _ => ?_
  ·intro y0 y1 y2 y3 y4 y5 y6
   unfold laws_FnCores.l0
   repeat' with_reducible first | exact ih0 _ _ _ _ _ _ _ _ | exact ih1 _ _ _ _ _ | exact ih2 _ _ _ _ _ _ _ | exact ih3 _ _ _ _ _ _ _ _ | exact impl_BetaNumbers.mono _ _ _ | exact impl_CoreOf.mono _ _ _ | exact impl_CoreWeight.mono _ _ _ | exact impl_FromBeta.mono _ _ | exact impl_IsCore.mono _ _ _ | exact impl_QuotientOf.mono _ _ _ | exact laws_sameInts.mono _ _ _ | exact laws_sameLists.mono _ _ _ | exact spec_BetaNumbers.mono _ _ _ | exact spec_CoreOf.mono _ _ _ | exact spec_CoreWeight.mono _ _ _ | exact spec_DrawBetaNumbers.mono _ _ | exact spec_DrawCoreOf.mono _ _ | exact spec_DrawFromBeta.mono _ _ | exact spec_FromBeta.mono _ _ | exact spec_IsCore.mono _ _ _ | exact spec_QuotientOf.mono _ _ _ | exact spec_RibbonsInside.mono _ _ _ | exact spec_SizeOf.mono _ _ | exact xl | refine LeO.ite ?_ ?_ | refine LeO.bind ?_ fun _ => ?_
  ·intro y0 y1 y2 y3 y4 y5 y6 y7
   unfold laws_FnCores.l1
   repeat' with_reducible first | exact ih0 _ _ _ _ _ _ _ _ | exact ih1 _ _ _ _ _ | exact ih2 _ _ _ _ _ _ _ | exact ih3 _ _ _ _ _ _ _ _ | exact impl_BetaNumbers.mono _ _ _ | exact impl_CoreOf.mono _ _ _ | exact impl_CoreWeight.mono _ _ _ | exact impl_FromBeta.mono _ _ | exact impl_IsCore.mono _ _ _ | exact impl_QuotientOf.mono _ _ _ | exact laws_sameInts.mono _ _ _ | exact laws_sameLists.mono _ _ _ | exact spec_BetaNumbers.mono _ _ _ | exact spec_CoreOf.mono _ _ _ | exact spec_CoreWeight.mono _ _ _ | exact spec_DrawBetaNumbers.mono _ _ | exact spec_DrawCoreOf.mono _ _ | exact spec_DrawFromBeta.mono _ _ | exact spec_FromBeta.mono _ _ | exact spec_IsCore.mono _ _ _ | exact spec_QuotientOf.mono _ _ _ | exact spec_RibbonsInside.mono _ _ _ | exact spec_SizeOf.mono _ _ | exact xl | refine LeO.ite ?_ ?_ | refine LeO.bind ?_ fun _ => ?_
theorem laws_FnCores.mono : ∀ a0 k, LeO (laws_FnCores.f k a0) (laws_FnCores.f (k + 1) a0) := by
 intro a0 k
 obtain ⟨ih0, ih1, ih2, ih3⟩ := laws_FnCores.mono_l k
 unfold laws_FnCores.f
 repeat' with_reducible first | exact ih0 _ _ _ _ _ _ _ _ | exact ih1 _ _ _ _ _ | exact ih2 _ _ _ _ _ _ _ | exact ih3 _ _ _ _ _ _ _ _ | exact impl_BetaNumbers.mono _ _ _ | exact impl_CoreOf.mono _ _ _ | exact impl_CoreWeight.mono _ _ _ | exact impl_FromBeta.mono _ _ | exact impl_IsCore.mono _ _ _ | exact impl_QuotientOf.mono _ _ _ | exact laws_sameInts.mono _ _ _ | exact laws_sameLists.mono _ _ _ | exact spec_BetaNumbers.mono _ _ _ | exact spec_CoreOf.mono _ _ _ | exact spec_CoreWeight.mono _ _ _ | exact spec_DrawBetaNumbers.mono _ _ | exact spec_DrawCoreOf.mono _ _ | exact spec_DrawFromBeta.mono _ _ | exact spec_FromBeta.mono _ _ | exact spec_IsCore.mono _ _ _ | exact spec_QuotientOf.mono _ _ _ | exact spec_RibbonsInside.mono _ _ _ | exact spec_SizeOf.mono _ _ | exact xl | refine LeO.ite ?_ ?_ | refine LeO.bind ?_ fun _ => ?_
theorem laws_FnCores.calls (k : Nat) (A0 : Option Addr) (c0 : Nat) (l0 : List Int) (r : Bool) (w : World) (hr0 : Kd.C (Kd.int .u8) w A0 l0.length l0) (hc0 : l0.length ≤ c0) (h : laws_FnCores.f k l0 = some r) :
  Calls Try.prog 3 #[.slice A0 l0.length c0] w fun e w' => e = .returned (.bool r) ∧ Below w.heap.size w w' := by
 have HR0 := ax hr0
 have HC0 := ax hc0
 clear hr0 hc0
 have HB := ax (Below.refl w.heap.size w)
 have H : ((laws_big.f l0).bind fun t619 => (if t619 = true then (some true) else ((spec_DrawCoreOf.f k l0).bind fun bt620 => ((impl_CoreOf.f k bt620.1 bt620.2).bind fun t624 => ((impl_CoreWeight.f k bt620.1 bt620.2).bind fun t627 => ((impl_QuotientOf.f k bt620.1 bt620.2).bind fun t628 => ((spec_DrawBetaNumbers.f k l0).bind fun bt631 => ((impl_BetaNumbers.f k bt631.1 bt631.2).bind fun t635 => ((spec_DrawFromBeta.f k l0).bind fun t638 => ((impl_FromBeta.f k t638).bind fun bt641 => ((spec_FromBeta.f k t638).bind fun bt645 => ((spec_CoreOf.f k bt620.1 bt620.2).bind fun t649 => ((laws_sameInts.f k t624 t649).bind fun t652 => (if t652 = true then ((spec_CoreWeight.f k bt620.1 bt620.2).bind fun t653 => (if t627 = t653 then ((spec_QuotientOf.f k bt620.1 bt620.2).bind fun t654 => ((laws_sameLists.f k t628 t654).bind fun t657 => (if t657 = true then ((spec_BetaNumbers.f k bt631.1 bt631.2).bind fun t658 => ((laws_sameInts.f k t635 t658).bind fun t661 => (if t661 = true then (if (bt641.2 != bt645.2) = true then (laws_FnCores.j0 k bt620.1 bt620.2 t624 t627 t628 bt631.1 t635 true) else ((laws_sameInts.f k bt641.1 bt645.1).bind fun t662 => (if t662 = true then ((impl_IsCore.f k bt620.1 bt620.2).bind fun t663 => ((spec_IsCore.f k bt620.1 bt620.2).bind fun t664 => (laws_FnCores.j0 k bt620.1 bt620.2 t624 t627 t628 bt631.1 t635 (t663 != t664)))) else (laws_FnCores.j0 k bt620.1 bt620.2 t624 t627 t628 bt631.1 t635 true)))) else (laws_FnCores.j0 k bt620.1 bt620.2 t624 t627 t628 bt631.1 t635 true)))) else (laws_FnCores.j0 k bt620.1 bt620.2 t624 t627 t628 bt631.1 t635 true)))) else (laws_FnCores.j0 k bt620.1 bt620.2 t624 t627 t628 bt631.1 t635 true))) else (laws_FnCores.j0 k bt620.1 bt620.2 t624 t627 t628 bt631.1 t635 true))))))))))))))) = some r := h
 clear h
 obtain ⟨t619, A2, H⟩ := xI H
 by_cases c3 : t619 = true
 ·subst c3
  rw [if_pos rfl] at H
  obtain rfl := Option.some.inj H
  go_enter Try.func3, Try.ntmps3
  go_wp2_with (first | ((with_reducible refine gate_callee (f := 4) rfl ?_); refine goesL_ (some 23) rfl rfl Try.func4 (by kernel_rfl) rfl #[.slice A0 l0.length c0] rfl xm ?_; (with_reducible refine (laws_big.calls _ _ l0 true _ ?side1 ?side2 A2.out).mono ?_); (case side1 => exact xc HR0.out); (case side2 => exact HC0.out); rintro e w' ⟨rfl, ⟨nd, rfl⟩⟩; refine ⟨_, rfl, ?_⟩))
  go_ret
  exact ⟨xe, xb HB.out⟩
 ·replace c3 := Bool.eq_false_iff.mpr c3
  subst c3
  rw [if_neg (show ¬ (false = true) by decide)] at H
  obtain ⟨⟨t620, t621⟩, A4, H⟩ := xI H
  dsimp only at H
  obtain ⟨t624, A5, H⟩ := xI H
  obtain ⟨t627, A6, H⟩ := xI H
  obtain ⟨t628, A7, H⟩ := xI H
  obtain ⟨⟨t631, t632⟩, A8, H⟩ := xI H
  dsimp only at H
  obtain ⟨t635, A9, H⟩ := xI H
  obtain ⟨t638, A10, H⟩ := xI H
  obtain ⟨⟨t641, t642⟩, A11, H⟩ := xI H
  dsimp only at H
  obtain ⟨⟨t645, t646⟩, A12, H⟩ := xI H
  dsimp only at H
  have HC13 := ax H
  clear H
  go_enter Try.func3, Try.ntmps3
  go_upto_region 12 with (first | ((with_reducible refine gate_callee (f := 4) rfl ?_); refine goesL_ (some 23) rfl rfl Try.func4 (by kernel_rfl) rfl #[.slice A0 l0.length c0] rfl xm ?_; (with_reducible refine (laws_big.calls _ _ l0 false _ ?side1 ?side2 A2.out).mono ?_); (case side1 => exact xc HR0.out); (case side2 => exact HC0.out); rintro e w' ⟨rfl, ⟨nd, rfl⟩⟩; refine ⟨_, rfl, ?_⟩) | ((with_reducible refine gate_callee (f := 5) rfl ?_); refine goesL_ (some 26) rfl rfl Try.func5 (by kernel_rfl) rfl #[.slice A0 l0.length c0] rfl xm ?_; (with_reducible refine (spec_DrawCoreOf.calls k _ _ l0 t620 t621 _ ?side1 ?side2 A4.out).mono ?_); (case side1 => exact xc HR0.out); (case side2 => exact HC0.out); rintro e w14 ⟨v622, rfl, ho0, hb⟩; refine ⟨_, rfl, ?_⟩; have HO623 := ax (Kd.R_lower ho0 (below_size (xb HB.out))); replace HB := yB HB hb; (try clear hb); (try clear ho0); obtain ⟨Ao15, co15, eo15⟩ := Kd.R_slice HO623.out; subst eo15) | ((with_reducible refine gate_callee (f := 6) rfl ?_); refine goesL_ (some 31) rfl rfl Try.func6 (by kernel_rfl) rfl #[.slice Ao15 t620.length co15, .int .i64 t621] rfl xm ?_; (with_reducible refine (impl_CoreOf.calls k _ _ t620 t621 t624 _ ?side1 ?side2 A5.out).mono ?_); (case side1 => exact xc (Kd.R_reads' HO623.out).2.2); (case side2 => exact (Kd.R_reads' HO623.out).2.1); rintro e w16 ⟨v625, rfl, ho0, hb⟩; refine ⟨_, rfl, ?_⟩; have HO626 := ax (Kd.V_lower (Kd.V_mono (ok' := fun k_ => some k_ ≠ (.slice Ao15 t620.length co15 : Value).ownBlock) ho0 (fun k_ hk_ => (Kd.fresh' (Kd.R_lt (xR HO623.out)) k_ hk_))) (below_size (xb HB.out))); replace HO623 := yR HO623 hb; replace HB := yB HB hb; (try clear hb); (try clear ho0)) | ((with_reducible refine gate_callee (f := 7) rfl ?_); refine goesL_ (some 34) rfl rfl Try.func7 (by kernel_rfl) rfl #[.slice Ao15 t620.length co15, .int .i64 t621] rfl xm ?_; (with_reducible refine (impl_CoreWeight.calls k _ _ t620 t621 t627 _ ?side1 ?side2 A6.out).mono ?_); (case side1 => exact xc (Kd.R_reads' HO623.out).2.2); (case side2 => exact (Kd.R_reads' HO623.out).2.1); rintro e w17 ⟨rfl, hb⟩; refine ⟨_, rfl, ?_⟩; replace HO623 := yR HO623 hb; replace HO626 := yV HO626 hb; replace HB := yB HB hb; (try clear hb)) | ((with_reducible refine gate_callee (f := 8) rfl ?_); refine goesL_ (some 37) rfl rfl Try.func8 (by kernel_rfl) rfl #[.slice Ao15 t620.length co15, .int .i64 t621] rfl xm ?_; (with_reducible refine (impl_QuotientOf.calls k _ _ t620 t621 t628 _ ?side1 ?side2 A7.out).mono ?_); (case side1 => exact xc (Kd.R_reads' HO623.out).2.2); (case side2 => exact (Kd.R_reads' HO623.out).2.1); rintro e w18 ⟨v629, rfl, ho0, hb⟩; refine ⟨_, rfl, ?_⟩; replace HO626 := ax (Kd.V_elder' (xV HO626.out) (by first | exact Kd.N_base ho0 | exact Kd.S_base ho0 | exact Kd.R_base ho0) hb); have HO630 := ax (Kd.N_lower (Kd.N_mono (ok' := fun k_ => some k_ ≠ (.slice Ao15 t620.length co15 : Value).ownBlock) (Kd.S_N (Kd.S_bound ho0)) (fun k_ hk_ => (Kd.fresh' (Kd.R_lt (xR HO623.out)) k_ hk_.2.1))) (below_size (xb HB.out))); replace HO623 := yR HO623 hb; replace HB := yB HB hb; (try clear hb); (try clear ho0)) | ((with_reducible refine gate_callee (f := 9) rfl ?_); refine goesL_ (some 40) rfl rfl Try.func9 (by kernel_rfl) rfl #[.slice A0 l0.length c0] rfl xm ?_; (with_reducible refine (spec_DrawBetaNumbers.calls k _ _ l0 t631 t632 _ ?side1 ?side2 A8.out).mono ?_); (case side1 => exact xz HR0.out HB.out); (case side2 => exact HC0.out); rintro e w19 ⟨v633, rfl, ho0, hb⟩; refine ⟨_, rfl, ?_⟩; replace HO626 := ax (Kd.V_elder' (xV HO626.out) (Kd.R_base ho0) hb); replace HO630 := ax (Kd.N_elder' (xN HO630.out) (Kd.R_base ho0) hb); have HO634 := ax (Kd.R_lower (Kd.R_new' ho0 (Kd.R_lt (xR HO623.out))) (below_size (xb HB.out))); replace HO623 := ax (Kd.R_elder' (xR HO623.out) (Kd.R_base ho0) hb); replace HB := yB HB hb; (try clear hb); (try clear ho0); obtain ⟨Ao20, co20, eo20⟩ := Kd.R_slice HO634.out; subst eo20) | ((with_reducible refine gate_callee (f := 10) rfl ?_); refine goesL_ (some 45) rfl rfl Try.func10 (by kernel_rfl) rfl #[.slice Ao20 t631.length co20, .int .i64 t632] rfl xm ?_; (with_reducible refine (impl_BetaNumbers.calls k _ _ t631 t632 t635 _ ?side1 ?side2 A9.out).mono ?_); (case side1 => exact xc (Kd.R_reads' HO634.out).2.2); (case side2 => exact (Kd.R_reads' HO634.out).2.1); rintro e w21 ⟨v636, rfl, ho0, hb⟩; refine ⟨_, rfl, ?_⟩; replace HO626 := ax (Kd.V_elder' (xV HO626.out) (Kd.R_base ho0) hb); replace HO630 := ax (Kd.N_elder' (xN HO630.out) (Kd.R_base ho0) hb); have HO637 := ax (Kd.R_lower (Kd.R_new' (Kd.R_new' ho0 (Kd.R_lt (xR HO623.out))) (Kd.R_lt (xR HO634.out))) (below_size (xb HB.out))); replace HO623 := ax (Kd.R_elder' (xR HO623.out) (Kd.R_base ho0) hb); replace HO634 := ax (Kd.R_elder' (xR HO634.out) (Kd.R_base ho0) hb); replace HB := yB HB hb; (try clear hb); (try clear ho0)) | ((with_reducible refine gate_callee (f := 11) rfl ?_); refine goesL_ (some 47) rfl rfl Try.func11 (by kernel_rfl) rfl #[.slice A0 l0.length c0] rfl xm ?_; (with_reducible refine (spec_DrawFromBeta.calls k _ _ l0 t638 _ ?side1 ?side2 A10.out).mono ?_); (case side1 => exact xz HR0.out HB.out); (case side2 => exact HC0.out); rintro e w22 ⟨v639, rfl, ho0, hb⟩; refine ⟨_, rfl, ?_⟩; replace HO626 := ax (Kd.V_elder' (xV HO626.out) (Kd.R_base ho0) hb); replace HO630 := ax (Kd.N_elder' (xN HO630.out) (Kd.R_base ho0) hb); have HO640 := ax (Kd.R_lower (Kd.R_new' (Kd.R_new' (Kd.R_new' ho0 (Kd.R_lt (xR HO623.out))) (Kd.R_lt (xR HO634.out))) (Kd.R_lt (xR HO637.out))) (below_size (xb HB.out))); replace HO623 := ax (Kd.R_elder' (xR HO623.out) (Kd.R_base ho0) hb); replace HO634 := ax (Kd.R_elder' (xR HO634.out) (Kd.R_base ho0) hb); replace HO637 := ax (Kd.R_elder' (xR HO637.out) (Kd.R_base ho0) hb); replace HB := yB HB hb; (try clear hb); (try clear ho0); obtain ⟨Ao23, co23, eo23⟩ := Kd.R_slice HO640.out; subst eo23) | ((with_reducible refine gate_callee (f := 12) rfl ?_); refine goesL_ (some 50) rfl rfl Try.func12 (by kernel_rfl) rfl #[.slice Ao23 t638.length co23] rfl xm ?_; (with_reducible refine (impl_FromBeta.calls k _ _ t638 t641 t642 _ ?side1 ?side2 A11.out).mono ?_); (case side1 => exact xc (Kd.R_reads' HO640.out).2.2); (case side2 => exact (Kd.R_reads' HO640.out).2.1); rintro e w24 ⟨v643, rfl, ho0, hb⟩; refine ⟨_, rfl, ?_⟩; replace HO626 := ax (Kd.V_elder' (xV HO626.out) (Kd.Q_base ho0) hb); replace HO630 := ax (Kd.N_elder' (xN HO630.out) (Kd.Q_base ho0) hb); have HO644 := ax (Kd.Q_lower (Kd.Q_new' (Kd.Q_new' (Kd.Q_new' (Kd.Q_new' ho0 (Kd.R_lt (xR HO623.out))) (Kd.R_lt (xR HO634.out))) (Kd.R_lt (xR HO637.out))) (Kd.R_lt (xR HO640.out))) (below_size (xb HB.out))); replace HO623 := ax (Kd.R_elder' (xR HO623.out) (Kd.Q_base ho0) hb); replace HO634 := ax (Kd.R_elder' (xR HO634.out) (Kd.Q_base ho0) hb); replace HO637 := ax (Kd.R_elder' (xR HO637.out) (Kd.Q_base ho0) hb); replace HO640 := ax (Kd.R_elder' (xR HO640.out) (Kd.Q_base ho0) hb); replace HB := yB HB hb; (try clear hb); (try clear ho0)) | ((with_reducible refine gate_callee (f := 13) rfl ?_); refine goesL_ (some 55) rfl rfl Try.func13 (by kernel_rfl) rfl #[.slice Ao23 t638.length co23] rfl xm ?_; (with_reducible refine (spec_FromBeta.calls k _ _ t638 t645 t646 _ ?side1 ?side2 A12.out).mono ?_); (case side1 => exact xc (Kd.R_reads' HO640.out).2.2); (case side2 => exact (Kd.R_reads' HO640.out).2.1); rintro e w25 ⟨v647, rfl, ho0, hb⟩; refine ⟨_, rfl, ?_⟩; replace HO626 := ax (Kd.V_elder' (xV HO626.out) (Kd.R_base ho0) hb); replace HO630 := ax (Kd.N_elder' (xN HO630.out) (Kd.R_base ho0) hb); have HO648 := ax (Kd.R_lower (Kd.R_new' (Kd.R_new' (Kd.R_new' (Kd.R_new' (Kd.R_new' ho0 (Kd.R_lt (xR HO623.out))) (Kd.R_lt (xR HO634.out))) (Kd.R_lt (xR HO637.out))) (Kd.R_lt (xR HO640.out))) (Kd.Q_lt (xQ HO644.out))) (below_size (xb HB.out))); replace HO623 := ax (Kd.R_elder' (xR HO623.out) (Kd.R_base ho0) hb); replace HO634 := ax (Kd.R_elder' (xR HO634.out) (Kd.R_base ho0) hb); replace HO637 := ax (Kd.R_elder' (xR HO637.out) (Kd.R_base ho0) hb); replace HO640 := ax (Kd.R_elder' (xR HO640.out) (Kd.R_base ho0) hb); replace HO644 := ax (Kd.Q_elder' (xQ HO644.out) (Kd.R_base ho0) hb); replace HB := yB HB hb; (try clear hb); (try clear ho0)))
  (try simp only [Act.put, List.setIfInBounds_toArray, List.set_cons_zero, List.set_cons_succ])
  go_cut [106] (fun v106 wc => ∃ (kq : Nat) (x106_12 : Bool), v106 = .bool x106_12 ∧ Aside0 (laws_FnCores.j0 kq t620 t621 t624 t627 t628 t631 t635 x106_12 = some r) ∧ Aside0 (kq ≤ k) ∧ Aside0 (Kd.R (Kd.int .i64) 3 wc w.heap.size (fun k_ => some k_ ≠ ((.slice Ao20 t631.length co20) : Value).ownBlock ∧ some k_ ≠ (v636 : Value).ownBlock) (.slice Ao15 t620.length co15) t620) ∧ Aside0 (Kd.V (Kd.int .i64) 3 wc w.heap.size (fun k_ => some k_ ≠ ((.slice Ao15 t620.length co15) : Value).ownBlock ∧ some k_ ≠ (v629 : Value).ownBlock ∧ some k_ ≠ ((.slice Ao20 t631.length co20) : Value).ownBlock ∧ some k_ ≠ (v636 : Value).ownBlock) v625 t624) ∧ Aside0 (Kd.N (Kd.qslice 3 (Kd.int .i64)) 24 wc w.heap.size (fun k_ => some k_ ≠ ((.slice Ao15 t620.length co15) : Value).ownBlock ∧ some k_ ≠ ((.slice Ao20 t631.length co20) : Value).ownBlock ∧ some k_ ≠ (v636 : Value).ownBlock) v629 t628) ∧ Aside0 (Kd.R (Kd.int .i64) 3 wc w.heap.size (fun k_ => some k_ ≠ ((.slice Ao15 t620.length co15) : Value).ownBlock ∧ some k_ ≠ (v636 : Value).ownBlock) (.slice Ao20 t631.length co20) t631) ∧ Aside0 (Kd.R (Kd.int .i64) 3 wc w.heap.size (fun k_ => some k_ ≠ ((.slice Ao15 t620.length co15) : Value).ownBlock ∧ some k_ ≠ ((.slice Ao20 t631.length co20) : Value).ownBlock) v636 t635) ∧ Aside0 (Below w.heap.size w wc))
  case first =>
   have H := HC13.out
   clear HC13
   obtain ⟨t649, A26, H⟩ := xI H
   obtain ⟨t652, A27, H⟩ := xI H
   by_cases c28 : t652 = true
   ·subst c28
    rw [if_pos rfl] at H
    obtain ⟨t653, A29, H⟩ := xI H
    by_cases c30 : t627 = t653
    ·rw [if_pos c30] at H
     have c30b0 : (t627 == t653) = true := beq_iff_eq.mpr c30
     have c30b1 : (t627 != t653) = false := bne_eq_false_iff_eq.mpr c30
     clear c30
     (first | rw [c30b0] | (simp only [i64_w, i32_w]; rw [c30b0]) | skip)
     obtain ⟨t654, A31, H⟩ := xI H
     obtain ⟨t657, A32, H⟩ := xI H
     by_cases c33 : t657 = true
     ·subst c33
      rw [if_pos rfl] at H
      obtain ⟨t658, A34, H⟩ := xI H
      obtain ⟨t661, A35, H⟩ := xI H
      by_cases c36 : t661 = true
      ·subst c36
       rw [if_pos rfl] at H
       by_cases c37 : (t642 != t646) = true
       ·rw [if_pos c37] at H
        have c37b0 : (t642 != t646) = true := c37
        (try (have c37b1 : decide (t642 = t646) = false := by simpa using c37))
        (try (have c37b2 : (t642 == t646) = false := by simpa using c37))
        (try (have c37b3 : ¬ (t642 = t646) := by simpa using c37))
        clear c37
        have H' := ax H
        clear H
        go_wp2_with (first | ((with_reducible refine gate_callee (f := 15) rfl ?_); refine goesL_ (some 61) rfl rfl Try.func15 (by kernel_rfl) rfl #[.slice Ao15 t620.length co15, .int .i64 t621] rfl xm ?_; (with_reducible refine (spec_CoreOf.calls k _ _ t620 t621 t649 _ ?side1 ?side2 A26.out).mono ?_); (case side1 => exact xc (Kd.R_reads' HO623.out).2.2); (case side2 => exact (Kd.R_reads' HO623.out).2.1); rintro e w38 ⟨v650, rfl, ho0, hb⟩; refine ⟨_, rfl, ?_⟩; replace HO626 := ax (Kd.V_elder' (xV HO626.out) (Kd.R_base ho0) hb); replace HO630 := ax (Kd.N_elder' (xN HO630.out) (Kd.R_base ho0) hb); have HO651 := ax (Kd.R_lower (Kd.R_new' (Kd.R_new' (Kd.R_new' (Kd.R_new' (Kd.R_new' (Kd.R_new' ho0 (Kd.R_lt (xR HO623.out))) (Kd.R_lt (xR HO634.out))) (Kd.R_lt (xR HO637.out))) (Kd.R_lt (xR HO640.out))) (Kd.Q_lt (xQ HO644.out))) (Kd.R_lt (xR HO648.out))) (below_size (xb HB.out))); replace HO623 := ax (Kd.R_elder' (xR HO623.out) (Kd.R_base ho0) hb); replace HO634 := ax (Kd.R_elder' (xR HO634.out) (Kd.R_base ho0) hb); replace HO637 := ax (Kd.R_elder' (xR HO637.out) (Kd.R_base ho0) hb); replace HO640 := ax (Kd.R_elder' (xR HO640.out) (Kd.R_base ho0) hb); replace HO644 := ax (Kd.Q_elder' (xQ HO644.out) (Kd.R_base ho0) hb); replace HO648 := ax (Kd.R_elder' (xR HO648.out) (Kd.R_base ho0) hb); replace HB := yB HB hb; (try clear hb); (try clear ho0); obtain ⟨Ao39, co39, eo39⟩ := Kd.V_slice HO626.out; subst eo39; obtain ⟨Ao40, co40, eo40⟩ := Kd.R_slice HO651.out; subst eo40) | ((with_reducible refine gate_callee (f := 14) rfl ?_); refine goesL_ (some 62) rfl rfl Try.func14 (by kernel_rfl) rfl #[.slice Ao39 t624.length co39, .slice Ao40 t649.length co40] rfl xm ?_; (with_reducible refine (laws_sameInts.calls k _ _ t624 _ _ t649 true _ ?side1 ?side2 ?side3 ?side4 A27.out).mono ?_); (case side1 => exact xc (Kd.V_reads' HO626.out).2.2); (case side2 => exact (Kd.V_reads' HO626.out).2.1); (case side3 => exact xc (Kd.R_reads' HO651.out).2.2); (case side4 => exact (Kd.R_reads' HO651.out).2.1); rintro e w' ⟨rfl, ⟨nd, rfl⟩⟩; refine ⟨_, rfl, ?_⟩) | (go_at_call 16; (with_reducible refine (spec_CoreWeight.calls k _ _ t620 t621 t653 _ ?side1 ?side2 A29.out).mono ?_); (case side1 => exact xc (Kd.R_reads' HO623.out).2.2); (case side2 => exact (Kd.R_reads' HO623.out).2.1); rintro e w41 ⟨rfl, hb⟩; replace HO623 := yR HO623 hb; replace HO626 := yV HO626 hb; replace HO630 := ax (Kd.N_below (xN HO630.out) hb); replace HO634 := yR HO634 hb; replace HO637 := yR HO637 hb; replace HO640 := yR HO640 hb; replace HO644 := ax (Kd.Q_below (xQ HO644.out) hb); replace HO648 := yR HO648 hb; replace HO651 := yR HO651 hb; replace HB := yB HB hb; (try clear hb)) | (go_at_call 18; (with_reducible refine (spec_QuotientOf.calls k _ _ t620 t621 t654 _ ?side1 ?side2 A31.out).mono ?_); (case side1 => exact xc (Kd.R_reads' HO623.out).2.2); (case side2 => exact (Kd.R_reads' HO623.out).2.1); rintro e w42 ⟨v655, rfl, ho0, hb⟩; replace HO626 := ax (Kd.V_elder' (xV HO626.out) (by first | exact Kd.N_base ho0 | exact Kd.S_base ho0 | exact Kd.R_base ho0) hb); have HO656 := ax (Kd.N_lower (Kd.N_mono (ok' := fun k_ => some k_ ≠ (.slice Ao15 t620.length co15 : Value).ownBlock ∧ some k_ ≠ (v629 : Value).ownBlock ∧ some k_ ≠ (.slice Ao20 t631.length co20 : Value).ownBlock ∧ some k_ ≠ (v636 : Value).ownBlock ∧ some k_ ≠ (.slice Ao23 t638.length co23 : Value).ownBlock ∧ some k_ ≠ (v643 : Value).ownBlock ∧ some k_ ≠ (v647 : Value).ownBlock ∧ some k_ ≠ (.slice Ao40 t649.length co40 : Value).ownBlock) (Kd.S_N (Kd.S_bound ho0)) (fun k_ hk_ => ⟨(Kd.fresh' (Kd.R_lt (xR HO623.out)) k_ hk_.2.1), (Kd.fresh' (Kd.N_lt (xN HO630.out)) k_ hk_.2.1), (Kd.fresh' (Kd.R_lt (xR HO634.out)) k_ hk_.2.1), (Kd.fresh' (Kd.R_lt (xR HO637.out)) k_ hk_.2.1), (Kd.fresh' (Kd.R_lt (xR HO640.out)) k_ hk_.2.1), (Kd.fresh' (Kd.Q_lt (xQ HO644.out)) k_ hk_.2.1), (Kd.fresh' (Kd.R_lt (xR HO648.out)) k_ hk_.2.1), (Kd.fresh' (Kd.R_lt (xR HO651.out)) k_ hk_.2.1)⟩)) (below_size (xb HB.out))); replace HO623 := yR HO623 hb; replace HO630 := ax (Kd.N_elder' (xN HO630.out) (by first | exact Kd.N_base ho0 | exact Kd.S_base ho0 | exact Kd.R_base ho0) hb); replace HO634 := yR HO634 hb; replace HO637 := yR HO637 hb; replace HO640 := yR HO640 hb; replace HO644 := ax (Kd.Q_below (xQ HO644.out) hb); replace HO648 := yR HO648 hb; replace HO651 := yR HO651 hb; replace HB := yB HB hb; (try clear hb); (try clear ho0); obtain ⟨Ao43, co43, eo43⟩ := Kd.N_slice HO630.out; subst eo43; obtain ⟨Ao44, co44, eo44⟩ := Kd.N_slice HO656.out; subst eo44) | (go_at_call 17; (with_reducible refine (laws_sameLists.calls k _ _ t628 _ _ t654 true _ ?side1 ?side2 ?side3 ?side4 A32.out).mono ?_); (case side1 => exact xc (Kd.N_reads' HO630.out).2.2); (case side2 => exact (Kd.N_reads' HO630.out).2.1); (case side3 => exact xc (Kd.N_reads' HO656.out).2.2); (case side4 => exact (Kd.N_reads' HO656.out).2.1); rintro e w' ⟨rfl, ⟨nd, rfl⟩⟩) | (go_at_call 19; (with_reducible refine (spec_BetaNumbers.calls k _ _ t631 t632 t658 _ ?side1 ?side2 A34.out).mono ?_); (case side1 => exact xc (Kd.R_reads' HO634.out).2.2); (case side2 => exact (Kd.R_reads' HO634.out).2.1); rintro e w45 ⟨v659, rfl, ho0, hb⟩; replace HO626 := ax (Kd.V_elder' (xV HO626.out) (Kd.R_base ho0) hb); replace HO630 := ax (Kd.N_elder' (xN HO630.out) (Kd.R_base ho0) hb); replace HO656 := ax (Kd.N_elder' (xN HO656.out) (Kd.R_base ho0) hb); have HO660 := ax (Kd.R_lower (Kd.R_new' (Kd.R_new' (Kd.R_new' (Kd.R_new' (Kd.R_new' (Kd.R_new' (Kd.R_new' ho0 (Kd.R_lt (xR HO623.out))) (Kd.R_lt (xR HO634.out))) (Kd.R_lt (xR HO637.out))) (Kd.R_lt (xR HO640.out))) (Kd.Q_lt (xQ HO644.out))) (Kd.R_lt (xR HO648.out))) (Kd.R_lt (xR HO651.out))) (below_size (xb HB.out))); replace HO623 := ax (Kd.R_elder' (xR HO623.out) (Kd.R_base ho0) hb); replace HO634 := ax (Kd.R_elder' (xR HO634.out) (Kd.R_base ho0) hb); replace HO637 := ax (Kd.R_elder' (xR HO637.out) (Kd.R_base ho0) hb); replace HO640 := ax (Kd.R_elder' (xR HO640.out) (Kd.R_base ho0) hb); replace HO644 := ax (Kd.Q_elder' (xQ HO644.out) (Kd.R_base ho0) hb); replace HO648 := ax (Kd.R_elder' (xR HO648.out) (Kd.R_base ho0) hb); replace HO651 := ax (Kd.R_elder' (xR HO651.out) (Kd.R_base ho0) hb); replace HB := yB HB hb; (try clear hb); (try clear ho0); obtain ⟨Ao46, co46, eo46⟩ := Kd.R_slice HO637.out; subst eo46; obtain ⟨Ao47, co47, eo47⟩ := Kd.R_slice HO660.out; subst eo47) | (go_at_call 14; (with_reducible refine (laws_sameInts.calls k _ _ t635 _ _ t658 true _ ?side1 ?side2 ?side3 ?side4 A35.out).mono ?_); (case side1 => exact xc (Kd.R_reads' HO637.out).2.2); (case side2 => exact (Kd.R_reads' HO637.out).2.1); (case side3 => exact xc (Kd.R_reads' HO660.out).2.2); (case side4 => exact (Kd.R_reads' HO660.out).2.1); rintro e w' ⟨rfl, ⟨nd, rfl⟩⟩))
        go_meet
        case rel => exact ⟨_, (true), xr, H', ⟨by first | omega | exact Nat.le_refl _⟩, ⟨by (with_reducible repeat (first | apply Kd.R_alloc | apply Kd.R_drewN | apply Kd.R_drew)); exact Kd.R_mono HO623.out (fun _ hk => ⟨hk.1.1.1.1.1.1.2, hk.1.1.1.1.1.2⟩)⟩, ⟨by (with_reducible repeat (first | apply Kd.V_alloc | apply Kd.V_drewN | apply Kd.V_drew)); exact Kd.V_mono HO626.out (fun _ hk => ⟨hk.1.1.1.1.1.1.1.1.1, ⟨hk.1.1.1.1.1.1.1.1.2, ⟨hk.1.1.1.1.1.1.1.2, hk.1.1.1.1.1.1.2⟩⟩⟩)⟩, ⟨by (with_reducible repeat (first | apply Kd.N_alloc | apply Kd.N_drewN | apply Kd.N_drew)); exact Kd.N_mono HO630.out (fun _ hk => ⟨hk.1.1.1.1.1.1.1.1, ⟨hk.1.1.1.1.1.1.1.2, hk.1.1.1.1.1.1.2⟩⟩)⟩, ⟨by (with_reducible repeat (first | apply Kd.R_alloc | apply Kd.R_drewN | apply Kd.R_drew)); exact Kd.R_mono HO634.out (fun _ hk => ⟨hk.1.1.1.1.1.1.2, hk.1.1.1.1.1.2⟩)⟩, ⟨by (with_reducible repeat (first | apply Kd.R_alloc | apply Kd.R_drewN | apply Kd.R_drew)); exact Kd.R_mono HO637.out (fun _ hk => ⟨hk.1.1.1.1.1.1.2, hk.1.1.1.1.1.2⟩)⟩, ⟨xb HB.out⟩⟩
       ·rw [if_neg c37] at H
        have c37b0 : (t642 != t646) = false := by simpa using c37
        (try (have c37b1 : decide (t642 = t646) = true := by simpa using c37))
        (try (have c37b2 : (t642 == t646) = true := by simpa using c37))
        clear c37
        obtain ⟨t662, A48, H⟩ := xI H
        by_cases c49 : t662 = true
        ·subst c49
         rw [if_pos rfl] at H
         obtain ⟨t663, A50, H⟩ := xI H
         obtain ⟨t664, A51, H⟩ := xI H
         have H' := ax H
         clear H
         go_wp2_with (first | ((with_reducible refine gate_callee (f := 15) rfl ?_); refine goesL_ (some 61) rfl rfl Try.func15 (by kernel_rfl) rfl #[.slice Ao15 t620.length co15, .int .i64 t621] rfl xm ?_; (with_reducible refine (spec_CoreOf.calls k _ _ t620 t621 t649 _ ?side1 ?side2 A26.out).mono ?_); (case side1 => exact xc (Kd.R_reads' HO623.out).2.2); (case side2 => exact (Kd.R_reads' HO623.out).2.1); rintro e w52 ⟨v650, rfl, ho0, hb⟩; refine ⟨_, rfl, ?_⟩; replace HO626 := ax (Kd.V_elder' (xV HO626.out) (Kd.R_base ho0) hb); replace HO630 := ax (Kd.N_elder' (xN HO630.out) (Kd.R_base ho0) hb); have HO651 := ax (Kd.R_lower (Kd.R_new' (Kd.R_new' (Kd.R_new' (Kd.R_new' (Kd.R_new' (Kd.R_new' ho0 (Kd.R_lt (xR HO623.out))) (Kd.R_lt (xR HO634.out))) (Kd.R_lt (xR HO637.out))) (Kd.R_lt (xR HO640.out))) (Kd.Q_lt (xQ HO644.out))) (Kd.R_lt (xR HO648.out))) (below_size (xb HB.out))); replace HO623 := ax (Kd.R_elder' (xR HO623.out) (Kd.R_base ho0) hb); replace HO634 := ax (Kd.R_elder' (xR HO634.out) (Kd.R_base ho0) hb); replace HO637 := ax (Kd.R_elder' (xR HO637.out) (Kd.R_base ho0) hb); replace HO640 := ax (Kd.R_elder' (xR HO640.out) (Kd.R_base ho0) hb); replace HO644 := ax (Kd.Q_elder' (xQ HO644.out) (Kd.R_base ho0) hb); replace HO648 := ax (Kd.R_elder' (xR HO648.out) (Kd.R_base ho0) hb); replace HB := yB HB hb; (try clear hb); (try clear ho0); obtain ⟨Ao53, co53, eo53⟩ := Kd.V_slice HO626.out; subst eo53; obtain ⟨Ao54, co54, eo54⟩ := Kd.R_slice HO651.out; subst eo54) | ((with_reducible refine gate_callee (f := 14) rfl ?_); refine goesL_ (some 62) rfl rfl Try.func14 (by kernel_rfl) rfl #[.slice Ao53 t624.length co53, .slice Ao54 t649.length co54] rfl xm ?_; (with_reducible refine (laws_sameInts.calls k _ _ t624 _ _ t649 true _ ?side1 ?side2 ?side3 ?side4 A27.out).mono ?_); (case side1 => exact xc (Kd.V_reads' HO626.out).2.2); (case side2 => exact (Kd.V_reads' HO626.out).2.1); (case side3 => exact xc (Kd.R_reads' HO651.out).2.2); (case side4 => exact (Kd.R_reads' HO651.out).2.1); rintro e w' ⟨rfl, ⟨nd, rfl⟩⟩; refine ⟨_, rfl, ?_⟩) | (go_at_call 16; (with_reducible refine (spec_CoreWeight.calls k _ _ t620 t621 t653 _ ?side1 ?side2 A29.out).mono ?_); (case side1 => exact xc (Kd.R_reads' HO623.out).2.2); (case side2 => exact (Kd.R_reads' HO623.out).2.1); rintro e w55 ⟨rfl, hb⟩; replace HO623 := yR HO623 hb; replace HO626 := yV HO626 hb; replace HO630 := ax (Kd.N_below (xN HO630.out) hb); replace HO634 := yR HO634 hb; replace HO637 := yR HO637 hb; replace HO640 := yR HO640 hb; replace HO644 := ax (Kd.Q_below (xQ HO644.out) hb); replace HO648 := yR HO648 hb; replace HO651 := yR HO651 hb; replace HB := yB HB hb; (try clear hb)) | (go_at_call 18; (with_reducible refine (spec_QuotientOf.calls k _ _ t620 t621 t654 _ ?side1 ?side2 A31.out).mono ?_); (case side1 => exact xc (Kd.R_reads' HO623.out).2.2); (case side2 => exact (Kd.R_reads' HO623.out).2.1); rintro e w56 ⟨v655, rfl, ho0, hb⟩; replace HO626 := ax (Kd.V_elder' (xV HO626.out) (by first | exact Kd.N_base ho0 | exact Kd.S_base ho0 | exact Kd.R_base ho0) hb); have HO656 := ax (Kd.N_lower (Kd.N_mono (ok' := fun k_ => some k_ ≠ (.slice Ao15 t620.length co15 : Value).ownBlock ∧ some k_ ≠ (v629 : Value).ownBlock ∧ some k_ ≠ (.slice Ao20 t631.length co20 : Value).ownBlock ∧ some k_ ≠ (v636 : Value).ownBlock ∧ some k_ ≠ (.slice Ao23 t638.length co23 : Value).ownBlock ∧ some k_ ≠ (v643 : Value).ownBlock ∧ some k_ ≠ (v647 : Value).ownBlock ∧ some k_ ≠ (.slice Ao54 t649.length co54 : Value).ownBlock) (Kd.S_N (Kd.S_bound ho0)) (fun k_ hk_ => ⟨(Kd.fresh' (Kd.R_lt (xR HO623.out)) k_ hk_.2.1), (Kd.fresh' (Kd.N_lt (xN HO630.out)) k_ hk_.2.1), (Kd.fresh' (Kd.R_lt (xR HO634.out)) k_ hk_.2.1), (Kd.fresh' (Kd.R_lt (xR HO637.out)) k_ hk_.2.1), (Kd.fresh' (Kd.R_lt (xR HO640.out)) k_ hk_.2.1), (Kd.fresh' (Kd.Q_lt (xQ HO644.out)) k_ hk_.2.1), (Kd.fresh' (Kd.R_lt (xR HO648.out)) k_ hk_.2.1), (Kd.fresh' (Kd.R_lt (xR HO651.out)) k_ hk_.2.1)⟩)) (below_size (xb HB.out))); replace HO623 := yR HO623 hb; replace HO630 := ax (Kd.N_elder' (xN HO630.out) (by first | exact Kd.N_base ho0 | exact Kd.S_base ho0 | exact Kd.R_base ho0) hb); replace HO634 := yR HO634 hb; replace HO637 := yR HO637 hb; replace HO640 := yR HO640 hb; replace HO644 := ax (Kd.Q_below (xQ HO644.out) hb); replace HO648 := yR HO648 hb; replace HO651 := yR HO651 hb; replace HB := yB HB hb; (try clear hb); (try clear ho0); obtain ⟨Ao57, co57, eo57⟩ := Kd.N_slice HO630.out; subst eo57; obtain ⟨Ao58, co58, eo58⟩ := Kd.N_slice HO656.out; subst eo58) | (go_at_call 17; (with_reducible refine (laws_sameLists.calls k _ _ t628 _ _ t654 true _ ?side1 ?side2 ?side3 ?side4 A32.out).mono ?_); (case side1 => exact xc (Kd.N_reads' HO630.out).2.2); (case side2 => exact (Kd.N_reads' HO630.out).2.1); (case side3 => exact xc (Kd.N_reads' HO656.out).2.2); (case side4 => exact (Kd.N_reads' HO656.out).2.1); rintro e w' ⟨rfl, ⟨nd, rfl⟩⟩) | (go_at_call 19; (with_reducible refine (spec_BetaNumbers.calls k _ _ t631 t632 t658 _ ?side1 ?side2 A34.out).mono ?_); (case side1 => exact xc (Kd.R_reads' HO634.out).2.2); (case side2 => exact (Kd.R_reads' HO634.out).2.1); rintro e w59 ⟨v659, rfl, ho0, hb⟩; replace HO626 := ax (Kd.V_elder' (xV HO626.out) (Kd.R_base ho0) hb); replace HO630 := ax (Kd.N_elder' (xN HO630.out) (Kd.R_base ho0) hb); replace HO656 := ax (Kd.N_elder' (xN HO656.out) (Kd.R_base ho0) hb); have HO660 := ax (Kd.R_lower (Kd.R_new' (Kd.R_new' (Kd.R_new' (Kd.R_new' (Kd.R_new' (Kd.R_new' (Kd.R_new' ho0 (Kd.R_lt (xR HO623.out))) (Kd.R_lt (xR HO634.out))) (Kd.R_lt (xR HO637.out))) (Kd.R_lt (xR HO640.out))) (Kd.Q_lt (xQ HO644.out))) (Kd.R_lt (xR HO648.out))) (Kd.R_lt (xR HO651.out))) (below_size (xb HB.out))); replace HO623 := ax (Kd.R_elder' (xR HO623.out) (Kd.R_base ho0) hb); replace HO634 := ax (Kd.R_elder' (xR HO634.out) (Kd.R_base ho0) hb); replace HO637 := ax (Kd.R_elder' (xR HO637.out) (Kd.R_base ho0) hb); replace HO640 := ax (Kd.R_elder' (xR HO640.out) (Kd.R_base ho0) hb); replace HO644 := ax (Kd.Q_elder' (xQ HO644.out) (Kd.R_base ho0) hb); replace HO648 := ax (Kd.R_elder' (xR HO648.out) (Kd.R_base ho0) hb); replace HO651 := ax (Kd.R_elder' (xR HO651.out) (Kd.R_base ho0) hb); replace HB := yB HB hb; (try clear hb); (try clear ho0); obtain ⟨Ao60, co60, eo60⟩ := Kd.R_slice HO637.out; subst eo60; obtain ⟨Ao61, co61, eo61⟩ := Kd.R_slice HO660.out; subst eo61) | (go_at_call 14; (with_reducible refine (laws_sameInts.calls k _ _ t635 _ _ t658 true _ ?side1 ?side2 ?side3 ?side4 A35.out).mono ?_); (case side1 => exact xc (Kd.R_reads' HO637.out).2.2); (case side2 => exact (Kd.R_reads' HO637.out).2.1); (case side3 => exact xc (Kd.R_reads' HO660.out).2.2); (case side4 => exact (Kd.R_reads' HO660.out).2.1); rintro e w' ⟨rfl, ⟨nd, rfl⟩⟩; obtain ⟨Ao62, co62, eo62, _⟩ := Kd.Q_slice HO644.out; subst eo62; obtain ⟨Ao63, co63, eo63⟩ := Kd.R_slice HO648.out; subst eo63) | (go_at_call 14; (with_reducible refine (laws_sameInts.calls k _ _ t641 _ _ t645 true _ ?side1 ?side2 ?side3 ?side4 A48.out).mono ?_); (case side1 => exact xc (Kd.Q_reads' HO644.out).2.2); (case side2 => exact (Kd.Q_reads' HO644.out).2.1); (case side3 => exact xc (Kd.R_reads' HO648.out).2.2); (case side4 => exact (Kd.R_reads' HO648.out).2.1); rintro e w' ⟨rfl, ⟨nd, rfl⟩⟩) | (go_at_call 20; (with_reducible refine (impl_IsCore.calls k _ _ t620 t621 t663 _ ?side1 ?side2 A50.out).mono ?_); (case side1 => exact xc (Kd.R_reads' HO623.out).2.2); (case side2 => exact (Kd.R_reads' HO623.out).2.1); rintro e w64 ⟨rfl, hb⟩; replace HO623 := yR HO623 hb; replace HO626 := yV HO626 hb; replace HO630 := ax (Kd.N_below (xN HO630.out) hb); replace HO634 := yR HO634 hb; replace HO637 := yR HO637 hb; replace HO640 := yR HO640 hb; replace HO644 := ax (Kd.Q_below (xQ HO644.out) hb); replace HO648 := yR HO648 hb; replace HO651 := yR HO651 hb; replace HO656 := ax (Kd.N_below (xN HO656.out) hb); replace HO660 := yR HO660 hb; replace HB := yB HB hb; (try clear hb)) | (go_at_call 21; (with_reducible refine (spec_IsCore.calls k _ _ t620 t621 t664 _ ?side1 ?side2 A51.out).mono ?_); (case side1 => exact xc (Kd.R_reads' HO623.out).2.2); (case side2 => exact (Kd.R_reads' HO623.out).2.1); rintro e w65 ⟨rfl, hb⟩; replace HO623 := yR HO623 hb; replace HO626 := yV HO626 hb; replace HO630 := ax (Kd.N_below (xN HO630.out) hb); replace HO634 := yR HO634 hb; replace HO637 := yR HO637 hb; replace HO640 := yR HO640 hb; replace HO644 := ax (Kd.Q_below (xQ HO644.out) hb); replace HO648 := yR HO648 hb; replace HO651 := yR HO651 hb; replace HO656 := ax (Kd.N_below (xN HO656.out) hb); replace HO660 := yR HO660 hb; replace HB := yB HB hb; (try clear hb)))
         go_meet
         case rel => exact ⟨_, ((t663 != t664)), xr, H', ⟨by first | omega | exact Nat.le_refl _⟩, ⟨by (with_reducible repeat (first | apply Kd.R_alloc | apply Kd.R_drewN | apply Kd.R_drew)); exact Kd.R_mono HO623.out (fun _ hk => ⟨hk.1.1.1.1.1.1.2, hk.1.1.1.1.1.2⟩)⟩, ⟨by (with_reducible repeat (first | apply Kd.V_alloc | apply Kd.V_drewN | apply Kd.V_drew)); exact Kd.V_mono HO626.out (fun _ hk => ⟨hk.1.1.1.1.1.1.1.1.1, ⟨hk.1.1.1.1.1.1.1.1.2, ⟨hk.1.1.1.1.1.1.1.2, hk.1.1.1.1.1.1.2⟩⟩⟩)⟩, ⟨by (with_reducible repeat (first | apply Kd.N_alloc | apply Kd.N_drewN | apply Kd.N_drew)); exact Kd.N_mono HO630.out (fun _ hk => ⟨hk.1.1.1.1.1.1.1.1, ⟨hk.1.1.1.1.1.1.1.2, hk.1.1.1.1.1.1.2⟩⟩)⟩, ⟨by (with_reducible repeat (first | apply Kd.R_alloc | apply Kd.R_drewN | apply Kd.R_drew)); exact Kd.R_mono HO634.out (fun _ hk => ⟨hk.1.1.1.1.1.1.2, hk.1.1.1.1.1.2⟩)⟩, ⟨by (with_reducible repeat (first | apply Kd.R_alloc | apply Kd.R_drewN | apply Kd.R_drew)); exact Kd.R_mono HO637.out (fun _ hk => ⟨hk.1.1.1.1.1.1.2, hk.1.1.1.1.1.2⟩)⟩, ⟨xb HB.out⟩⟩
        ·replace c49 := Bool.eq_false_iff.mpr c49
         subst c49
         rw [if_neg (show ¬ (false = true) by decide)] at H
         have H' := ax H
         clear H
         go_wp2_with (first | ((with_reducible refine gate_callee (f := 15) rfl ?_); refine goesL_ (some 61) rfl rfl Try.func15 (by kernel_rfl) rfl #[.slice Ao15 t620.length co15, .int .i64 t621] rfl xm ?_; (with_reducible refine (spec_CoreOf.calls k _ _ t620 t621 t649 _ ?side1 ?side2 A26.out).mono ?_); (case side1 => exact xc (Kd.R_reads' HO623.out).2.2); (case side2 => exact (Kd.R_reads' HO623.out).2.1); rintro e w66 ⟨v650, rfl, ho0, hb⟩; refine ⟨_, rfl, ?_⟩; replace HO626 := ax (Kd.V_elder' (xV HO626.out) (Kd.R_base ho0) hb); replace HO630 := ax (Kd.N_elder' (xN HO630.out) (Kd.R_base ho0) hb); have HO651 := ax (Kd.R_lower (Kd.R_new' (Kd.R_new' (Kd.R_new' (Kd.R_new' (Kd.R_new' (Kd.R_new' ho0 (Kd.R_lt (xR HO623.out))) (Kd.R_lt (xR HO634.out))) (Kd.R_lt (xR HO637.out))) (Kd.R_lt (xR HO640.out))) (Kd.Q_lt (xQ HO644.out))) (Kd.R_lt (xR HO648.out))) (below_size (xb HB.out))); replace HO623 := ax (Kd.R_elder' (xR HO623.out) (Kd.R_base ho0) hb); replace HO634 := ax (Kd.R_elder' (xR HO634.out) (Kd.R_base ho0) hb); replace HO637 := ax (Kd.R_elder' (xR HO637.out) (Kd.R_base ho0) hb); replace HO640 := ax (Kd.R_elder' (xR HO640.out) (Kd.R_base ho0) hb); replace HO644 := ax (Kd.Q_elder' (xQ HO644.out) (Kd.R_base ho0) hb); replace HO648 := ax (Kd.R_elder' (xR HO648.out) (Kd.R_base ho0) hb); replace HB := yB HB hb; (try clear hb); (try clear ho0); obtain ⟨Ao67, co67, eo67⟩ := Kd.V_slice HO626.out; subst eo67; obtain ⟨Ao68, co68, eo68⟩ := Kd.R_slice HO651.out; subst eo68) | ((with_reducible refine gate_callee (f := 14) rfl ?_); refine goesL_ (some 62) rfl rfl Try.func14 (by kernel_rfl) rfl #[.slice Ao67 t624.length co67, .slice Ao68 t649.length co68] rfl xm ?_; (with_reducible refine (laws_sameInts.calls k _ _ t624 _ _ t649 true _ ?side1 ?side2 ?side3 ?side4 A27.out).mono ?_); (case side1 => exact xc (Kd.V_reads' HO626.out).2.2); (case side2 => exact (Kd.V_reads' HO626.out).2.1); (case side3 => exact xc (Kd.R_reads' HO651.out).2.2); (case side4 => exact (Kd.R_reads' HO651.out).2.1); rintro e w' ⟨rfl, ⟨nd, rfl⟩⟩; refine ⟨_, rfl, ?_⟩) | (go_at_call 16; (with_reducible refine (spec_CoreWeight.calls k _ _ t620 t621 t653 _ ?side1 ?side2 A29.out).mono ?_); (case side1 => exact xc (Kd.R_reads' HO623.out).2.2); (case side2 => exact (Kd.R_reads' HO623.out).2.1); rintro e w69 ⟨rfl, hb⟩; replace HO623 := yR HO623 hb; replace HO626 := yV HO626 hb; replace HO630 := ax (Kd.N_below (xN HO630.out) hb); replace HO634 := yR HO634 hb; replace HO637 := yR HO637 hb; replace HO640 := yR HO640 hb; replace HO644 := ax (Kd.Q_below (xQ HO644.out) hb); replace HO648 := yR HO648 hb; replace HO651 := yR HO651 hb; replace HB := yB HB hb; (try clear hb)) | (go_at_call 18; (with_reducible refine (spec_QuotientOf.calls k _ _ t620 t621 t654 _ ?side1 ?side2 A31.out).mono ?_); (case side1 => exact xc (Kd.R_reads' HO623.out).2.2); (case side2 => exact (Kd.R_reads' HO623.out).2.1); rintro e w70 ⟨v655, rfl, ho0, hb⟩; replace HO626 := ax (Kd.V_elder' (xV HO626.out) (by first | exact Kd.N_base ho0 | exact Kd.S_base ho0 | exact Kd.R_base ho0) hb); have HO656 := ax (Kd.N_lower (Kd.N_mono (ok' := fun k_ => some k_ ≠ (.slice Ao15 t620.length co15 : Value).ownBlock ∧ some k_ ≠ (v629 : Value).ownBlock ∧ some k_ ≠ (.slice Ao20 t631.length co20 : Value).ownBlock ∧ some k_ ≠ (v636 : Value).ownBlock ∧ some k_ ≠ (.slice Ao23 t638.length co23 : Value).ownBlock ∧ some k_ ≠ (v643 : Value).ownBlock ∧ some k_ ≠ (v647 : Value).ownBlock ∧ some k_ ≠ (.slice Ao68 t649.length co68 : Value).ownBlock) (Kd.S_N (Kd.S_bound ho0)) (fun k_ hk_ => ⟨(Kd.fresh' (Kd.R_lt (xR HO623.out)) k_ hk_.2.1), (Kd.fresh' (Kd.N_lt (xN HO630.out)) k_ hk_.2.1), (Kd.fresh' (Kd.R_lt (xR HO634.out)) k_ hk_.2.1), (Kd.fresh' (Kd.R_lt (xR HO637.out)) k_ hk_.2.1), (Kd.fresh' (Kd.R_lt (xR HO640.out)) k_ hk_.2.1), (Kd.fresh' (Kd.Q_lt (xQ HO644.out)) k_ hk_.2.1), (Kd.fresh' (Kd.R_lt (xR HO648.out)) k_ hk_.2.1), (Kd.fresh' (Kd.R_lt (xR HO651.out)) k_ hk_.2.1)⟩)) (below_size (xb HB.out))); replace HO623 := yR HO623 hb; replace HO630 := ax (Kd.N_elder' (xN HO630.out) (by first | exact Kd.N_base ho0 | exact Kd.S_base ho0 | exact Kd.R_base ho0) hb); replace HO634 := yR HO634 hb; replace HO637 := yR HO637 hb; replace HO640 := yR HO640 hb; replace HO644 := ax (Kd.Q_below (xQ HO644.out) hb); replace HO648 := yR HO648 hb; replace HO651 := yR HO651 hb; replace HB := yB HB hb; (try clear hb); (try clear ho0); obtain ⟨Ao71, co71, eo71⟩ := Kd.N_slice HO630.out; subst eo71; obtain ⟨Ao72, co72, eo72⟩ := Kd.N_slice HO656.out; subst eo72) | (go_at_call 17; (with_reducible refine (laws_sameLists.calls k _ _ t628 _ _ t654 true _ ?side1 ?side2 ?side3 ?side4 A32.out).mono ?_); (case side1 => exact xc (Kd.N_reads' HO630.out).2.2); (case side2 => exact (Kd.N_reads' HO630.out).2.1); (case side3 => exact xc (Kd.N_reads' HO656.out).2.2); (case side4 => exact (Kd.N_reads' HO656.out).2.1); rintro e w' ⟨rfl, ⟨nd, rfl⟩⟩) | (go_at_call 19; (with_reducible refine (spec_BetaNumbers.calls k _ _ t631 t632 t658 _ ?side1 ?side2 A34.out).mono ?_); (case side1 => exact xc (Kd.R_reads' HO634.out).2.2); (case side2 => exact (Kd.R_reads' HO634.out).2.1); rintro e w73 ⟨v659, rfl, ho0, hb⟩; replace HO626 := ax (Kd.V_elder' (xV HO626.out) (Kd.R_base ho0) hb); replace HO630 := ax (Kd.N_elder' (xN HO630.out) (Kd.R_base ho0) hb); replace HO656 := ax (Kd.N_elder' (xN HO656.out) (Kd.R_base ho0) hb); have HO660 := ax (Kd.R_lower (Kd.R_new' (Kd.R_new' (Kd.R_new' (Kd.R_new' (Kd.R_new' (Kd.R_new' (Kd.R_new' ho0 (Kd.R_lt (xR HO623.out))) (Kd.R_lt (xR HO634.out))) (Kd.R_lt (xR HO637.out))) (Kd.R_lt (xR HO640.out))) (Kd.Q_lt (xQ HO644.out))) (Kd.R_lt (xR HO648.out))) (Kd.R_lt (xR HO651.out))) (below_size (xb HB.out))); replace HO623 := ax (Kd.R_elder' (xR HO623.out) (Kd.R_base ho0) hb); replace HO634 := ax (Kd.R_elder' (xR HO634.out) (Kd.R_base ho0) hb); replace HO637 := ax (Kd.R_elder' (xR HO637.out) (Kd.R_base ho0) hb); replace HO640 := ax (Kd.R_elder' (xR HO640.out) (Kd.R_base ho0) hb); replace HO644 := ax (Kd.Q_elder' (xQ HO644.out) (Kd.R_base ho0) hb); replace HO648 := ax (Kd.R_elder' (xR HO648.out) (Kd.R_base ho0) hb); replace HO651 := ax (Kd.R_elder' (xR HO651.out) (Kd.R_base ho0) hb); replace HB := yB HB hb; (try clear hb); (try clear ho0); obtain ⟨Ao74, co74, eo74⟩ := Kd.R_slice HO637.out; subst eo74; obtain ⟨Ao75, co75, eo75⟩ := Kd.R_slice HO660.out; subst eo75) | (go_at_call 14; (with_reducible refine (laws_sameInts.calls k _ _ t635 _ _ t658 true _ ?side1 ?side2 ?side3 ?side4 A35.out).mono ?_); (case side1 => exact xc (Kd.R_reads' HO637.out).2.2); (case side2 => exact (Kd.R_reads' HO637.out).2.1); (case side3 => exact xc (Kd.R_reads' HO660.out).2.2); (case side4 => exact (Kd.R_reads' HO660.out).2.1); rintro e w' ⟨rfl, ⟨nd, rfl⟩⟩; obtain ⟨Ao76, co76, eo76, _⟩ := Kd.Q_slice HO644.out; subst eo76; obtain ⟨Ao77, co77, eo77⟩ := Kd.R_slice HO648.out; subst eo77) | (go_at_call 14; (with_reducible refine (laws_sameInts.calls k _ _ t641 _ _ t645 false _ ?side1 ?side2 ?side3 ?side4 A48.out).mono ?_); (case side1 => exact xc (Kd.Q_reads' HO644.out).2.2); (case side2 => exact (Kd.Q_reads' HO644.out).2.1); (case side3 => exact xc (Kd.R_reads' HO648.out).2.2); (case side4 => exact (Kd.R_reads' HO648.out).2.1); rintro e w' ⟨rfl, ⟨nd, rfl⟩⟩))
         go_meet
         case rel => exact ⟨_, (true), xr, H', ⟨by first | omega | exact Nat.le_refl _⟩, ⟨by (with_reducible repeat (first | apply Kd.R_alloc | apply Kd.R_drewN | apply Kd.R_drew)); exact Kd.R_mono HO623.out (fun _ hk => ⟨hk.1.1.1.1.1.1.2, hk.1.1.1.1.1.2⟩)⟩, ⟨by (with_reducible repeat (first | apply Kd.V_alloc | apply Kd.V_drewN | apply Kd.V_drew)); exact Kd.V_mono HO626.out (fun _ hk => ⟨hk.1.1.1.1.1.1.1.1.1, ⟨hk.1.1.1.1.1.1.1.1.2, ⟨hk.1.1.1.1.1.1.1.2, hk.1.1.1.1.1.1.2⟩⟩⟩)⟩, ⟨by (with_reducible repeat (first | apply Kd.N_alloc | apply Kd.N_drewN | apply Kd.N_drew)); exact Kd.N_mono HO630.out (fun _ hk => ⟨hk.1.1.1.1.1.1.1.1, ⟨hk.1.1.1.1.1.1.1.2, hk.1.1.1.1.1.1.2⟩⟩)⟩, ⟨by (with_reducible repeat (first | apply Kd.R_alloc | apply Kd.R_drewN | apply Kd.R_drew)); exact Kd.R_mono HO634.out (fun _ hk => ⟨hk.1.1.1.1.1.1.2, hk.1.1.1.1.1.2⟩)⟩, ⟨by (with_reducible repeat (first | apply Kd.R_alloc | apply Kd.R_drewN | apply Kd.R_drew)); exact Kd.R_mono HO637.out (fun _ hk => ⟨hk.1.1.1.1.1.1.2, hk.1.1.1.1.1.2⟩)⟩, ⟨xb HB.out⟩⟩
      ·replace c36 := Bool.eq_false_iff.mpr c36
       subst c36
       rw [if_neg (show ¬ (false = true) by decide)] at H
       have H' := ax H
       clear H
       go_wp2_with (first | ((with_reducible refine gate_callee (f := 15) rfl ?_); refine goesL_ (some 61) rfl rfl Try.func15 (by kernel_rfl) rfl #[.slice Ao15 t620.length co15, .int .i64 t621] rfl xm ?_; (with_reducible refine (spec_CoreOf.calls k _ _ t620 t621 t649 _ ?side1 ?side2 A26.out).mono ?_); (case side1 => exact xc (Kd.R_reads' HO623.out).2.2); (case side2 => exact (Kd.R_reads' HO623.out).2.1); rintro e w78 ⟨v650, rfl, ho0, hb⟩; refine ⟨_, rfl, ?_⟩; replace HO626 := ax (Kd.V_elder' (xV HO626.out) (Kd.R_base ho0) hb); replace HO630 := ax (Kd.N_elder' (xN HO630.out) (Kd.R_base ho0) hb); have HO651 := ax (Kd.R_lower (Kd.R_new' (Kd.R_new' (Kd.R_new' (Kd.R_new' (Kd.R_new' (Kd.R_new' ho0 (Kd.R_lt (xR HO623.out))) (Kd.R_lt (xR HO634.out))) (Kd.R_lt (xR HO637.out))) (Kd.R_lt (xR HO640.out))) (Kd.Q_lt (xQ HO644.out))) (Kd.R_lt (xR HO648.out))) (below_size (xb HB.out))); replace HO623 := ax (Kd.R_elder' (xR HO623.out) (Kd.R_base ho0) hb); replace HO634 := ax (Kd.R_elder' (xR HO634.out) (Kd.R_base ho0) hb); replace HO637 := ax (Kd.R_elder' (xR HO637.out) (Kd.R_base ho0) hb); replace HO640 := ax (Kd.R_elder' (xR HO640.out) (Kd.R_base ho0) hb); replace HO644 := ax (Kd.Q_elder' (xQ HO644.out) (Kd.R_base ho0) hb); replace HO648 := ax (Kd.R_elder' (xR HO648.out) (Kd.R_base ho0) hb); replace HB := yB HB hb; (try clear hb); (try clear ho0); obtain ⟨Ao79, co79, eo79⟩ := Kd.V_slice HO626.out; subst eo79; obtain ⟨Ao80, co80, eo80⟩ := Kd.R_slice HO651.out; subst eo80) | ((with_reducible refine gate_callee (f := 14) rfl ?_); refine goesL_ (some 62) rfl rfl Try.func14 (by kernel_rfl) rfl #[.slice Ao79 t624.length co79, .slice Ao80 t649.length co80] rfl xm ?_; (with_reducible refine (laws_sameInts.calls k _ _ t624 _ _ t649 true _ ?side1 ?side2 ?side3 ?side4 A27.out).mono ?_); (case side1 => exact xc (Kd.V_reads' HO626.out).2.2); (case side2 => exact (Kd.V_reads' HO626.out).2.1); (case side3 => exact xc (Kd.R_reads' HO651.out).2.2); (case side4 => exact (Kd.R_reads' HO651.out).2.1); rintro e w' ⟨rfl, ⟨nd, rfl⟩⟩; refine ⟨_, rfl, ?_⟩) | (go_at_call 16; (with_reducible refine (spec_CoreWeight.calls k _ _ t620 t621 t653 _ ?side1 ?side2 A29.out).mono ?_); (case side1 => exact xc (Kd.R_reads' HO623.out).2.2); (case side2 => exact (Kd.R_reads' HO623.out).2.1); rintro e w81 ⟨rfl, hb⟩; replace HO623 := yR HO623 hb; replace HO626 := yV HO626 hb; replace HO630 := ax (Kd.N_below (xN HO630.out) hb); replace HO634 := yR HO634 hb; replace HO637 := yR HO637 hb; replace HO640 := yR HO640 hb; replace HO644 := ax (Kd.Q_below (xQ HO644.out) hb); replace HO648 := yR HO648 hb; replace HO651 := yR HO651 hb; replace HB := yB HB hb; (try clear hb)) | (go_at_call 18; (with_reducible refine (spec_QuotientOf.calls k _ _ t620 t621 t654 _ ?side1 ?side2 A31.out).mono ?_); (case side1 => exact xc (Kd.R_reads' HO623.out).2.2); (case side2 => exact (Kd.R_reads' HO623.out).2.1); rintro e w82 ⟨v655, rfl, ho0, hb⟩; replace HO626 := ax (Kd.V_elder' (xV HO626.out) (by first | exact Kd.N_base ho0 | exact Kd.S_base ho0 | exact Kd.R_base ho0) hb); have HO656 := ax (Kd.N_lower (Kd.N_mono (ok' := fun k_ => some k_ ≠ (.slice Ao15 t620.length co15 : Value).ownBlock ∧ some k_ ≠ (v629 : Value).ownBlock ∧ some k_ ≠ (.slice Ao20 t631.length co20 : Value).ownBlock ∧ some k_ ≠ (v636 : Value).ownBlock ∧ some k_ ≠ (.slice Ao23 t638.length co23 : Value).ownBlock ∧ some k_ ≠ (v643 : Value).ownBlock ∧ some k_ ≠ (v647 : Value).ownBlock ∧ some k_ ≠ (.slice Ao80 t649.length co80 : Value).ownBlock) (Kd.S_N (Kd.S_bound ho0)) (fun k_ hk_ => ⟨(Kd.fresh' (Kd.R_lt (xR HO623.out)) k_ hk_.2.1), (Kd.fresh' (Kd.N_lt (xN HO630.out)) k_ hk_.2.1), (Kd.fresh' (Kd.R_lt (xR HO634.out)) k_ hk_.2.1), (Kd.fresh' (Kd.R_lt (xR HO637.out)) k_ hk_.2.1), (Kd.fresh' (Kd.R_lt (xR HO640.out)) k_ hk_.2.1), (Kd.fresh' (Kd.Q_lt (xQ HO644.out)) k_ hk_.2.1), (Kd.fresh' (Kd.R_lt (xR HO648.out)) k_ hk_.2.1), (Kd.fresh' (Kd.R_lt (xR HO651.out)) k_ hk_.2.1)⟩)) (below_size (xb HB.out))); replace HO623 := yR HO623 hb; replace HO630 := ax (Kd.N_elder' (xN HO630.out) (by first | exact Kd.N_base ho0 | exact Kd.S_base ho0 | exact Kd.R_base ho0) hb); replace HO634 := yR HO634 hb; replace HO637 := yR HO637 hb; replace HO640 := yR HO640 hb; replace HO644 := ax (Kd.Q_below (xQ HO644.out) hb); replace HO648 := yR HO648 hb; replace HO651 := yR HO651 hb; replace HB := yB HB hb; (try clear hb); (try clear ho0); obtain ⟨Ao83, co83, eo83⟩ := Kd.N_slice HO630.out; subst eo83; obtain ⟨Ao84, co84, eo84⟩ := Kd.N_slice HO656.out; subst eo84) | (go_at_call 17; (with_reducible refine (laws_sameLists.calls k _ _ t628 _ _ t654 true _ ?side1 ?side2 ?side3 ?side4 A32.out).mono ?_); (case side1 => exact xc (Kd.N_reads' HO630.out).2.2); (case side2 => exact (Kd.N_reads' HO630.out).2.1); (case side3 => exact xc (Kd.N_reads' HO656.out).2.2); (case side4 => exact (Kd.N_reads' HO656.out).2.1); rintro e w' ⟨rfl, ⟨nd, rfl⟩⟩) | (go_at_call 19; (with_reducible refine (spec_BetaNumbers.calls k _ _ t631 t632 t658 _ ?side1 ?side2 A34.out).mono ?_); (case side1 => exact xc (Kd.R_reads' HO634.out).2.2); (case side2 => exact (Kd.R_reads' HO634.out).2.1); rintro e w85 ⟨v659, rfl, ho0, hb⟩; replace HO626 := ax (Kd.V_elder' (xV HO626.out) (Kd.R_base ho0) hb); replace HO630 := ax (Kd.N_elder' (xN HO630.out) (Kd.R_base ho0) hb); replace HO656 := ax (Kd.N_elder' (xN HO656.out) (Kd.R_base ho0) hb); have HO660 := ax (Kd.R_lower (Kd.R_new' (Kd.R_new' (Kd.R_new' (Kd.R_new' (Kd.R_new' (Kd.R_new' (Kd.R_new' ho0 (Kd.R_lt (xR HO623.out))) (Kd.R_lt (xR HO634.out))) (Kd.R_lt (xR HO637.out))) (Kd.R_lt (xR HO640.out))) (Kd.Q_lt (xQ HO644.out))) (Kd.R_lt (xR HO648.out))) (Kd.R_lt (xR HO651.out))) (below_size (xb HB.out))); replace HO623 := ax (Kd.R_elder' (xR HO623.out) (Kd.R_base ho0) hb); replace HO634 := ax (Kd.R_elder' (xR HO634.out) (Kd.R_base ho0) hb); replace HO637 := ax (Kd.R_elder' (xR HO637.out) (Kd.R_base ho0) hb); replace HO640 := ax (Kd.R_elder' (xR HO640.out) (Kd.R_base ho0) hb); replace HO644 := ax (Kd.Q_elder' (xQ HO644.out) (Kd.R_base ho0) hb); replace HO648 := ax (Kd.R_elder' (xR HO648.out) (Kd.R_base ho0) hb); replace HO651 := ax (Kd.R_elder' (xR HO651.out) (Kd.R_base ho0) hb); replace HB := yB HB hb; (try clear hb); (try clear ho0); obtain ⟨Ao86, co86, eo86⟩ := Kd.R_slice HO637.out; subst eo86; obtain ⟨Ao87, co87, eo87⟩ := Kd.R_slice HO660.out; subst eo87) | (go_at_call 14; (with_reducible refine (laws_sameInts.calls k _ _ t635 _ _ t658 false _ ?side1 ?side2 ?side3 ?side4 A35.out).mono ?_); (case side1 => exact xc (Kd.R_reads' HO637.out).2.2); (case side2 => exact (Kd.R_reads' HO637.out).2.1); (case side3 => exact xc (Kd.R_reads' HO660.out).2.2); (case side4 => exact (Kd.R_reads' HO660.out).2.1); rintro e w' ⟨rfl, ⟨nd, rfl⟩⟩))
       go_meet
       case rel => exact ⟨_, (true), xr, H', ⟨by first | omega | exact Nat.le_refl _⟩, ⟨by (with_reducible repeat (first | apply Kd.R_alloc | apply Kd.R_drewN | apply Kd.R_drew)); exact Kd.R_mono HO623.out (fun _ hk => ⟨hk.1.1.1.1.1.1.2, hk.1.1.1.1.1.2⟩)⟩, ⟨by (with_reducible repeat (first | apply Kd.V_alloc | apply Kd.V_drewN | apply Kd.V_drew)); exact Kd.V_mono HO626.out (fun _ hk => ⟨hk.1.1.1.1.1.1.1.1.1, ⟨hk.1.1.1.1.1.1.1.1.2, ⟨hk.1.1.1.1.1.1.1.2, hk.1.1.1.1.1.1.2⟩⟩⟩)⟩, ⟨by (with_reducible repeat (first | apply Kd.N_alloc | apply Kd.N_drewN | apply Kd.N_drew)); exact Kd.N_mono HO630.out (fun _ hk => ⟨hk.1.1.1.1.1.1.1.1, ⟨hk.1.1.1.1.1.1.1.2, hk.1.1.1.1.1.1.2⟩⟩)⟩, ⟨by (with_reducible repeat (first | apply Kd.R_alloc | apply Kd.R_drewN | apply Kd.R_drew)); exact Kd.R_mono HO634.out (fun _ hk => ⟨hk.1.1.1.1.1.1.2, hk.1.1.1.1.1.2⟩)⟩, ⟨by (with_reducible repeat (first | apply Kd.R_alloc | apply Kd.R_drewN | apply Kd.R_drew)); exact Kd.R_mono HO637.out (fun _ hk => ⟨hk.1.1.1.1.1.1.2, hk.1.1.1.1.1.2⟩)⟩, ⟨xb HB.out⟩⟩
     ·replace c33 := Bool.eq_false_iff.mpr c33
      subst c33
      rw [if_neg (show ¬ (false = true) by decide)] at H
      have H' := ax H
      clear H
      go_wp2_with (first | ((with_reducible refine gate_callee (f := 15) rfl ?_); refine goesL_ (some 61) rfl rfl Try.func15 (by kernel_rfl) rfl #[.slice Ao15 t620.length co15, .int .i64 t621] rfl xm ?_; (with_reducible refine (spec_CoreOf.calls k _ _ t620 t621 t649 _ ?side1 ?side2 A26.out).mono ?_); (case side1 => exact xc (Kd.R_reads' HO623.out).2.2); (case side2 => exact (Kd.R_reads' HO623.out).2.1); rintro e w88 ⟨v650, rfl, ho0, hb⟩; refine ⟨_, rfl, ?_⟩; replace HO626 := ax (Kd.V_elder' (xV HO626.out) (Kd.R_base ho0) hb); replace HO630 := ax (Kd.N_elder' (xN HO630.out) (Kd.R_base ho0) hb); have HO651 := ax (Kd.R_lower (Kd.R_new' (Kd.R_new' (Kd.R_new' (Kd.R_new' (Kd.R_new' (Kd.R_new' ho0 (Kd.R_lt (xR HO623.out))) (Kd.R_lt (xR HO634.out))) (Kd.R_lt (xR HO637.out))) (Kd.R_lt (xR HO640.out))) (Kd.Q_lt (xQ HO644.out))) (Kd.R_lt (xR HO648.out))) (below_size (xb HB.out))); replace HO623 := ax (Kd.R_elder' (xR HO623.out) (Kd.R_base ho0) hb); replace HO634 := ax (Kd.R_elder' (xR HO634.out) (Kd.R_base ho0) hb); replace HO637 := ax (Kd.R_elder' (xR HO637.out) (Kd.R_base ho0) hb); replace HO640 := ax (Kd.R_elder' (xR HO640.out) (Kd.R_base ho0) hb); replace HO644 := ax (Kd.Q_elder' (xQ HO644.out) (Kd.R_base ho0) hb); replace HO648 := ax (Kd.R_elder' (xR HO648.out) (Kd.R_base ho0) hb); replace HB := yB HB hb; (try clear hb); (try clear ho0); obtain ⟨Ao89, co89, eo89⟩ := Kd.V_slice HO626.out; subst eo89; obtain ⟨Ao90, co90, eo90⟩ := Kd.R_slice HO651.out; subst eo90) | ((with_reducible refine gate_callee (f := 14) rfl ?_); refine goesL_ (some 62) rfl rfl Try.func14 (by kernel_rfl) rfl #[.slice Ao89 t624.length co89, .slice Ao90 t649.length co90] rfl xm ?_; (with_reducible refine (laws_sameInts.calls k _ _ t624 _ _ t649 true _ ?side1 ?side2 ?side3 ?side4 A27.out).mono ?_); (case side1 => exact xc (Kd.V_reads' HO626.out).2.2); (case side2 => exact (Kd.V_reads' HO626.out).2.1); (case side3 => exact xc (Kd.R_reads' HO651.out).2.2); (case side4 => exact (Kd.R_reads' HO651.out).2.1); rintro e w' ⟨rfl, ⟨nd, rfl⟩⟩; refine ⟨_, rfl, ?_⟩) | (go_at_call 16; (with_reducible refine (spec_CoreWeight.calls k _ _ t620 t621 t653 _ ?side1 ?side2 A29.out).mono ?_); (case side1 => exact xc (Kd.R_reads' HO623.out).2.2); (case side2 => exact (Kd.R_reads' HO623.out).2.1); rintro e w91 ⟨rfl, hb⟩; replace HO623 := yR HO623 hb; replace HO626 := yV HO626 hb; replace HO630 := ax (Kd.N_below (xN HO630.out) hb); replace HO634 := yR HO634 hb; replace HO637 := yR HO637 hb; replace HO640 := yR HO640 hb; replace HO644 := ax (Kd.Q_below (xQ HO644.out) hb); replace HO648 := yR HO648 hb; replace HO651 := yR HO651 hb; replace HB := yB HB hb; (try clear hb)) | (go_at_call 18; (with_reducible refine (spec_QuotientOf.calls k _ _ t620 t621 t654 _ ?side1 ?side2 A31.out).mono ?_); (case side1 => exact xc (Kd.R_reads' HO623.out).2.2); (case side2 => exact (Kd.R_reads' HO623.out).2.1); rintro e w92 ⟨v655, rfl, ho0, hb⟩; replace HO626 := ax (Kd.V_elder' (xV HO626.out) (by first | exact Kd.N_base ho0 | exact Kd.S_base ho0 | exact Kd.R_base ho0) hb); have HO656 := ax (Kd.N_lower (Kd.N_mono (ok' := fun k_ => some k_ ≠ (.slice Ao15 t620.length co15 : Value).ownBlock ∧ some k_ ≠ (v629 : Value).ownBlock ∧ some k_ ≠ (.slice Ao20 t631.length co20 : Value).ownBlock ∧ some k_ ≠ (v636 : Value).ownBlock ∧ some k_ ≠ (.slice Ao23 t638.length co23 : Value).ownBlock ∧ some k_ ≠ (v643 : Value).ownBlock ∧ some k_ ≠ (v647 : Value).ownBlock ∧ some k_ ≠ (.slice Ao90 t649.length co90 : Value).ownBlock) (Kd.S_N (Kd.S_bound ho0)) (fun k_ hk_ => ⟨(Kd.fresh' (Kd.R_lt (xR HO623.out)) k_ hk_.2.1), (Kd.fresh' (Kd.N_lt (xN HO630.out)) k_ hk_.2.1), (Kd.fresh' (Kd.R_lt (xR HO634.out)) k_ hk_.2.1), (Kd.fresh' (Kd.R_lt (xR HO637.out)) k_ hk_.2.1), (Kd.fresh' (Kd.R_lt (xR HO640.out)) k_ hk_.2.1), (Kd.fresh' (Kd.Q_lt (xQ HO644.out)) k_ hk_.2.1), (Kd.fresh' (Kd.R_lt (xR HO648.out)) k_ hk_.2.1), (Kd.fresh' (Kd.R_lt (xR HO651.out)) k_ hk_.2.1)⟩)) (below_size (xb HB.out))); replace HO623 := yR HO623 hb; replace HO630 := ax (Kd.N_elder' (xN HO630.out) (by first | exact Kd.N_base ho0 | exact Kd.S_base ho0 | exact Kd.R_base ho0) hb); replace HO634 := yR HO634 hb; replace HO637 := yR HO637 hb; replace HO640 := yR HO640 hb; replace HO644 := ax (Kd.Q_below (xQ HO644.out) hb); replace HO648 := yR HO648 hb; replace HO651 := yR HO651 hb; replace HB := yB HB hb; (try clear hb); (try clear ho0); obtain ⟨Ao93, co93, eo93⟩ := Kd.N_slice HO630.out; subst eo93; obtain ⟨Ao94, co94, eo94⟩ := Kd.N_slice HO656.out; subst eo94) | (go_at_call 17; (with_reducible refine (laws_sameLists.calls k _ _ t628 _ _ t654 false _ ?side1 ?side2 ?side3 ?side4 A32.out).mono ?_); (case side1 => exact xc (Kd.N_reads' HO630.out).2.2); (case side2 => exact (Kd.N_reads' HO630.out).2.1); (case side3 => exact xc (Kd.N_reads' HO656.out).2.2); (case side4 => exact (Kd.N_reads' HO656.out).2.1); rintro e w' ⟨rfl, ⟨nd, rfl⟩⟩))
      go_meet
      case rel => exact ⟨_, (true), xr, H', ⟨by first | omega | exact Nat.le_refl _⟩, ⟨by (with_reducible repeat (first | apply Kd.R_alloc | apply Kd.R_drewN | apply Kd.R_drew)); exact Kd.R_mono HO623.out (fun _ hk => ⟨hk.1.1.1.1.1.2, hk.1.1.1.1.2⟩)⟩, ⟨by (with_reducible repeat (first | apply Kd.V_alloc | apply Kd.V_drewN | apply Kd.V_drew)); exact Kd.V_mono HO626.out (fun _ hk => ⟨hk.1.1.1.1.1.1.1.1, ⟨hk.1.1.1.1.1.1.1.2, ⟨hk.1.1.1.1.1.1.2, hk.1.1.1.1.1.2⟩⟩⟩)⟩, ⟨by (with_reducible repeat (first | apply Kd.N_alloc | apply Kd.N_drewN | apply Kd.N_drew)); exact Kd.N_mono HO630.out (fun _ hk => ⟨hk.1.1.1.1.1.1.1, ⟨hk.1.1.1.1.1.1.2, hk.1.1.1.1.1.2⟩⟩)⟩, ⟨by (with_reducible repeat (first | apply Kd.R_alloc | apply Kd.R_drewN | apply Kd.R_drew)); exact Kd.R_mono HO634.out (fun _ hk => ⟨hk.1.1.1.1.1.2, hk.1.1.1.1.2⟩)⟩, ⟨by (with_reducible repeat (first | apply Kd.R_alloc | apply Kd.R_drewN | apply Kd.R_drew)); exact Kd.R_mono HO637.out (fun _ hk => ⟨hk.1.1.1.1.1.2, hk.1.1.1.1.2⟩)⟩, ⟨xb HB.out⟩⟩
    ·rw [if_neg c30] at H
     have c30b0 : (t627 == t653) = false := beq_eq_false_iff_ne.mpr c30
     have c30b1 : (t627 != t653) = true := bne_iff_ne.mpr c30
     (first | rw [c30b0] | (simp only [i64_w, i32_w]; rw [c30b0]) | skip)
     have H' := ax H
     clear H
     go_wp2_with (first | ((with_reducible refine gate_callee (f := 15) rfl ?_); refine goesL_ (some 61) rfl rfl Try.func15 (by kernel_rfl) rfl #[.slice Ao15 t620.length co15, .int .i64 t621] rfl xm ?_; (with_reducible refine (spec_CoreOf.calls k _ _ t620 t621 t649 _ ?side1 ?side2 A26.out).mono ?_); (case side1 => exact xc (Kd.R_reads' HO623.out).2.2); (case side2 => exact (Kd.R_reads' HO623.out).2.1); rintro e w95 ⟨v650, rfl, ho0, hb⟩; refine ⟨_, rfl, ?_⟩; replace HO626 := ax (Kd.V_elder' (xV HO626.out) (Kd.R_base ho0) hb); replace HO630 := ax (Kd.N_elder' (xN HO630.out) (Kd.R_base ho0) hb); have HO651 := ax (Kd.R_lower (Kd.R_new' (Kd.R_new' (Kd.R_new' (Kd.R_new' (Kd.R_new' (Kd.R_new' ho0 (Kd.R_lt (xR HO623.out))) (Kd.R_lt (xR HO634.out))) (Kd.R_lt (xR HO637.out))) (Kd.R_lt (xR HO640.out))) (Kd.Q_lt (xQ HO644.out))) (Kd.R_lt (xR HO648.out))) (below_size (xb HB.out))); replace HO623 := ax (Kd.R_elder' (xR HO623.out) (Kd.R_base ho0) hb); replace HO634 := ax (Kd.R_elder' (xR HO634.out) (Kd.R_base ho0) hb); replace HO637 := ax (Kd.R_elder' (xR HO637.out) (Kd.R_base ho0) hb); replace HO640 := ax (Kd.R_elder' (xR HO640.out) (Kd.R_base ho0) hb); replace HO644 := ax (Kd.Q_elder' (xQ HO644.out) (Kd.R_base ho0) hb); replace HO648 := ax (Kd.R_elder' (xR HO648.out) (Kd.R_base ho0) hb); replace HB := yB HB hb; (try clear hb); (try clear ho0); obtain ⟨Ao96, co96, eo96⟩ := Kd.V_slice HO626.out; subst eo96; obtain ⟨Ao97, co97, eo97⟩ := Kd.R_slice HO651.out; subst eo97) | ((with_reducible refine gate_callee (f := 14) rfl ?_); refine goesL_ (some 62) rfl rfl Try.func14 (by kernel_rfl) rfl #[.slice Ao96 t624.length co96, .slice Ao97 t649.length co97] rfl xm ?_; (with_reducible refine (laws_sameInts.calls k _ _ t624 _ _ t649 true _ ?side1 ?side2 ?side3 ?side4 A27.out).mono ?_); (case side1 => exact xc (Kd.V_reads' HO626.out).2.2); (case side2 => exact (Kd.V_reads' HO626.out).2.1); (case side3 => exact xc (Kd.R_reads' HO651.out).2.2); (case side4 => exact (Kd.R_reads' HO651.out).2.1); rintro e w' ⟨rfl, ⟨nd, rfl⟩⟩; refine ⟨_, rfl, ?_⟩) | (go_at_call 16; (with_reducible refine (spec_CoreWeight.calls k _ _ t620 t621 t653 _ ?side1 ?side2 A29.out).mono ?_); (case side1 => exact xc (Kd.R_reads' HO623.out).2.2); (case side2 => exact (Kd.R_reads' HO623.out).2.1); rintro e w98 ⟨rfl, hb⟩; replace HO623 := yR HO623 hb; replace HO626 := yV HO626 hb; replace HO630 := ax (Kd.N_below (xN HO630.out) hb); replace HO634 := yR HO634 hb; replace HO637 := yR HO637 hb; replace HO640 := yR HO640 hb; replace HO644 := ax (Kd.Q_below (xQ HO644.out) hb); replace HO648 := yR HO648 hb; replace HO651 := yR HO651 hb; replace HB := yB HB hb; (try clear hb)))
     go_meet
     case rel => exact ⟨_, (true), xr, H', ⟨by first | omega | exact Nat.le_refl _⟩, ⟨by (with_reducible repeat (first | apply Kd.R_alloc | apply Kd.R_drewN | apply Kd.R_drew)); exact Kd.R_mono HO623.out (fun _ hk => ⟨hk.1.1.1.1.1.2, hk.1.1.1.1.2⟩)⟩, ⟨by (with_reducible repeat (first | apply Kd.V_alloc | apply Kd.V_drewN | apply Kd.V_drew)); exact Kd.V_mono HO626.out (fun _ hk => ⟨hk.1.1.1.1.1.1.1, ⟨hk.1.1.1.1.1.1.2, ⟨hk.1.1.1.1.1.2, hk.1.1.1.1.2⟩⟩⟩)⟩, ⟨by (with_reducible repeat (first | apply Kd.N_alloc | apply Kd.N_drewN | apply Kd.N_drew)); exact Kd.N_mono HO630.out (fun _ hk => ⟨hk.1.1.1.1.1.1, ⟨hk.1.1.1.1.1.2, hk.1.1.1.1.2⟩⟩)⟩, ⟨by (with_reducible repeat (first | apply Kd.R_alloc | apply Kd.R_drewN | apply Kd.R_drew)); exact Kd.R_mono HO634.out (fun _ hk => ⟨hk.1.1.1.1.1.2, hk.1.1.1.1.2⟩)⟩, ⟨by (with_reducible repeat (first | apply Kd.R_alloc | apply Kd.R_drewN | apply Kd.R_drew)); exact Kd.R_mono HO637.out (fun _ hk => ⟨hk.1.1.1.1.1.2, hk.1.1.1.1.2⟩)⟩, ⟨xb HB.out⟩⟩
   ·replace c28 := Bool.eq_false_iff.mpr c28
    subst c28
    rw [if_neg (show ¬ (false = true) by decide)] at H
    have H' := ax H
    clear H
    go_wp2_with (first | ((with_reducible refine gate_callee (f := 15) rfl ?_); refine goesL_ (some 61) rfl rfl Try.func15 (by kernel_rfl) rfl #[.slice Ao15 t620.length co15, .int .i64 t621] rfl xm ?_; (with_reducible refine (spec_CoreOf.calls k _ _ t620 t621 t649 _ ?side1 ?side2 A26.out).mono ?_); (case side1 => exact xc (Kd.R_reads' HO623.out).2.2); (case side2 => exact (Kd.R_reads' HO623.out).2.1); rintro e w99 ⟨v650, rfl, ho0, hb⟩; refine ⟨_, rfl, ?_⟩; replace HO626 := ax (Kd.V_elder' (xV HO626.out) (Kd.R_base ho0) hb); replace HO630 := ax (Kd.N_elder' (xN HO630.out) (Kd.R_base ho0) hb); have HO651 := ax (Kd.R_lower (Kd.R_new' (Kd.R_new' (Kd.R_new' (Kd.R_new' (Kd.R_new' (Kd.R_new' ho0 (Kd.R_lt (xR HO623.out))) (Kd.R_lt (xR HO634.out))) (Kd.R_lt (xR HO637.out))) (Kd.R_lt (xR HO640.out))) (Kd.Q_lt (xQ HO644.out))) (Kd.R_lt (xR HO648.out))) (below_size (xb HB.out))); replace HO623 := ax (Kd.R_elder' (xR HO623.out) (Kd.R_base ho0) hb); replace HO634 := ax (Kd.R_elder' (xR HO634.out) (Kd.R_base ho0) hb); replace HO637 := ax (Kd.R_elder' (xR HO637.out) (Kd.R_base ho0) hb); replace HO640 := ax (Kd.R_elder' (xR HO640.out) (Kd.R_base ho0) hb); replace HO644 := ax (Kd.Q_elder' (xQ HO644.out) (Kd.R_base ho0) hb); replace HO648 := ax (Kd.R_elder' (xR HO648.out) (Kd.R_base ho0) hb); replace HB := yB HB hb; (try clear hb); (try clear ho0); obtain ⟨Ao100, co100, eo100⟩ := Kd.V_slice HO626.out; subst eo100; obtain ⟨Ao101, co101, eo101⟩ := Kd.R_slice HO651.out; subst eo101) | ((with_reducible refine gate_callee (f := 14) rfl ?_); refine goesL_ (some 62) rfl rfl Try.func14 (by kernel_rfl) rfl #[.slice Ao100 t624.length co100, .slice Ao101 t649.length co101] rfl xm ?_; (with_reducible refine (laws_sameInts.calls k _ _ t624 _ _ t649 false _ ?side1 ?side2 ?side3 ?side4 A27.out).mono ?_); (case side1 => exact xc (Kd.V_reads' HO626.out).2.2); (case side2 => exact (Kd.V_reads' HO626.out).2.1); (case side3 => exact xc (Kd.R_reads' HO651.out).2.2); (case side4 => exact (Kd.R_reads' HO651.out).2.1); rintro e w' ⟨rfl, ⟨nd, rfl⟩⟩; refine ⟨_, rfl, ?_⟩))
    go_meet
    case rel => exact ⟨_, (true), xr, H', ⟨by first | omega | exact Nat.le_refl _⟩, ⟨by (with_reducible repeat (first | apply Kd.R_alloc | apply Kd.R_drewN | apply Kd.R_drew)); exact Kd.R_mono HO623.out (fun _ hk => ⟨hk.1.1.1.1.1.2, hk.1.1.1.1.2⟩)⟩, ⟨by (with_reducible repeat (first | apply Kd.V_alloc | apply Kd.V_drewN | apply Kd.V_drew)); exact Kd.V_mono HO626.out (fun _ hk => ⟨hk.1.1.1.1.1.1.1, ⟨hk.1.1.1.1.1.1.2, ⟨hk.1.1.1.1.1.2, hk.1.1.1.1.2⟩⟩⟩)⟩, ⟨by (with_reducible repeat (first | apply Kd.N_alloc | apply Kd.N_drewN | apply Kd.N_drew)); exact Kd.N_mono HO630.out (fun _ hk => ⟨hk.1.1.1.1.1.1, ⟨hk.1.1.1.1.1.2, hk.1.1.1.1.2⟩⟩)⟩, ⟨by (with_reducible repeat (first | apply Kd.R_alloc | apply Kd.R_drewN | apply Kd.R_drew)); exact Kd.R_mono HO634.out (fun _ hk => ⟨hk.1.1.1.1.1.2, hk.1.1.1.1.2⟩)⟩, ⟨by (with_reducible repeat (first | apply Kd.R_alloc | apply Kd.R_drewN | apply Kd.R_drew)); exact Kd.R_mono HO637.out (fun _ hk => ⟨hk.1.1.1.1.1.2, hk.1.1.1.1.2⟩)⟩, ⟨xb HB.out⟩⟩
  case rest =>
   clear HC13
   (try clear c3); (try clear c28); (try clear c30); (try clear c30b0); (try clear c30b1); (try clear c33); (try clear c36); (try clear c37); (try clear c37b0); (try clear c37b1); (try clear c37b2); (try clear c49)
   obtain ⟨kq, x106_12, rfl, HA, HJ12, HO_3, HO_5, HO_7, HO_8, HO_10, HB⟩ := hcut
   cases kq with
   | zero => exact absurd HA.out (by simp [laws_FnCores.j0])
   | succ kj12 =>
    have H := HA.out
    clear HA
    simp only [laws_FnCores.j0] at H
    by_cases c102 : x106_12 = true
    ·subst c102
     rw [if_pos rfl] at H
     obtain rfl := Option.some.inj H
     go_wp2
     go_ret
     exact ⟨xe, xb HB.out⟩
    ·replace c102 := Bool.eq_false_iff.mpr c102
     subst c102
     rw [if_neg (show ¬ (false = true) by decide)] at H
     have HC103 := ax H
     clear H
     obtain ⟨Ao104, co104, eo104⟩ := Kd.R_slice HO_10.out
     subst eo104
     go_upto_if 109 with (fail)
     go_cut [] (fun wc => ∃ (kq : Nat), Aside0 (laws_FnCores.j1 kq t620 t621 t624 t627 t628 = some r) ∧ Aside0 (kq ≤ kj12) ∧ Aside0 (Kd.R (Kd.int .i64) 3 wc w.heap.size (fun _ => True) (.slice Ao15 t620.length co15) t620) ∧ Aside0 (Kd.V (Kd.int .i64) 3 wc w.heap.size (fun k_ => some k_ ≠ ((.slice Ao15 t620.length co15) : Value).ownBlock ∧ some k_ ≠ (v629 : Value).ownBlock) v625 t624) ∧ Aside0 (Kd.N (Kd.qslice 3 (Kd.int .i64)) 24 wc w.heap.size (fun k_ => some k_ ≠ ((.slice Ao15 t620.length co15) : Value).ownBlock) v629 t628) ∧ Aside0 (Below w.heap.size w wc))
     case first =>
      have H := HC103.out
      clear HC103
      by_cases c105 : (t635.length : Int) > 0
      ·rw [if_pos c105] at H
       have c105b0 : decide (0 < (t635.length : Int)) = true := decide_eq_true c105
       have c105b1 : decide (0 < t635.length) = true := decide_eq_true (by omega)
       clear c105
       (first | rw [c105b0] | (simp only [i64_w, i32_w]; rw [c105b0]) | skip)
       obtain ⟨⟨t665, t666⟩, A106, H⟩ := xI H
       dsimp only at H
       by_cases c107 : t666 = true
       ·subst c107
        rw [if_pos rfl] at H
        obtain ⟨t669, A108, H⟩ := xI H
        by_cases c109 : t669 = true
        ·subst c109
         rw [if_pos rfl] at H
         have H' := ax H
         clear H
         go_wp2_with (first | ((with_reducible refine gate_callee (f := 12) rfl ?_); refine goesL_ (some 112) rfl rfl Try.func12 (by kernel_rfl) rfl #[.slice Ao104 t635.length co104] rfl xm ?_; (with_reducible refine (impl_FromBeta.calls kj12 _ _ t635 t665 true _ ?side1 ?side2 A106.out).mono ?_); (case side1 => exact xc (Kd.R_reads' HO_10.out).2.2); (case side2 => exact (Kd.R_reads' HO_10.out).2.1); rintro e w110 ⟨v667, rfl, ho0, hb⟩; refine ⟨_, rfl, ?_⟩; replace HO_5 := ax (Kd.V_elder' (xV HO_5.out) (Kd.Q_base ho0) hb); replace HO_7 := ax (Kd.N_elder' (xN HO_7.out) (Kd.Q_base ho0) hb); have HO668 := ax (Kd.Q_lower (Kd.Q_new' (Kd.Q_new' (Kd.Q_new' ho0 (Kd.R_lt (xR HO_3.out))) (Kd.R_lt (xR HO_8.out))) (Kd.R_lt (xR HO_10.out))) (below_size (xb HB.out))); replace HO_3 := ax (Kd.R_elder' (xR HO_3.out) (Kd.Q_base ho0) hb); replace HO_8 := ax (Kd.R_elder' (xR HO_8.out) (Kd.Q_base ho0) hb); replace HO_10 := ax (Kd.R_elder' (xR HO_10.out) (Kd.Q_base ho0) hb); replace HB := yB HB hb; (try clear hb); (try clear ho0); obtain ⟨Ao111, co111, eo111, _⟩ := Kd.Q_slice HO668.out; subst eo111) | (go_at_call 14; (with_reducible refine (laws_sameInts.calls kj12 _ _ t665 _ _ t631 true _ ?side1 ?side2 ?side3 ?side4 A108.out).mono ?_); (case side1 => exact xc (Kd.Q_reads' HO668.out).2.2); (case side2 => exact (Kd.Q_reads' HO668.out).2.1); (case side3 => exact xc (Kd.R_reads' HO_8.out).2.2); (case side4 => exact (Kd.R_reads' HO_8.out).2.1); rintro e w' ⟨rfl, ⟨nd, rfl⟩⟩))
         try any_goals (exfalso; exact absurd (of_decide_eq_true c105b1) (by assumption))
         go_meet
         case rel => exact ⟨_, H', ⟨by have := HJ12.out; first | omega | exact Nat.le_refl _⟩, ⟨by (with_reducible repeat (first | apply Kd.R_alloc | apply Kd.R_drewN | apply Kd.R_drew)); exact Kd.R_mono HO_3.out (fun _ hk => trivial)⟩, ⟨by (with_reducible repeat (first | apply Kd.V_alloc | apply Kd.V_drewN | apply Kd.V_drew)); exact Kd.V_mono HO_5.out (fun _ hk => ⟨hk.1.1, hk.1.2.1⟩)⟩, ⟨by (with_reducible repeat (first | apply Kd.N_alloc | apply Kd.N_drewN | apply Kd.N_drew)); exact Kd.N_mono HO_7.out (fun _ hk => hk.1.1)⟩, ⟨xb HB.out⟩⟩
        ·replace c109 := Bool.eq_false_iff.mpr c109
         subst c109
         rw [if_neg (show ¬ (false = true) by decide)] at H
         obtain rfl := Option.some.inj H
         go_wp2_with (first | ((with_reducible refine gate_callee (f := 12) rfl ?_); refine goesL_ (some 112) rfl rfl Try.func12 (by kernel_rfl) rfl #[.slice Ao104 t635.length co104] rfl xm ?_; (with_reducible refine (impl_FromBeta.calls kj12 _ _ t635 t665 true _ ?side1 ?side2 A106.out).mono ?_); (case side1 => exact xc (Kd.R_reads' HO_10.out).2.2); (case side2 => exact (Kd.R_reads' HO_10.out).2.1); rintro e w112 ⟨v667, rfl, ho0, hb⟩; refine ⟨_, rfl, ?_⟩; replace HO_5 := ax (Kd.V_elder' (xV HO_5.out) (Kd.Q_base ho0) hb); replace HO_7 := ax (Kd.N_elder' (xN HO_7.out) (Kd.Q_base ho0) hb); have HO668 := ax (Kd.Q_lower (Kd.Q_new' (Kd.Q_new' (Kd.Q_new' ho0 (Kd.R_lt (xR HO_3.out))) (Kd.R_lt (xR HO_8.out))) (Kd.R_lt (xR HO_10.out))) (below_size (xb HB.out))); replace HO_3 := ax (Kd.R_elder' (xR HO_3.out) (Kd.Q_base ho0) hb); replace HO_8 := ax (Kd.R_elder' (xR HO_8.out) (Kd.Q_base ho0) hb); replace HO_10 := ax (Kd.R_elder' (xR HO_10.out) (Kd.Q_base ho0) hb); replace HB := yB HB hb; (try clear hb); (try clear ho0); obtain ⟨Ao113, co113, eo113, _⟩ := Kd.Q_slice HO668.out; subst eo113) | (go_at_call 14; (with_reducible refine (laws_sameInts.calls kj12 _ _ t665 _ _ t631 false _ ?side1 ?side2 ?side3 ?side4 A108.out).mono ?_); (case side1 => exact xc (Kd.Q_reads' HO668.out).2.2); (case side2 => exact (Kd.Q_reads' HO668.out).2.1); (case side3 => exact xc (Kd.R_reads' HO_8.out).2.2); (case side4 => exact (Kd.R_reads' HO_8.out).2.1); rintro e w' ⟨rfl, ⟨nd, rfl⟩⟩))
         try any_goals (exfalso; exact absurd (of_decide_eq_true c105b1) (by assumption))
         go_ret
         exact ⟨xe, xb HB.out⟩
       ·replace c107 := Bool.eq_false_iff.mpr c107
        subst c107
        rw [if_neg (show ¬ (false = true) by decide)] at H
        obtain rfl := Option.some.inj H
        go_wp2_with (first | ((with_reducible refine gate_callee (f := 12) rfl ?_); refine goesL_ (some 112) rfl rfl Try.func12 (by kernel_rfl) rfl #[.slice Ao104 t635.length co104] rfl xm ?_; (with_reducible refine (impl_FromBeta.calls kj12 _ _ t635 t665 false _ ?side1 ?side2 A106.out).mono ?_); (case side1 => exact xc (Kd.R_reads' HO_10.out).2.2); (case side2 => exact (Kd.R_reads' HO_10.out).2.1); rintro e w114 ⟨v667, rfl, ho0, hb⟩; refine ⟨_, rfl, ?_⟩; replace HO_5 := ax (Kd.V_elder' (xV HO_5.out) (Kd.Q_base ho0) hb); replace HO_7 := ax (Kd.N_elder' (xN HO_7.out) (Kd.Q_base ho0) hb); have HO668 := ax (Kd.Q_lower (Kd.Q_new' (Kd.Q_new' (Kd.Q_new' ho0 (Kd.R_lt (xR HO_3.out))) (Kd.R_lt (xR HO_8.out))) (Kd.R_lt (xR HO_10.out))) (below_size (xb HB.out))); replace HO_3 := ax (Kd.R_elder' (xR HO_3.out) (Kd.Q_base ho0) hb); replace HO_8 := ax (Kd.R_elder' (xR HO_8.out) (Kd.Q_base ho0) hb); replace HO_10 := ax (Kd.R_elder' (xR HO_10.out) (Kd.Q_base ho0) hb); replace HB := yB HB hb; (try clear hb); (try clear ho0)))
        try any_goals (exfalso; exact absurd (of_decide_eq_true c105b1) (by assumption))
        go_ret
        exact ⟨xe, xb HB.out⟩
      ·rw [if_neg c105] at H
       have c105b0 : decide (0 < (t635.length : Int)) = false := decide_eq_false c105
       have c105b1 : decide (0 < t635.length) = false := decide_eq_false (by omega)
       clear c105
       (first | rw [c105b0] | (simp only [i64_w, i32_w]; rw [c105b0]) | skip)
       have H' := ax H
       clear H
       go_wp2
       try any_goals (exfalso; exact absurd (by assumption) (of_decide_eq_false c105b1))
       go_meet
       case rel => exact ⟨_, H', ⟨by have := HJ12.out; first | omega | exact Nat.le_refl _⟩, ⟨by (with_reducible repeat (first | apply Kd.R_alloc | apply Kd.R_drewN | apply Kd.R_drew)); exact Kd.R_mono HO_3.out (fun _ hk => trivial)⟩, ⟨by (with_reducible repeat (first | apply Kd.V_alloc | apply Kd.V_drewN | apply Kd.V_drew)); exact Kd.V_mono HO_5.out (fun _ hk => ⟨hk.1, hk.2.1⟩)⟩, ⟨by (with_reducible repeat (first | apply Kd.N_alloc | apply Kd.N_drewN | apply Kd.N_drew)); exact Kd.N_mono HO_7.out (fun _ hk => hk.1)⟩, ⟨xb HB.out⟩⟩
     case rest =>
      clear HC103
      (try clear c3); (try clear c28); (try clear c30); (try clear c30b0); (try clear c30b1); (try clear c33); (try clear c36); (try clear c37); (try clear c37b0); (try clear c37b1); (try clear c37b2); (try clear c49); (try clear c102); (try clear c105); (try clear c105b0); (try clear c105b1); (try clear c107); (try clear c109)
      obtain ⟨kq, HA, HJ102, HO_3, HO_5, HO_7, HB⟩ := hcut
      cases kq with
      | zero => exact absurd HA.out (by simp [laws_FnCores.j1])
      | succ kj102 =>
       have H := HA.out
       clear HA
       simp only [laws_FnCores.j1] at H
       by_cases c115 : t627 < 0
       ·rw [if_pos c115] at H
        have c115b0 := decide_eq_true c115
        clear c115
        by_cases c116 : (t624.length : Int) = 0
        ·rw [if_pos c116] at H
         have c116b0 : ((t624.length : Int) == 0) = true := beq_iff_eq.mpr c116
         have c116b1 : ((t624.length : Int) != 0) = false := bne_eq_false_iff_eq.mpr c116
         clear c116
         obtain rfl := Option.some.inj H
         obtain ⟨Ao117, co117, eo117⟩ := Kd.V_slice HO_5.out
         subst eo117
         obtain ⟨Ao118, co118, eo118⟩ := Kd.N_slice HO_7.out
         subst eo118
         go_wp2
         go_ret
         exact ⟨xe, xb HB.out⟩
        ·rw [if_neg c116] at H
         have c116b0 : ((t624.length : Int) == 0) = false := beq_eq_false_iff_ne.mpr c116
         have c116b1 : ((t624.length : Int) != 0) = true := bne_iff_ne.mpr c116
         have c116b2 : ¬ (t624 = []) := fun h_ => c116 (by rw [h_]; rfl)
         obtain rfl := Option.some.inj H
         obtain ⟨Ao119, co119, eo119⟩ := Kd.V_slice HO_5.out
         subst eo119
         go_wp2
         go_ret
         exact ⟨xe, xb HB.out⟩
       ·rw [if_neg c115] at H
        have c115b0 := decide_eq_false c115
        clear c115
        have H' := ax H
        clear H
        go_wp2
        go_loopg [18, 19] kj102 (fun kq v18 v19 w' => ∃ (x18_3 : Int) (x19_3 : Int), v18 = .int .i64 x18_3 ∧ v19 = .int .i64 x19_3 ∧ Aside0 (laws_FnCores.l0 kq t620 t621 t624 t627 t628 x18_3 x19_3 = some r) ∧ Aside0 (kq ≤ kj102) ∧ Aside0 (Kd.R (Kd.int .i64) 3 w' w.heap.size (fun _ => True) (.slice Ao15 t620.length co15) t620) ∧ Aside0 (Kd.V (Kd.int .i64) 3 w' w.heap.size (fun k_ => some k_ ≠ ((.slice Ao15 t620.length co15) : Value).ownBlock ∧ some k_ ≠ (v629 : Value).ownBlock) v625 t624) ∧ Aside0 (Kd.N (Kd.qslice 3 (Kd.int .i64)) 24 w' w.heap.size (fun k_ => some k_ ≠ ((.slice Ao15 t620.length co15) : Value).ownBlock) v629 t628) ∧ Aside0 (Below w.heap.size w w'))
        case atStart => exact ⟨(0), (0), xr, xr, H', ⟨Nat.le_refl _⟩, ⟨xR HO_3.out⟩, ⟨xV HO_5.out⟩, ⟨xN HO_7.out⟩, ⟨xb HB.out⟩⟩
        case round =>
         clear H'
         (try clear c3); (try clear c28); (try clear c30); (try clear c30b0); (try clear c30b1); (try clear c33); (try clear c36); (try clear c37); (try clear c37b0); (try clear c37b1); (try clear c37b2); (try clear c49); (try clear c102); (try clear c105); (try clear c105b0); (try clear c105b1); (try clear c107); (try clear c109); (try clear c115); (try clear c115b0); (try clear c116); (try clear c116b0); (try clear c116b1); (try clear c116b2)
         obtain ⟨x18_3, x19_3, rfl, rfl, HA, HK3, HO_3, HO_5, HO_7, HB⟩ := hrel
         cases gk with
         | zero => exact absurd HA.out (by simp [laws_FnCores.l0])
         | succ k3 =>
          have H := HA.out
          clear HA
          simp only [laws_FnCores.l0] at H
          by_cases c120 : x19_3 < (t628.length : Int)
          ·rw [if_pos c120] at H
           have c120b0 := decide_eq_true c120
           clear c120
           by_cases c121 : 0 ≤ x19_3
           case neg => (rw [if_neg c121] at H; exact absurd H (by simp))
           rw [if_pos c121] at H
           have c121b0 := decide_eq_true c121
           clear c121
           obtain ⟨t671, A122, H⟩ := xI H
           have H' := ax H
           clear H
           obtain ⟨Ao123, co123, eo123⟩ := Kd.N_slice HO_7.out
           subst eo123
           have p670 : 0 ≤ (x19_3 : Int) := xd
           have q670 : x19_3 < (t628.length : Int) := xd
           obtain ⟨ad670, A670_0, c670_0, e670, hx670_0, hl670_0, hi670_0⟩ := at_L2 (Kd.N_reads' HO_7.out).2.2 x19_3 p670 q670
           cases e670
           obtain ⟨ce670, hce670, hMe670, hcc670⟩ := Kd.N_get HO_7.out [] x19_3 p670 (by first | exact q670 | exact xd | (have e_ := (Kd.N_reads' HO_7.out).1; omega))
           obtain ⟨ua670_0, uc670_0, rfl, ul670_0, ge670_0⟩ := Kd.FK_slice_open (e := 3) (d := Kd.int .i64) hMe670
           have hv670_0 := hcc670 0 _ rfl
           rw [Nat.add_zero, show ((Kd.qslice 3 (Kd.int .i64))).sz = 1 from rfl, Nat.mul_one] at hv670_0
           replace hv670_0 := Option.some.inj (hv670_0.symm.trans hx670_0)
           injection hv670_0 with hva_ hvn_ hvc_
           rw [hva_] at ge670_0
           rw [hvc_] at ul670_0
           have HL670_0 := ax (show Kd.V (Kd.int .i64) 3 _ w.heap.size _ _ (rd_L2 t628 x19_3) from Kd.V_mk ul670_0 ge670_0)
           clear hva_ hvn_ hvc_ ge670_0 ul670_0 hcc670 hce670
           have HR670_0 := ax hi670_0
           have HC670_0 := ax hl670_0
           clear hi670_0 hl670_0
           replace p670 := eq_true p670
           replace q670 := eq_true q670
           go_wp2_with (first | ((with_reducible refine gate_callee (f := 22) rfl ?_); refine goesL_ (some 144) rfl rfl Try.func22 (by kernel_rfl) rfl #[.slice A670_0 (rd_L2 t628 x19_3).length c670_0] rfl xm ?_; (with_reducible refine (spec_SizeOf.calls k3 _ _ (rd_L2 t628 x19_3) t671 _ ?side1 ?side2 A122.out).mono ?_); (case side1 => exact xw HR670_0.out); (case side2 => exact HC670_0.out); rintro e w124 ⟨rfl, hb⟩; refine ⟨_, rfl, ?_⟩; replace HO_3 := yR HO_3 hb; replace HO_5 := yV HO_5 hb; replace HO_7 := ax (Kd.N_below (xN HO_7.out) hb); replace HL670_0 := yV HL670_0 hb; replace HR670_0 := ax (Kd.C_below (xw HR670_0.out) hb); replace HB := yB HB hb; (try clear hb)))
           go_roundg k3
           case measure => have := HJ12.out; have := HJ102.out; have := HK3.out; omega
           case rel => exact ⟨(wrap64 (x18_3 + t671)), (wrap64 (x19_3 + 1)), xr, xr, H', ⟨by have := HJ12.out; have := HJ102.out; have := HK3.out; omega⟩, ⟨xR HO_3.out⟩, ⟨xV HO_5.out⟩, ⟨xN HO_7.out⟩, ⟨xb HB.out⟩⟩
          ·rw [if_neg c120] at H
           have c120b0 := decide_eq_false c120
           clear c120
           obtain ⟨t672, A125, H⟩ := xI H
           have H' := ax H
           clear H
           obtain ⟨Ao126, co126, eo126⟩ := Kd.N_slice HO_7.out
           subst eo126
           go_wp2_with (first | ((with_reducible refine gate_callee (f := 23) rfl ?_); refine goesL_ (some 148) rfl rfl Try.func23 (by kernel_rfl) rfl #[.slice Ao15 t620.length co15, .int .i64 t621] rfl xm ?_; (with_reducible refine (spec_RibbonsInside.calls k3 _ _ t620 t621 t672 _ ?side1 ?side2 A125.out).mono ?_); (case side1 => exact xc (Kd.R_reads' HO_3.out).2.2); (case side2 => exact (Kd.R_reads' HO_3.out).2.1); rintro e w127 ⟨v673, rfl, ho0, hb⟩; refine ⟨_, rfl, ?_⟩; replace HO_5 := ax (Kd.V_elder' (xV HO_5.out) (by first | exact Kd.N_base ho0 | exact Kd.S_base ho0 | exact Kd.R_base ho0) hb); have HO674 := ax (Kd.N_lower (Kd.N_mono (ok' := fun k_ => some k_ ≠ (.slice Ao15 t620.length co15 : Value).ownBlock ∧ some k_ ≠ (.slice Ao126 t628.length co126 : Value).ownBlock) ho0 (fun k_ hk_ => ⟨(Kd.fresh' (Kd.R_lt (xR HO_3.out)) k_ hk_), (Kd.fresh' (Kd.N_lt (xN HO_7.out)) k_ hk_)⟩)) (below_size (xb HB.out))); replace HO_3 := yR HO_3 hb; replace HO_7 := ax (Kd.N_elder' (xN HO_7.out) (by first | exact Kd.N_base ho0 | exact Kd.S_base ho0 | exact Kd.R_base ho0) hb); replace HB := yB HB hb; (try clear hb); (try clear ho0)))
           go_loopg [21] k3 (fun kq v21 w' => ∃ (x21_4 : Int), v21 = .int .i64 x21_4 ∧ Aside0 (laws_FnCores.l1 kq t620 t621 t624 t627 t628 x18_3 t672 x21_4 = some r) ∧ Aside0 (kq ≤ k3) ∧ Aside0 (Kd.R (Kd.int .i64) 3 w' w.heap.size (fun _ => True) (.slice Ao15 t620.length co15) t620) ∧ Aside0 (Kd.V (Kd.int .i64) 3 w' w.heap.size (fun k_ => some k_ ≠ ((.slice Ao15 t620.length co15) : Value).ownBlock ∧ some k_ ≠ ((.slice Ao126 t628.length co126) : Value).ownBlock ∧ some k_ ≠ (v673 : Value).ownBlock) v625 t624) ∧ Aside0 (Kd.N (Kd.qslice 3 (Kd.int .i64)) 24 w' w.heap.size (fun k_ => some k_ ≠ ((.slice Ao15 t620.length co15) : Value).ownBlock ∧ some k_ ≠ (v673 : Value).ownBlock) (.slice Ao126 t628.length co126) t628) ∧ Aside0 (Kd.N k41 41 w' w.heap.size (fun k_ => some k_ ≠ ((.slice Ao15 t620.length co15) : Value).ownBlock ∧ some k_ ≠ ((.slice Ao126 t628.length co126) : Value).ownBlock) v673 t672) ∧ Aside0 (Below w.heap.size w w'))
           case atStart => exact ⟨(0), xr, H', ⟨Nat.le_refl _⟩, ⟨xR HO_3.out⟩, ⟨by (with_reducible repeat (first | apply Kd.V_alloc | apply Kd.V_drewN | apply Kd.V_drew)); exact Kd.V_mono HO_5.out (fun _ hk => ⟨hk.1.1, ⟨hk.1.2, hk.2⟩⟩)⟩, ⟨xN HO_7.out⟩, ⟨xN HO674.out⟩, ⟨xb HB.out⟩⟩
           case round =>
            clear H'
            (try clear c3); (try clear c28); (try clear c30); (try clear c30b0); (try clear c30b1); (try clear c33); (try clear c36); (try clear c37); (try clear c37b0); (try clear c37b1); (try clear c37b2); (try clear c49); (try clear c102); (try clear c105); (try clear c105b0); (try clear c105b1); (try clear c107); (try clear c109); (try clear c115); (try clear c115b0); (try clear c116); (try clear c116b0); (try clear c116b1); (try clear c116b2); (try clear c120); (try clear c120b0); (try clear c121); (try clear c121b0); (try clear hx670_0); (try clear p670); (try clear q670)
            obtain ⟨x21_4, rfl, HA, HK4, HO_3, HO_5, HO_7, HO_20, HB⟩ := hrel
            cases gk with
            | zero => exact absurd HA.out (by simp [laws_FnCores.l1])
            | succ k4 =>
             have H := HA.out
             clear HA
             simp only [laws_FnCores.l1] at H
             by_cases c128 : x21_4 < (t672.length : Int)
             ·rw [if_pos c128] at H
              have c128b0 := decide_eq_true c128
              clear c128
              by_cases c129 : 0 ≤ x21_4
              case neg => (rw [if_neg c129] at H; exact absurd H (by simp))
              rw [if_pos c129] at H
              have c129b0 := decide_eq_true c129
              clear c129
              obtain ⟨t679, A130, H⟩ := xI H
              obtain ⟨t682, A131, H⟩ := xI H
              by_cases c132 : t682 = true
              ·subst c132
               rw [if_pos rfl] at H
               have H' := ax H
               clear H
               obtain ⟨Ao133, co133, eo133⟩ := Kd.N_slice HO_20.out
               subst eo133
               have p678 : 0 ≤ (x21_4 : Int) := xd
               have q678 : x21_4 < (t672.length : Int) := xd
               obtain ⟨ad678, A678_0, c678_0, A678_1, c678_1, e678, hx678_0, hx678_1, hl678_0, hi678_0, hl678_1, hi678_1⟩ := at_T41 (Kd.N_reads' HO_20.out).2.2 x21_4 p678 q678
               cases e678
               obtain ⟨ce678, hce678, hMe678, hcc678⟩ := Kd.N_get HO_20.out z41 x21_4 p678 (by first | exact q678 | exact xd | (have e_ := (Kd.N_reads' HO_20.out).1; omega))
               obtain ⟨ua678_0, uc678_0, ua678_1, uc678_1, rfl, ul678_0, ge678_0, ul678_1, ge678_1⟩ := k41_openF hMe678
               have hv678_0 := hcc678 0 _ rfl
               rw [Nat.add_zero] at hv678_0
               replace hv678_0 := Option.some.inj (hv678_0.symm.trans hx678_0)
               injection hv678_0 with hva_ hvn_ hvc_
               rw [hva_] at ge678_0
               rw [hvc_] at ul678_0
               have HL678_0 := ax (show Kd.V (Kd.int .i64) 3 _ w.heap.size _ _ ((rd_T41 t672 x21_4).f0) from Kd.V_mk ul678_0 ge678_0)
               clear hva_ hvn_ hvc_ ge678_0 ul678_0
               have hv678_1 := hcc678 1 _ rfl
               rw [add_field _ _ 1 (by omega)] at hv678_1
               replace hv678_1 := Option.some.inj (hv678_1.symm.trans hx678_1)
               injection hv678_1 with hva_ hvn_ hvc_
               rw [hva_] at ge678_1
               rw [hvc_] at ul678_1
               have HL678_1 := ax (show Kd.V (Kd.int .i64) 3 _ w.heap.size _ _ ((rd_T41 t672 x21_4).f1) from Kd.V_mk ul678_1 ge678_1)
               clear hva_ hvn_ hvc_ ge678_1 ul678_1 hcc678 hce678
               have HR678_0 := ax hi678_0
               have HC678_0 := ax hl678_0
               clear hi678_0 hl678_0
               have HR678_1 := ax hi678_1
               have HC678_1 := ax hl678_1
               clear hi678_1 hl678_1
               replace p678 := eq_true p678
               replace q678 := eq_true q678
               go_wp2_with (first | ((with_reducible refine gate_callee (f := 6) rfl ?_); refine goesL_ (some 161) rfl rfl Try.func6 (by kernel_rfl) rfl #[.slice A678_1 ((rd_T41 t672 x21_4).f1).length c678_1, .int .i64 t621] rfl xm ?_; (with_reducible refine (impl_CoreOf.calls k4 _ _ ((rd_T41 t672 x21_4).f1) t621 t679 _ ?side1 ?side2 A130.out).mono ?_); (case side1 => exact xw HR678_1.out); (case side2 => exact HC678_1.out); rintro e w134 ⟨v680, rfl, ho0, hb⟩; refine ⟨_, rfl, ?_⟩; replace HO_5 := yV HO_5 hb; replace HL678_0 := yV HL678_0 hb; replace HL678_1 := yV HL678_1 hb; have HO681 := ax (Kd.V_lower (Kd.V_mono (ok' := fun k_ => some k_ ≠ (.slice Ao15 t620.length co15 : Value).ownBlock ∧ some k_ ≠ (.slice Ao126 t628.length co126 : Value).ownBlock ∧ some k_ ≠ (.slice (some ad678) t672.length co133 : Value).ownBlock) ho0 (fun k_ hk_ => ⟨(Kd.fresh' (Kd.R_lt (xR HO_3.out)) k_ hk_), (Kd.fresh' (Kd.N_lt (xN HO_7.out)) k_ hk_), (Kd.fresh' (Kd.N_lt (xN HO_20.out)) k_ hk_)⟩)) (below_size (xb HB.out))); replace HO_3 := yR HO_3 hb; replace HO_7 := ax (Kd.N_below (xN HO_7.out) hb); replace HO_20 := ax (Kd.N_below (xN HO_20.out) hb); replace HR678_0 := ax (Kd.C_below (xw HR678_0.out) hb); replace HR678_1 := ax (Kd.C_below (xw HR678_1.out) hb); replace HB := yB HB hb; (try clear hb); (try clear ho0); obtain ⟨Ao135, co135, eo135⟩ := Kd.V_slice HO681.out; subst eo135; obtain ⟨Ao136, co136, eo136⟩ := Kd.V_slice HO_5.out; subst eo136) | ((with_reducible refine gate_callee (f := 14) rfl ?_); refine goesL_ (some 163) rfl rfl Try.func14 (by kernel_rfl) rfl #[.slice Ao135 t679.length co135, .slice Ao136 t624.length co136] rfl xm ?_; (with_reducible refine (laws_sameInts.calls k4 _ _ t679 _ _ t624 true _ ?side1 ?side2 ?side3 ?side4 A131.out).mono ?_); (case side1 => exact xc (Kd.V_reads' HO681.out).2.2); (case side2 => exact (Kd.V_reads' HO681.out).2.1); (case side3 => exact xc (Kd.V_reads' HO_5.out).2.2); (case side4 => exact (Kd.V_reads' HO_5.out).2.1); rintro e w' ⟨rfl, ⟨nd, rfl⟩⟩; refine ⟨_, rfl, ?_⟩))
               go_roundg k4
               case measure => have := HJ12.out; have := HJ102.out; have := HK3.out; have := HK4.out; omega
               case rel => exact ⟨(wrap64 (x21_4 + 1)), xr, H', ⟨by have := HJ12.out; have := HJ102.out; have := HK3.out; have := HK4.out; omega⟩, ⟨xR HO_3.out⟩, ⟨xV HO_5.out⟩, ⟨xN HO_7.out⟩, ⟨xN HO_20.out⟩, ⟨xb HB.out⟩⟩
              ·replace c132 := Bool.eq_false_iff.mpr c132
               subst c132
               rw [if_neg (show ¬ (false = true) by decide)] at H
               obtain rfl := Option.some.inj H
               obtain ⟨Ao137, co137, eo137⟩ := Kd.N_slice HO_20.out
               subst eo137
               have p678 : 0 ≤ (x21_4 : Int) := xd
               have q678 : x21_4 < (t672.length : Int) := xd
               obtain ⟨ad678, A678_0, c678_0, A678_1, c678_1, e678, hx678_0, hx678_1, hl678_0, hi678_0, hl678_1, hi678_1⟩ := at_T41 (Kd.N_reads' HO_20.out).2.2 x21_4 p678 q678
               cases e678
               obtain ⟨ce678, hce678, hMe678, hcc678⟩ := Kd.N_get HO_20.out z41 x21_4 p678 (by first | exact q678 | exact xd | (have e_ := (Kd.N_reads' HO_20.out).1; omega))
               obtain ⟨ua678_0, uc678_0, ua678_1, uc678_1, rfl, ul678_0, ge678_0, ul678_1, ge678_1⟩ := k41_openF hMe678
               have hv678_0 := hcc678 0 _ rfl
               rw [Nat.add_zero] at hv678_0
               replace hv678_0 := Option.some.inj (hv678_0.symm.trans hx678_0)
               injection hv678_0 with hva_ hvn_ hvc_
               rw [hva_] at ge678_0
               rw [hvc_] at ul678_0
               have HL678_0 := ax (show Kd.V (Kd.int .i64) 3 _ w.heap.size _ _ ((rd_T41 t672 x21_4).f0) from Kd.V_mk ul678_0 ge678_0)
               clear hva_ hvn_ hvc_ ge678_0 ul678_0
               have hv678_1 := hcc678 1 _ rfl
               rw [add_field _ _ 1 (by omega)] at hv678_1
               replace hv678_1 := Option.some.inj (hv678_1.symm.trans hx678_1)
               injection hv678_1 with hva_ hvn_ hvc_
               rw [hva_] at ge678_1
               rw [hvc_] at ul678_1
               have HL678_1 := ax (show Kd.V (Kd.int .i64) 3 _ w.heap.size _ _ ((rd_T41 t672 x21_4).f1) from Kd.V_mk ul678_1 ge678_1)
               clear hva_ hvn_ hvc_ ge678_1 ul678_1 hcc678 hce678
               have HR678_0 := ax hi678_0
               have HC678_0 := ax hl678_0
               clear hi678_0 hl678_0
               have HR678_1 := ax hi678_1
               have HC678_1 := ax hl678_1
               clear hi678_1 hl678_1
               replace p678 := eq_true p678
               replace q678 := eq_true q678
               go_wp2_with (first | ((with_reducible refine gate_callee (f := 6) rfl ?_); refine goesL_ (some 161) rfl rfl Try.func6 (by kernel_rfl) rfl #[.slice A678_1 ((rd_T41 t672 x21_4).f1).length c678_1, .int .i64 t621] rfl xm ?_; (with_reducible refine (impl_CoreOf.calls k4 _ _ ((rd_T41 t672 x21_4).f1) t621 t679 _ ?side1 ?side2 A130.out).mono ?_); (case side1 => exact xw HR678_1.out); (case side2 => exact HC678_1.out); rintro e w138 ⟨v680, rfl, ho0, hb⟩; refine ⟨_, rfl, ?_⟩; replace HO_5 := yV HO_5 hb; replace HL678_0 := yV HL678_0 hb; replace HL678_1 := yV HL678_1 hb; have HO681 := ax (Kd.V_lower (Kd.V_mono (ok' := fun k_ => some k_ ≠ (.slice Ao15 t620.length co15 : Value).ownBlock ∧ some k_ ≠ (.slice Ao126 t628.length co126 : Value).ownBlock ∧ some k_ ≠ (.slice (some ad678) t672.length co137 : Value).ownBlock) ho0 (fun k_ hk_ => ⟨(Kd.fresh' (Kd.R_lt (xR HO_3.out)) k_ hk_), (Kd.fresh' (Kd.N_lt (xN HO_7.out)) k_ hk_), (Kd.fresh' (Kd.N_lt (xN HO_20.out)) k_ hk_)⟩)) (below_size (xb HB.out))); replace HO_3 := yR HO_3 hb; replace HO_7 := ax (Kd.N_below (xN HO_7.out) hb); replace HO_20 := ax (Kd.N_below (xN HO_20.out) hb); replace HR678_0 := ax (Kd.C_below (xw HR678_0.out) hb); replace HR678_1 := ax (Kd.C_below (xw HR678_1.out) hb); replace HB := yB HB hb; (try clear hb); (try clear ho0); obtain ⟨Ao139, co139, eo139⟩ := Kd.V_slice HO681.out; subst eo139; obtain ⟨Ao140, co140, eo140⟩ := Kd.V_slice HO_5.out; subst eo140) | ((with_reducible refine gate_callee (f := 14) rfl ?_); refine goesL_ (some 163) rfl rfl Try.func14 (by kernel_rfl) rfl #[.slice Ao139 t679.length co139, .slice Ao140 t624.length co140] rfl xm ?_; (with_reducible refine (laws_sameInts.calls k4 _ _ t679 _ _ t624 false _ ?side1 ?side2 ?side3 ?side4 A131.out).mono ?_); (case side1 => exact xc (Kd.V_reads' HO681.out).2.2); (case side2 => exact (Kd.V_reads' HO681.out).2.1); (case side3 => exact xc (Kd.V_reads' HO_5.out).2.2); (case side4 => exact (Kd.V_reads' HO_5.out).2.1); rintro e w' ⟨rfl, ⟨nd, rfl⟩⟩; refine ⟨_, rfl, ?_⟩))
               go_ret
               exact ⟨xe, xb HB.out⟩
             ·rw [if_neg c128] at H
              have c128b0 := decide_eq_false c128
              clear c128
              by_cases c141 : (t628.length : Int) = t621
              ·rw [if_pos c141] at H
               have c141b0 : ((t628.length : Int) == t621) = true := beq_iff_eq.mpr c141
               have c141b1 : ((t628.length : Int) != t621) = false := bne_eq_false_iff_eq.mpr c141
               clear c141
               by_cases c142 : x18_3 = t627
               ·rw [if_pos c142] at H
                have c142b0 : (x18_3 == t627) = true := beq_iff_eq.mpr c142
                have c142b1 : (x18_3 != t627) = false := bne_eq_false_iff_eq.mpr c142
                clear c142
                obtain ⟨t675, A143, H⟩ := xI H
                obtain ⟨t676, A144, H⟩ := xI H
                by_cases c145 : (wrap64 (t675 + (wrap64 (t621 * t627)))) = t676
                ·rw [if_pos c145] at H
                 have c145b0 : ((wrap64 (t675 + (wrap64 (t621 * t627)))) == t676) = true := beq_iff_eq.mpr c145
                 have c145b1 : ((wrap64 (t675 + (wrap64 (t621 * t627)))) != t676) = false := bne_eq_false_iff_eq.mpr c145
                 clear c145
                 obtain ⟨t677, A146, H⟩ := xI H
                 obtain rfl := Option.some.inj H
                 obtain ⟨Ao147, co147, eo147⟩ := Kd.N_slice HO_20.out
                 subst eo147
                 obtain ⟨Ao148, co148, eo148⟩ := Kd.V_slice HO_5.out
                 subst eo148
                 go_wp2_with (first | (go_at_call 22; (with_reducible refine (spec_SizeOf.calls k4 _ _ t624 t675 _ ?side1 ?side2 A143.out).mono ?_); (case side1 => exact xc (Kd.V_reads' HO_5.out).2.2); (case side2 => exact (Kd.V_reads' HO_5.out).2.1); rintro e w149 ⟨rfl, hb⟩; replace HO_3 := yR HO_3 hb; replace HO_5 := yV HO_5 hb; replace HO_7 := ax (Kd.N_below (xN HO_7.out) hb); replace HO_20 := ax (Kd.N_below (xN HO_20.out) hb); replace HB := yB HB hb; (try clear hb)) | (go_at_call 22; (with_reducible refine (spec_SizeOf.calls k4 _ _ t620 t676 _ ?side1 ?side2 A144.out).mono ?_); (case side1 => exact xc (Kd.R_reads' HO_3.out).2.2); (case side2 => exact (Kd.R_reads' HO_3.out).2.1); rintro e w150 ⟨rfl, hb⟩; replace HO_3 := yR HO_3 hb; replace HO_5 := yV HO_5 hb; replace HO_7 := ax (Kd.N_below (xN HO_7.out) hb); replace HO_20 := ax (Kd.N_below (xN HO_20.out) hb); replace HB := yB HB hb; (try clear hb)) | (go_at_call 20; (with_reducible refine (impl_IsCore.calls k4 _ _ t624 t621 t677 _ ?side1 ?side2 A146.out).mono ?_); (case side1 => exact xc (Kd.V_reads' HO_5.out).2.2); (case side2 => exact (Kd.V_reads' HO_5.out).2.1); rintro e w151 ⟨rfl, hb⟩; replace HO_3 := yR HO_3 hb; replace HO_5 := yV HO_5 hb; replace HO_7 := ax (Kd.N_below (xN HO_7.out) hb); replace HO_20 := ax (Kd.N_below (xN HO_20.out) hb); replace HB := yB HB hb; (try clear hb)))
                 go_ret
                 exact ⟨xe, xb HB.out⟩
                ·rw [if_neg c145] at H
                 have c145b0 : ((wrap64 (t675 + (wrap64 (t621 * t627)))) == t676) = false := beq_eq_false_iff_ne.mpr c145
                 have c145b1 : ((wrap64 (t675 + (wrap64 (t621 * t627)))) != t676) = true := bne_iff_ne.mpr c145
                 obtain rfl := Option.some.inj H
                 obtain ⟨Ao152, co152, eo152⟩ := Kd.N_slice HO_20.out
                 subst eo152
                 obtain ⟨Ao153, co153, eo153⟩ := Kd.V_slice HO_5.out
                 subst eo153
                 go_wp2_with (first | (go_at_call 22; (with_reducible refine (spec_SizeOf.calls k4 _ _ t624 t675 _ ?side1 ?side2 A143.out).mono ?_); (case side1 => exact xc (Kd.V_reads' HO_5.out).2.2); (case side2 => exact (Kd.V_reads' HO_5.out).2.1); rintro e w154 ⟨rfl, hb⟩; replace HO_3 := yR HO_3 hb; replace HO_5 := yV HO_5 hb; replace HO_7 := ax (Kd.N_below (xN HO_7.out) hb); replace HO_20 := ax (Kd.N_below (xN HO_20.out) hb); replace HB := yB HB hb; (try clear hb)) | (go_at_call 22; (with_reducible refine (spec_SizeOf.calls k4 _ _ t620 t676 _ ?side1 ?side2 A144.out).mono ?_); (case side1 => exact xc (Kd.R_reads' HO_3.out).2.2); (case side2 => exact (Kd.R_reads' HO_3.out).2.1); rintro e w155 ⟨rfl, hb⟩; replace HO_3 := yR HO_3 hb; replace HO_5 := yV HO_5 hb; replace HO_7 := ax (Kd.N_below (xN HO_7.out) hb); replace HO_20 := ax (Kd.N_below (xN HO_20.out) hb); replace HB := yB HB hb; (try clear hb)))
                 go_ret
                 exact ⟨xe, xb HB.out⟩
               ·rw [if_neg c142] at H
                have c142b0 : (x18_3 == t627) = false := beq_eq_false_iff_ne.mpr c142
                have c142b1 : (x18_3 != t627) = true := bne_iff_ne.mpr c142
                obtain rfl := Option.some.inj H
                obtain ⟨Ao156, co156, eo156⟩ := Kd.N_slice HO_20.out
                subst eo156
                go_wp2
                go_ret
                exact ⟨xe, xb HB.out⟩
              ·rw [if_neg c141] at H
               have c141b0 : ((t628.length : Int) == t621) = false := beq_eq_false_iff_ne.mpr c141
               have c141b1 : ((t628.length : Int) != t621) = true := bne_iff_ne.mpr c141
               obtain rfl := Option.some.inj H
               obtain ⟨Ao157, co157, eo157⟩ := Kd.N_slice HO_20.out
               subst eo157
               go_wp2
               go_ret
               exact ⟨xe, xb HB.out⟩

/-- THE ONE PURE STATEMENT of laws_FnCores: yours. -/
def laws_FnCores.Pure : Prop := ∀ (l0 : List Int), l0.length ≤ maxLen → l0.length * 1 ≤ 140737488351232 → (∀ x ∈ l0, (Lit.int .u8 x).wf = true) → ∃ k, laws_FnCores.f k l0 = some true
theorem laws_FnCores.walk (P : laws_FnCores.Pure) (a0 : Option Addr) (len0 cap0 : Nat) (z0 : List Int) (w : World) (w0 : (a0 = none ∧ len0 = 0 ∧ cap0 = 0 ∧ z0 = []) ∨ ∃ x, a0 = some x ∧ len0 ≤ cap0 ∧ cap0 ≤ maxLen ∧ z0.length = cap0 ∧ (∀ i, i < z0.length → w.cell? (x.add i) = some (.int .u8 (z0.getD i 0))) ∧ ∀ n ∈ z0, (Lit.int .u8 n).wf = true) (y0 : len0 * 1 ≤ 140737488351232) :
  Calls Try.prog 3 #[.slice a0 len0 cap0] w fun e w' => e = .returned (.bool true) ∧ Below w.heap.size w w' := by
 obtain ⟨l0, rfl, hr0, hm0, hw0, hc0⟩ := ReadsInt.ofRowC w0
 obtain ⟨k, h⟩ := P l0 hm0 y0 hw0
 refine (laws_FnCores.calls k _ _ l0 true w (Kd.C_of_reads (d := (0 : Int)) (h1 := fun _ => rfl) hr0) hc0 h).mono ?_
 rintro e w' ⟨rfl, hd⟩
 exact ⟨rfl, hd⟩

end Go.Proofs.Ytopmggldaicpaaa.PFnCores
