-- Written by a program of this session (wip/print/xprint.py).
import Derived.Test.YtnmndjpkfcnaoaaPFnExactHooksOfReversex0
import Derived.Test.YtnmndjpkfcnaoaaPFnExactHooksOfReversex1
import Derived.Test.YtnmndjpkfcnaoaaPFnExactHooksOfReversex2
import Derived.Test.YtnmndjpkfcnaoaaPFnExactHooksOfReversex7
import Derived.Test.YtnmndjpkfcnaoaaPFnExactHooksOfReversex11
namespace Go.Proofs.Ytnmndjpkfcnaoaa.PFnExactHooksOfReverse
open Go.RowKit Go.Proofs.YtnmndjpkfcnaoaaW.PrintWords Go.Proofs.YtnmndjpkfcnaoaaW.PrintLast Go.Proofs.YtnmndjpkfcnaoaaW.PrintMore
attribute [local go_sem] max2_int min2_int max_two min_two max_three min_three max_four min_four   -- for this text's walks alone
set_option linter.unusedVariables false
set_option linter.unusedSimpArgs false

/-! ### laws_FnExactHooksOfReverse: function 4 -/
mutual
def laws_FnExactHooksOfReverse.j0 : Nat → List Int → List (List Int) → List (List Int) → Bool → List Int → List (List Int) → List (List Int) → Bool → Bool → Option (Bool)
  | 0, _, _, _, _, _, _, _, _, _ => none
  | k + 1, x0, x1, x6, x7, x8, x9, x10, x11, x51 => if x51 = true then (some false) else ((laws_toIntS.f k x0).bind fun t316 => ((laws_eqIntS.f k x8 t316).bind fun t319 => (if t319 = true then ((laws_toIntSS.f k x1).bind fun t320 => ((laws_eqIntSS.f k x9 t320).bind fun t323 => (if t323 = true then ((laws_markIntS.f k x8 1).bind fun bt324 => ((laws_markIntSS.f k x9 bt324.1).bind fun bt326 => (if bt326.1 < 0 then (laws_FnExactHooksOfReverse.j1 k x0 x1 x6 x7 x10 true) else ((laws_eqIntSS.f k x10 x6).bind fun t328 => (if t328 = true then (laws_FnExactHooksOfReverse.j1 k x0 x1 x6 x7 x10 (x11 != x7)) else (laws_FnExactHooksOfReverse.j1 k x0 x1 x6 x7 x10 true)))))) else (some false)))) else (some false))))
def laws_FnExactHooksOfReverse.j1 : Nat → List Int → List (List Int) → List (List Int) → Bool → List (List Int) → Bool → Option (Bool)
  | 0, _, _, _, _, _, _ => none
  | k + 1, x0, x1, x6, x7, x10, x80 => if x80 = true then (some false) else ((laws_markIntSS.f k x10 1).bind fun bt329 => ((laws_heldIntSS.f k bt329.2 1).bind fun t331 => (if t331 < 0 then (some false) else (if t331 = bt329.1 then ((laws_toIntS.f k x0).bind fun t332 => ((laws_toIntSS.f k x1).bind fun t335 => ((impl_HooksOfReverse.f k t332 t335).bind fun bt338 => ((laws_eqIntSS.f k bt338.1 x6).bind fun t342 => (if t342 = true then (laws_FnExactHooksOfReverse.j2 k bt329.2 bt329.1 (bt338.2 != x7)) else (laws_FnExactHooksOfReverse.j2 k bt329.2 bt329.1 true)))))) else (some false)))))
def laws_FnExactHooksOfReverse.j2 : Nat → List (List Int) → Int → Bool → Option (Bool)
  | 0, _, _, _ => none
  | k + 1, x10, x13, x108 => if x108 = true then (some false) else ((laws_heldIntSS.f k x10 1).bind fun t343 => (if t343 < 0 then (some false) else (if t343 = x13 then (some true) else (some false))))
end
def laws_FnExactHooksOfReverse.f (k : Nat) (l0 : List Int) (l1 : List (List Int)) : Option (Bool) := if (l0.length : Int) > 1048576 then (some true) else ((laws_szIntSS.f k l1 1048576).bind fun t294 => (if t294 < 0 then (some true) else ((laws_toIntS.f k l0).bind fun t295 => ((laws_toIntSS.f k l1).bind fun t298 => ((spec_HooksOfReverse.f k t295 t298).bind fun bt301 => ((laws_toIntS.f k l0).bind fun t305 => ((laws_toIntSS.f k l1).bind fun t308 => ((impl_HooksOfReverse.f k t305 t308).bind fun bt311 => ((laws_eqIntSS.f k bt311.1 bt301.1).bind fun t315 => (if t315 = true then (laws_FnExactHooksOfReverse.j0 k l0 l1 bt301.1 bt301.2 t305 t308 bt311.1 bt311.2 (bt311.2 != bt301.2)) else (laws_FnExactHooksOfReverse.j0 k l0 l1 bt301.1 bt301.2 t305 t308 bt311.1 bt311.2 true)))))))))))
theorem laws_FnExactHooksOfReverse.mono_l : ∀ k, (∀ y0 y1 y2 y3 y4 y5 y6 y7 y8, LeO (laws_FnExactHooksOfReverse.j0 k y0 y1 y2 y3 y4 y5 y6 y7 y8) (laws_FnExactHooksOfReverse.j0 (k + 1) y0 y1 y2 y3 y4 y5 y6 y7 y8)) ∧ (∀ y0 y1 y2 y3 y4 y5, LeO (laws_FnExactHooksOfReverse.j1 k y0 y1 y2 y3 y4 y5) (laws_FnExactHooksOfReverse.j1 (k + 1) y0 y1 y2 y3 y4 y5)) ∧ (∀ y0 y1 y2, LeO (laws_FnExactHooksOfReverse.j2 k y0 y1 y2) (laws_FnExactHooksOfReverse.j2 (k + 1) y0 y1 y2))
  | 0 => ⟨fun _ _ _ _ _ _ _ _ _ r h => by simp [laws_FnExactHooksOfReverse.j0] at h, fun _ _ _ _ _ _ r h => by simp [laws_FnExactHooksOfReverse.j1] at h, fun _ _ _ r h => by simp [laws_FnExactHooksOfReverse.j2] at h⟩
  | k + 1 => by
    obtain ⟨ih0, ih1, ih2⟩ := laws_FnExactHooksOfReverse.mono_l k
    refine ⟨?_, ?_, ?_⟩
    · intro y0 y1 y2 y3 y4 y5 y6 y7 y8
      unfold laws_FnExactHooksOfReverse.j0
      repeat' first
      | (with_reducible exact ih0 _ _ _ _ _ _ _ _ _)
      | (with_reducible exact ih1 _ _ _ _ _ _)
      | (with_reducible exact ih2 _ _ _)
      | (with_reducible exact impl_HooksOfReverse.mono _ _ _)
      | (with_reducible exact laws_eqIntS.mono _ _ _)
      | (with_reducible exact laws_eqIntSS.mono _ _ _)
      | (with_reducible exact laws_heldIntSS.mono _ _ _)
      | (with_reducible exact laws_markIntS.mono _ _ _)
      | (with_reducible exact laws_markIntSS.mono _ _ _)
      | (with_reducible exact laws_szIntSS.mono _ _ _)
      | (with_reducible exact laws_toIntS.mono _ _)
      | (with_reducible exact laws_toIntSS.mono _ _)
      | (with_reducible exact spec_HooksOfReverse.mono _ _ _)
      | (with_reducible exact LeO.refl _)
      | (with_reducible exact LeO.none _)
      | (with_reducible refine LeO.ite ?_ ?_)
      | (with_reducible refine LeO.bind ?_ (fun _ => ?_))
      | exact ih0 _ _ _ _ _ _ _ _ _
      | exact ih1 _ _ _ _ _ _
      | exact ih2 _ _ _
      | exact impl_HooksOfReverse.mono _ _ _
      | exact laws_eqIntS.mono _ _ _
      | exact laws_eqIntSS.mono _ _ _
      | exact laws_heldIntSS.mono _ _ _
      | exact laws_markIntS.mono _ _ _
      | exact laws_markIntSS.mono _ _ _
      | exact laws_szIntSS.mono _ _ _
      | exact laws_toIntS.mono _ _
      | exact laws_toIntSS.mono _ _
      | exact spec_HooksOfReverse.mono _ _ _
      | exact LeO.none _
      | refine LeO.ite ?_ ?_
      | refine LeO.bind ?_ (fun _ => ?_)
    · intro y0 y1 y2 y3 y4 y5
      unfold laws_FnExactHooksOfReverse.j1
      repeat' first
      | (with_reducible exact ih0 _ _ _ _ _ _ _ _ _)
      | (with_reducible exact ih1 _ _ _ _ _ _)
      | (with_reducible exact ih2 _ _ _)
      | (with_reducible exact impl_HooksOfReverse.mono _ _ _)
      | (with_reducible exact laws_eqIntS.mono _ _ _)
      | (with_reducible exact laws_eqIntSS.mono _ _ _)
      | (with_reducible exact laws_heldIntSS.mono _ _ _)
      | (with_reducible exact laws_markIntS.mono _ _ _)
      | (with_reducible exact laws_markIntSS.mono _ _ _)
      | (with_reducible exact laws_szIntSS.mono _ _ _)
      | (with_reducible exact laws_toIntS.mono _ _)
      | (with_reducible exact laws_toIntSS.mono _ _)
      | (with_reducible exact spec_HooksOfReverse.mono _ _ _)
      | (with_reducible exact LeO.refl _)
      | (with_reducible exact LeO.none _)
      | (with_reducible refine LeO.ite ?_ ?_)
      | (with_reducible refine LeO.bind ?_ (fun _ => ?_))
      | exact ih0 _ _ _ _ _ _ _ _ _
      | exact ih1 _ _ _ _ _ _
      | exact ih2 _ _ _
      | exact impl_HooksOfReverse.mono _ _ _
      | exact laws_eqIntS.mono _ _ _
      | exact laws_eqIntSS.mono _ _ _
      | exact laws_heldIntSS.mono _ _ _
      | exact laws_markIntS.mono _ _ _
      | exact laws_markIntSS.mono _ _ _
      | exact laws_szIntSS.mono _ _ _
      | exact laws_toIntS.mono _ _
      | exact laws_toIntSS.mono _ _
      | exact spec_HooksOfReverse.mono _ _ _
      | exact LeO.none _
      | refine LeO.ite ?_ ?_
      | refine LeO.bind ?_ (fun _ => ?_)
    · intro y0 y1 y2
      unfold laws_FnExactHooksOfReverse.j2
      repeat' first
      | (with_reducible exact ih0 _ _ _ _ _ _ _ _ _)
      | (with_reducible exact ih1 _ _ _ _ _ _)
      | (with_reducible exact ih2 _ _ _)
      | (with_reducible exact impl_HooksOfReverse.mono _ _ _)
      | (with_reducible exact laws_eqIntS.mono _ _ _)
      | (with_reducible exact laws_eqIntSS.mono _ _ _)
      | (with_reducible exact laws_heldIntSS.mono _ _ _)
      | (with_reducible exact laws_markIntS.mono _ _ _)
      | (with_reducible exact laws_markIntSS.mono _ _ _)
      | (with_reducible exact laws_szIntSS.mono _ _ _)
      | (with_reducible exact laws_toIntS.mono _ _)
      | (with_reducible exact laws_toIntSS.mono _ _)
      | (with_reducible exact spec_HooksOfReverse.mono _ _ _)
      | (with_reducible exact LeO.refl _)
      | (with_reducible exact LeO.none _)
      | (with_reducible refine LeO.ite ?_ ?_)
      | (with_reducible refine LeO.bind ?_ (fun _ => ?_))
      | exact ih0 _ _ _ _ _ _ _ _ _
      | exact ih1 _ _ _ _ _ _
      | exact ih2 _ _ _
      | exact impl_HooksOfReverse.mono _ _ _
      | exact laws_eqIntS.mono _ _ _
      | exact laws_eqIntSS.mono _ _ _
      | exact laws_heldIntSS.mono _ _ _
      | exact laws_markIntS.mono _ _ _
      | exact laws_markIntSS.mono _ _ _
      | exact laws_szIntSS.mono _ _ _
      | exact laws_toIntS.mono _ _
      | exact laws_toIntSS.mono _ _
      | exact spec_HooksOfReverse.mono _ _ _
      | exact LeO.none _
      | refine LeO.ite ?_ ?_
      | refine LeO.bind ?_ (fun _ => ?_)
theorem laws_FnExactHooksOfReverse.mono : ∀ a0 a1 k, LeO (laws_FnExactHooksOfReverse.f k a0 a1) (laws_FnExactHooksOfReverse.f (k + 1) a0 a1) := by
  intro a0 a1 k
  obtain ⟨ih0, ih1, ih2⟩ := laws_FnExactHooksOfReverse.mono_l k
  unfold laws_FnExactHooksOfReverse.f
  repeat' first
      | (with_reducible exact ih0 _ _ _ _ _ _ _ _ _)
      | (with_reducible exact ih1 _ _ _ _ _ _)
      | (with_reducible exact ih2 _ _ _)
      | (with_reducible exact impl_HooksOfReverse.mono _ _ _)
      | (with_reducible exact laws_eqIntS.mono _ _ _)
      | (with_reducible exact laws_eqIntSS.mono _ _ _)
      | (with_reducible exact laws_heldIntSS.mono _ _ _)
      | (with_reducible exact laws_markIntS.mono _ _ _)
      | (with_reducible exact laws_markIntSS.mono _ _ _)
      | (with_reducible exact laws_szIntSS.mono _ _ _)
      | (with_reducible exact laws_toIntS.mono _ _)
      | (with_reducible exact laws_toIntSS.mono _ _)
      | (with_reducible exact spec_HooksOfReverse.mono _ _ _)
      | (with_reducible exact LeO.refl _)
      | (with_reducible exact LeO.none _)
      | (with_reducible refine LeO.ite ?_ ?_)
      | (with_reducible refine LeO.bind ?_ (fun _ => ?_))
      | exact ih0 _ _ _ _ _ _ _ _ _
      | exact ih1 _ _ _ _ _ _
      | exact ih2 _ _ _
      | exact impl_HooksOfReverse.mono _ _ _
      | exact laws_eqIntS.mono _ _ _
      | exact laws_eqIntSS.mono _ _ _
      | exact laws_heldIntSS.mono _ _ _
      | exact laws_markIntS.mono _ _ _
      | exact laws_markIntSS.mono _ _ _
      | exact laws_szIntSS.mono _ _ _
      | exact laws_toIntS.mono _ _
      | exact laws_toIntSS.mono _ _
      | exact spec_HooksOfReverse.mono _ _ _
      | exact LeO.none _
      | refine LeO.ite ?_ ?_
      | refine LeO.bind ?_ (fun _ => ?_)
set_option maxHeartbeats 8000000 in
set_option maxRecDepth 100000 in
theorem laws_FnExactHooksOfReverse.calls (k : Nat) (A0 : Option Addr) (c0 : Nat) (l0 : List Int) (A1 : Option Addr) (c1 : Nat) (l1 : List (List Int)) (r : Bool) (w : World) (hr0 : Kd.C (Kd.int .i64) w A0 l0.length l0) (hc0 : l0.length ≤ c0) (hr1 : Kd.C (Kd.slice 3 (Kd.int .i64)) w A1 l1.length l1) (hc1 : l1.length ≤ c1) (h : laws_FnExactHooksOfReverse.f k l0 l1 = some r) :
    Calls Try.prog 4 #[.slice A0 l0.length c0, .slice A1 l1.length c1] w fun e w' => e = .returned (.bool r) ∧ Below w.heap.size w w' := by
  have HR0 := Aside0.mk hr0
  have HC0 := Aside0.mk hc0
  clear hr0 hc0
  have HR1 := Aside0.mk hr1
  have HC1 := Aside0.mk hc1
  clear hr1 hc1
  have HB := Aside0.mk (Below.refl w.heap.size w)
  have H : (if (l0.length : Int) > 1048576 then (some true) else ((laws_szIntSS.f k l1 1048576).bind fun t294 => (if t294 < 0 then (some true) else ((laws_toIntS.f k l0).bind fun t295 => ((laws_toIntSS.f k l1).bind fun t298 => ((spec_HooksOfReverse.f k t295 t298).bind fun bt301 => ((laws_toIntS.f k l0).bind fun t305 => ((laws_toIntSS.f k l1).bind fun t308 => ((impl_HooksOfReverse.f k t305 t308).bind fun bt311 => ((laws_eqIntSS.f k bt311.1 bt301.1).bind fun t315 => (if t315 = true then (laws_FnExactHooksOfReverse.j0 k l0 l1 bt301.1 bt301.2 t305 t308 bt311.1 bt311.2 (bt311.2 != bt301.2)) else (laws_FnExactHooksOfReverse.j0 k l0 l1 bt301.1 bt301.2 t305 t308 bt311.1 bt311.2 true)))))))))))) = some r := h
  clear h
  by_cases c3 : (l0.length : Int) > 1048576
  · rw [if_pos c3] at H
    have c3b0 : decide (1048576 < (l0.length : Int)) = true := decide_eq_true c3
    have c3b1 : decide (1048576 < l0.length) = true := decide_eq_true (by omega)
    clear c3
    obtain rfl := Option.some.inj H
    go_enter Try.func4, Try.ntmps4
    go_wp2
    go_ret
    exact ⟨by first | rfl | (simp [errW_none, errW_some] <;> rfl) | (simp [*, errW_none, errW_some] <;> rfl), by repeat (first | (with_reducible first | exact HB.out | apply below_alloc | apply pw_below_drewN | apply below_drew1) | exact HB.out)⟩
  · rw [if_neg c3] at H
    have c3b0 : decide (1048576 < (l0.length : Int)) = false := decide_eq_false c3
    have c3b1 : decide (1048576 < l0.length) = false := decide_eq_false (by omega)
    clear c3
    replace H := Option.bind_eq_some_iff.mp H
    obtain ⟨t294, A40, H⟩ := H
    replace H : (if t294 < 0 then (some true) else ((laws_toIntS.f k l0).bind fun t295 => ((laws_toIntSS.f k l1).bind fun t298 => ((spec_HooksOfReverse.f k t295 t298).bind fun bt301 => ((laws_toIntS.f k l0).bind fun t305 => ((laws_toIntSS.f k l1).bind fun t308 => ((impl_HooksOfReverse.f k t305 t308).bind fun bt311 => ((laws_eqIntSS.f k bt311.1 bt301.1).bind fun t315 => (if t315 = true then (laws_FnExactHooksOfReverse.j0 k l0 l1 bt301.1 bt301.2 t305 t308 bt311.1 bt311.2 (bt311.2 != bt301.2)) else (laws_FnExactHooksOfReverse.j0 k l0 l1 bt301.1 bt301.2 t305 t308 bt311.1 bt311.2 true)))))))))) = some r := H
    have A4 := Aside0.mk A40
    clear A40
    by_cases c5 : t294 < 0
    · rw [if_pos c5] at H
      have c5b0 : decide (t294 < 0) = true := decide_eq_true c5
      clear c5
      obtain rfl := Option.some.inj H
      go_enter Try.func4, Try.ntmps4
      go_wp2_with (first | ((with_reducible refine gate_callee (f := 5) rfl ?_); refine goesL_ (some 22) rfl rfl Try.func5 (by kernel_rfl) rfl #[.slice A1 l1.length c1, .int .i64 1048576] rfl xm ?_; (with_reducible refine (laws_szIntSS.calls k _ _ l1 1048576 t294 _ ?side1 ?side2 A4.out).mono ?_); (case side1 => exact xc HR1.out); (case side2 => exact HC1.out); rintro e w' ⟨rfl, ⟨nd, rfl⟩⟩; refine ⟨_, rfl, ?_⟩))
      go_ret
      exact ⟨by first | rfl | (simp [errW_none, errW_some] <;> rfl) | (simp [*, errW_none, errW_some] <;> rfl), by repeat (first | (with_reducible first | exact HB.out | apply below_alloc | apply pw_below_drewN | apply below_drew1) | exact HB.out)⟩
    · rw [if_neg c5] at H
      have c5b0 : decide (t294 < 0) = false := decide_eq_false c5
      clear c5
      replace H := Option.bind_eq_some_iff.mp H
      obtain ⟨t295, A60, H⟩ := H
      replace H : ((laws_toIntSS.f k l1).bind fun t298 => ((spec_HooksOfReverse.f k t295 t298).bind fun bt301 => ((laws_toIntS.f k l0).bind fun t305 => ((laws_toIntSS.f k l1).bind fun t308 => ((impl_HooksOfReverse.f k t305 t308).bind fun bt311 => ((laws_eqIntSS.f k bt311.1 bt301.1).bind fun t315 => (if t315 = true then (laws_FnExactHooksOfReverse.j0 k l0 l1 bt301.1 bt301.2 t305 t308 bt311.1 bt311.2 (bt311.2 != bt301.2)) else (laws_FnExactHooksOfReverse.j0 k l0 l1 bt301.1 bt301.2 t305 t308 bt311.1 bt311.2 true)))))))) = some r := H
      have A6 := Aside0.mk A60
      clear A60
      replace H := Option.bind_eq_some_iff.mp H
      obtain ⟨t298, A70, H⟩ := H
      replace H : ((spec_HooksOfReverse.f k t295 t298).bind fun bt301 => ((laws_toIntS.f k l0).bind fun t305 => ((laws_toIntSS.f k l1).bind fun t308 => ((impl_HooksOfReverse.f k t305 t308).bind fun bt311 => ((laws_eqIntSS.f k bt311.1 bt301.1).bind fun t315 => (if t315 = true then (laws_FnExactHooksOfReverse.j0 k l0 l1 bt301.1 bt301.2 t305 t308 bt311.1 bt311.2 (bt311.2 != bt301.2)) else (laws_FnExactHooksOfReverse.j0 k l0 l1 bt301.1 bt301.2 t305 t308 bt311.1 bt311.2 true))))))) = some r := H
      have A7 := Aside0.mk A70
      clear A70
      replace H := Option.bind_eq_some_iff.mp H
      obtain ⟨⟨t301, t302⟩, A80, H⟩ := H
      replace H : ((laws_toIntS.f k l0).bind fun t305 => ((laws_toIntSS.f k l1).bind fun t308 => ((impl_HooksOfReverse.f k t305 t308).bind fun bt311 => ((laws_eqIntSS.f k bt311.1 t301).bind fun t315 => (if t315 = true then (laws_FnExactHooksOfReverse.j0 k l0 l1 t301 t302 t305 t308 bt311.1 bt311.2 (bt311.2 != t302)) else (laws_FnExactHooksOfReverse.j0 k l0 l1 t301 t302 t305 t308 bt311.1 bt311.2 true)))))) = some r := H
      have A8 := Aside0.mk A80
      clear A80
      replace H := Option.bind_eq_some_iff.mp H
      obtain ⟨t305, A90, H⟩ := H
      replace H : ((laws_toIntSS.f k l1).bind fun t308 => ((impl_HooksOfReverse.f k t305 t308).bind fun bt311 => ((laws_eqIntSS.f k bt311.1 t301).bind fun t315 => (if t315 = true then (laws_FnExactHooksOfReverse.j0 k l0 l1 t301 t302 t305 t308 bt311.1 bt311.2 (bt311.2 != t302)) else (laws_FnExactHooksOfReverse.j0 k l0 l1 t301 t302 t305 t308 bt311.1 bt311.2 true))))) = some r := H
      have A9 := Aside0.mk A90
      clear A90
      replace H := Option.bind_eq_some_iff.mp H
      obtain ⟨t308, A100, H⟩ := H
      replace H : ((impl_HooksOfReverse.f k t305 t308).bind fun bt311 => ((laws_eqIntSS.f k bt311.1 t301).bind fun t315 => (if t315 = true then (laws_FnExactHooksOfReverse.j0 k l0 l1 t301 t302 t305 t308 bt311.1 bt311.2 (bt311.2 != t302)) else (laws_FnExactHooksOfReverse.j0 k l0 l1 t301 t302 t305 t308 bt311.1 bt311.2 true)))) = some r := H
      have A10 := Aside0.mk A100
      clear A100
      replace H := Option.bind_eq_some_iff.mp H
      obtain ⟨⟨t311, t312⟩, A110, H⟩ := H
      replace H : ((laws_eqIntSS.f k t311 t301).bind fun t315 => (if t315 = true then (laws_FnExactHooksOfReverse.j0 k l0 l1 t301 t302 t305 t308 t311 t312 (t312 != t302)) else (laws_FnExactHooksOfReverse.j0 k l0 l1 t301 t302 t305 t308 t311 t312 true))) = some r := H
      have A11 := Aside0.mk A110
      clear A110
      have HC12 := Aside0.mk H
      clear H
      go_enter Try.func4, Try.ntmps4
      go_upto_region 11 with (first | ((with_reducible refine gate_callee (f := 5) rfl ?_); refine goesL_ (some 22) rfl rfl Try.func5 (by kernel_rfl) rfl #[.slice A1 l1.length c1, .int .i64 1048576] rfl xm ?_; (with_reducible refine (laws_szIntSS.calls k _ _ l1 1048576 t294 _ ?side1 ?side2 A4.out).mono ?_); (case side1 => exact xc HR1.out); (case side2 => exact HC1.out); rintro e w' ⟨rfl, ⟨nd, rfl⟩⟩; refine ⟨_, rfl, ?_⟩) | ((with_reducible refine gate_callee (f := 7) rfl ?_); refine goesL_ (some 27) rfl rfl Try.func7 (by kernel_rfl) rfl #[.slice A0 l0.length c0] rfl xm ?_; (with_reducible refine (laws_toIntS.calls k _ _ l0 t295 _ ?side1 ?side2 A6.out).mono ?_); (case side1 => exact xc HR0.out); (case side2 => exact HC0.out); rintro e w13 ⟨v296, rfl, ho0, hb⟩; refine ⟨_, rfl, ?_⟩; have n0_ := Aside0.mk (Kd.R_lower ho0 (below_size (xb HB.out))); have n1_ := Aside0.mk (below_step (xb HB.out) hb); clear HB; have HO297 := n0_; have HB := n1_; clear n0_ n1_; (try clear hb); (try clear hb2); (try clear hk); (try clear hi); (try clear ho0)) | ((with_reducible refine gate_callee (f := 8) rfl ?_); refine goesL_ (some 29) rfl rfl Try.func8 (by kernel_rfl) rfl #[.slice A1 l1.length c1] rfl xm ?_; (with_reducible refine (laws_toIntSS.calls k _ _ l1 t298 _ ?side1 ?side2 A7.out).mono ?_); (case side1 => first | exact xc (Kd.C_below HR1.out HB.out) | exact xc HR1.out); (case side2 => exact HC1.out); rintro e w14 ⟨v299, rfl, ho0, hb⟩; refine ⟨_, rfl, ?_⟩; have n0_ := Aside0.mk (Kd.R_below (xR HO297.out) hb); have n1_ := Aside0.mk (Kd.S_lower (Kd.S_new' ho0 (Kd.R_lt (xR HO297.out))) (below_size (xb HB.out))); have n2_ := Aside0.mk (below_step (xb HB.out) hb); clear HO297; clear HB; have HO297 := n0_; have HO300 := n1_; have HB := n2_; clear n0_ n1_ n2_; (try clear hb); (try clear hb2); (try clear hk); (try clear hi); (try clear ho0); obtain ⟨Ao15, co15, eo15⟩ := Kd.R_slice HO297.out; subst eo15; obtain ⟨Ao16, co16, eo16⟩ := Kd.S_slice HO300.out; subst eo16) | ((with_reducible refine gate_callee (f := 15) rfl ?_); refine goesL_ (some 30) rfl rfl Try.func15 (by kernel_rfl) rfl #[.slice Ao15 t295.length co15, .slice Ao16 t298.length co16] rfl xm ?_; (with_reducible refine (spec_HooksOfReverse.calls k _ _ t295 _ _ t298 t301 t302 _ ?side1 ?side2 ?side3 ?side4 A8.out).mono ?_); (case side1 => repeat (first | exact (Kd.R_reads' HO297.out).2.2 | (with_reducible refine Kd.C_alloc ?_ _) | (with_reducible refine Kd.C_drewN ?_ _) | (with_reducible refine Kd.C_drew ?_))); (case side2 => exact (Kd.R_reads' HO297.out).2.1); (case side3 => repeat (first | exact (Kd.S_reads' HO300.out).2.2 | (with_reducible refine Kd.C_alloc ?_ _) | (with_reducible refine Kd.C_drewN ?_ _) | (with_reducible refine Kd.C_drew ?_))); (case side4 => exact (Kd.S_reads' HO300.out).2.1); rintro e w17 ⟨v303, rfl, ho0, hb⟩; refine ⟨_, rfl, ?_⟩; replace ho0 := Kd.deep0 ho0; obtain ⟨N344_, ho0, hN344_⟩ := ho0; have n0_ := Aside0.mk (Kd.R_below (xR HO297.out) hb); have n1_ := Aside0.mk (Kd.S_elderD (xS HO300.out) hN344_ (Kd.S_base ho0) hb); have n2_ := Aside0.mk (Kd.S_lower (Kd.S_new' (Kd.S_new' ho0 (Kd.R_lt (xR HO297.out))) (Kd.S_lt (xS HO300.out))) (below_size (xb HB.out))); have n3_ := Aside0.mk (below_step (xb HB.out) hb); clear HO297; clear HO300; clear HB; have HO297 := n0_; have HO300 := n1_; have HO304 := n2_; have HB := n3_; clear n0_ n1_ n2_ n3_; (try clear hb); (try clear hb2); (try clear hk); (try clear hi); (try clear ho0); (try clear hN344_)) | ((with_reducible refine gate_callee (f := 7) rfl ?_); refine goesL_ (some 34) rfl rfl Try.func7 (by kernel_rfl) rfl #[.slice A0 l0.length c0] rfl xm ?_; (with_reducible refine (laws_toIntS.calls k _ _ l0 t305 _ ?side1 ?side2 A9.out).mono ?_); (case side1 => first | exact xc (Kd.C_below HR0.out HB.out) | exact xc HR0.out); (case side2 => exact HC0.out); rintro e w18 ⟨v306, rfl, ho0, hb⟩; refine ⟨_, rfl, ?_⟩; have n0_ := Aside0.mk (Kd.R_elder' (xR HO297.out) (Kd.R_base ho0) hb); have n1_ := Aside0.mk (Kd.S_elder' (xS HO300.out) (Kd.R_base ho0) hb); have n2_ := Aside0.mk (Kd.S_elder' (xS HO304.out) (Kd.R_base ho0) hb); have n3_ := Aside0.mk (Kd.R_lower (Kd.R_new' ho0 (Kd.R_lt (xR HO297.out))) (below_size (xb HB.out))); have n4_ := Aside0.mk (below_step (xb HB.out) hb); clear HO297; clear HO300; clear HO304; clear HB; have HO297 := n0_; have HO300 := n1_; have HO304 := n2_; have HO307 := n3_; have HB := n4_; clear n0_ n1_ n2_ n3_ n4_; (try clear hb); (try clear hb2); (try clear hk); (try clear hi); (try clear ho0)) | ((with_reducible refine gate_callee (f := 8) rfl ?_); refine goesL_ (some 36) rfl rfl Try.func8 (by kernel_rfl) rfl #[.slice A1 l1.length c1] rfl xm ?_; (with_reducible refine (laws_toIntSS.calls k _ _ l1 t308 _ ?side1 ?side2 A10.out).mono ?_); (case side1 => first | exact xc (Kd.C_below HR1.out HB.out) | exact xc HR1.out); (case side2 => exact HC1.out); rintro e w19 ⟨v309, rfl, ho0, hb⟩; refine ⟨_, rfl, ?_⟩; replace ho0 := Kd.deep0 ho0; obtain ⟨N346_, ho0, hN346_⟩ := ho0; have n0_ := Aside0.mk (Kd.R_below (xR HO297.out) hb); have n1_ := Aside0.mk (Kd.S_elderD (xS HO300.out) hN346_ (Kd.S_base ho0) hb); have n2_ := Aside0.mk (Kd.S_elderD (xS HO304.out) hN346_ (Kd.S_base ho0) hb); have n3_ := Aside0.mk (Kd.R_below (xR HO307.out) hb); have n4_ := Aside0.mk (Kd.S_lower (Kd.S_new' (Kd.S_new' (Kd.S_new' (Kd.S_new' ho0 (Kd.R_lt (xR HO297.out))) (Kd.S_lt (xS HO300.out))) (Kd.S_lt (xS HO304.out))) (Kd.R_lt (xR HO307.out))) (below_size (xb HB.out))); have n5_ := Aside0.mk (below_step (xb HB.out) hb); clear HO297; clear HO300; clear HO304; clear HO307; clear HB; have HO297 := n0_; have HO300 := n1_; have HO304 := n2_; have HO307 := n3_; have HO310 := n4_; have HB := n5_; clear n0_ n1_ n2_ n3_ n4_ n5_; (try clear hb); (try clear hb2); (try clear hk); (try clear hi); (try clear ho0); (try clear hN346_); obtain ⟨Ao20, co20, eo20⟩ := Kd.R_slice HO307.out; subst eo20; obtain ⟨Ao21, co21, eo21⟩ := Kd.S_slice HO310.out; subst eo21) | ((with_reducible refine gate_callee (f := 16) rfl ?_); refine goesL_ (some 40) rfl rfl Try.func16 (by kernel_rfl) rfl #[.slice Ao20 t305.length co20, .slice Ao21 t308.length co21] rfl xm ?_; (with_reducible refine (impl_HooksOfReverse.calls k _ _ t305 _ _ t308 t311 t312 _ ?side1 ?side2 ?side3 ?side4 A11.out).mono ?_); (case side1 => repeat (first | exact (Kd.R_reads' HO307.out).2.2 | (with_reducible refine Kd.C_alloc ?_ _) | (with_reducible refine Kd.C_drewN ?_ _) | (with_reducible refine Kd.C_drew ?_))); (case side2 => exact (Kd.R_reads' HO307.out).2.1); (case side3 => repeat (first | exact (Kd.S_reads' HO310.out).2.2 | (with_reducible refine Kd.C_alloc ?_ _) | (with_reducible refine Kd.C_drewN ?_ _) | (with_reducible refine Kd.C_drew ?_))); (case side4 => exact (Kd.S_reads' HO310.out).2.1); rintro e w22 ⟨v313, rfl, ho0, hb⟩; refine ⟨_, rfl, ?_⟩; replace ho0 := Kd.deep0 ho0; obtain ⟨N348_, ho0, hN348_⟩ := ho0; have n0_ := Aside0.mk (Kd.R_below (xR HO297.out) hb); have n1_ := Aside0.mk (Kd.S_elderD (xS HO300.out) hN348_ (Kd.S_base ho0) hb); have n2_ := Aside0.mk (Kd.S_elderD (xS HO304.out) hN348_ (Kd.S_base ho0) hb); have n3_ := Aside0.mk (Kd.R_below (xR HO307.out) hb); have n4_ := Aside0.mk (Kd.S_elderD (xS HO310.out) hN348_ (Kd.S_base ho0) hb); have n5_ := Aside0.mk (Kd.S_lower (Kd.S_new' (Kd.S_new' (Kd.S_new' (Kd.S_new' (Kd.S_new' ho0 (Kd.R_lt (xR HO297.out))) (Kd.S_lt (xS HO300.out))) (Kd.S_lt (xS HO304.out))) (Kd.R_lt (xR HO307.out))) (Kd.S_lt (xS HO310.out))) (below_size (xb HB.out))); have n6_ := Aside0.mk (below_step (xb HB.out) hb); clear HO297; clear HO300; clear HO304; clear HO307; clear HO310; clear HB; have HO297 := n0_; have HO300 := n1_; have HO304 := n2_; have HO307 := n3_; have HO310 := n4_; have HO314 := n5_; have HB := n6_; clear n0_ n1_ n2_ n3_ n4_ n5_ n6_; (try clear hb); (try clear hb2); (try clear hk); (try clear hi); (try clear ho0); (try clear hN348_)))
      (try simp only [Act.put, List.setIfInBounds_toArray, List.set_cons_zero, List.set_cons_succ])
      go_cut [51] (fun v51 wc => ∃ (kq : Nat) (x51_11 : Bool), v51 = .bool x51_11 ∧ Aside0 (laws_FnExactHooksOfReverse.j0 kq l0 l1 t301 t302 t305 t308 t311 t312 x51_11 = some r) ∧ Aside0 (kq ≤ k) ∧ Aside0 (Kd.S (Kd.slice 3 (Kd.int .i64)) 22 wc w.heap.size (fun k_ => some k_ ≠ ((.slice Ao20 t305.length co20) : Value).ownBlock ∧ some k_ ≠ ((.slice Ao21 t308.length co21) : Value).ownBlock ∧ some k_ ≠ (v313 : Value).ownBlock ∧ k_ ≠ dmI N344_ k_ ∧ k_ ≠ dmO N346_ k_ ∧ k_ ≠ dmO N348_ k_) v303 t301) ∧ Aside0 (Kd.R (Kd.int .i64) 3 wc w.heap.size (fun _ => True) (.slice Ao20 t305.length co20) t305) ∧ Aside0 (Kd.S (Kd.slice 3 (Kd.int .i64)) 22 wc w.heap.size (fun k_ => some k_ ≠ (v303 : Value).ownBlock ∧ some k_ ≠ ((.slice Ao20 t305.length co20) : Value).ownBlock ∧ some k_ ≠ (v313 : Value).ownBlock ∧ k_ ≠ dmI N346_ k_ ∧ k_ ≠ dmO N348_ k_) (.slice Ao21 t308.length co21) t308) ∧ Aside0 (Kd.S (Kd.slice 3 (Kd.int .i64)) 22 wc w.heap.size (fun k_ => some k_ ≠ (v303 : Value).ownBlock ∧ some k_ ≠ ((.slice Ao20 t305.length co20) : Value).ownBlock ∧ some k_ ≠ ((.slice Ao21 t308.length co21) : Value).ownBlock ∧ k_ ≠ dmI N348_ k_) v313 t311) ∧ Aside0 (Below w.heap.size w wc))
      case first =>
        have H := HC12.out
        clear HC12
        replace H := Option.bind_eq_some_iff.mp H
        obtain ⟨t315, A230, H⟩ := H
        replace H : (if t315 = true then (laws_FnExactHooksOfReverse.j0 k l0 l1 t301 t302 t305 t308 t311 t312 (t312 != t302)) else (laws_FnExactHooksOfReverse.j0 k l0 l1 t301 t302 t305 t308 t311 t312 true)) = some r := H
        have A23 := Aside0.mk A230
        clear A230
        by_cases c24 : t315 = true
        · subst c24
          have H1 : (laws_FnExactHooksOfReverse.j0 k l0 l1 t301 t302 t305 t308 t311 t312 (t312 != t302)) = some r := by rw [if_pos rfl] at H; exact H
          clear H
          have H := H1
          clear H1
          have H' := Aside0.mk H
          clear H
          obtain ⟨Ao25, co25, eo25⟩ := Kd.S_slice HO314.out
          subst eo25
          obtain ⟨Ao26, co26, eo26⟩ := Kd.S_slice HO304.out
          subst eo26
          go_wp2_with (first | ((with_reducible refine gate_callee (f := 10) rfl ?_); refine goesL_ (some 45) rfl rfl Try.func10 (by kernel_rfl) rfl #[.slice Ao25 t311.length co25, .slice Ao26 t301.length co26] rfl xm ?_; (with_reducible refine (laws_eqIntSS.calls k _ _ t311 _ _ t301 true _ ?side1 ?side2 ?side3 ?side4 A23.out).mono ?_); (case side1 => repeat (first | exact (Kd.S_reads' HO314.out).2.2 | (with_reducible refine Kd.C_alloc ?_ _) | (with_reducible refine Kd.C_drewN ?_ _) | (with_reducible refine Kd.C_drew ?_))); (case side2 => exact (Kd.S_reads' HO314.out).2.1); (case side3 => repeat (first | exact (Kd.S_reads' HO304.out).2.2 | (with_reducible refine Kd.C_alloc ?_ _) | (with_reducible refine Kd.C_drewN ?_ _) | (with_reducible refine Kd.C_drew ?_))); (case side4 => exact (Kd.S_reads' HO304.out).2.1); rintro e w' ⟨rfl, ⟨nd, rfl⟩⟩; refine ⟨_, rfl, ?_⟩))
          go_meet
          case rel => exact ⟨_, ((t312 != t302)), (by first | rfl | (simp; done) | (simp [*]; done)), H', ⟨by first | omega | exact Nat.le_refl _⟩, ⟨by (with_reducible repeat (first | apply Kd.S_alloc | apply Kd.S_drewN | apply Kd.S_drew)); exact Kd.S_mono HO304.out (fun _ hk => ⟨hk.1.1.1.1.2, ⟨hk.1.1.1.2, ⟨hk.1.2, ⟨hk.1.1.1.1.1.1.1, ⟨hk.1.1.2, hk.2⟩⟩⟩⟩⟩)⟩, ⟨by (with_reducible repeat (first | apply Kd.R_alloc | apply Kd.R_drewN | apply Kd.R_drew)); exact Kd.R_mono HO307.out (fun _ hk => trivial)⟩, ⟨by (with_reducible repeat (first | apply Kd.S_alloc | apply Kd.S_drewN | apply Kd.S_drew)); exact Kd.S_mono HO310.out (fun _ hk => ⟨hk.1.1.1.2, ⟨hk.1.1.2, ⟨hk.1.2, ⟨hk.1.1.1.1.1.1, hk.2⟩⟩⟩⟩)⟩, ⟨by (with_reducible repeat (first | apply Kd.S_alloc | apply Kd.S_drewN | apply Kd.S_drew)); exact Kd.S_mono HO314.out (fun _ hk => ⟨hk.1.1.2, ⟨hk.1.2, ⟨hk.2, hk.1.1.1.1.1⟩⟩⟩)⟩, ⟨by repeat (first | (with_reducible first | exact HB.out | apply below_alloc | apply pw_below_drewN | apply below_drew1) | exact HB.out)⟩⟩
        · replace c24 := Bool.eq_false_iff.mpr c24
          subst c24
          have H1 : (laws_FnExactHooksOfReverse.j0 k l0 l1 t301 t302 t305 t308 t311 t312 true) = some r := by rw [if_neg (show ¬ (false = true) by decide)] at H; exact H
          clear H
          have H := H1
          clear H1
          have H' := Aside0.mk H
          clear H
          obtain ⟨Ao27, co27, eo27⟩ := Kd.S_slice HO314.out
          subst eo27
          obtain ⟨Ao28, co28, eo28⟩ := Kd.S_slice HO304.out
          subst eo28
          go_wp2_with (first | ((with_reducible refine gate_callee (f := 10) rfl ?_); refine goesL_ (some 45) rfl rfl Try.func10 (by kernel_rfl) rfl #[.slice Ao27 t311.length co27, .slice Ao28 t301.length co28] rfl xm ?_; (with_reducible refine (laws_eqIntSS.calls k _ _ t311 _ _ t301 false _ ?side1 ?side2 ?side3 ?side4 A23.out).mono ?_); (case side1 => repeat (first | exact (Kd.S_reads' HO314.out).2.2 | (with_reducible refine Kd.C_alloc ?_ _) | (with_reducible refine Kd.C_drewN ?_ _) | (with_reducible refine Kd.C_drew ?_))); (case side2 => exact (Kd.S_reads' HO314.out).2.1); (case side3 => repeat (first | exact (Kd.S_reads' HO304.out).2.2 | (with_reducible refine Kd.C_alloc ?_ _) | (with_reducible refine Kd.C_drewN ?_ _) | (with_reducible refine Kd.C_drew ?_))); (case side4 => exact (Kd.S_reads' HO304.out).2.1); rintro e w' ⟨rfl, ⟨nd, rfl⟩⟩; refine ⟨_, rfl, ?_⟩))
          go_meet
          case rel => exact ⟨_, (true), (by first | rfl | (simp; done) | (simp [*]; done)), H', ⟨by first | omega | exact Nat.le_refl _⟩, ⟨by (with_reducible repeat (first | apply Kd.S_alloc | apply Kd.S_drewN | apply Kd.S_drew)); exact Kd.S_mono HO304.out (fun _ hk => ⟨hk.1.1.1.1.2, ⟨hk.1.1.1.2, ⟨hk.1.2, ⟨hk.1.1.1.1.1.1.1, ⟨hk.1.1.2, hk.2⟩⟩⟩⟩⟩)⟩, ⟨by (with_reducible repeat (first | apply Kd.R_alloc | apply Kd.R_drewN | apply Kd.R_drew)); exact Kd.R_mono HO307.out (fun _ hk => trivial)⟩, ⟨by (with_reducible repeat (first | apply Kd.S_alloc | apply Kd.S_drewN | apply Kd.S_drew)); exact Kd.S_mono HO310.out (fun _ hk => ⟨hk.1.1.1.2, ⟨hk.1.1.2, ⟨hk.1.2, ⟨hk.1.1.1.1.1.1, hk.2⟩⟩⟩⟩)⟩, ⟨by (with_reducible repeat (first | apply Kd.S_alloc | apply Kd.S_drewN | apply Kd.S_drew)); exact Kd.S_mono HO314.out (fun _ hk => ⟨hk.1.1.2, ⟨hk.1.2, ⟨hk.2, hk.1.1.1.1.1⟩⟩⟩)⟩, ⟨by repeat (first | (with_reducible first | exact HB.out | apply below_alloc | apply pw_below_drewN | apply below_drew1) | exact HB.out)⟩⟩
      case rest =>
        clear HC12
        try clear c1
        try clear c2
        try clear p2
        try clear c3
        try clear c3b0
        try clear c3b1
        try clear c4
        try clear c5
        try clear c5b0
        try clear c7
        try clear c8
        try clear c10
        try clear c15
        try clear c16
        try clear c24
        obtain ⟨kq, x51_11, rfl, HA, HJ11, HO_6, HO_8, HO_9, HO_10, HB⟩ := hcut
        cases kq with
        | zero => exact absurd HA.out (by simp [laws_FnExactHooksOfReverse.j0])
        | succ kj11 =>
          have H := HA.out
          clear HA
          simp only [laws_FnExactHooksOfReverse.j0] at H
          by_cases c29 : x51_11 = true
          · subst c29
            have H1 : (some false) = some r := by rw [if_pos rfl] at H; exact H
            clear H
            have H := H1
            clear H1
            obtain rfl := Option.some.inj H
            go_wp2
            go_ret
            exact ⟨by first | rfl | (simp [errW_none, errW_some] <;> rfl) | (simp [*, errW_none, errW_some] <;> rfl), by repeat (first | (with_reducible first | exact HB.out | apply below_alloc | apply pw_below_drewN | apply below_drew1) | exact HB.out)⟩
          · replace c29 := Bool.eq_false_iff.mpr c29
            subst c29
            have H1 : ((laws_toIntS.f kj11 l0).bind fun t316 => ((laws_eqIntS.f kj11 t305 t316).bind fun t319 => (if t319 = true then ((laws_toIntSS.f kj11 l1).bind fun t320 => ((laws_eqIntSS.f kj11 t308 t320).bind fun t323 => (if t323 = true then ((laws_markIntS.f kj11 t305 1).bind fun bt324 => ((laws_markIntSS.f kj11 t308 bt324.1).bind fun bt326 => (if bt326.1 < 0 then (laws_FnExactHooksOfReverse.j1 kj11 l0 l1 t301 t302 t311 true) else ((laws_eqIntSS.f kj11 t311 t301).bind fun t328 => (if t328 = true then (laws_FnExactHooksOfReverse.j1 kj11 l0 l1 t301 t302 t311 (t312 != t302)) else (laws_FnExactHooksOfReverse.j1 kj11 l0 l1 t301 t302 t311 true)))))) else (some false)))) else (some false)))) = some r := by rw [if_neg (show ¬ (false = true) by decide)] at H; exact H
            clear H
            have H := H1
            clear H1
            replace H := Option.bind_eq_some_iff.mp H
            obtain ⟨t316, A300, H⟩ := H
            replace H : ((laws_eqIntS.f kj11 t305 t316).bind fun t319 => (if t319 = true then ((laws_toIntSS.f kj11 l1).bind fun t320 => ((laws_eqIntSS.f kj11 t308 t320).bind fun t323 => (if t323 = true then ((laws_markIntS.f kj11 t305 1).bind fun bt324 => ((laws_markIntSS.f kj11 t308 bt324.1).bind fun bt326 => (if bt326.1 < 0 then (laws_FnExactHooksOfReverse.j1 kj11 l0 l1 t301 t302 t311 true) else ((laws_eqIntSS.f kj11 t311 t301).bind fun t328 => (if t328 = true then (laws_FnExactHooksOfReverse.j1 kj11 l0 l1 t301 t302 t311 (t312 != t302)) else (laws_FnExactHooksOfReverse.j1 kj11 l0 l1 t301 t302 t311 true)))))) else (some false)))) else (some false))) = some r := H
            have A30 := Aside0.mk A300
            clear A300
            replace H := Option.bind_eq_some_iff.mp H
            obtain ⟨t319, A310, H⟩ := H
            replace H : (if t319 = true then ((laws_toIntSS.f kj11 l1).bind fun t320 => ((laws_eqIntSS.f kj11 t308 t320).bind fun t323 => (if t323 = true then ((laws_markIntS.f kj11 t305 1).bind fun bt324 => ((laws_markIntSS.f kj11 t308 bt324.1).bind fun bt326 => (if bt326.1 < 0 then (laws_FnExactHooksOfReverse.j1 kj11 l0 l1 t301 t302 t311 true) else ((laws_eqIntSS.f kj11 t311 t301).bind fun t328 => (if t328 = true then (laws_FnExactHooksOfReverse.j1 kj11 l0 l1 t301 t302 t311 (t312 != t302)) else (laws_FnExactHooksOfReverse.j1 kj11 l0 l1 t301 t302 t311 true)))))) else (some false)))) else (some false)) = some r := H
            have A31 := Aside0.mk A310
            clear A310
            by_cases c32 : t319 = true
            · subst c32
              have H1 : ((laws_toIntSS.f kj11 l1).bind fun t320 => ((laws_eqIntSS.f kj11 t308 t320).bind fun t323 => (if t323 = true then ((laws_markIntS.f kj11 t305 1).bind fun bt324 => ((laws_markIntSS.f kj11 t308 bt324.1).bind fun bt326 => (if bt326.1 < 0 then (laws_FnExactHooksOfReverse.j1 kj11 l0 l1 t301 t302 t311 true) else ((laws_eqIntSS.f kj11 t311 t301).bind fun t328 => (if t328 = true then (laws_FnExactHooksOfReverse.j1 kj11 l0 l1 t301 t302 t311 (t312 != t302)) else (laws_FnExactHooksOfReverse.j1 kj11 l0 l1 t301 t302 t311 true)))))) else (some false)))) = some r := by rw [if_pos rfl] at H; exact H
              clear H
              have H := H1
              clear H1
              replace H := Option.bind_eq_some_iff.mp H
              obtain ⟨t320, A330, H⟩ := H
              replace H : ((laws_eqIntSS.f kj11 t308 t320).bind fun t323 => (if t323 = true then ((laws_markIntS.f kj11 t305 1).bind fun bt324 => ((laws_markIntSS.f kj11 t308 bt324.1).bind fun bt326 => (if bt326.1 < 0 then (laws_FnExactHooksOfReverse.j1 kj11 l0 l1 t301 t302 t311 true) else ((laws_eqIntSS.f kj11 t311 t301).bind fun t328 => (if t328 = true then (laws_FnExactHooksOfReverse.j1 kj11 l0 l1 t301 t302 t311 (t312 != t302)) else (laws_FnExactHooksOfReverse.j1 kj11 l0 l1 t301 t302 t311 true)))))) else (some false))) = some r := H
              have A33 := Aside0.mk A330
              clear A330
              replace H := Option.bind_eq_some_iff.mp H
              obtain ⟨t323, A340, H⟩ := H
              replace H : (if t323 = true then ((laws_markIntS.f kj11 t305 1).bind fun bt324 => ((laws_markIntSS.f kj11 t308 bt324.1).bind fun bt326 => (if bt326.1 < 0 then (laws_FnExactHooksOfReverse.j1 kj11 l0 l1 t301 t302 t311 true) else ((laws_eqIntSS.f kj11 t311 t301).bind fun t328 => (if t328 = true then (laws_FnExactHooksOfReverse.j1 kj11 l0 l1 t301 t302 t311 (t312 != t302)) else (laws_FnExactHooksOfReverse.j1 kj11 l0 l1 t301 t302 t311 true)))))) else (some false)) = some r := H
              have A34 := Aside0.mk A340
              clear A340
              by_cases c35 : t323 = true
              · subst c35
                have H1 : ((laws_markIntS.f kj11 t305 1).bind fun bt324 => ((laws_markIntSS.f kj11 t308 bt324.1).bind fun bt326 => (if bt326.1 < 0 then (laws_FnExactHooksOfReverse.j1 kj11 l0 l1 t301 t302 t311 true) else ((laws_eqIntSS.f kj11 t311 t301).bind fun t328 => (if t328 = true then (laws_FnExactHooksOfReverse.j1 kj11 l0 l1 t301 t302 t311 (t312 != t302)) else (laws_FnExactHooksOfReverse.j1 kj11 l0 l1 t301 t302 t311 true)))))) = some r := by rw [if_pos rfl] at H; exact H
                clear H
                have H := H1
                clear H1
                replace H := Option.bind_eq_some_iff.mp H
                obtain ⟨⟨t324, t325⟩, A360, H⟩ := H
                replace H : ((laws_markIntSS.f kj11 t308 t324).bind fun bt326 => (if bt326.1 < 0 then (laws_FnExactHooksOfReverse.j1 kj11 l0 l1 t301 t302 t311 true) else ((laws_eqIntSS.f kj11 t311 t301).bind fun t328 => (if t328 = true then (laws_FnExactHooksOfReverse.j1 kj11 l0 l1 t301 t302 t311 (t312 != t302)) else (laws_FnExactHooksOfReverse.j1 kj11 l0 l1 t301 t302 t311 true))))) = some r := H
                have A36 := Aside0.mk A360
                clear A360
                replace H := Option.bind_eq_some_iff.mp H
                obtain ⟨⟨t326, t327⟩, A370, H⟩ := H
                replace H : (if t326 < 0 then (laws_FnExactHooksOfReverse.j1 kj11 l0 l1 t301 t302 t311 true) else ((laws_eqIntSS.f kj11 t311 t301).bind fun t328 => (if t328 = true then (laws_FnExactHooksOfReverse.j1 kj11 l0 l1 t301 t302 t311 (t312 != t302)) else (laws_FnExactHooksOfReverse.j1 kj11 l0 l1 t301 t302 t311 true)))) = some r := H
                have A37 := Aside0.mk A370
                clear A370
                have HC38 := Aside0.mk H
                clear H
                go_upto_region 20 with (first | ((with_reducible refine gate_callee (f := 7) rfl ?_); refine goesL_ (some 54) rfl rfl Try.func7 (by kernel_rfl) rfl #[.slice A0 l0.length c0] rfl xm ?_; (with_reducible refine (laws_toIntS.calls kj11 _ _ l0 t316 _ ?side1 ?side2 A30.out).mono ?_); (case side1 => first | exact xc (Kd.C_below HR0.out HB.out) | exact xc HR0.out); (case side2 => exact HC0.out); rintro e w39 ⟨v317, rfl, ho0, hb⟩; refine ⟨_, rfl, ?_⟩; have n0_ := Aside0.mk (Kd.S_elder' (xS HO_6.out) (Kd.R_base ho0) hb); have n1_ := Aside0.mk (Kd.R_elder' (xR HO_8.out) (Kd.R_base ho0) hb); have n2_ := Aside0.mk (Kd.S_elder' (xS HO_9.out) (Kd.R_base ho0) hb); have n3_ := Aside0.mk (Kd.S_elder' (xS HO_10.out) (Kd.R_base ho0) hb); have n4_ := Aside0.mk (Kd.R_lower (Kd.R_new' ho0 (Kd.R_lt (xR HO_8.out))) (below_size (xb HB.out))); have n5_ := Aside0.mk (below_step (xb HB.out) hb); clear HO_6; clear HO_8; clear HO_9; clear HO_10; clear HB; have HO_6 := n0_; have HO_8 := n1_; have HO_9 := n2_; have HO_10 := n3_; have HO318 := n4_; have HB := n5_; clear n0_ n1_ n2_ n3_ n4_ n5_; (try clear hb); (try clear hb2); (try clear hk); (try clear hi); (try clear ho0); obtain ⟨Ao40, co40, eo40⟩ := Kd.R_slice HO318.out; subst eo40) | ((with_reducible refine gate_callee (f := 11) rfl ?_); refine goesL_ (some 55) rfl rfl Try.func11 (by kernel_rfl) rfl #[.slice Ao20 t305.length co20, .slice Ao40 t316.length co40] rfl xm ?_; (with_reducible refine (laws_eqIntS.calls kj11 _ _ t305 _ _ t316 true _ ?side1 ?side2 ?side3 ?side4 A31.out).mono ?_); (case side1 => repeat (first | exact (Kd.R_reads' HO_8.out).2.2 | (with_reducible refine Kd.C_alloc ?_ _) | (with_reducible refine Kd.C_drewN ?_ _) | (with_reducible refine Kd.C_drew ?_))); (case side2 => exact (Kd.R_reads' HO_8.out).2.1); (case side3 => repeat (first | exact (Kd.R_reads' HO318.out).2.2 | (with_reducible refine Kd.C_alloc ?_ _) | (with_reducible refine Kd.C_drewN ?_ _) | (with_reducible refine Kd.C_drew ?_))); (case side4 => exact (Kd.R_reads' HO318.out).2.1); rintro e w' ⟨rfl, ⟨nd, rfl⟩⟩; refine ⟨_, rfl, ?_⟩) | ((with_reducible refine gate_callee (f := 8) rfl ?_); refine goesL_ (some 59) rfl rfl Try.func8 (by kernel_rfl) rfl #[.slice A1 l1.length c1] rfl xm ?_; (with_reducible refine (laws_toIntSS.calls kj11 _ _ l1 t320 _ ?side1 ?side2 A33.out).mono ?_); (case side1 => exact xc (Kd.C_below HR1.out (xb HB.out))); (case side2 => exact HC1.out); rintro e w41 ⟨v321, rfl, ho0, hb⟩; refine ⟨_, rfl, ?_⟩; replace ho0 := Kd.deep0 ho0; obtain ⟨N350_, ho0, hN350_⟩ := ho0; have n0_ := Aside0.mk (Kd.S_elderD (xS HO_6.out) hN350_ (Kd.S_base ho0) hb); have n1_ := Aside0.mk (Kd.R_below (xR HO_8.out) hb); have n2_ := Aside0.mk (Kd.S_elderD (xS HO_9.out) hN350_ (Kd.S_base ho0) hb); have n3_ := Aside0.mk (Kd.S_elderD (xS HO_10.out) hN350_ (Kd.S_base ho0) hb); have n4_ := Aside0.mk (Kd.R_below (xR HO318.out) hb); have n5_ := Aside0.mk (Kd.S_lower (Kd.S_new' (Kd.S_new' (Kd.S_new' (Kd.S_new' (Kd.S_new' ho0 (Kd.S_lt (xS HO_6.out))) (Kd.R_lt (xR HO_8.out))) (Kd.S_lt (xS HO_9.out))) (Kd.S_lt (xS HO_10.out))) (Kd.R_lt (xR HO318.out))) (below_size (xb HB.out))); have n6_ := Aside0.mk (below_step (xb HB.out) hb); clear HO_6; clear HO_8; clear HO_9; clear HO_10; clear HO318; clear HB; have HO_6 := n0_; have HO_8 := n1_; have HO_9 := n2_; have HO_10 := n3_; have HO318 := n4_; have HO322 := n5_; have HB := n6_; clear n0_ n1_ n2_ n3_ n4_ n5_ n6_; (try clear hb); (try clear hb2); (try clear hk); (try clear hi); (try clear ho0); (try clear hN350_); obtain ⟨Ao42, co42, eo42⟩ := Kd.S_slice HO322.out; subst eo42) | ((with_reducible refine gate_callee (f := 10) rfl ?_); refine goesL_ (some 60) rfl rfl Try.func10 (by kernel_rfl) rfl #[.slice Ao21 t308.length co21, .slice Ao42 t320.length co42] rfl xm ?_; (with_reducible refine (laws_eqIntSS.calls kj11 _ _ t308 _ _ t320 true _ ?side1 ?side2 ?side3 ?side4 A34.out).mono ?_); (case side1 => repeat (first | exact (Kd.S_reads' HO_9.out).2.2 | (with_reducible refine Kd.C_alloc ?_ _) | (with_reducible refine Kd.C_drewN ?_ _) | (with_reducible refine Kd.C_drew ?_))); (case side2 => exact (Kd.S_reads' HO_9.out).2.1); (case side3 => repeat (first | exact (Kd.S_reads' HO322.out).2.2 | (with_reducible refine Kd.C_alloc ?_ _) | (with_reducible refine Kd.C_drewN ?_ _) | (with_reducible refine Kd.C_drew ?_))); (case side4 => exact (Kd.S_reads' HO322.out).2.1); rintro e w' ⟨rfl, ⟨nd, rfl⟩⟩; refine ⟨_, rfl, ?_⟩) | ((with_reducible refine gate_callee (f := 12) rfl ?_); refine goesL_ (some 64) rfl rfl Try.func12 (by kernel_rfl) rfl #[.slice Ao20 t305.length co20, .int .i64 1] rfl xm ?_; (with_reducible refine (laws_markIntS.calls kj11 (fun k_ => some k_ = (.slice Ao20 t305.length co20 : Value).ownBlock) (.slice Ao20 t305.length co20) t305 1 t324 t325 w _ ?side1 ?side2 A36.out).mono ?_); (case side1 => repeat (first | (with_reducible first | exact HB.out | apply below_alloc | apply pw_below_drewN | apply below_drew1) | exact HB.out)); (case side2 => exact Kd.R_tight rfl HO_8.out); rintro e w43 ⟨rfl, hy0, hb, hkp⟩; refine ⟨_, rfl, ?_⟩; have n0_ := Aside0.mk (Kd.S_mono (ok' := fun k_ => some k_ ≠ (.slice Ao20 t305.length co20 : Value).ownBlock ∧ some k_ ≠ (.slice Ao21 t308.length co21 : Value).ownBlock ∧ some k_ ≠ (v313 : Value).ownBlock ∧ some k_ ≠ (.slice Ao40 t316.length co40 : Value).ownBlock ∧ some k_ ≠ (.slice Ao42 t320.length co42 : Value).ownBlock ∧ k_ ≠ dmI N344_ k_ ∧ k_ ≠ dmO N346_ k_ ∧ k_ ≠ dmO N348_ k_ ∧ k_ ≠ dmO N350_ k_) (Kd.S_keptB (HO_6.out) hkp (fun k_ hk_ hs_ => (hk_.1.1.1.1) hs_)) (fun k_ hk_ => ⟨hk_.1.1.1.1.1, hk_.1.1.1.1.2.1, hk_.1.1.1.1.2.2.1, hk_.1.1.1.2, hk_.1.1.2, hk_.1.1.1.1.2.2.2.1, hk_.1.1.1.1.2.2.2.2.1, hk_.1.1.1.1.2.2.2.2.2, hk_.1.2⟩)); have n1_ := Aside0.mk (Kd.R_reok rfl hy0 (fun k_ e_ => HO_8.out.1 k_ e_)); have n2_ := Aside0.mk (Kd.S_mono (ok' := fun k_ => some k_ ≠ (v303 : Value).ownBlock ∧ some k_ ≠ (.slice Ao20 t305.length co20 : Value).ownBlock ∧ some k_ ≠ (v313 : Value).ownBlock ∧ some k_ ≠ (.slice Ao40 t316.length co40 : Value).ownBlock ∧ some k_ ≠ (.slice Ao42 t320.length co42 : Value).ownBlock ∧ k_ ≠ dmI N346_ k_ ∧ k_ ≠ dmO N348_ k_ ∧ k_ ≠ dmO N350_ k_) (Kd.S_keptB (HO_9.out) hkp (fun k_ hk_ hs_ => (hk_.1.1.1.2.1) hs_)) (fun k_ hk_ => ⟨hk_.1.1.1.1.1, hk_.1.1.1.1.2.1, hk_.1.1.1.1.2.2.1, hk_.1.1.1.2, hk_.1.1.2, hk_.1.1.1.1.2.2.2.1, hk_.1.1.1.1.2.2.2.2, hk_.1.2⟩)); have n3_ := Aside0.mk (Kd.S_mono (ok' := fun k_ => some k_ ≠ (v303 : Value).ownBlock ∧ some k_ ≠ (.slice Ao20 t305.length co20 : Value).ownBlock ∧ some k_ ≠ (.slice Ao21 t308.length co21 : Value).ownBlock ∧ some k_ ≠ (.slice Ao40 t316.length co40 : Value).ownBlock ∧ some k_ ≠ (.slice Ao42 t320.length co42 : Value).ownBlock ∧ k_ ≠ dmI N348_ k_ ∧ k_ ≠ dmO N350_ k_) (Kd.S_keptB (HO_10.out) hkp (fun k_ hk_ hs_ => (hk_.1.1.1.2.1) hs_)) (fun k_ hk_ => ⟨hk_.1.1.1.1.1, hk_.1.1.1.1.2.1, hk_.1.1.1.1.2.2.1, hk_.1.1.1.2, hk_.1.1.2, hk_.1.1.1.1.2.2.2, hk_.1.2⟩)); have n4_ := Aside0.mk (Kd.R_mono (ok' := fun k_ => some k_ ≠ (.slice Ao20 t305.length co20 : Value).ownBlock) (Kd.R_keptB (HO318.out) hkp (fun k_ hk_ hs_ => (hk_.2) hs_)) (fun k_ hk_ => hk_.1.2)); have n5_ := Aside0.mk (Kd.S_mono (ok' := fun k_ => some k_ ≠ (v303 : Value).ownBlock ∧ some k_ ≠ (.slice Ao20 t305.length co20 : Value).ownBlock ∧ some k_ ≠ (.slice Ao21 t308.length co21 : Value).ownBlock ∧ some k_ ≠ (v313 : Value).ownBlock ∧ some k_ ≠ (.slice Ao40 t316.length co40 : Value).ownBlock ∧ k_ ≠ dmI N350_ k_) (Kd.S_keptB (HO322.out) hkp (fun k_ hk_ hs_ => (hk_.1.1.1.2) hs_)) (fun k_ hk_ => ⟨hk_.1.1.1.1.1.2, hk_.1.1.1.1.2, hk_.1.1.1.2, hk_.1.1.2, hk_.1.2, hk_.1.1.1.1.1.1⟩)); have n6_ := Aside0.mk (hb); clear HO_6; clear HO_8; clear HO_9; clear HO_10; clear HO318; clear HO322; clear HB; have HO_6 := n0_; have HO_8 := n1_; have HO_9 := n2_; have HO_10 := n3_; have HO318 := n4_; have HO322 := n5_; have HB := n6_; clear n0_ n1_ n2_ n3_ n4_ n5_ n6_; (try clear hb); (try clear hkp); (try clear hy0)) | ((with_reducible refine gate_callee (f := 13) rfl ?_); refine goesL_ (some 67) rfl rfl Try.func13 (by kernel_rfl) rfl #[.slice Ao21 t308.length co21, .int .i64 t324] rfl xm ?_; (with_reducible refine (laws_markIntSS.calls kj11 ?pp1_ (.slice Ao21 t308.length co21) t308 t324 t326 t327 w _ ?side1 ?side2 A37.out).mono ?_); (case side1 => repeat (first | (with_reducible first | exact HB.out | apply below_alloc | apply pw_below_drewN | apply below_drew1) | exact HB.out)); (case side2 => first | exact HO_9.out | ((with_reducible repeat (first | apply Kd.S_alloc | apply Kd.S_drewN | apply Kd.S_drew)); exact HO_9.out)); rintro e w44 ⟨rfl, hy0, hb, hkp⟩; refine ⟨_, rfl, ?_⟩; (first | have n0_ := Aside0.mk (Kd.S_mono (ok' := fun k_ => some k_ ≠ (.slice Ao20 t305.length co20 : Value).ownBlock ∧ some k_ ≠ (.slice Ao21 t308.length co21 : Value).ownBlock ∧ some k_ ≠ (v313 : Value).ownBlock ∧ some k_ ≠ (.slice Ao40 t316.length co40 : Value).ownBlock ∧ some k_ ≠ (.slice Ao42 t320.length co42 : Value).ownBlock ∧ k_ ≠ dmI N344_ k_ ∧ k_ ≠ dmO N346_ k_ ∧ k_ ≠ dmO N348_ k_ ∧ k_ ≠ dmO N350_ k_) (Kd.S_keptB (HO_6.out) hkp (fun k_ hk_ hs_ => dmNo hs_.2.2.2.2.2.1 hk_.2.2.2.2.2.2.1)) (fun k_ hk_ => ⟨hk_.1.1, hk_.1.2.1, hk_.1.2.2.1, hk_.1.2.2.2.1, hk_.1.2.2.2.2.1, hk_.1.2.2.2.2.2.1, hk_.1.2.2.2.2.2.2.1, hk_.1.2.2.2.2.2.2.2.1, hk_.1.2.2.2.2.2.2.2.2⟩)) | have n0_ := Aside0.mk (Kd.S_mono (ok' := fun k_ => some k_ ≠ (.slice Ao20 t305.length co20 : Value).ownBlock ∧ some k_ ≠ (.slice Ao21 t308.length co21 : Value).ownBlock ∧ some k_ ≠ (v313 : Value).ownBlock ∧ some k_ ≠ (.slice Ao40 t316.length co40 : Value).ownBlock ∧ some k_ ≠ (.slice Ao42 t320.length co42 : Value).ownBlock ∧ k_ ≠ dmI N344_ k_ ∧ k_ ≠ dmO N346_ k_ ∧ k_ ≠ dmO N348_ k_ ∧ k_ ≠ dmO N350_ k_) (Kd.S_keptB (Kd.S_drewN HO_6.out _) hkp (fun k_ hk_ hs_ => dmNo hs_.2.2.2.2.2.1 hk_.2.2.2.2.2.2.1)) (fun k_ hk_ => ⟨hk_.1.1, hk_.1.2.1, hk_.1.2.2.1, hk_.1.2.2.2.1, hk_.1.2.2.2.2.1, hk_.1.2.2.2.2.2.1, hk_.1.2.2.2.2.2.2.1, hk_.1.2.2.2.2.2.2.2.1, hk_.1.2.2.2.2.2.2.2.2⟩))); have n1_ := Aside0.mk (Kd.R_mono (ok' := fun k_ => some k_ ≠ (.slice Ao40 t316.length co40 : Value).ownBlock) (Kd.R_keptB (Kd.R_tight2 rfl HO_8.out) hkp (fun k_ hk_ hs_ => by have h_ := hs_; first | exact h_ hk_.1 | exact h_.1 hk_.1 | exact h_.2.1 hk_.1 | exact h_.2 hk_.1 | exact h_.2.2.1 hk_.1 | exact h_.2.2 hk_.1 | exact h_.2.2.2.1 hk_.1 | exact h_.2.2.2 hk_.1 | exact h_.2.2.2.2.1 hk_.1 | exact h_.2.2.2.2 hk_.1 | exact h_.2.2.2.2.2.1 hk_.1 | exact h_.2.2.2.2.2 hk_.1 | exact h_.2.2.2.2.2.2.1 hk_.1 | exact h_.2.2.2.2.2.2 hk_.1 | exact h_.2.2.2.2.2.2.2.1 hk_.1 | exact h_.2.2.2.2.2.2.2 hk_.1 | exact h_.2.2.2.2.2.2.2.2.1 hk_.1 | exact h_.2.2.2.2.2.2.2.2 hk_.1 | exact h_.1.2 hk_.1 | exact h_.1.1.2 hk_.1 | exact h_.1.1.1.2 hk_.1 | exact h_.1.1.1.1.2 hk_.1 | exact h_.1.1.1.1.1.2 hk_.1 | exact h_.1.1.1.1.1.1.2 hk_.1 | exact h_.1.1.1.1.1.1.1.2 hk_.1 | exact h_.1.1.1.1.1.1.1.1.2 hk_.1 | exact h_.1.1 hk_.1 | exact h_.1.1.1 hk_.1 | exact h_.1.1.1.1 hk_.1 | exact h_.1.1.1.1.1 hk_.1 | exact h_.1.1.1.1.1.1 hk_.1 | exact h_.1.1.1.1.1.1.1 hk_.1 | exact h_.1.1.1.1.1.1.1.1 hk_.1)) (fun k_ hk_ => by have q_ := hk_.1.2; first | exact q_ | exact q_.2 | exact q_.1 | (simp only [and_assoc] at q_; exact q_))); have n2_ := Aside0.mk (Kd.S_mono hy0 (fun k_ hk_ => hk_)); (first | have n3_ := Aside0.mk (Kd.S_mono (ok' := fun k_ => some k_ ≠ (v303 : Value).ownBlock ∧ some k_ ≠ (.slice Ao20 t305.length co20 : Value).ownBlock ∧ some k_ ≠ (.slice Ao21 t308.length co21 : Value).ownBlock ∧ some k_ ≠ (.slice Ao40 t316.length co40 : Value).ownBlock ∧ some k_ ≠ (.slice Ao42 t320.length co42 : Value).ownBlock ∧ k_ ≠ dmI N348_ k_ ∧ k_ ≠ dmO N350_ k_) (Kd.S_keptB (HO_10.out) hkp (fun k_ hk_ hs_ => dmNo hk_.2.2.2.2.2.1 hs_.2.2.2.2.2.2.1)) (fun k_ hk_ => ⟨hk_.1.1, hk_.1.2.1, hk_.1.2.2.1, hk_.1.2.2.2.1, hk_.1.2.2.2.2.1, hk_.1.2.2.2.2.2.1, hk_.1.2.2.2.2.2.2⟩)) | have n3_ := Aside0.mk (Kd.S_mono (ok' := fun k_ => some k_ ≠ (v303 : Value).ownBlock ∧ some k_ ≠ (.slice Ao20 t305.length co20 : Value).ownBlock ∧ some k_ ≠ (.slice Ao21 t308.length co21 : Value).ownBlock ∧ some k_ ≠ (.slice Ao40 t316.length co40 : Value).ownBlock ∧ some k_ ≠ (.slice Ao42 t320.length co42 : Value).ownBlock ∧ k_ ≠ dmI N348_ k_ ∧ k_ ≠ dmO N350_ k_) (Kd.S_keptB (Kd.S_drewN HO_10.out _) hkp (fun k_ hk_ hs_ => dmNo hk_.2.2.2.2.2.1 hs_.2.2.2.2.2.2.1)) (fun k_ hk_ => ⟨hk_.1.1, hk_.1.2.1, hk_.1.2.2.1, hk_.1.2.2.2.1, hk_.1.2.2.2.2.1, hk_.1.2.2.2.2.2.1, hk_.1.2.2.2.2.2.2⟩))); have n4_ := Aside0.mk (Kd.R_mono (ok' := fun k_ => some k_ ≠ (.slice Ao20 t305.length co20 : Value).ownBlock) (Kd.R_keptB (Kd.R_tight2 rfl HO318.out) hkp (fun k_ hk_ hs_ => by have h_ := hs_; first | exact h_ hk_.1 | exact h_.1 hk_.1 | exact h_.2.1 hk_.1 | exact h_.2 hk_.1 | exact h_.2.2.1 hk_.1 | exact h_.2.2 hk_.1 | exact h_.2.2.2.1 hk_.1 | exact h_.2.2.2 hk_.1 | exact h_.2.2.2.2.1 hk_.1 | exact h_.2.2.2.2 hk_.1 | exact h_.2.2.2.2.2.1 hk_.1 | exact h_.2.2.2.2.2 hk_.1 | exact h_.2.2.2.2.2.2.1 hk_.1 | exact h_.2.2.2.2.2.2 hk_.1 | exact h_.2.2.2.2.2.2.2.1 hk_.1 | exact h_.2.2.2.2.2.2.2 hk_.1 | exact h_.2.2.2.2.2.2.2.2.1 hk_.1 | exact h_.2.2.2.2.2.2.2.2 hk_.1 | exact h_.1.2 hk_.1 | exact h_.1.1.2 hk_.1 | exact h_.1.1.1.2 hk_.1 | exact h_.1.1.1.1.2 hk_.1 | exact h_.1.1.1.1.1.2 hk_.1 | exact h_.1.1.1.1.1.1.2 hk_.1 | exact h_.1.1.1.1.1.1.1.2 hk_.1 | exact h_.1.1.1.1.1.1.1.1.2 hk_.1 | exact h_.1.1 hk_.1 | exact h_.1.1.1 hk_.1 | exact h_.1.1.1.1 hk_.1 | exact h_.1.1.1.1.1 hk_.1 | exact h_.1.1.1.1.1.1 hk_.1 | exact h_.1.1.1.1.1.1.1 hk_.1 | exact h_.1.1.1.1.1.1.1.1 hk_.1)) (fun k_ hk_ => by have q_ := hk_.1.2; first | exact q_ | exact q_.2 | exact q_.1 | (simp only [and_assoc] at q_; exact q_))); (first | have n5_ := Aside0.mk (Kd.S_mono (ok' := fun k_ => some k_ ≠ (v303 : Value).ownBlock ∧ some k_ ≠ (.slice Ao20 t305.length co20 : Value).ownBlock ∧ some k_ ≠ (.slice Ao21 t308.length co21 : Value).ownBlock ∧ some k_ ≠ (v313 : Value).ownBlock ∧ some k_ ≠ (.slice Ao40 t316.length co40 : Value).ownBlock ∧ k_ ≠ dmI N350_ k_) (Kd.S_keptB (HO322.out) hkp (fun k_ hk_ hs_ => dmNo hk_.2.2.2.2.2 hs_.2.2.2.2.2.2.2)) (fun k_ hk_ => ⟨hk_.1.1, hk_.1.2.1, hk_.1.2.2.1, hk_.1.2.2.2.1, hk_.1.2.2.2.2.1, hk_.1.2.2.2.2.2⟩)) | have n5_ := Aside0.mk (Kd.S_mono (ok' := fun k_ => some k_ ≠ (v303 : Value).ownBlock ∧ some k_ ≠ (.slice Ao20 t305.length co20 : Value).ownBlock ∧ some k_ ≠ (.slice Ao21 t308.length co21 : Value).ownBlock ∧ some k_ ≠ (v313 : Value).ownBlock ∧ some k_ ≠ (.slice Ao40 t316.length co40 : Value).ownBlock ∧ k_ ≠ dmI N350_ k_) (Kd.S_keptB (Kd.S_drewN HO322.out _) hkp (fun k_ hk_ hs_ => dmNo hk_.2.2.2.2.2 hs_.2.2.2.2.2.2.2)) (fun k_ hk_ => ⟨hk_.1.1, hk_.1.2.1, hk_.1.2.2.1, hk_.1.2.2.2.1, hk_.1.2.2.2.2.1, hk_.1.2.2.2.2.2⟩))); have n6_ := Aside0.mk (hb); clear HO_6; clear HO_8; clear HO_9; clear HO_10; clear HO318; clear HO322; clear HB; have HO_6 := n0_; have HO_8 := n1_; have HO_9 := n2_; have HO_10 := n3_; have HO318 := n4_; have HO322 := n5_; have HB := n6_; clear n0_ n1_ n2_ n3_ n4_ n5_ n6_; (try clear hb); (try clear hkp); (try clear hy0)))
                (try simp only [Act.put, List.setIfInBounds_toArray, List.set_cons_zero, List.set_cons_succ])
                go_cut [80] (fun v80 wc => ∃ (kq : Nat) (x80_37 : Bool), v80 = .bool x80_37 ∧ Aside0 (laws_FnExactHooksOfReverse.j1 kq l0 l1 t301 t302 t311 x80_37 = some r) ∧ Aside0 (kq ≤ kj11) ∧ Aside0 (Kd.S (Kd.slice 3 (Kd.int .i64)) 22 wc w.heap.size (fun k_ => some k_ ≠ (v313 : Value).ownBlock ∧ k_ ≠ dmI N344_ k_ ∧ k_ ≠ dmO N346_ k_ ∧ k_ ≠ dmO N348_ k_ ∧ k_ ≠ dmO N350_ k_) v303 t301) ∧ Aside0 (Kd.S (Kd.slice 3 (Kd.int .i64)) 22 wc w.heap.size (fun k_ => some k_ ≠ (v303 : Value).ownBlock ∧ k_ ≠ dmI N348_ k_ ∧ k_ ≠ dmO N350_ k_) v313 t311) ∧ Aside0 (Below w.heap.size w wc))
                case first =>
                  have H := HC38.out
                  clear HC38
                  by_cases c45 : t326 < 0
                  · rw [if_pos c45] at H
                    have c45b0 : decide (t326 < 0) = true := decide_eq_true c45
                    clear c45
                    (first | rw [c45b0] | (simp only [i64_w, i32_w]; rw [c45b0]) | skip)
                    have H' := Aside0.mk H
                    clear H
                    go_wp2
                    go_meet
                    case rel => exact ⟨_, (true), (by first | rfl | (simp; done) | (simp [*]; done)), H', ⟨by have := HJ11.out; first | omega | exact Nat.le_refl _⟩, ⟨by (with_reducible repeat (first | apply Kd.S_alloc | apply Kd.S_drewN | apply Kd.S_drew)); exact Kd.S_mono HO_6.out (fun _ hk => ⟨hk.2.2.1, ⟨hk.2.2.2.2.2.1, ⟨hk.2.2.2.2.2.2.1, ⟨hk.2.2.2.2.2.2.2.1, hk.2.2.2.2.2.2.2.2⟩⟩⟩⟩)⟩, ⟨by (with_reducible repeat (first | apply Kd.S_alloc | apply Kd.S_drewN | apply Kd.S_drew)); exact Kd.S_mono HO_10.out (fun _ hk => ⟨hk.1, ⟨hk.2.2.2.2.2.1, hk.2.2.2.2.2.2⟩⟩)⟩, ⟨by repeat (first | (with_reducible first | exact HB.out | apply below_alloc | apply pw_below_drewN | apply below_drew1) | exact HB.out)⟩⟩
                  · rw [if_neg c45] at H
                    have c45b0 : decide (t326 < 0) = false := decide_eq_false c45
                    clear c45
                    (first | rw [c45b0] | (simp only [i64_w, i32_w]; rw [c45b0]) | skip)
                    replace H := Option.bind_eq_some_iff.mp H
                    obtain ⟨t328, A460, H⟩ := H
                    replace H : (if t328 = true then (laws_FnExactHooksOfReverse.j1 kj11 l0 l1 t301 t302 t311 (t312 != t302)) else (laws_FnExactHooksOfReverse.j1 kj11 l0 l1 t301 t302 t311 true)) = some r := H
                    have A46 := Aside0.mk A460
                    clear A460
                    by_cases c47 : t328 = true
                    · subst c47
                      have H1 : (laws_FnExactHooksOfReverse.j1 kj11 l0 l1 t301 t302 t311 (t312 != t302)) = some r := by rw [if_pos rfl] at H; exact H
                      clear H
                      have H := H1
                      clear H1
                      have H' := Aside0.mk H
                      clear H
                      obtain ⟨Ao48, co48, eo48⟩ := Kd.S_slice HO_10.out
                      subst eo48
                      obtain ⟨Ao49, co49, eo49⟩ := Kd.S_slice HO_6.out
                      subst eo49
                      go_wp2_with (first | (go_at_call 10; (with_reducible refine (laws_eqIntSS.calls kj11 _ _ t311 _ _ t301 true _ ?side1 ?side2 ?side3 ?side4 A46.out).mono ?_); (case side1 => repeat (first | exact (Kd.S_reads' HO_10.out).2.2 | (with_reducible refine Kd.C_alloc ?_ _) | (with_reducible refine Kd.C_drewN ?_ _) | (with_reducible refine Kd.C_drew ?_))); (case side2 => exact (Kd.S_reads' HO_10.out).2.1); (case side3 => repeat (first | exact (Kd.S_reads' HO_6.out).2.2 | (with_reducible refine Kd.C_alloc ?_ _) | (with_reducible refine Kd.C_drewN ?_ _) | (with_reducible refine Kd.C_drew ?_))); (case side4 => exact (Kd.S_reads' HO_6.out).2.1); rintro e w' ⟨rfl, ⟨nd, rfl⟩⟩))
                      go_meet
                      case rel => exact ⟨_, ((t312 != t302)), (by first | rfl | (simp; done) | (simp [*]; done)), H', ⟨by have := HJ11.out; first | omega | exact Nat.le_refl _⟩, ⟨by (with_reducible repeat (first | apply Kd.S_alloc | apply Kd.S_drewN | apply Kd.S_drew)); exact Kd.S_mono HO_6.out (fun _ hk => ⟨hk.2.2.1, ⟨hk.2.2.2.2.2.1, ⟨hk.2.2.2.2.2.2.1, ⟨hk.2.2.2.2.2.2.2.1, hk.2.2.2.2.2.2.2.2⟩⟩⟩⟩)⟩, ⟨by (with_reducible repeat (first | apply Kd.S_alloc | apply Kd.S_drewN | apply Kd.S_drew)); exact Kd.S_mono HO_10.out (fun _ hk => ⟨hk.1, ⟨hk.2.2.2.2.2.1, hk.2.2.2.2.2.2⟩⟩)⟩, ⟨by repeat (first | (with_reducible first | exact HB.out | apply below_alloc | apply pw_below_drewN | apply below_drew1) | exact HB.out)⟩⟩
                    · replace c47 := Bool.eq_false_iff.mpr c47
                      subst c47
                      have H1 : (laws_FnExactHooksOfReverse.j1 kj11 l0 l1 t301 t302 t311 true) = some r := by rw [if_neg (show ¬ (false = true) by decide)] at H; exact H
                      clear H
                      have H := H1
                      clear H1
                      have H' := Aside0.mk H
                      clear H
                      obtain ⟨Ao50, co50, eo50⟩ := Kd.S_slice HO_10.out
                      subst eo50
                      obtain ⟨Ao51, co51, eo51⟩ := Kd.S_slice HO_6.out
                      subst eo51
                      go_wp2_with (first | (go_at_call 10; (with_reducible refine (laws_eqIntSS.calls kj11 _ _ t311 _ _ t301 false _ ?side1 ?side2 ?side3 ?side4 A46.out).mono ?_); (case side1 => repeat (first | exact (Kd.S_reads' HO_10.out).2.2 | (with_reducible refine Kd.C_alloc ?_ _) | (with_reducible refine Kd.C_drewN ?_ _) | (with_reducible refine Kd.C_drew ?_))); (case side2 => exact (Kd.S_reads' HO_10.out).2.1); (case side3 => repeat (first | exact (Kd.S_reads' HO_6.out).2.2 | (with_reducible refine Kd.C_alloc ?_ _) | (with_reducible refine Kd.C_drewN ?_ _) | (with_reducible refine Kd.C_drew ?_))); (case side4 => exact (Kd.S_reads' HO_6.out).2.1); rintro e w' ⟨rfl, ⟨nd, rfl⟩⟩))
                      go_meet
                      case rel => exact ⟨_, (true), (by first | rfl | (simp; done) | (simp [*]; done)), H', ⟨by have := HJ11.out; first | omega | exact Nat.le_refl _⟩, ⟨by (with_reducible repeat (first | apply Kd.S_alloc | apply Kd.S_drewN | apply Kd.S_drew)); exact Kd.S_mono HO_6.out (fun _ hk => ⟨hk.2.2.1, ⟨hk.2.2.2.2.2.1, ⟨hk.2.2.2.2.2.2.1, ⟨hk.2.2.2.2.2.2.2.1, hk.2.2.2.2.2.2.2.2⟩⟩⟩⟩)⟩, ⟨by (with_reducible repeat (first | apply Kd.S_alloc | apply Kd.S_drewN | apply Kd.S_drew)); exact Kd.S_mono HO_10.out (fun _ hk => ⟨hk.1, ⟨hk.2.2.2.2.2.1, hk.2.2.2.2.2.2⟩⟩)⟩, ⟨by repeat (first | (with_reducible first | exact HB.out | apply below_alloc | apply pw_below_drewN | apply below_drew1) | exact HB.out)⟩⟩
                case rest =>
                  clear HC38
                  try clear c1
                  try clear c2
                  try clear p2
                  try clear c3
                  try clear c3b0
                  try clear c3b1
                  try clear c4
                  try clear c5
                  try clear c5b0
                  try clear c7
                  try clear c8
                  try clear c10
                  try clear c11
                  try clear c12
                  try clear c13
                  try clear c15
                  try clear c16
                  try clear c24
                  try clear c29
                  try clear c32
                  try clear c35
                  try clear c45
                  try clear c45b0
                  try clear c47
                  try clear p2
                  obtain ⟨kq, x80_37, rfl, HA, HJ37, HO_6, HO_10, HB⟩ := hcut
                  cases kq with
                  | zero => exact absurd HA.out (by simp [laws_FnExactHooksOfReverse.j1])
                  | succ kj37 =>
                    have H := HA.out
                    clear HA
                    simp only [laws_FnExactHooksOfReverse.j1] at H
                    by_cases c52 : x80_37 = true
                    · subst c52
                      have H1 : (some false) = some r := by rw [if_pos rfl] at H; exact H
                      clear H
                      have H := H1
                      clear H1
                      obtain rfl := Option.some.inj H
                      go_wp2
                      go_ret
                      exact ⟨by first | rfl | (simp [errW_none, errW_some] <;> rfl) | (simp [*, errW_none, errW_some] <;> rfl), by repeat (first | (with_reducible first | exact HB.out | apply below_alloc | apply pw_below_drewN | apply below_drew1) | exact HB.out)⟩
                    · replace c52 := Bool.eq_false_iff.mpr c52
                      subst c52
                      have H1 : ((laws_markIntSS.f kj37 t311 1).bind fun bt329 => ((laws_heldIntSS.f kj37 bt329.2 1).bind fun t331 => (if t331 < 0 then (some false) else (if t331 = bt329.1 then ((laws_toIntS.f kj37 l0).bind fun t332 => ((laws_toIntSS.f kj37 l1).bind fun t335 => ((impl_HooksOfReverse.f kj37 t332 t335).bind fun bt338 => ((laws_eqIntSS.f kj37 bt338.1 t301).bind fun t342 => (if t342 = true then (laws_FnExactHooksOfReverse.j2 kj37 bt329.2 bt329.1 (bt338.2 != t302)) else (laws_FnExactHooksOfReverse.j2 kj37 bt329.2 bt329.1 true)))))) else (some false))))) = some r := by rw [if_neg (show ¬ (false = true) by decide)] at H; exact H
                      clear H
                      have H := H1
                      clear H1
                      replace H := Option.bind_eq_some_iff.mp H
                      obtain ⟨⟨t329, t330⟩, A530, H⟩ := H
                      replace H : ((laws_heldIntSS.f kj37 t330 1).bind fun t331 => (if t331 < 0 then (some false) else (if t331 = t329 then ((laws_toIntS.f kj37 l0).bind fun t332 => ((laws_toIntSS.f kj37 l1).bind fun t335 => ((impl_HooksOfReverse.f kj37 t332 t335).bind fun bt338 => ((laws_eqIntSS.f kj37 bt338.1 t301).bind fun t342 => (if t342 = true then (laws_FnExactHooksOfReverse.j2 kj37 t330 t329 (bt338.2 != t302)) else (laws_FnExactHooksOfReverse.j2 kj37 t330 t329 true)))))) else (some false)))) = some r := H
                      have A53 := Aside0.mk A530
                      clear A530
                      replace H := Option.bind_eq_some_iff.mp H
                      obtain ⟨t331, A540, H⟩ := H
                      replace H : (if t331 < 0 then (some false) else (if t331 = t329 then ((laws_toIntS.f kj37 l0).bind fun t332 => ((laws_toIntSS.f kj37 l1).bind fun t335 => ((impl_HooksOfReverse.f kj37 t332 t335).bind fun bt338 => ((laws_eqIntSS.f kj37 bt338.1 t301).bind fun t342 => (if t342 = true then (laws_FnExactHooksOfReverse.j2 kj37 t330 t329 (bt338.2 != t302)) else (laws_FnExactHooksOfReverse.j2 kj37 t330 t329 true)))))) else (some false))) = some r := H
                      have A54 := Aside0.mk A540
                      clear A540
                      by_cases c55 : t331 < 0
                      · rw [if_pos c55] at H
                        have c55b0 : decide (t331 < 0) = true := decide_eq_true c55
                        clear c55
                        obtain rfl := Option.some.inj H
                        obtain ⟨Ao56, co56, eo56⟩ := Kd.S_slice HO_10.out
                        subst eo56
                        go_wp2_with (first | ((with_reducible refine gate_callee (f := 13) rfl ?_); refine goesL_ (some 83) rfl rfl Try.func13 (by kernel_rfl) rfl #[.slice Ao56 t311.length co56, .int .i64 1] rfl xm ?_; (with_reducible refine (laws_markIntSS.calls kj37 ?pp2_ (.slice Ao56 t311.length co56) t311 1 t329 t330 w _ ?side1 ?side2 A53.out).mono ?_); (case side1 => repeat (first | (with_reducible first | exact HB.out | apply below_alloc | apply pw_below_drewN | apply below_drew1) | exact HB.out)); (case side2 => first | exact HO_10.out | ((with_reducible repeat (first | apply Kd.S_alloc | apply Kd.S_drewN | apply Kd.S_drew)); exact HO_10.out)); rintro e w57 ⟨rfl, hy0, hb, hkp⟩; refine ⟨_, rfl, ?_⟩; (first | have n0_ := Aside0.mk (Kd.S_mono (ok' := fun k_ => some k_ ≠ (.slice Ao56 t311.length co56 : Value).ownBlock ∧ k_ ≠ dmI N344_ k_ ∧ k_ ≠ dmO N346_ k_ ∧ k_ ≠ dmO N348_ k_ ∧ k_ ≠ dmO N350_ k_) (Kd.S_keptB (HO_6.out) hkp (fun k_ hk_ hs_ => dmNo hs_.2.1 hk_.2.2.2.1)) (fun k_ hk_ => ⟨hk_.1.1, hk_.1.2.1, hk_.1.2.2.1, hk_.1.2.2.2.1, hk_.1.2.2.2.2⟩)) | have n0_ := Aside0.mk (Kd.S_mono (ok' := fun k_ => some k_ ≠ (.slice Ao56 t311.length co56 : Value).ownBlock ∧ k_ ≠ dmI N344_ k_ ∧ k_ ≠ dmO N346_ k_ ∧ k_ ≠ dmO N348_ k_ ∧ k_ ≠ dmO N350_ k_) (Kd.S_keptB (Kd.S_drewN HO_6.out _) hkp (fun k_ hk_ hs_ => dmNo hs_.2.1 hk_.2.2.2.1)) (fun k_ hk_ => ⟨hk_.1.1, hk_.1.2.1, hk_.1.2.2.1, hk_.1.2.2.2.1, hk_.1.2.2.2.2⟩))); have n1_ := Aside0.mk (Kd.S_mono hy0 (fun k_ hk_ => hk_)); have n2_ := Aside0.mk (hb); clear HO_6; clear HO_10; clear HB; have HO_6 := n0_; have HO_10 := n1_; have HB := n2_; clear n0_ n1_ n2_; (try clear hb); (try clear hkp); (try clear hy0)) | ((with_reducible refine gate_callee (f := 14) rfl ?_); refine goesL_ (some 86) rfl rfl Try.func14 (by kernel_rfl) rfl #[.slice Ao56 t330.length co56, .int .i64 1] rfl (by (try simp only [List.map_toArray, List.map_cons, List.map_nil]); first | done | (rw [show t330.length = t311.length from (Kd.S_reads' HO_10.out).1.symm] <;> rfl) | rfl | (simp only [List.length_drop, List.length_take]; rfl)) ?_; (with_reducible refine (laws_heldIntSS.calls kj37 _ _ t330 1 t331 _ ?side1 ?side2 A54.out).mono ?_); (case side1 => repeat (first | exact (Kd.S_reads' HO_10.out).2.2 | (with_reducible refine Kd.C_alloc ?_ _) | (with_reducible refine Kd.C_drewN ?_ _) | (with_reducible refine Kd.C_drew ?_))); (case side2 => rw [show t330.length = t311.length from (Kd.S_reads' HO_10.out).1.symm]; exact (Kd.S_reads' HO_10.out).2.1); rintro e w' ⟨rfl, ⟨nd, rfl⟩⟩; refine ⟨_, rfl, ?_⟩))
                        go_ret
                        exact ⟨by first | rfl | (simp [errW_none, errW_some] <;> rfl) | (simp [*, errW_none, errW_some] <;> rfl), by repeat (first | (with_reducible first | exact HB.out | apply below_alloc | apply pw_below_drewN | apply below_drew1) | exact HB.out)⟩
                      · rw [if_neg c55] at H
                        have c55b0 : decide (t331 < 0) = false := decide_eq_false c55
                        clear c55
                        by_cases c58 : t331 = t329
                        · rw [if_pos c58] at H
                          have c58b0 : (t331 == t329) = true := beq_iff_eq.mpr c58
                          have c58b1 : (t331 != t329) = false := bne_eq_false_iff_eq.mpr c58
                          clear c58
                          replace H := Option.bind_eq_some_iff.mp H
                          obtain ⟨t332, A590, H⟩ := H
                          replace H : ((laws_toIntSS.f kj37 l1).bind fun t335 => ((impl_HooksOfReverse.f kj37 t332 t335).bind fun bt338 => ((laws_eqIntSS.f kj37 bt338.1 t301).bind fun t342 => (if t342 = true then (laws_FnExactHooksOfReverse.j2 kj37 t330 t329 (bt338.2 != t302)) else (laws_FnExactHooksOfReverse.j2 kj37 t330 t329 true))))) = some r := H
                          have A59 := Aside0.mk A590
                          clear A590
                          replace H := Option.bind_eq_some_iff.mp H
                          obtain ⟨t335, A600, H⟩ := H
                          replace H : ((impl_HooksOfReverse.f kj37 t332 t335).bind fun bt338 => ((laws_eqIntSS.f kj37 bt338.1 t301).bind fun t342 => (if t342 = true then (laws_FnExactHooksOfReverse.j2 kj37 t330 t329 (bt338.2 != t302)) else (laws_FnExactHooksOfReverse.j2 kj37 t330 t329 true)))) = some r := H
                          have A60 := Aside0.mk A600
                          clear A600
                          replace H := Option.bind_eq_some_iff.mp H
                          obtain ⟨⟨t338, t339⟩, A610, H⟩ := H
                          replace H : ((laws_eqIntSS.f kj37 t338 t301).bind fun t342 => (if t342 = true then (laws_FnExactHooksOfReverse.j2 kj37 t330 t329 (t339 != t302)) else (laws_FnExactHooksOfReverse.j2 kj37 t330 t329 true))) = some r := H
                          have A61 := Aside0.mk A610
                          clear A610
                          have HC62 := Aside0.mk H
                          clear H
                          obtain ⟨Ao63, co63, eo63⟩ := Kd.S_slice HO_10.out
                          subst eo63
                          go_upto_region 31 with (first | ((with_reducible refine gate_callee (f := 13) rfl ?_); refine goesL_ (some 83) rfl rfl Try.func13 (by kernel_rfl) rfl #[.slice Ao63 t311.length co63, .int .i64 1] rfl xm ?_; (with_reducible refine (laws_markIntSS.calls kj37 ?pp3_ (.slice Ao63 t311.length co63) t311 1 t329 t330 w _ ?side1 ?side2 A53.out).mono ?_); (case side1 => repeat (first | (with_reducible first | exact HB.out | apply below_alloc | apply pw_below_drewN | apply below_drew1) | exact HB.out)); (case side2 => first | exact HO_10.out | ((with_reducible repeat (first | apply Kd.S_alloc | apply Kd.S_drewN | apply Kd.S_drew)); exact HO_10.out)); rintro e w64 ⟨rfl, hy0, hb, hkp⟩; refine ⟨_, rfl, ?_⟩; (first | have n0_ := Aside0.mk (Kd.S_mono (ok' := fun k_ => some k_ ≠ (.slice Ao63 t311.length co63 : Value).ownBlock ∧ k_ ≠ dmI N344_ k_ ∧ k_ ≠ dmO N346_ k_ ∧ k_ ≠ dmO N348_ k_ ∧ k_ ≠ dmO N350_ k_) (Kd.S_keptB (HO_6.out) hkp (fun k_ hk_ hs_ => dmNo hs_.2.1 hk_.2.2.2.1)) (fun k_ hk_ => ⟨hk_.1.1, hk_.1.2.1, hk_.1.2.2.1, hk_.1.2.2.2.1, hk_.1.2.2.2.2⟩)) | have n0_ := Aside0.mk (Kd.S_mono (ok' := fun k_ => some k_ ≠ (.slice Ao63 t311.length co63 : Value).ownBlock ∧ k_ ≠ dmI N344_ k_ ∧ k_ ≠ dmO N346_ k_ ∧ k_ ≠ dmO N348_ k_ ∧ k_ ≠ dmO N350_ k_) (Kd.S_keptB (Kd.S_drewN HO_6.out _) hkp (fun k_ hk_ hs_ => dmNo hs_.2.1 hk_.2.2.2.1)) (fun k_ hk_ => ⟨hk_.1.1, hk_.1.2.1, hk_.1.2.2.1, hk_.1.2.2.2.1, hk_.1.2.2.2.2⟩))); have n1_ := Aside0.mk (Kd.S_mono hy0 (fun k_ hk_ => hk_)); have n2_ := Aside0.mk (hb); clear HO_6; clear HO_10; clear HB; have HO_6 := n0_; have HO_10 := n1_; have HB := n2_; clear n0_ n1_ n2_; (try clear hb); (try clear hkp); (try clear hy0)) | ((with_reducible refine gate_callee (f := 14) rfl ?_); refine goesL_ (some 86) rfl rfl Try.func14 (by kernel_rfl) rfl #[.slice Ao63 t330.length co63, .int .i64 1] rfl (by (try simp only [List.map_toArray, List.map_cons, List.map_nil]); first | done | (rw [show t330.length = t311.length from (Kd.S_reads' HO_10.out).1.symm] <;> rfl) | rfl | (simp only [List.length_drop, List.length_take]; rfl)) ?_; (with_reducible refine (laws_heldIntSS.calls kj37 _ _ t330 1 t331 _ ?side1 ?side2 A54.out).mono ?_); (case side1 => repeat (first | exact (Kd.S_reads' HO_10.out).2.2 | (with_reducible refine Kd.C_alloc ?_ _) | (with_reducible refine Kd.C_drewN ?_ _) | (with_reducible refine Kd.C_drew ?_))); (case side2 => rw [show t330.length = t311.length from (Kd.S_reads' HO_10.out).1.symm]; exact (Kd.S_reads' HO_10.out).2.1); rintro e w' ⟨rfl, ⟨nd, rfl⟩⟩; refine ⟨_, rfl, ?_⟩) | ((with_reducible refine gate_callee (f := 7) rfl ?_); refine goesL_ (some 94) rfl rfl Try.func7 (by kernel_rfl) rfl #[.slice A0 l0.length c0] rfl xm ?_; (with_reducible refine (laws_toIntS.calls kj37 _ _ l0 t332 _ ?side1 ?side2 A59.out).mono ?_); (case side1 => exact xc (Kd.C_below HR0.out (xb HB.out))); (case side2 => exact HC0.out); rintro e w65 ⟨v333, rfl, ho0, hb⟩; refine ⟨_, rfl, ?_⟩; have n0_ := Aside0.mk (Kd.S_elder' (xS HO_6.out) (Kd.R_base ho0) hb); have n1_ := Aside0.mk (Kd.S_elder' (xS HO_10.out) (Kd.R_base ho0) hb); have n2_ := Aside0.mk (Kd.R_lower ho0 (below_size (xb HB.out))); have n3_ := Aside0.mk (below_step (xb HB.out) hb); clear HO_6; clear HO_10; clear HB; have HO_6 := n0_; have HO_10 := n1_; have HO334 := n2_; have HB := n3_; clear n0_ n1_ n2_ n3_; (try clear hb); (try clear hb2); (try clear hk); (try clear hi); (try clear ho0)) | ((with_reducible refine gate_callee (f := 8) rfl ?_); refine goesL_ (some 96) rfl rfl Try.func8 (by kernel_rfl) rfl #[.slice A1 l1.length c1] rfl xm ?_; (with_reducible refine (laws_toIntSS.calls kj37 _ _ l1 t335 _ ?side1 ?side2 A60.out).mono ?_); (case side1 => first | exact xc (Kd.C_below HR1.out HB.out) | exact xc HR1.out); (case side2 => exact HC1.out); rintro e w66 ⟨v336, rfl, ho0, hb⟩; refine ⟨_, rfl, ?_⟩; replace ho0 := Kd.deep0 ho0; obtain ⟨N352_, ho0, hN352_⟩ := ho0; have n0_ := Aside0.mk (Kd.S_elderD (xS HO_6.out) hN352_ (Kd.S_base ho0) hb); have n1_ := Aside0.mk (Kd.S_elderD (xS HO_10.out) hN352_ (Kd.S_base ho0) hb); have n2_ := Aside0.mk (Kd.R_below (xR HO334.out) hb); have n3_ := Aside0.mk (Kd.S_lower (Kd.S_new' (Kd.S_new' (Kd.S_new' ho0 (Kd.S_lt (xS HO_6.out))) (Kd.S_lt (xS HO_10.out))) (Kd.R_lt (xR HO334.out))) (below_size (xb HB.out))); have n4_ := Aside0.mk (below_step (xb HB.out) hb); clear HO_6; clear HO_10; clear HO334; clear HB; have HO_6 := n0_; have HO_10 := n1_; have HO334 := n2_; have HO337 := n3_; have HB := n4_; clear n0_ n1_ n2_ n3_ n4_; (try clear hb); (try clear hb2); (try clear hk); (try clear hi); (try clear ho0); (try clear hN352_); obtain ⟨Ao67, co67, eo67⟩ := Kd.R_slice HO334.out; subst eo67; obtain ⟨Ao68, co68, eo68⟩ := Kd.S_slice HO337.out; subst eo68) | ((with_reducible refine gate_callee (f := 16) rfl ?_); refine goesL_ (some 97) rfl rfl Try.func16 (by kernel_rfl) rfl #[.slice Ao67 t332.length co67, .slice Ao68 t335.length co68] rfl xm ?_; (with_reducible refine (impl_HooksOfReverse.calls kj37 _ _ t332 _ _ t335 t338 t339 _ ?side1 ?side2 ?side3 ?side4 A61.out).mono ?_); (case side1 => repeat (first | exact (Kd.R_reads' HO334.out).2.2 | (with_reducible refine Kd.C_alloc ?_ _) | (with_reducible refine Kd.C_drewN ?_ _) | (with_reducible refine Kd.C_drew ?_))); (case side2 => exact (Kd.R_reads' HO334.out).2.1); (case side3 => repeat (first | exact (Kd.S_reads' HO337.out).2.2 | (with_reducible refine Kd.C_alloc ?_ _) | (with_reducible refine Kd.C_drewN ?_ _) | (with_reducible refine Kd.C_drew ?_))); (case side4 => exact (Kd.S_reads' HO337.out).2.1); rintro e w69 ⟨v340, rfl, ho0, hb⟩; refine ⟨_, rfl, ?_⟩; replace ho0 := Kd.deep0 ho0; obtain ⟨N354_, ho0, hN354_⟩ := ho0; have n0_ := Aside0.mk (Kd.S_elderD (xS HO_6.out) hN354_ (Kd.S_base ho0) hb); have n1_ := Aside0.mk (Kd.S_elderD (xS HO_10.out) hN354_ (Kd.S_base ho0) hb); have n2_ := Aside0.mk (Kd.R_below (xR HO334.out) hb); have n3_ := Aside0.mk (Kd.S_elderD (xS HO337.out) hN354_ (Kd.S_base ho0) hb); have n4_ := Aside0.mk (Kd.S_lower (Kd.S_new' (Kd.S_new' (Kd.S_new' (Kd.S_new' ho0 (Kd.S_lt (xS HO_6.out))) (Kd.S_lt (xS HO_10.out))) (Kd.R_lt (xR HO334.out))) (Kd.S_lt (xS HO337.out))) (below_size (xb HB.out))); have n5_ := Aside0.mk (below_step (xb HB.out) hb); clear HO_6; clear HO_10; clear HO334; clear HO337; clear HB; have HO_6 := n0_; have HO_10 := n1_; have HO334 := n2_; have HO337 := n3_; have HO341 := n4_; have HB := n5_; clear n0_ n1_ n2_ n3_ n4_ n5_; (try clear hb); (try clear hb2); (try clear hk); (try clear hi); (try clear ho0); (try clear hN354_)))
                          (try simp only [Act.put, List.setIfInBounds_toArray, List.set_cons_zero, List.set_cons_succ])
                          go_cut [108] (fun v108 wc => ∃ (kq : Nat) (x108_61 : Bool), v108 = .bool x108_61 ∧ Aside0 (laws_FnExactHooksOfReverse.j2 kq t330 t329 x108_61 = some r) ∧ Aside0 (kq ≤ kj37) ∧ Aside0 (Kd.S (Kd.slice 3 (Kd.int .i64)) 22 wc w.heap.size (fun k_ => k_ ≠ dmI N348_ k_ ∧ k_ ≠ dmO N350_ k_ ∧ k_ ≠ dmO N352_ k_ ∧ k_ ≠ dmO N354_ k_) (.slice Ao63 t311.length co63) t330) ∧ Aside0 (Below w.heap.size w wc))
                          case first =>
                            have H := HC62.out
                            clear HC62
                            replace H := Option.bind_eq_some_iff.mp H
                            obtain ⟨t342, A700, H⟩ := H
                            replace H : (if t342 = true then (laws_FnExactHooksOfReverse.j2 kj37 t330 t329 (t339 != t302)) else (laws_FnExactHooksOfReverse.j2 kj37 t330 t329 true)) = some r := H
                            have A70 := Aside0.mk A700
                            clear A700
                            by_cases c71 : t342 = true
                            · subst c71
                              have H1 : (laws_FnExactHooksOfReverse.j2 kj37 t330 t329 (t339 != t302)) = some r := by rw [if_pos rfl] at H; exact H
                              clear H
                              have H := H1
                              clear H1
                              have H' := Aside0.mk H
                              clear H
                              obtain ⟨Ao72, co72, eo72⟩ := Kd.S_slice HO341.out
                              subst eo72
                              obtain ⟨Ao73, co73, eo73⟩ := Kd.S_slice HO_6.out
                              subst eo73
                              go_wp2_with (first | ((with_reducible refine gate_callee (f := 10) rfl ?_); refine goesL_ (some 102) rfl rfl Try.func10 (by kernel_rfl) rfl #[.slice Ao72 t338.length co72, .slice Ao73 t301.length co73] rfl xm ?_; (with_reducible refine (laws_eqIntSS.calls kj37 _ _ t338 _ _ t301 true _ ?side1 ?side2 ?side3 ?side4 A70.out).mono ?_); (case side1 => repeat (first | exact (Kd.S_reads' HO341.out).2.2 | (with_reducible refine Kd.C_alloc ?_ _) | (with_reducible refine Kd.C_drewN ?_ _) | (with_reducible refine Kd.C_drew ?_))); (case side2 => exact (Kd.S_reads' HO341.out).2.1); (case side3 => repeat (first | exact (Kd.S_reads' HO_6.out).2.2 | (with_reducible refine Kd.C_alloc ?_ _) | (with_reducible refine Kd.C_drewN ?_ _) | (with_reducible refine Kd.C_drew ?_))); (case side4 => exact (Kd.S_reads' HO_6.out).2.1); rintro e w' ⟨rfl, ⟨nd, rfl⟩⟩; refine ⟨_, rfl, ?_⟩))
                              go_meet
                              case rel => exact ⟨_, ((t339 != t302)), (by first | rfl | (simp; done) | (simp [*]; done)), H', ⟨by have := HJ11.out; have := HJ37.out; first | omega | exact Nat.le_refl _⟩, ⟨by (with_reducible repeat (first | apply Kd.S_alloc | apply Kd.S_drewN | apply Kd.S_drew)); exact Kd.S_mono HO_10.out (fun _ hk => ⟨hk.1.1.1.1.1.2.1, ⟨hk.1.1.1.1.1.2.2, ⟨hk.1.1.2, hk.2⟩⟩⟩)⟩, ⟨by repeat (first | (with_reducible first | exact HB.out | apply below_alloc | apply pw_below_drewN | apply below_drew1) | exact HB.out)⟩⟩
                            · replace c71 := Bool.eq_false_iff.mpr c71
                              subst c71
                              have H1 : (laws_FnExactHooksOfReverse.j2 kj37 t330 t329 true) = some r := by rw [if_neg (show ¬ (false = true) by decide)] at H; exact H
                              clear H
                              have H := H1
                              clear H1
                              have H' := Aside0.mk H
                              clear H
                              obtain ⟨Ao74, co74, eo74⟩ := Kd.S_slice HO341.out
                              subst eo74
                              obtain ⟨Ao75, co75, eo75⟩ := Kd.S_slice HO_6.out
                              subst eo75
                              go_wp2_with (first | ((with_reducible refine gate_callee (f := 10) rfl ?_); refine goesL_ (some 102) rfl rfl Try.func10 (by kernel_rfl) rfl #[.slice Ao74 t338.length co74, .slice Ao75 t301.length co75] rfl xm ?_; (with_reducible refine (laws_eqIntSS.calls kj37 _ _ t338 _ _ t301 false _ ?side1 ?side2 ?side3 ?side4 A70.out).mono ?_); (case side1 => repeat (first | exact (Kd.S_reads' HO341.out).2.2 | (with_reducible refine Kd.C_alloc ?_ _) | (with_reducible refine Kd.C_drewN ?_ _) | (with_reducible refine Kd.C_drew ?_))); (case side2 => exact (Kd.S_reads' HO341.out).2.1); (case side3 => repeat (first | exact (Kd.S_reads' HO_6.out).2.2 | (with_reducible refine Kd.C_alloc ?_ _) | (with_reducible refine Kd.C_drewN ?_ _) | (with_reducible refine Kd.C_drew ?_))); (case side4 => exact (Kd.S_reads' HO_6.out).2.1); rintro e w' ⟨rfl, ⟨nd, rfl⟩⟩; refine ⟨_, rfl, ?_⟩))
                              go_meet
                              case rel => exact ⟨_, (true), (by first | rfl | (simp; done) | (simp [*]; done)), H', ⟨by have := HJ11.out; have := HJ37.out; first | omega | exact Nat.le_refl _⟩, ⟨by (with_reducible repeat (first | apply Kd.S_alloc | apply Kd.S_drewN | apply Kd.S_drew)); exact Kd.S_mono HO_10.out (fun _ hk => ⟨hk.1.1.1.1.1.2.1, ⟨hk.1.1.1.1.1.2.2, ⟨hk.1.1.2, hk.2⟩⟩⟩)⟩, ⟨by repeat (first | (with_reducible first | exact HB.out | apply below_alloc | apply pw_below_drewN | apply below_drew1) | exact HB.out)⟩⟩
                          case rest =>
                            clear HC62
                            try clear c1
                            try clear c2
                            try clear p2
                            try clear c3
                            try clear c3b0
                            try clear c3b1
                            try clear c4
                            try clear c5
                            try clear c5b0
                            try clear c7
                            try clear c8
                            try clear c10
                            try clear c11
                            try clear c12
                            try clear c13
                            try clear c14
                            try clear c15
                            try clear c16
                            try clear c24
                            try clear c29
                            try clear c32
                            try clear c35
                            try clear c45
                            try clear c45b0
                            try clear c47
                            try clear c52
                            try clear c55
                            try clear c55b0
                            try clear c58
                            try clear c58b0
                            try clear c58b1
                            try clear c71
                            try clear p2
                            obtain ⟨kq, x108_61, rfl, HA, HJ61, HO_10, HB⟩ := hcut
                            have hl10_61 := (Kd.S_reads' HO_10.out).1
                            rw [hl10_61] at HO_10
                            (try simp only [hl10_61])
                            cases kq with
                            | zero => exact absurd HA.out (by simp [laws_FnExactHooksOfReverse.j2])
                            | succ kj61 =>
                              have H := HA.out
                              clear HA
                              simp only [laws_FnExactHooksOfReverse.j2] at H
                              by_cases c76 : x108_61 = true
                              · subst c76
                                have H1 : (some false) = some r := by rw [if_pos rfl] at H; exact H
                                clear H
                                have H := H1
                                clear H1
                                obtain rfl := Option.some.inj H
                                go_wp2
                                go_ret
                                exact ⟨by first | rfl | (simp [errW_none, errW_some] <;> rfl) | (simp [*, errW_none, errW_some] <;> rfl), by repeat (first | (with_reducible first | exact HB.out | apply below_alloc | apply pw_below_drewN | apply below_drew1) | exact HB.out)⟩
                              · replace c76 := Bool.eq_false_iff.mpr c76
                                subst c76
                                have H1 : ((laws_heldIntSS.f kj61 t330 1).bind fun t343 => (if t343 < 0 then (some false) else (if t343 = t329 then (some true) else (some false)))) = some r := by rw [if_neg (show ¬ (false = true) by decide)] at H; exact H
                                clear H
                                have H := H1
                                clear H1
                                replace H := Option.bind_eq_some_iff.mp H
                                obtain ⟨t343, A770, H⟩ := H
                                replace H : (if t343 < 0 then (some false) else (if t343 = t329 then (some true) else (some false))) = some r := H
                                have A77 := Aside0.mk A770
                                clear A770
                                by_cases c78 : t343 < 0
                                · rw [if_pos c78] at H
                                  have c78b0 : decide (t343 < 0) = true := decide_eq_true c78
                                  clear c78
                                  obtain rfl := Option.some.inj H
                                  go_wp2_with (first | ((with_reducible refine gate_callee (f := 14) rfl ?_); refine goesL_ (some 111) rfl rfl Try.func14 (by kernel_rfl) rfl #[.slice Ao63 t330.length co63, .int .i64 1] rfl xm ?_; (with_reducible refine (laws_heldIntSS.calls kj61 _ _ t330 1 t343 _ ?side1 ?side2 A77.out).mono ?_); (case side1 => repeat (first | exact (Kd.S_reads' HO_10.out).2.2 | (with_reducible refine Kd.C_alloc ?_ _) | (with_reducible refine Kd.C_drewN ?_ _) | (with_reducible refine Kd.C_drew ?_))); (case side2 => exact (Kd.S_reads' HO_10.out).2.1); rintro e w' ⟨rfl, ⟨nd, rfl⟩⟩; refine ⟨_, rfl, ?_⟩))
                                  go_ret
                                  exact ⟨by first | rfl | (simp [errW_none, errW_some] <;> rfl) | (simp [*, errW_none, errW_some] <;> rfl), by repeat (first | (with_reducible first | exact HB.out | apply below_alloc | apply pw_below_drewN | apply below_drew1) | exact HB.out)⟩
                                · rw [if_neg c78] at H
                                  have c78b0 : decide (t343 < 0) = false := decide_eq_false c78
                                  clear c78
                                  by_cases c79 : t343 = t329
                                  · rw [if_pos c79] at H
                                    have c79b0 : (t343 == t329) = true := beq_iff_eq.mpr c79
                                    have c79b1 : (t343 != t329) = false := bne_eq_false_iff_eq.mpr c79
                                    clear c79
                                    obtain rfl := Option.some.inj H
                                    go_wp2_with (first | ((with_reducible refine gate_callee (f := 14) rfl ?_); refine goesL_ (some 111) rfl rfl Try.func14 (by kernel_rfl) rfl #[.slice Ao63 t330.length co63, .int .i64 1] rfl xm ?_; (with_reducible refine (laws_heldIntSS.calls kj61 _ _ t330 1 t343 _ ?side1 ?side2 A77.out).mono ?_); (case side1 => repeat (first | exact (Kd.S_reads' HO_10.out).2.2 | (with_reducible refine Kd.C_alloc ?_ _) | (with_reducible refine Kd.C_drewN ?_ _) | (with_reducible refine Kd.C_drew ?_))); (case side2 => exact (Kd.S_reads' HO_10.out).2.1); rintro e w' ⟨rfl, ⟨nd, rfl⟩⟩; refine ⟨_, rfl, ?_⟩))
                                    go_ret
                                    exact ⟨by first | rfl | (simp [errW_none, errW_some] <;> rfl) | (simp [*, errW_none, errW_some] <;> rfl), by repeat (first | (with_reducible first | exact HB.out | apply below_alloc | apply pw_below_drewN | apply below_drew1) | exact HB.out)⟩
                                  · rw [if_neg c79] at H
                                    have c79b0 : (t343 == t329) = false := beq_eq_false_iff_ne.mpr c79
                                    have c79b1 : (t343 != t329) = true := bne_iff_ne.mpr c79
                                    obtain rfl := Option.some.inj H
                                    go_wp2_with (first | ((with_reducible refine gate_callee (f := 14) rfl ?_); refine goesL_ (some 111) rfl rfl Try.func14 (by kernel_rfl) rfl #[.slice Ao63 t330.length co63, .int .i64 1] rfl xm ?_; (with_reducible refine (laws_heldIntSS.calls kj61 _ _ t330 1 t343 _ ?side1 ?side2 A77.out).mono ?_); (case side1 => repeat (first | exact (Kd.S_reads' HO_10.out).2.2 | (with_reducible refine Kd.C_alloc ?_ _) | (with_reducible refine Kd.C_drewN ?_ _) | (with_reducible refine Kd.C_drew ?_))); (case side2 => exact (Kd.S_reads' HO_10.out).2.1); rintro e w' ⟨rfl, ⟨nd, rfl⟩⟩; refine ⟨_, rfl, ?_⟩))
                                    go_ret
                                    exact ⟨by first | rfl | (simp [errW_none, errW_some] <;> rfl) | (simp [*, errW_none, errW_some] <;> rfl), by repeat (first | (with_reducible first | exact HB.out | apply below_alloc | apply pw_below_drewN | apply below_drew1) | exact HB.out)⟩
                        · rw [if_neg c58] at H
                          have c58b0 : (t331 == t329) = false := beq_eq_false_iff_ne.mpr c58
                          have c58b1 : (t331 != t329) = true := bne_iff_ne.mpr c58
                          obtain rfl := Option.some.inj H
                          obtain ⟨Ao80, co80, eo80⟩ := Kd.S_slice HO_10.out
                          subst eo80
                          go_wp2_with (first | ((with_reducible refine gate_callee (f := 13) rfl ?_); refine goesL_ (some 83) rfl rfl Try.func13 (by kernel_rfl) rfl #[.slice Ao80 t311.length co80, .int .i64 1] rfl xm ?_; (with_reducible refine (laws_markIntSS.calls kj37 ?pp4_ (.slice Ao80 t311.length co80) t311 1 t329 t330 w _ ?side1 ?side2 A53.out).mono ?_); (case side1 => repeat (first | (with_reducible first | exact HB.out | apply below_alloc | apply pw_below_drewN | apply below_drew1) | exact HB.out)); (case side2 => first | exact HO_10.out | ((with_reducible repeat (first | apply Kd.S_alloc | apply Kd.S_drewN | apply Kd.S_drew)); exact HO_10.out)); rintro e w81 ⟨rfl, hy0, hb, hkp⟩; refine ⟨_, rfl, ?_⟩; (first | have n0_ := Aside0.mk (Kd.S_mono (ok' := fun k_ => some k_ ≠ (.slice Ao80 t311.length co80 : Value).ownBlock ∧ k_ ≠ dmI N344_ k_ ∧ k_ ≠ dmO N346_ k_ ∧ k_ ≠ dmO N348_ k_ ∧ k_ ≠ dmO N350_ k_) (Kd.S_keptB (HO_6.out) hkp (fun k_ hk_ hs_ => dmNo hs_.2.1 hk_.2.2.2.1)) (fun k_ hk_ => ⟨hk_.1.1, hk_.1.2.1, hk_.1.2.2.1, hk_.1.2.2.2.1, hk_.1.2.2.2.2⟩)) | have n0_ := Aside0.mk (Kd.S_mono (ok' := fun k_ => some k_ ≠ (.slice Ao80 t311.length co80 : Value).ownBlock ∧ k_ ≠ dmI N344_ k_ ∧ k_ ≠ dmO N346_ k_ ∧ k_ ≠ dmO N348_ k_ ∧ k_ ≠ dmO N350_ k_) (Kd.S_keptB (Kd.S_drewN HO_6.out _) hkp (fun k_ hk_ hs_ => dmNo hs_.2.1 hk_.2.2.2.1)) (fun k_ hk_ => ⟨hk_.1.1, hk_.1.2.1, hk_.1.2.2.1, hk_.1.2.2.2.1, hk_.1.2.2.2.2⟩))); have n1_ := Aside0.mk (Kd.S_mono hy0 (fun k_ hk_ => hk_)); have n2_ := Aside0.mk (hb); clear HO_6; clear HO_10; clear HB; have HO_6 := n0_; have HO_10 := n1_; have HB := n2_; clear n0_ n1_ n2_; (try clear hb); (try clear hkp); (try clear hy0)) | ((with_reducible refine gate_callee (f := 14) rfl ?_); refine goesL_ (some 86) rfl rfl Try.func14 (by kernel_rfl) rfl #[.slice Ao80 t330.length co80, .int .i64 1] rfl (by (try simp only [List.map_toArray, List.map_cons, List.map_nil]); first | done | (rw [show t330.length = t311.length from (Kd.S_reads' HO_10.out).1.symm] <;> rfl) | rfl | (simp only [List.length_drop, List.length_take]; rfl)) ?_; (with_reducible refine (laws_heldIntSS.calls kj37 _ _ t330 1 t331 _ ?side1 ?side2 A54.out).mono ?_); (case side1 => repeat (first | exact (Kd.S_reads' HO_10.out).2.2 | (with_reducible refine Kd.C_alloc ?_ _) | (with_reducible refine Kd.C_drewN ?_ _) | (with_reducible refine Kd.C_drew ?_))); (case side2 => rw [show t330.length = t311.length from (Kd.S_reads' HO_10.out).1.symm]; exact (Kd.S_reads' HO_10.out).2.1); rintro e w' ⟨rfl, ⟨nd, rfl⟩⟩; refine ⟨_, rfl, ?_⟩))
                          go_ret
                          exact ⟨by first | rfl | (simp [errW_none, errW_some] <;> rfl) | (simp [*, errW_none, errW_some] <;> rfl), by repeat (first | (with_reducible first | exact HB.out | apply below_alloc | apply pw_below_drewN | apply below_drew1) | exact HB.out)⟩
              · replace c35 := Bool.eq_false_iff.mpr c35
                subst c35
                have H1 : (some false) = some r := by rw [if_neg (show ¬ (false = true) by decide)] at H; exact H
                clear H
                have H := H1
                clear H1
                obtain rfl := Option.some.inj H
                go_wp2_with (first | ((with_reducible refine gate_callee (f := 7) rfl ?_); refine goesL_ (some 54) rfl rfl Try.func7 (by kernel_rfl) rfl #[.slice A0 l0.length c0] rfl xm ?_; (with_reducible refine (laws_toIntS.calls kj11 _ _ l0 t316 _ ?side1 ?side2 A30.out).mono ?_); (case side1 => first | exact xc (Kd.C_below HR0.out HB.out) | exact xc HR0.out); (case side2 => exact HC0.out); rintro e w82 ⟨v317, rfl, ho0, hb⟩; refine ⟨_, rfl, ?_⟩; have n0_ := Aside0.mk (Kd.S_elder' (xS HO_6.out) (Kd.R_base ho0) hb); have n1_ := Aside0.mk (Kd.R_elder' (xR HO_8.out) (Kd.R_base ho0) hb); have n2_ := Aside0.mk (Kd.S_elder' (xS HO_9.out) (Kd.R_base ho0) hb); have n3_ := Aside0.mk (Kd.S_elder' (xS HO_10.out) (Kd.R_base ho0) hb); have n4_ := Aside0.mk (Kd.R_lower (Kd.R_new' ho0 (Kd.R_lt (xR HO_8.out))) (below_size (xb HB.out))); have n5_ := Aside0.mk (below_step (xb HB.out) hb); clear HO_6; clear HO_8; clear HO_9; clear HO_10; clear HB; have HO_6 := n0_; have HO_8 := n1_; have HO_9 := n2_; have HO_10 := n3_; have HO318 := n4_; have HB := n5_; clear n0_ n1_ n2_ n3_ n4_ n5_; (try clear hb); (try clear hb2); (try clear hk); (try clear hi); (try clear ho0); obtain ⟨Ao83, co83, eo83⟩ := Kd.R_slice HO318.out; subst eo83) | ((with_reducible refine gate_callee (f := 11) rfl ?_); refine goesL_ (some 55) rfl rfl Try.func11 (by kernel_rfl) rfl #[.slice Ao20 t305.length co20, .slice Ao83 t316.length co83] rfl xm ?_; (with_reducible refine (laws_eqIntS.calls kj11 _ _ t305 _ _ t316 true _ ?side1 ?side2 ?side3 ?side4 A31.out).mono ?_); (case side1 => repeat (first | exact (Kd.R_reads' HO_8.out).2.2 | (with_reducible refine Kd.C_alloc ?_ _) | (with_reducible refine Kd.C_drewN ?_ _) | (with_reducible refine Kd.C_drew ?_))); (case side2 => exact (Kd.R_reads' HO_8.out).2.1); (case side3 => repeat (first | exact (Kd.R_reads' HO318.out).2.2 | (with_reducible refine Kd.C_alloc ?_ _) | (with_reducible refine Kd.C_drewN ?_ _) | (with_reducible refine Kd.C_drew ?_))); (case side4 => exact (Kd.R_reads' HO318.out).2.1); rintro e w' ⟨rfl, ⟨nd, rfl⟩⟩; refine ⟨_, rfl, ?_⟩) | ((with_reducible refine gate_callee (f := 8) rfl ?_); refine goesL_ (some 59) rfl rfl Try.func8 (by kernel_rfl) rfl #[.slice A1 l1.length c1] rfl xm ?_; (with_reducible refine (laws_toIntSS.calls kj11 _ _ l1 t320 _ ?side1 ?side2 A33.out).mono ?_); (case side1 => exact xc (Kd.C_below HR1.out (xb HB.out))); (case side2 => exact HC1.out); rintro e w84 ⟨v321, rfl, ho0, hb⟩; refine ⟨_, rfl, ?_⟩; replace ho0 := Kd.deep0 ho0; obtain ⟨N356_, ho0, hN356_⟩ := ho0; have n0_ := Aside0.mk (Kd.S_elderD (xS HO_6.out) hN356_ (Kd.S_base ho0) hb); have n1_ := Aside0.mk (Kd.R_below (xR HO_8.out) hb); have n2_ := Aside0.mk (Kd.S_elderD (xS HO_9.out) hN356_ (Kd.S_base ho0) hb); have n3_ := Aside0.mk (Kd.S_elderD (xS HO_10.out) hN356_ (Kd.S_base ho0) hb); have n4_ := Aside0.mk (Kd.R_below (xR HO318.out) hb); have n5_ := Aside0.mk (Kd.S_lower (Kd.S_new' (Kd.S_new' (Kd.S_new' (Kd.S_new' (Kd.S_new' ho0 (Kd.S_lt (xS HO_6.out))) (Kd.R_lt (xR HO_8.out))) (Kd.S_lt (xS HO_9.out))) (Kd.S_lt (xS HO_10.out))) (Kd.R_lt (xR HO318.out))) (below_size (xb HB.out))); have n6_ := Aside0.mk (below_step (xb HB.out) hb); clear HO_6; clear HO_8; clear HO_9; clear HO_10; clear HO318; clear HB; have HO_6 := n0_; have HO_8 := n1_; have HO_9 := n2_; have HO_10 := n3_; have HO318 := n4_; have HO322 := n5_; have HB := n6_; clear n0_ n1_ n2_ n3_ n4_ n5_ n6_; (try clear hb); (try clear hb2); (try clear hk); (try clear hi); (try clear ho0); (try clear hN356_); obtain ⟨Ao85, co85, eo85⟩ := Kd.S_slice HO322.out; subst eo85) | ((with_reducible refine gate_callee (f := 10) rfl ?_); refine goesL_ (some 60) rfl rfl Try.func10 (by kernel_rfl) rfl #[.slice Ao21 t308.length co21, .slice Ao85 t320.length co85] rfl xm ?_; (with_reducible refine (laws_eqIntSS.calls kj11 _ _ t308 _ _ t320 false _ ?side1 ?side2 ?side3 ?side4 A34.out).mono ?_); (case side1 => repeat (first | exact (Kd.S_reads' HO_9.out).2.2 | (with_reducible refine Kd.C_alloc ?_ _) | (with_reducible refine Kd.C_drewN ?_ _) | (with_reducible refine Kd.C_drew ?_))); (case side2 => exact (Kd.S_reads' HO_9.out).2.1); (case side3 => repeat (first | exact (Kd.S_reads' HO322.out).2.2 | (with_reducible refine Kd.C_alloc ?_ _) | (with_reducible refine Kd.C_drewN ?_ _) | (with_reducible refine Kd.C_drew ?_))); (case side4 => exact (Kd.S_reads' HO322.out).2.1); rintro e w' ⟨rfl, ⟨nd, rfl⟩⟩; refine ⟨_, rfl, ?_⟩))
                go_ret
                exact ⟨by first | rfl | (simp [errW_none, errW_some] <;> rfl) | (simp [*, errW_none, errW_some] <;> rfl), by repeat (first | (with_reducible first | exact HB.out | apply below_alloc | apply pw_below_drewN | apply below_drew1) | exact HB.out)⟩
            · replace c32 := Bool.eq_false_iff.mpr c32
              subst c32
              have H1 : (some false) = some r := by rw [if_neg (show ¬ (false = true) by decide)] at H; exact H
              clear H
              have H := H1
              clear H1
              obtain rfl := Option.some.inj H
              go_wp2_with (first | ((with_reducible refine gate_callee (f := 7) rfl ?_); refine goesL_ (some 54) rfl rfl Try.func7 (by kernel_rfl) rfl #[.slice A0 l0.length c0] rfl xm ?_; (with_reducible refine (laws_toIntS.calls kj11 _ _ l0 t316 _ ?side1 ?side2 A30.out).mono ?_); (case side1 => first | exact xc (Kd.C_below HR0.out HB.out) | exact xc HR0.out); (case side2 => exact HC0.out); rintro e w86 ⟨v317, rfl, ho0, hb⟩; refine ⟨_, rfl, ?_⟩; have n0_ := Aside0.mk (Kd.S_elder' (xS HO_6.out) (Kd.R_base ho0) hb); have n1_ := Aside0.mk (Kd.R_elder' (xR HO_8.out) (Kd.R_base ho0) hb); have n2_ := Aside0.mk (Kd.S_elder' (xS HO_9.out) (Kd.R_base ho0) hb); have n3_ := Aside0.mk (Kd.S_elder' (xS HO_10.out) (Kd.R_base ho0) hb); have n4_ := Aside0.mk (Kd.R_lower (Kd.R_new' ho0 (Kd.R_lt (xR HO_8.out))) (below_size (xb HB.out))); have n5_ := Aside0.mk (below_step (xb HB.out) hb); clear HO_6; clear HO_8; clear HO_9; clear HO_10; clear HB; have HO_6 := n0_; have HO_8 := n1_; have HO_9 := n2_; have HO_10 := n3_; have HO318 := n4_; have HB := n5_; clear n0_ n1_ n2_ n3_ n4_ n5_; (try clear hb); (try clear hb2); (try clear hk); (try clear hi); (try clear ho0); obtain ⟨Ao87, co87, eo87⟩ := Kd.R_slice HO318.out; subst eo87) | ((with_reducible refine gate_callee (f := 11) rfl ?_); refine goesL_ (some 55) rfl rfl Try.func11 (by kernel_rfl) rfl #[.slice Ao20 t305.length co20, .slice Ao87 t316.length co87] rfl xm ?_; (with_reducible refine (laws_eqIntS.calls kj11 _ _ t305 _ _ t316 false _ ?side1 ?side2 ?side3 ?side4 A31.out).mono ?_); (case side1 => repeat (first | exact (Kd.R_reads' HO_8.out).2.2 | (with_reducible refine Kd.C_alloc ?_ _) | (with_reducible refine Kd.C_drewN ?_ _) | (with_reducible refine Kd.C_drew ?_))); (case side2 => exact (Kd.R_reads' HO_8.out).2.1); (case side3 => repeat (first | exact (Kd.R_reads' HO318.out).2.2 | (with_reducible refine Kd.C_alloc ?_ _) | (with_reducible refine Kd.C_drewN ?_ _) | (with_reducible refine Kd.C_drew ?_))); (case side4 => exact (Kd.R_reads' HO318.out).2.1); rintro e w' ⟨rfl, ⟨nd, rfl⟩⟩; refine ⟨_, rfl, ?_⟩))
              go_ret
              exact ⟨by first | rfl | (simp [errW_none, errW_some] <;> rfl) | (simp [*, errW_none, errW_some] <;> rfl), by repeat (first | (with_reducible first | exact HB.out | apply below_alloc | apply pw_below_drewN | apply below_drew1) | exact HB.out)⟩

/-- THE ONE PURE STATEMENT of laws_FnExactHooksOfReverse: yours. -/
def laws_FnExactHooksOfReverse.Pure : Prop := ∀ (l0 : List Int) (l1 : List (List Int)), (l0.length ≤ maxLen ∧ ∀ y0_ ∈ l0, (Lit.int .i64 y0_).wf = true) → (l1.length ≤ maxLen ∧ ∀ y0_ ∈ l1, (y0_.length ≤ maxLen ∧ ∀ y1_ ∈ y0_, (Lit.int .i64 y1_).wf = true)) → ∃ k, laws_FnExactHooksOfReverse.f k l0 l1 = some true
theorem laws_FnExactHooksOfReverse.walk (P : laws_FnExactHooksOfReverse.Pure) (A0 : Option Addr) (c0 : Nat) (l0 : List Int) (A1 : Option Addr) (c1 : Nat) (l1 : List (List Int)) (w : World) (hr0 : Kd.C (Kd.int .i64) w A0 l0.length l0) (hc0 : l0.length ≤ c0) (hr1 : Kd.C (Kd.slice 3 (Kd.int .i64)) w A1 l1.length l1) (hc1 : l1.length ≤ c1) (hF0 : (l0.length ≤ maxLen ∧ ∀ y0_ ∈ l0, (Lit.int .i64 y0_).wf = true)) (hF1 : (l1.length ≤ maxLen ∧ ∀ y0_ ∈ l1, (y0_.length ≤ maxLen ∧ ∀ y1_ ∈ y0_, (Lit.int .i64 y1_).wf = true))) :
    Calls Try.prog 4 #[.slice A0 l0.length c0, .slice A1 l1.length c1] w fun e w' => e = .returned (.bool true) ∧ Below w.heap.size w w' := by
  obtain ⟨k, h⟩ := P l0 l1 hF0 hF1
  refine (laws_FnExactHooksOfReverse.calls k A0 c0 l0 A1 c1 l1 true w hr0 hc0 hr1 hc1 h).mono ?_
  rintro e w' ⟨rfl, hd⟩
  exact ⟨rfl, hd⟩

end Go.Proofs.Ytnmndjpkfcnaoaa.PFnExactHooksOfReverse
