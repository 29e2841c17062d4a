import Derived.Test.YtopmggldaicpaacGreatPFnKroneckerx3
namespace Go.Proofs.YtopmggldaicpaacGreat.PFnKronecker
open Go.RowKit Go.Proofs.YtopmggldaicpaacGreatW.PrintWords Go.Proofs.YtopmggldaicpaacGreatW.PrintLast Go.Proofs.YtopmggldaicpaacGreatW.PrintMore
set_option linter.unusedVariables false
set_option linter.unusedSimpArgs false
set_option maxHeartbeats 8000000
set_option maxRecDepth 100000
/-! ### spec_l8Draw: function 87 -/
def spec_l8Draw.l0 : Nat → Int → List Int → Int → Int → List Int → Int → Int → Option (List Int × Int × Int)
 | 0, _, _, _, _, _, _, _ => none
 | k + 1, x2, x7, x8, x9, x1000, x1001, x1002 => if x9 < x8 then ((spec_l1Below.f x1000 x1001 x1002 x2).bind fun bt214 => (if x7.length < 17592186044416 then (spec_l8Draw.l0 k x2 (x7 ++ [wrap64 (1 + bt214.1)]) x8 (wrap64 (x9 + 1)) x1000 bt214.2.1 bt214.2.2) else (none))) else (some (x7, x1001, x1002))
def spec_l8Draw.f (k : Nat) (s0_0 : List Int) (s0_1 : Int) (s0_2 : Int) (a1 : Int) (a2 : Int) : Option (List Int × Int × Int) := (spec_l1Below.f s0_0 s0_1 s0_2 (wrap64 (a1 + 1))).bind fun bt211 => (spec_l8Draw.l0 k a2 (([] : List Int)) bt211.1 0 s0_0 bt211.2.1 bt211.2.2)
theorem spec_l8Draw.mono_l : ∀ k, (∀ y0 y1 y2 y3 y4 y5 y6, LeO (spec_l8Draw.l0 k y0 y1 y2 y3 y4 y5 y6) (spec_l8Draw.l0 (k + 1) y0 y1 y2 y3 y4 y5 y6))
 | 0 => fun _ _ _ _ _ _ _ r h => by simp [spec_l8Draw.l0] at h
 | k + 1 => by
  have ih0 := spec_l8Draw.mono_l k
  ·intro y0 y1 y2 y3 y4 y5 y6
   unfold spec_l8Draw.l0
   repeat' with_reducible first | exact ih0 _ _ _ _ _ _ _ | exact xl | refine LeO.ite ?_ ?_ | refine LeO.bind ?_ fun _ => ?_
theorem spec_l8Draw.mono : ∀ a0 a1 a2 a3 a4 k, LeO (spec_l8Draw.f k a0 a1 a2 a3 a4) (spec_l8Draw.f (k + 1) a0 a1 a2 a3 a4) := by
 intro a0 a1 a2 a3 a4 k
 have ih0 := spec_l8Draw.mono_l k
 unfold spec_l8Draw.f
 repeat' with_reducible first | exact ih0 _ _ _ _ _ _ _ | exact xl | refine LeO.ite ?_ ?_ | refine LeO.bind ?_ fun _ => ?_
theorem spec_l8Draw.calls (k : Nat) (g : Nat) (s0_0 : List Int) (s0_1 : Int) (s0_2 : Int) (a1 : Int) (a2 : Int) (r1 : List Int) (r2 : Int) (r3 : Int) (w0 w : World) (hI : IsS52 w0 w g s0_0 s0_1 s0_2) (hB : Below w0.heap.size w0 w) (h : spec_l8Draw.f k s0_0 s0_1 s0_2 a1 a2 = some (r1, r2, r3)) :
  Calls Tryz.prog 87 #[.pointer (some ⟨g, 0, none⟩), .int .i64 a1, .int .i64 a2] w fun e w' => ∃ v0_ : Value, e = .returned (v0_) ∧ Kd.R (Kd.int .i64) 3 w' w.heap.size (fun _ => True) v0_ r1 ∧ IsS52 w0 w' g s0_0 r2 r3 ∧ Below w0.heap.size w0 w' ∧ KeepBut w w' g none := by
 have HI0 := ax hI
 have HK := ax (KeepBut.refl w g none)
 have HL := ax hB.size
 clear hI
 have HW0 := ax hB.size
 have HB := ax hB
 clear hB
 have H : ((spec_l1Below.f s0_0 s0_1 s0_2 (wrap64 (a1 + 1))).bind fun bt211 => (spec_l8Draw.l0 k a2 (([] : List Int)) bt211.1 0 s0_0 bt211.2.1 bt211.2.2)) = some (r1, r2, r3) := h
 clear h
 obtain ⟨y208, hy208⟩ : ∃ y_ : List Int, y_ = (([] : List Int)) := ⟨_, rfl⟩
 replace H : ((spec_l1Below.f s0_0 s0_1 s0_2 (wrap64 (a1 + 1))).bind fun bt211 => (spec_l8Draw.l0 k a2 y208 bt211.1 0 s0_0 bt211.2.1 bt211.2.2)) = some (r1, r2, r3) := xv hy208 H
 have Ny208 := ax hy208
 clear hy208
 obtain ⟨⟨t211, t212, t213⟩, A4, H⟩ := xI H
 dsimp only at H
 have H' := ax H
 clear H
 go_enter Tryz.func87, Tryz.ntmps87
 go_wp2_with (first | ((with_reducible refine gate_dst (N := 10) rfl ?_); refine Kd.R_lit (Kd.int .i64) _ 3 ?hg (N := 10) ?hd (xs := ([] : List Int)) (inner := []) (ok := fun _ => True) (okp := fun _ => True) ?hr ?hp (fun _ hk => hk) trivial (Below.refl _ _) (Nat.le_refl _) (by simp) ?_; (case hd => rfl); (case hg => rfl); (case hr => first | (go_simp; done) | (go_simp; rfl)); (case hp => exact (Reps.none _ _)); intro v209 w5 ho6 hb hg_ hnew_; clear hg_ hnew_; (first | rw [← Ny208.out] at ho6 | (simp only [Int.reduceToNat] at ho6; rw [← Ny208.out] at ho6)); have HO210 := ax (Kd.R_lower ho6 (keep_size (w := w) (g := g) (row := none) (xh HK.out))); replace HK := ax (KeepBut.trans (xh HK.out) (KeepBut.of_below hb g none) (.inl rfl)); replace HB := ax (below_step (xs HB.out (IsS52.ge HI0.out)) hb); replace HI0 := ax (IsS52.below (xt52 HI0.out) hb); clear hb ho6) | ((with_reducible refine gate_callee (f := 45) rfl ?_); refine goesL_ (some 14) rfl rfl Tryz.func45 (by kernel_rfl) rfl #[.pointer (some ⟨g, 0, none⟩), .int .i64 (wrap64 (a1 + 1))] rfl xm ?_; (with_reducible refine (spec_l1Below.calls g s0_0 s0_1 s0_2 (wrap64 (a1 + 1)) t211 t212 t213 w0 _ ?side1 ?side2 A4.out).mono ?_); (case side1 => exact xt52 HI0.out); (case side2 => exact xs HB.out (IsS52.ge HI0.out)); rintro e w7 ⟨rfl, hi, hb, hk⟩; refine ⟨_, rfl, ?_⟩; replace HO210 := ax (Kd.R_mono (Kd.R_keep (IsS52.apart (show IsS52 w0 _ g s0_0 s0_1 s0_2 from xt52 HI0.out) (xR HO210.out) (by decide)) hk (fun _ h => h.2)) (fun _ h => h.1)); replace HK := ax (KeepBut.trans (xh HK.out) hk (.inl rfl)); replace HB := ax (hb); replace HI0 := ax (hi); (try clear hb); (try clear hk); (try clear hi)))
 go_loopg [7, 9] k (fun kq v7 v9 w' => ∃ (x7_1 : List Int) (x9_1 : Int) (x1001_1 : Int) (x1002_1 : Int), v9 = .int .i64 x9_1 ∧ Aside0 (spec_l8Draw.l0 kq a2 x7_1 t211 x9_1 s0_0 x1001_1 x1002_1 = some (r1, r2, r3)) ∧ Aside0 (kq ≤ k) ∧ Aside0 (Kd.R (Kd.int .i64) 3 w' w.heap.size (fun _ => True) v7 x7_1) ∧ Aside0 (IsS52 w0 w' g s0_0 x1001_1 x1002_1) ∧ Aside0 (KeepBut w w' g none) ∧ Aside0 (Below w0.heap.size w0 w'))
 case atStart => exact ⟨(y208), (0), (t212), (t213), xr, H', ⟨Nat.le_refl _⟩, ⟨xR HO210.out⟩, ⟨xt52 HI0.out⟩, ⟨xh HK.out⟩, ⟨xs HB.out (IsS52.ge HI0.out)⟩⟩
 case round =>
  clear H'
  obtain ⟨x7_1, x9_1, x1001_1, x1002_1, rfl, HA, HK1, HO_7, HI0, HK, HB⟩ := hrel
  cases gk with
  | zero => exact absurd HA.out (by simp [spec_l8Draw.l0])
  | succ k1 =>
   have H := HA.out
   clear HA
   simp only [spec_l8Draw.l0] at H
   by_cases c8 : x9_1 < t211
   ·rw [if_pos c8] at H
    have c8b0 := decide_eq_true c8
    clear c8
    obtain ⟨⟨t214, t215, t216⟩, A9, H⟩ := xI H
    dsimp only at H
    obtain ⟨c10, H⟩ := xp H
    have LMc10 := ax c10
    clear c10
    obtain ⟨y217, hy217⟩ : ∃ y_ : List Int, y_ = (x7_1 ++ [wrap64 (1 + t214)]) := ⟨_, rfl⟩
    replace H : (spec_l8Draw.l0 k1 a2 y217 t211 (wrap64 (x9_1 + 1)) s0_0 t215 t216) = some (r1, r2, r3) := xv hy217 H
    have Ny217 := ax hy217
    clear hy217
    have H' := ax H
    clear H
    go_wp2_with (first | ((with_reducible refine gate_callee (f := 45) rfl ?_); refine goesL_ (some 23) rfl rfl Tryz.func45 (by kernel_rfl) rfl #[.pointer (some ⟨g, 0, none⟩), .int .i64 a2] rfl xm ?_; (with_reducible refine (spec_l1Below.calls g s0_0 x1001_1 x1002_1 a2 t214 t215 t216 w0 _ ?side1 ?side2 A9.out).mono ?_); (case side1 => exact xt52 HI0.out); (case side2 => exact xs HB.out (IsS52.ge HI0.out)); rintro e w11 ⟨rfl, hi, hb, hk⟩; refine ⟨_, rfl, ?_⟩; replace HO_7 := ax (Kd.R_mono (Kd.R_keep (IsS52.apart (show IsS52 w0 _ g s0_0 x1001_1 x1002_1 from xt52 HI0.out) (xR HO_7.out) (by decide)) hk (fun _ h => h.2)) (fun _ h => h.1)); replace HK := ax (KeepBut.trans (xh HK.out) hk (.inl rfl)); replace HB := ax (hb); replace HI0 := ax (hi); (try clear hb); (try clear hk); (try clear hi)) | ((with_reducible refine gate_builtin (b := .append) (xs := #[.tmp 20, .tmp 25]) rfl ?_); at_builtin; refine Kd.R_append (Kd.int .i64) w.heap.size rfl (.tmp 20) (.tmp 25) 24 3 (.int .i64 0) 8 rfl Tryz.underlying24 info3 rfl (by decide) (by omega) u7 x7_1 (wrap64 (1 + t214)) [.int .i64 (wrap64 (1 + t214))] (fun _ => True) (fun _ => False) rfl rfl ?aP (fun _ hk => hk.elim) ?aF ?aO (Below.refl _ _) ?aS ?aL ?_; (case aP => exact rfl); (case aF => exact (fun _ _ => trivial)); (case aO => exact (xR HO_7.out)); (case aS => exact (keep_size (w := w) (g := g) (row := none) (xh HK.out))); (case aL => have := LMc10.out; omega); intro v218 w12 ho hb hg hat; rw [← Ny217.out] at ho; have n0_ := ax (IsS52.grown (xt52 HI0.out) hg (IsS52.own_ne HI0.out HO_7.out (by decide))); have n1_ := ax (below_weaken (xs HB.out (IsS52.ge HI0.out)) HL.out hb); have n2_ := ax (KeepBut.trans (xh HK.out) (KeepBut.of_grown hg g) (Kd.R_base2 HO_7.out)); have n3_ := ax (ho); clear HI0; clear HB; clear HK; clear HO_7; have HI0 := n0_; have HB := n1_; have HK := n2_; have HO219 := n3_; clear n0_ n1_ n2_ n3_; clear ho hb hg hat))
    go_roundg k1
    case measure => have := HK1.out; omega
    case rel => exact ⟨(y217), (wrap64 (x9_1 + 1)), (t215), (t216), xr, H', ⟨by have := HK1.out; omega⟩, ⟨xR HO219.out⟩, ⟨xt52 HI0.out⟩, ⟨xh HK.out⟩, ⟨xs HB.out (IsS52.ge HI0.out)⟩⟩
   ·rw [if_neg c8] at H
    have c8b0 := decide_eq_false c8
    clear c8
    simp only [Option.some.injEq, Prod.mk.injEq] at H
    obtain ⟨rfl, rfl, rfl⟩ := H
    go_wp2
    go_ret
    exact ⟨_, xe, xR HO_7.out, xt52 HI0.out, xs HB.out (IsS52.ge HI0.out), xh HK.out⟩

/-! ### spec_l8Word: function 65 -/
def spec_l8Word.f (k : Nat) (s0_0 : List Int) (s0_1 : Int) (s0_2 : Int) : Option (List Int × Int × Int) := (spec_l1Below.f s0_0 s0_1 s0_2 4).bind fun bt220 => ((spec_l8Draw.f k s0_0 bt220.2.1 bt220.2.2 7 (wrap64 (2 + bt220.1))).bind fun bt223 => ((spec_l1Once.f s0_0 bt223.2.1 bt223.2.2 3).bind fun bt228 => (if bt228.1 = true then ((spec_StandardizeWord.f k bt223.1).bind fun t231 => (some (t231, bt228.2.1, bt228.2.2))) else (some (bt223.1, bt228.2.1, bt228.2.2)))))
theorem spec_l8Word.mono : ∀ a0 a1 a2 k, LeO (spec_l8Word.f k a0 a1 a2) (spec_l8Word.f (k + 1) a0 a1 a2) := by
 intro a0 a1 a2 k
 unfold spec_l8Word.f
 repeat' with_reducible first | exact spec_StandardizeWord.mono _ _ | exact spec_l8Draw.mono _ _ _ _ _ _ | exact xl | refine LeO.ite ?_ ?_ | refine LeO.bind ?_ fun _ => ?_
theorem spec_l8Word.calls (k : Nat) (g : Nat) (s0_0 : List Int) (s0_1 : Int) (s0_2 : Int) (r1 : List Int) (r2 : Int) (r3 : Int) (w0 w : World) (hI : IsS52 w0 w g s0_0 s0_1 s0_2) (hB : Below w0.heap.size w0 w) (h : spec_l8Word.f k s0_0 s0_1 s0_2 = some (r1, r2, r3)) :
  Calls Tryz.prog 65 #[.pointer (some ⟨g, 0, none⟩)] w fun e w' => ∃ v0_ : Value, e = .returned (v0_) ∧ Kd.R (Kd.int .i64) 3 w' w.heap.size (fun _ => True) v0_ r1 ∧ IsS52 w0 w' g s0_0 r2 r3 ∧ Below w0.heap.size w0 w' ∧ KeepBut w w' g none := by
 have HI0 := ax hI
 have HK := ax (KeepBut.refl w g none)
 have HL := ax hB.size
 clear hI
 have HW0 := ax hB.size
 have HB := ax hB
 clear hB
 have H : ((spec_l1Below.f s0_0 s0_1 s0_2 4).bind fun bt220 => ((spec_l8Draw.f k s0_0 bt220.2.1 bt220.2.2 7 (wrap64 (2 + bt220.1))).bind fun bt223 => ((spec_l1Once.f s0_0 bt223.2.1 bt223.2.2 3).bind fun bt228 => (if bt228.1 = true then ((spec_StandardizeWord.f k bt223.1).bind fun t231 => (some (t231, bt228.2.1, bt228.2.2))) else (some (bt223.1, bt228.2.1, bt228.2.2)))))) = some (r1, r2, r3) := h
 clear h
 obtain ⟨⟨t220, t221, t222⟩, A2, H⟩ := xI H
 dsimp only at H
 obtain ⟨⟨t223, t226, t227⟩, A3, H⟩ := xI H
 dsimp only at H
 obtain ⟨⟨t228, t229, t230⟩, A4, H⟩ := xI H
 dsimp only at H
 by_cases c5 : t228 = true
 ·subst c5
  rw [if_pos rfl] at H
  obtain ⟨t231, A6, H⟩ := xI H
  simp only [Option.some.injEq, Prod.mk.injEq] at H
  obtain ⟨rfl, rfl, rfl⟩ := H
  go_enter Tryz.func65, Tryz.ntmps65
  go_wp2_with (first | ((with_reducible refine gate_callee (f := 45) rfl ?_); refine goesL_ (some 6) rfl rfl Tryz.func45 (by kernel_rfl) rfl #[.pointer (some ⟨g, 0, none⟩), .int .i64 4] rfl xm ?_; (with_reducible refine (spec_l1Below.calls g s0_0 s0_1 s0_2 4 t220 t221 t222 w0 _ ?side1 ?side2 A2.out).mono ?_); (case side1 => exact xt52 HI0.out); (case side2 => exact xs HB.out (IsS52.ge HI0.out)); rintro e w7 ⟨rfl, hi, hb, hk⟩; refine ⟨_, rfl, ?_⟩; replace HK := ax (KeepBut.trans (xh HK.out) hk (.inl rfl)); replace HB := ax (hb); replace HI0 := ax (hi); (try clear hb); (try clear hk); (try clear hi)) | ((with_reducible refine gate_callee (f := 87) rfl ?_); refine goesL_ (some 8) rfl rfl Tryz.func87 (by kernel_rfl) rfl #[.pointer (some ⟨g, 0, none⟩), .int .i64 7, .int .i64 (wrap64 (2 + t220))] rfl xm ?_; (with_reducible refine (spec_l8Draw.calls k g s0_0 t221 t222 7 (wrap64 (2 + t220)) t223 t226 t227 w0 _ ?side1 ?side2 A3.out).mono ?_); (case side1 => exact xt52 HI0.out); (case side2 => exact xs HB.out (IsS52.ge HI0.out)); rintro e w8 ⟨v224, rfl, ho0, hi, hb, hk⟩; refine ⟨_, rfl, ?_⟩; have HO225 := ax (Kd.R_lower ho0 (keep_size (w := w) (g := g) (row := none) (xh HK.out))); replace HK := ax (KeepBut.trans (xh HK.out) hk (.inl rfl)); replace HB := ax (hb); replace HI0 := ax (hi); (try clear hb); (try clear hk); (try clear hi); (try clear ho0)) | ((with_reducible refine gate_callee (f := 48) rfl ?_); refine goesL_ (some 10) rfl rfl Tryz.func48 (by kernel_rfl) rfl #[.pointer (some ⟨g, 0, none⟩), .int .i64 3] rfl xm ?_; (with_reducible refine (spec_l1Once.calls g s0_0 t226 t227 3 true t229 t230 w0 _ ?side1 ?side2 A4.out).mono ?_); (case side1 => exact xt52 HI0.out); (case side2 => exact xs HB.out (IsS52.ge HI0.out)); rintro e w9 ⟨rfl, hi, hb, hk⟩; refine ⟨_, rfl, ?_⟩; replace HO225 := ax (Kd.R_mono (Kd.R_keep (IsS52.apart (show IsS52 w0 _ g s0_0 t226 t227 from xt52 HI0.out) (xR HO225.out) (by decide)) hk (fun _ h => h.2)) (fun _ h => h.1)); replace HK := ax (KeepBut.trans (xh HK.out) hk (.inl rfl)); replace HB := ax (hb); replace HI0 := ax (hi); (try clear hb); (try clear hk); (try clear hi); obtain ⟨Ao10, co10, eo10⟩ := Kd.R_slice HO225.out; subst eo10) | ((with_reducible refine gate_callee (f := 49) rfl ?_); refine goesL_ (some 12) rfl rfl Tryz.func49 (by kernel_rfl) rfl #[.slice Ao10 t223.length co10] rfl xm ?_; (with_reducible refine (spec_StandardizeWord.calls k _ _ t223 t231 _ ?side1 ?side2 A6.out).mono ?_); (case side1 => exact xc (Kd.R_reads' HO225.out).2.2); (case side2 => exact (Kd.R_reads' HO225.out).2.1); rintro e w11 ⟨v232, rfl, ho0, hb⟩; refine ⟨_, rfl, ?_⟩; have HO233 := ax (Kd.R_lower (Kd.R_new' ho0 (Kd.R_lt (xR HO225.out))) (keep_size (w := w) (g := g) (row := none) (xh HK.out))); replace HO225 := ax (Kd.R_elder' (xR HO225.out) (Kd.R_base ho0) hb); replace HK := ax (KeepBut.trans (xh HK.out) (KeepBut.of_below hb g none) (.inl rfl)); replace HB := ax (below_step (xs HB.out (IsS52.ge HI0.out)) hb); replace HI0 := ax (IsS52.below (xt52 HI0.out) hb); (try clear hb); (try clear ho0)))
  go_ret
  exact ⟨_, xe, by (with_reducible repeat (first | apply Kd.R_alloc | apply Kd.R_drewN | apply Kd.R_drew)); exact Kd.R_mono HO233.out (fun _ hk => trivial), xt52 HI0.out, xs HB.out (IsS52.ge HI0.out), xh HK.out⟩
 ·replace c5 := Bool.eq_false_iff.mpr c5
  subst c5
  rw [if_neg (show ¬ (false = true) by decide)] at H
  simp only [Option.some.injEq, Prod.mk.injEq] at H
  obtain ⟨rfl, rfl, rfl⟩ := H
  go_enter Tryz.func65, Tryz.ntmps65
  go_wp2_with (first | ((with_reducible refine gate_callee (f := 45) rfl ?_); refine goesL_ (some 6) rfl rfl Tryz.func45 (by kernel_rfl) rfl #[.pointer (some ⟨g, 0, none⟩), .int .i64 4] rfl xm ?_; (with_reducible refine (spec_l1Below.calls g s0_0 s0_1 s0_2 4 t220 t221 t222 w0 _ ?side1 ?side2 A2.out).mono ?_); (case side1 => exact xt52 HI0.out); (case side2 => exact xs HB.out (IsS52.ge HI0.out)); rintro e w12 ⟨rfl, hi, hb, hk⟩; refine ⟨_, rfl, ?_⟩; replace HK := ax (KeepBut.trans (xh HK.out) hk (.inl rfl)); replace HB := ax (hb); replace HI0 := ax (hi); (try clear hb); (try clear hk); (try clear hi)) | ((with_reducible refine gate_callee (f := 87) rfl ?_); refine goesL_ (some 8) rfl rfl Tryz.func87 (by kernel_rfl) rfl #[.pointer (some ⟨g, 0, none⟩), .int .i64 7, .int .i64 (wrap64 (2 + t220))] rfl xm ?_; (with_reducible refine (spec_l8Draw.calls k g s0_0 t221 t222 7 (wrap64 (2 + t220)) t223 t226 t227 w0 _ ?side1 ?side2 A3.out).mono ?_); (case side1 => exact xt52 HI0.out); (case side2 => exact xs HB.out (IsS52.ge HI0.out)); rintro e w13 ⟨v224, rfl, ho0, hi, hb, hk⟩; refine ⟨_, rfl, ?_⟩; have HO225 := ax (Kd.R_lower ho0 (keep_size (w := w) (g := g) (row := none) (xh HK.out))); replace HK := ax (KeepBut.trans (xh HK.out) hk (.inl rfl)); replace HB := ax (hb); replace HI0 := ax (hi); (try clear hb); (try clear hk); (try clear hi); (try clear ho0)) | ((with_reducible refine gate_callee (f := 48) rfl ?_); refine goesL_ (some 10) rfl rfl Tryz.func48 (by kernel_rfl) rfl #[.pointer (some ⟨g, 0, none⟩), .int .i64 3] rfl xm ?_; (with_reducible refine (spec_l1Once.calls g s0_0 t226 t227 3 false t229 t230 w0 _ ?side1 ?side2 A4.out).mono ?_); (case side1 => exact xt52 HI0.out); (case side2 => exact xs HB.out (IsS52.ge HI0.out)); rintro e w14 ⟨rfl, hi, hb, hk⟩; refine ⟨_, rfl, ?_⟩; replace HO225 := ax (Kd.R_mono (Kd.R_keep (IsS52.apart (show IsS52 w0 _ g s0_0 t226 t227 from xt52 HI0.out) (xR HO225.out) (by decide)) hk (fun _ h => h.2)) (fun _ h => h.1)); replace HK := ax (KeepBut.trans (xh HK.out) hk (.inl rfl)); replace HB := ax (hb); replace HI0 := ax (hi); (try clear hb); (try clear hk); (try clear hi)))
  go_ret
  exact ⟨_, xe, xR HO225.out, xt52 HI0.out, xs HB.out (IsS52.ge HI0.out), xh HK.out⟩

/-! ### spec_l8Bent: function 47 -/
def spec_l8Bent.l0 : Nat → List Int → List Int → Int → Int → Option (List Int × Int × Int)
 | 0, _, _, _, _ => none
 | k + 1, x3, x1000, x1001, x1002 => if (x3.length : Int) < 10 then (if x3.length < 17592186044416 then (spec_l8Bent.l0 k (x3 ++ [1]) x1000 x1001 x1002) else (none)) else (some (x3, x1001, x1002))
def spec_l8Bent.f (k : Nat) (s0_0 : List Int) (s0_1 : Int) (s0_2 : Int) : Option (List Int × Int × Int) := (spec_l8Word.f k s0_0 s0_1 s0_2).bind fun bt234 => ((spec_l1Below.f s0_0 bt234.2.1 bt234.2.2 14).bind fun bt239 => (if bt239.1 = 0 then ((spec_l1PickInt.f s0_0 bt239.2.1 bt239.2.2 (([0, 10, (-1), 9] : List Int))).bind fun bt245 => (if bt234.1.length < 17592186044416 then (some ((bt234.1 ++ [bt245.1]), bt245.2.1, bt245.2.2)) else (none))) else (if bt239.1 = 1 then (spec_l8Bent.l0 k bt234.1 s0_0 bt239.2.1 bt239.2.2) else (some (bt234.1, bt239.2.1, bt239.2.2)))))
theorem spec_l8Bent.mono_l : ∀ k, (∀ y0 y1 y2 y3, LeO (spec_l8Bent.l0 k y0 y1 y2 y3) (spec_l8Bent.l0 (k + 1) y0 y1 y2 y3))
 | 0 => fun _ _ _ _ r h => by simp [spec_l8Bent.l0] at h
 | k + 1 => by
  have ih0 := spec_l8Bent.mono_l k
  ·intro y0 y1 y2 y3
   unfold spec_l8Bent.l0
   repeat' with_reducible first | exact ih0 _ _ _ _ | exact spec_l8Word.mono _ _ _ _ | exact xl | refine LeO.ite ?_ ?_ | refine LeO.bind ?_ fun _ => ?_
theorem spec_l8Bent.mono : ∀ a0 a1 a2 k, LeO (spec_l8Bent.f k a0 a1 a2) (spec_l8Bent.f (k + 1) a0 a1 a2) := by
 intro a0 a1 a2 k
 have ih0 := spec_l8Bent.mono_l k
 unfold spec_l8Bent.f
 repeat' with_reducible first | exact ih0 _ _ _ _ | exact spec_l8Word.mono _ _ _ _ | exact xl | refine LeO.ite ?_ ?_ | refine LeO.bind ?_ fun _ => ?_
theorem spec_l8Bent.calls (k : Nat) (g : Nat) (s0_0 : List Int) (s0_1 : Int) (s0_2 : Int) (r1 : List Int) (r2 : Int) (r3 : Int) (w0 w : World) (hI : IsS52 w0 w g s0_0 s0_1 s0_2) (hB : Below w0.heap.size w0 w) (h : spec_l8Bent.f k s0_0 s0_1 s0_2 = some (r1, r2, r3)) :
  Calls Tryz.prog 47 #[.pointer (some ⟨g, 0, none⟩)] w fun e w' => ∃ v0_ : Value, e = .returned (v0_) ∧ Kd.R (Kd.int .i64) 3 w' w.heap.size (fun _ => True) v0_ r1 ∧ IsS52 w0 w' g s0_0 r2 r3 ∧ Below w0.heap.size w0 w' ∧ KeepBut w w' g none := by
 have HI0 := ax hI
 have HK := ax (KeepBut.refl w g none)
 have HL := ax hB.size
 clear hI
 have HW0 := ax hB.size
 have HB := ax hB
 clear hB
 have H : ((spec_l8Word.f k s0_0 s0_1 s0_2).bind fun bt234 => ((spec_l1Below.f s0_0 bt234.2.1 bt234.2.2 14).bind fun bt239 => (if bt239.1 = 0 then ((spec_l1PickInt.f s0_0 bt239.2.1 bt239.2.2 (([0, 10, (-1), 9] : List Int))).bind fun bt245 => (if bt234.1.length < 17592186044416 then (some ((bt234.1 ++ [bt245.1]), bt245.2.1, bt245.2.2)) else (none))) else (if bt239.1 = 1 then (spec_l8Bent.l0 k bt234.1 s0_0 bt239.2.1 bt239.2.2) else (some (bt234.1, bt239.2.1, bt239.2.2)))))) = some (r1, r2, r3) := h
 clear h
 obtain ⟨⟨t234, t237, t238⟩, A2, H⟩ := xI H
 dsimp only at H
 obtain ⟨⟨t239, t240, t241⟩, A3, H⟩ := xI H
 dsimp only at H
 by_cases c4 : t239 = 0
 ·rw [if_pos c4] at H
  have c4b0 : (t239 == 0) = true := beq_iff_eq.mpr c4
  have c4b1 : (t239 != 0) = false := bne_eq_false_iff_eq.mpr c4
  clear c4
  obtain ⟨y242, hy242⟩ : ∃ y_ : List Int, y_ = (([0, 10, (-1), 9] : List Int)) := ⟨_, rfl⟩
  replace H : ((spec_l1PickInt.f s0_0 t240 t241 y242).bind fun bt245 => (if t234.length < 17592186044416 then (some ((t234 ++ [bt245.1]), bt245.2.1, bt245.2.2)) else (none))) = some (r1, r2, r3) := xv hy242 H
  have Ny242 := ax hy242
  clear hy242
  obtain ⟨⟨t245, t246, t247⟩, A5, H⟩ := xI H
  dsimp only at H
  obtain ⟨c6, H⟩ := xp H
  have LMc6 := ax c6
  clear c6
  obtain ⟨y248, hy248⟩ : ∃ y_ : List Int, y_ = (t234 ++ [t245]) := ⟨_, rfl⟩
  replace H : (some (y248, t246, t247)) = some (r1, r2, r3) := xv hy248 H
  have Ny248 := ax hy248
  clear hy248
  simp only [Option.some.injEq, Prod.mk.injEq] at H
  obtain ⟨rfl, rfl, rfl⟩ := H
  go_enter Tryz.func47, Tryz.ntmps47
  go_wp2_with (first | ((with_reducible refine gate_callee (f := 65) rfl ?_); refine goesL_ (some 5) rfl rfl Tryz.func65 (by kernel_rfl) rfl #[.pointer (some ⟨g, 0, none⟩)] rfl xm ?_; (with_reducible refine (spec_l8Word.calls k g s0_0 s0_1 s0_2 t234 t237 t238 w0 _ ?side1 ?side2 A2.out).mono ?_); (case side1 => exact xt52 HI0.out); (case side2 => exact xs HB.out (IsS52.ge HI0.out)); rintro e w7 ⟨v235, rfl, ho0, hi, hb, hk⟩; refine ⟨_, rfl, ?_⟩; have HO236 := ax (Kd.R_lower ho0 (keep_size (w := w) (g := g) (row := none) (xh HK.out))); replace HK := ax (KeepBut.trans (xh HK.out) hk (.inl rfl)); replace HB := ax (hb); replace HI0 := ax (hi); (try clear hb); (try clear hk); (try clear hi); (try clear ho0)) | ((with_reducible refine gate_callee (f := 45) rfl ?_); refine goesL_ (some 7) rfl rfl Tryz.func45 (by kernel_rfl) rfl #[.pointer (some ⟨g, 0, none⟩), .int .i64 14] rfl xm ?_; (with_reducible refine (spec_l1Below.calls g s0_0 t237 t238 14 t239 t240 t241 w0 _ ?side1 ?side2 A3.out).mono ?_); (case side1 => exact xt52 HI0.out); (case side2 => exact xs HB.out (IsS52.ge HI0.out)); rintro e w8 ⟨rfl, hi, hb, hk⟩; refine ⟨_, rfl, ?_⟩; replace HO236 := ax (Kd.R_mono (Kd.R_keep (IsS52.apart (show IsS52 w0 _ g s0_0 t237 t238 from xt52 HI0.out) (xR HO236.out) (by decide)) hk (fun _ h => h.2)) (fun _ h => h.1)); replace HK := ax (KeepBut.trans (xh HK.out) hk (.inl rfl)); replace HB := ax (hb); replace HI0 := ax (hi); (try clear hb); (try clear hk); (try clear hi)) | ((with_reducible refine gate_dst (N := 12) rfl ?_); refine Kd.R_lit (Kd.int .i64) _ 3 ?hg (N := 12) ?hd (xs := ([0, 10, (-1), 9] : List Int)) (inner := [.int .i64 0, .int .i64 10, .int .i64 (-1), .int .i64 9]) (ok := fun _ => True) (okp := fun _ => True) ?hr ?hp (fun _ hk => hk) trivial (Below.refl _ _) (Nat.le_refl _) (by simp) ?_; (case hd => rfl); (case hg => rfl); (case hr => first | (go_simp; done) | (go_simp; rfl)); (case hp => exact (Reps.one (show Kd.M (Kd.int .i64) _ _ _ 0 [.int .i64 0] from rfl) (Reps.one (show Kd.M (Kd.int .i64) _ _ _ 10 [.int .i64 10] from rfl) (Reps.one (show Kd.M (Kd.int .i64) _ _ _ (-1) [.int .i64 (-1)] from rfl) (Reps.one (show Kd.M (Kd.int .i64) _ _ _ 9 [.int .i64 9] from rfl) (Reps.none _ _)))))); intro v243 w9 ho10 hb hg_ hnew_; clear hg_ hnew_; (first | rw [← Ny242.out] at ho10 | (simp only [Int.reduceToNat] at ho10; rw [← Ny242.out] at ho10)); have HO244 := ax (Kd.R_lower (Kd.R_new' ho10 (Kd.R_lt (xR HO236.out))) (keep_size (w := w) (g := g) (row := none) (xh HK.out))); replace HO236 := ax (Kd.R_elder' (xR HO236.out) (Kd.R_base ho10) hb); replace HK := ax (KeepBut.trans (xh HK.out) (KeepBut.of_below hb g none) (.inl rfl)); replace HB := ax (below_step (xs HB.out (IsS52.ge HI0.out)) hb); replace HI0 := ax (IsS52.below (xt52 HI0.out) hb); clear hb ho10; obtain ⟨Ao11, co11, eo11⟩ := Kd.R_slice HO244.out; subst eo11) | ((with_reducible refine gate_callee (f := 46) rfl ?_); refine goesL_ (some 13) rfl rfl Tryz.func46 (by kernel_rfl) rfl #[.pointer (some ⟨g, 0, none⟩), .slice Ao11 y242.length co11] rfl xm ?_; (with_reducible refine (spec_l1PickInt.calls g s0_0 t240 t241 _ _ y242 t245 t246 t247 w0 _ ?side1 ?side2 ?side3 ?side4 ?side5 A5.out).mono ?_); (case side1 => exact xt52 HI0.out); (case side2 => exact xs HB.out (IsS52.ge HI0.out)); (case side3 => exact xc (Kd.R_reads' HO244.out).2.2); (case side4 => exact (Kd.R_reads' HO244.out).2.1); (case side5 => exact far_slice (IsS52.own_ne HI0.out HO244.out (by decide))); rintro e w12 ⟨rfl, hi, hb, hk⟩; refine ⟨_, rfl, ?_⟩; replace HO236 := ax (Kd.R_mono (Kd.R_keep (IsS52.apart (show IsS52 w0 _ g s0_0 t240 t241 from xt52 HI0.out) (xR HO236.out) (by decide)) hk (fun _ h => h.2)) (fun _ h => h.1)); replace HO244 := ax (Kd.R_mono (Kd.R_keep (IsS52.apart (show IsS52 w0 _ g s0_0 t240 t241 from xt52 HI0.out) (xR HO244.out) (by decide)) hk (fun _ h => h.2)) (fun _ h => h.1)); replace HK := ax (KeepBut.trans (xh HK.out) hk (.inl rfl)); replace HB := ax (hb); replace HI0 := ax (hi); (try clear hb); (try clear hk); (try clear hi)) | ((with_reducible refine gate_builtin (b := .append) (xs := #[.tmp 10, .tmp 14]) rfl ?_); at_builtin; refine Kd.R_append (Kd.int .i64) w.heap.size rfl (.tmp 10) (.tmp 14) 24 3 (.int .i64 0) 8 rfl Tryz.underlying24 info3 rfl (by decide) (by omega) v235 t234 t245 [.int .i64 t245] (fun k_ => some k_ ≠ (.slice Ao11 y242.length co11 : Value).ownBlock) (fun _ => False) rfl rfl ?aP (fun _ hk => hk.elim) ?aF ?aO (Below.refl _ _) ?aS ?aL ?_; (case aP => exact rfl); (case aF => exact (fun k_ hk => Kd.fresh' (Kd.R_lt (xR HO244.out)) k_ hk)); (case aO => exact (by (with_reducible repeat (first | apply Kd.R_alloc | apply Kd.R_drewN | apply Kd.R_drew)); exact Kd.R_mono HO236.out (fun _ hk => hk.2))); (case aS => exact (keep_size (w := w) (g := g) (row := none) (xh HK.out))); (case aL => have := LMc6.out; omega); intro v249 w13 ho hb hg hat; rw [← Ny248.out] at ho; have n0_ := ax (IsS52.grown (xt52 HI0.out) hg (IsS52.own_ne HI0.out HO236.out (by decide))); have n1_ := ax (Kd.R_after (ok := (fun _ => True)) (xR HO244.out) hg hat); have n2_ := ax (below_weaken (xs HB.out (IsS52.ge HI0.out)) HL.out hb); have n3_ := ax (KeepBut.trans (xh HK.out) (KeepBut.of_grown hg g) (Kd.R_base2 HO236.out)); have n4_ := ax (ho); clear HI0; clear HO244; clear HB; clear HK; clear HO236; have HI0 := n0_; have HO244 := n1_; have HB := n2_; have HK := n3_; have HO250 := n4_; clear n0_ n1_ n2_ n3_ n4_; clear ho hb hg hat))
  go_ret
  exact ⟨_, xe, by (with_reducible repeat (first | apply Kd.R_alloc | apply Kd.R_drewN | apply Kd.R_drew)); exact Kd.R_mono HO250.out (fun _ hk => trivial), xt52 HI0.out, xs HB.out (IsS52.ge HI0.out), xh HK.out⟩
 ·rw [if_neg c4] at H
  have c4b0 : (t239 == 0) = false := beq_eq_false_iff_ne.mpr c4
  have c4b1 : (t239 != 0) = true := bne_iff_ne.mpr c4
  by_cases c14 : t239 = 1
  ·rw [if_pos c14] at H
   have c14b0 : (t239 == 1) = true := beq_iff_eq.mpr c14
   have c14b1 : (t239 != 1) = false := bne_eq_false_iff_eq.mpr c14
   clear c14
   have H' := ax H
   clear H
   go_enter Tryz.func47, Tryz.ntmps47
   go_wp2_with (first | ((with_reducible refine gate_callee (f := 65) rfl ?_); refine goesL_ (some 5) rfl rfl Tryz.func65 (by kernel_rfl) rfl #[.pointer (some ⟨g, 0, none⟩)] rfl xm ?_; (with_reducible refine (spec_l8Word.calls k g s0_0 s0_1 s0_2 t234 t237 t238 w0 _ ?side1 ?side2 A2.out).mono ?_); (case side1 => exact xt52 HI0.out); (case side2 => exact xs HB.out (IsS52.ge HI0.out)); rintro e w15 ⟨v235, rfl, ho0, hi, hb, hk⟩; refine ⟨_, rfl, ?_⟩; have HO236 := ax (Kd.R_lower ho0 (keep_size (w := w) (g := g) (row := none) (xh HK.out))); replace HK := ax (KeepBut.trans (xh HK.out) hk (.inl rfl)); replace HB := ax (hb); replace HI0 := ax (hi); (try clear hb); (try clear hk); (try clear hi); (try clear ho0)) | ((with_reducible refine gate_callee (f := 45) rfl ?_); refine goesL_ (some 7) rfl rfl Tryz.func45 (by kernel_rfl) rfl #[.pointer (some ⟨g, 0, none⟩), .int .i64 14] rfl xm ?_; (with_reducible refine (spec_l1Below.calls g s0_0 t237 t238 14 t239 t240 t241 w0 _ ?side1 ?side2 A3.out).mono ?_); (case side1 => exact xt52 HI0.out); (case side2 => exact xs HB.out (IsS52.ge HI0.out)); rintro e w16 ⟨rfl, hi, hb, hk⟩; refine ⟨_, rfl, ?_⟩; replace HO236 := ax (Kd.R_mono (Kd.R_keep (IsS52.apart (show IsS52 w0 _ g s0_0 t237 t238 from xt52 HI0.out) (xR HO236.out) (by decide)) hk (fun _ h => h.2)) (fun _ h => h.1)); replace HK := ax (KeepBut.trans (xh HK.out) hk (.inl rfl)); replace HB := ax (hb); replace HI0 := ax (hi); (try clear hb); (try clear hk); (try clear hi)))
   go_loopg [3] k (fun kq v3 w' => ∃ (x3_1 : List Int), Aside0 (spec_l8Bent.l0 kq x3_1 s0_0 t240 t241 = some (r1, r2, r3)) ∧ Aside0 (kq ≤ k) ∧ Aside0 (Kd.R (Kd.int .i64) 3 w' w.heap.size (fun _ => True) v3 x3_1) ∧ Aside0 (IsS52 w0 w' g s0_0 t240 t241) ∧ Aside0 (KeepBut w w' g none) ∧ Aside0 (Below w0.heap.size w0 w'))
   case atStart => exact ⟨(t234), H', ⟨Nat.le_refl _⟩, ⟨xR HO236.out⟩, ⟨xt52 HI0.out⟩, ⟨xh HK.out⟩, ⟨xs HB.out (IsS52.ge HI0.out)⟩⟩
   case round =>
    clear H'
    (try clear c4); (try clear c4b0); (try clear c4b1); (try clear c6); (try clear c14); (try clear c14b0); (try clear c14b1)
    obtain ⟨x3_1, HA, HK1, HO_3, HI0, HK, HB⟩ := hrel
    cases gk with
    | zero => exact absurd HA.out (by simp [spec_l8Bent.l0])
    | succ k1 =>
     have H := HA.out
     clear HA
     simp only [spec_l8Bent.l0] at H
     by_cases c17 : (x3_1.length : Int) < 10
     ·rw [if_pos c17] at H
      have c17b0 := decide_eq_true c17
      have c17b1 : decide (x3_1.length < 10) = true := decide_eq_true (by omega)
      clear c17
      obtain ⟨c18, H⟩ := xp H
      have LMc18 := ax c18
      clear c18
      obtain ⟨y251, hy251⟩ : ∃ y_ : List Int, y_ = (x3_1 ++ [1]) := ⟨_, rfl⟩
      replace H : (spec_l8Bent.l0 k1 y251 s0_0 t240 t241) = some (r1, r2, r3) := xv hy251 H
      have Ny251 := ax hy251
      clear hy251
      have H' := ax H
      clear H
      obtain ⟨Ao19, co19, eo19⟩ := Kd.R_slice HO_3.out
      subst eo19
      go_wp2_with (first | ((with_reducible refine gate_builtin (b := .append) (xs := #[.tmp 21, .tmp 22]) rfl ?_); at_builtin; refine Kd.R_append (Kd.int .i64) w.heap.size rfl (.tmp 21) (.tmp 22) 24 3 (.int .i64 0) 8 rfl Tryz.underlying24 info3 rfl (by decide) (by omega) (.slice Ao19 x3_1.length co19) x3_1 1 [.int .i64 1] (fun _ => True) (fun _ => False) rfl rfl ?aP (fun _ hk => hk.elim) ?aF ?aO (Below.refl _ _) ?aS ?aL ?_; (case aP => exact rfl); (case aF => exact (fun _ _ => trivial)); (case aO => exact (xR HO_3.out)); (case aS => exact (keep_size (w := w) (g := g) (row := none) (xh HK.out))); (case aL => have := LMc18.out; omega); intro v252 w20 ho hb hg hat; rw [← Ny251.out] at ho; have n0_ := ax (IsS52.grown (xt52 HI0.out) hg (IsS52.own_ne HI0.out HO_3.out (by decide))); have n1_ := ax (below_weaken (xs HB.out (IsS52.ge HI0.out)) HL.out hb); have n2_ := ax (KeepBut.trans (xh HK.out) (KeepBut.of_grown hg g) (Kd.R_base2 HO_3.out)); have n3_ := ax (ho); clear HI0; clear HB; clear HK; clear HO_3; have HI0 := n0_; have HB := n1_; have HK := n2_; have HO253 := n3_; clear n0_ n1_ n2_ n3_; clear ho hb hg hat))
      go_roundg k1
      case measure => have := HK1.out; omega
      case rel => exact ⟨(y251), H', ⟨by have := HK1.out; omega⟩, ⟨xR HO253.out⟩, ⟨xt52 HI0.out⟩, ⟨xh HK.out⟩, ⟨xs HB.out (IsS52.ge HI0.out)⟩⟩
     ·rw [if_neg c17] at H
      have c17b0 := decide_eq_false c17
      have c17b1 : decide (x3_1.length < 10) = false := decide_eq_false (by omega)
      clear c17
      simp only [Option.some.injEq, Prod.mk.injEq] at H
      obtain ⟨rfl, rfl, rfl⟩ := H
      obtain ⟨Ao21, co21, eo21⟩ := Kd.R_slice HO_3.out
      subst eo21
      go_wp2
      go_ret
      exact ⟨_, xe, xR HO_3.out, xt52 HI0.out, xs HB.out (IsS52.ge HI0.out), xh HK.out⟩
  ·rw [if_neg c14] at H
   have c14b0 : (t239 == 1) = false := beq_eq_false_iff_ne.mpr c14
   have c14b1 : (t239 != 1) = true := bne_iff_ne.mpr c14
   simp only [Option.some.injEq, Prod.mk.injEq] at H
   obtain ⟨rfl, rfl, rfl⟩ := H
   go_enter Tryz.func47, Tryz.ntmps47
   go_wp2_with (first | ((with_reducible refine gate_callee (f := 65) rfl ?_); refine goesL_ (some 5) rfl rfl Tryz.func65 (by kernel_rfl) rfl #[.pointer (some ⟨g, 0, none⟩)] rfl xm ?_; (with_reducible refine (spec_l8Word.calls k g s0_0 s0_1 s0_2 t234 t237 t238 w0 _ ?side1 ?side2 A2.out).mono ?_); (case side1 => exact xt52 HI0.out); (case side2 => exact xs HB.out (IsS52.ge HI0.out)); rintro e w22 ⟨v235, rfl, ho0, hi, hb, hk⟩; refine ⟨_, rfl, ?_⟩; have HO236 := ax (Kd.R_lower ho0 (keep_size (w := w) (g := g) (row := none) (xh HK.out))); replace HK := ax (KeepBut.trans (xh HK.out) hk (.inl rfl)); replace HB := ax (hb); replace HI0 := ax (hi); (try clear hb); (try clear hk); (try clear hi); (try clear ho0)) | ((with_reducible refine gate_callee (f := 45) rfl ?_); refine goesL_ (some 7) rfl rfl Tryz.func45 (by kernel_rfl) rfl #[.pointer (some ⟨g, 0, none⟩), .int .i64 14] rfl xm ?_; (with_reducible refine (spec_l1Below.calls g s0_0 t237 t238 14 t239 t240 t241 w0 _ ?side1 ?side2 A3.out).mono ?_); (case side1 => exact xt52 HI0.out); (case side2 => exact xs HB.out (IsS52.ge HI0.out)); rintro e w23 ⟨rfl, hi, hb, hk⟩; refine ⟨_, rfl, ?_⟩; replace HO236 := ax (Kd.R_mono (Kd.R_keep (IsS52.apart (show IsS52 w0 _ g s0_0 t237 t238 from xt52 HI0.out) (xR HO236.out) (by decide)) hk (fun _ h => h.2)) (fun _ h => h.1)); replace HK := ax (KeepBut.trans (xh HK.out) hk (.inl rfl)); replace HB := ax (hb); replace HI0 := ax (hi); (try clear hb); (try clear hk); (try clear hi)))
   go_ret
   exact ⟨_, xe, xR HO236.out, xt52 HI0.out, xs HB.out (IsS52.ge HI0.out), xh HK.out⟩

/-! ### spec_DrawInverseOf: function 26 -/
def spec_DrawInverseOf.f (k : Nat) (l0 : List Int) : Option (List Int) := (spec_l1New.f k l0).bind fun bt254 => ((spec_l8Bent.f k bt254.1 bt254.2.1 bt254.2.2).bind fun bt258 => ((spec_l1Once.f bt254.1 bt258.2.1 bt258.2.2 2).bind fun bt263 => (if bt263.1 = true then ((spec_StandardizeWord.f k bt258.1).bind fun t266 => (some t266)) else (some bt258.1))))
theorem spec_DrawInverseOf.mono : ∀ a0 k, LeO (spec_DrawInverseOf.f k a0) (spec_DrawInverseOf.f (k + 1) a0) := by
 intro a0 k
 unfold spec_DrawInverseOf.f
 repeat' with_reducible first | exact spec_StandardizeWord.mono _ _ | exact spec_l1New.mono _ _ | exact spec_l8Bent.mono _ _ _ _ | exact xl | refine LeO.ite ?_ ?_ | refine LeO.bind ?_ fun _ => ?_
theorem spec_DrawInverseOf.calls (k : Nat) (A0 : Option Addr) (c0 : Nat) (l0 : List Int) (r : List Int) (w : World) (hr0 : Kd.C (Kd.int .u8) w A0 l0.length l0) (hc0 : l0.length ≤ c0) (h : spec_DrawInverseOf.f k l0 = some r) :
  Calls Tryz.prog 26 #[.slice A0 l0.length c0] w fun e w' => ∃ v0_ : Value, e = .returned (v0_) ∧ Kd.R (Kd.int .i64) 3 w' w.heap.size (fun _ => True) v0_ r ∧ Below w.heap.size w w' := by
 have HR0 := ax hr0
 have HC0 := ax hc0
 clear hr0 hc0
 have HB := ax (Below.refl w.heap.size w)
 have H : ((spec_l1New.f k l0).bind fun bt254 => ((spec_l8Bent.f k bt254.1 bt254.2.1 bt254.2.2).bind fun bt258 => ((spec_l1Once.f bt254.1 bt258.2.1 bt258.2.2 2).bind fun bt263 => (if bt263.1 = true then ((spec_StandardizeWord.f k bt258.1).bind fun t266 => (some t266)) else (some bt258.1))))) = some r := h
 clear h
 obtain ⟨⟨t254, t255, t256⟩, A2, H⟩ := xI H
 dsimp only at H
 obtain ⟨⟨t258, t261, t262⟩, A3, H⟩ := xI H
 dsimp only at H
 obtain ⟨⟨t263, t264, t265⟩, A4, H⟩ := xI H
 dsimp only at H
 by_cases c5 : t263 = true
 ·subst c5
  rw [if_pos rfl] at H
  obtain ⟨t266, A6, H⟩ := xI H
  obtain rfl := Option.some.inj H
  go_enter Tryz.func26, Tryz.ntmps26
  go_wp2_with (first | ((with_reducible refine gate_callee (f := 25) rfl ?_); refine goesL_ (some 6) rfl rfl Tryz.func25 (by kernel_rfl) rfl #[.slice A0 l0.length c0] rfl xm ?_; (with_reducible refine (spec_l1New.calls k _ _ l0 t254 t255 t256 w _ ?side1 ?side2 ?side3 A2.out).mono ?_); (case side1 => exact xb HB.out); (case side2 => exact HR0.out); (case side3 => exact HC0.out); rintro e w7 ⟨g257, rfl, hi, hb, hb2⟩; refine ⟨_, rfl, ?_⟩; replace HB := ax (hb); have HI257 := ax (hi); (try clear hb); (try clear hb2); (try clear hi)) | ((with_reducible refine gate_callee (f := 47) rfl ?_); refine goesL_ (some 8) rfl rfl Tryz.func47 (by kernel_rfl) rfl #[.pointer (some ⟨g257, 0, none⟩)] rfl xm ?_; (with_reducible refine (spec_l8Bent.calls k g257 t254 t255 t256 t258 t261 t262 w _ ?side1 ?side2 A3.out).mono ?_); (case side1 => exact xt52 HI257.out); (case side2 => exact xs HB.out (IsS52.ge HI257.out)); rintro e w8 ⟨v259, rfl, ho0, hi, hb, hk⟩; refine ⟨_, rfl, ?_⟩; have HO260 := ax (Kd.R_lower ho0 (below_size (xs HB.out (IsS52.ge HI257.out)))); replace HB := ax (hb); replace HI257 := ax (hi); (try clear hb); (try clear hk); (try clear hi); (try clear ho0)) | ((with_reducible refine gate_callee (f := 48) rfl ?_); refine goesL_ (some 10) rfl rfl Tryz.func48 (by kernel_rfl) rfl #[.pointer (some ⟨g257, 0, none⟩), .int .i64 2] rfl xm ?_; (with_reducible refine (spec_l1Once.calls g257 t254 t261 t262 2 true t264 t265 w _ ?side1 ?side2 A4.out).mono ?_); (case side1 => exact xt52 HI257.out); (case side2 => exact xs HB.out (IsS52.ge HI257.out)); rintro e w9 ⟨rfl, hi, hb, hk⟩; refine ⟨_, rfl, ?_⟩; replace HO260 := ax (Kd.R_mono (Kd.R_keep (IsS52.apart (show IsS52 w _ g257 t254 t261 t262 from xt52 HI257.out) (xR HO260.out) (by decide)) hk (fun _ h => h.2)) (fun _ h => h.1)); replace HB := ax (hb); replace HI257 := ax (hi); (try clear hb); (try clear hk); (try clear hi); obtain ⟨Ao10, co10, eo10⟩ := Kd.R_slice HO260.out; subst eo10) | ((with_reducible refine gate_callee (f := 49) rfl ?_); refine goesL_ (some 12) rfl rfl Tryz.func49 (by kernel_rfl) rfl #[.slice Ao10 t258.length co10] rfl xm ?_; (with_reducible refine (spec_StandardizeWord.calls k _ _ t258 t266 _ ?side1 ?side2 A6.out).mono ?_); (case side1 => exact xc (Kd.R_reads' HO260.out).2.2); (case side2 => exact (Kd.R_reads' HO260.out).2.1); rintro e w11 ⟨v267, rfl, ho0, hb⟩; refine ⟨_, rfl, ?_⟩; have HO268 := ax (Kd.R_lower (Kd.R_new' ho0 (Kd.R_lt (xR HO260.out))) (below_size (xs HB.out (IsS52.ge HI257.out)))); replace HO260 := ax (Kd.R_elder' (xR HO260.out) (Kd.R_base ho0) hb); replace HB := ax (below_step (xs HB.out (IsS52.ge HI257.out)) hb); replace HI257 := ax (IsS52.below (xt52 HI257.out) hb); (try clear hb); (try clear ho0)))
  go_ret
  exact ⟨_, xe, by (with_reducible repeat (first | apply Kd.R_alloc | apply Kd.R_drewN | apply Kd.R_drew)); exact Kd.R_mono HO268.out (fun _ hk => trivial), xs HB.out (IsS52.ge HI257.out)⟩
 ·replace c5 := Bool.eq_false_iff.mpr c5
  subst c5
  rw [if_neg (show ¬ (false = true) by decide)] at H
  obtain rfl := Option.some.inj H
  go_enter Tryz.func26, Tryz.ntmps26
  go_wp2_with (first | ((with_reducible refine gate_callee (f := 25) rfl ?_); refine goesL_ (some 6) rfl rfl Tryz.func25 (by kernel_rfl) rfl #[.slice A0 l0.length c0] rfl xm ?_; (with_reducible refine (spec_l1New.calls k _ _ l0 t254 t255 t256 w _ ?side1 ?side2 ?side3 A2.out).mono ?_); (case side1 => exact xb HB.out); (case side2 => exact HR0.out); (case side3 => exact HC0.out); rintro e w12 ⟨g257, rfl, hi, hb, hb2⟩; refine ⟨_, rfl, ?_⟩; replace HB := ax (hb); have HI257 := ax (hi); (try clear hb); (try clear hb2); (try clear hi)) | ((with_reducible refine gate_callee (f := 47) rfl ?_); refine goesL_ (some 8) rfl rfl Tryz.func47 (by kernel_rfl) rfl #[.pointer (some ⟨g257, 0, none⟩)] rfl xm ?_; (with_reducible refine (spec_l8Bent.calls k g257 t254 t255 t256 t258 t261 t262 w _ ?side1 ?side2 A3.out).mono ?_); (case side1 => exact xt52 HI257.out); (case side2 => exact xs HB.out (IsS52.ge HI257.out)); rintro e w13 ⟨v259, rfl, ho0, hi, hb, hk⟩; refine ⟨_, rfl, ?_⟩; have HO260 := ax (Kd.R_lower ho0 (below_size (xs HB.out (IsS52.ge HI257.out)))); replace HB := ax (hb); replace HI257 := ax (hi); (try clear hb); (try clear hk); (try clear hi); (try clear ho0)) | ((with_reducible refine gate_callee (f := 48) rfl ?_); refine goesL_ (some 10) rfl rfl Tryz.func48 (by kernel_rfl) rfl #[.pointer (some ⟨g257, 0, none⟩), .int .i64 2] rfl xm ?_; (with_reducible refine (spec_l1Once.calls g257 t254 t261 t262 2 false t264 t265 w _ ?side1 ?side2 A4.out).mono ?_); (case side1 => exact xt52 HI257.out); (case side2 => exact xs HB.out (IsS52.ge HI257.out)); rintro e w14 ⟨rfl, hi, hb, hk⟩; refine ⟨_, rfl, ?_⟩; replace HO260 := ax (Kd.R_mono (Kd.R_keep (IsS52.apart (show IsS52 w _ g257 t254 t261 t262 from xt52 HI257.out) (xR HO260.out) (by decide)) hk (fun _ h => h.2)) (fun _ h => h.1)); replace HB := ax (hb); replace HI257 := ax (hi); (try clear hb); (try clear hk); (try clear hi)))
  go_ret
  exact ⟨_, xe, xR HO260.out, xs HB.out (IsS52.ge HI257.out)⟩

/-! ### spec_DrawCycleType: function 6 -/
def spec_DrawCycleType.f (k : Nat) (l0 : List Int) : Option (List Int) := (spec_DrawInverseOf.f k l0).bind fun t269 => (some t269)
theorem spec_DrawCycleType.mono : ∀ a0 k, LeO (spec_DrawCycleType.f k a0) (spec_DrawCycleType.f (k + 1) a0) := by
 intro a0 k
 unfold spec_DrawCycleType.f
 repeat' with_reducible first | exact spec_DrawInverseOf.mono _ _ | exact xl | refine LeO.ite ?_ ?_ | refine LeO.bind ?_ fun _ => ?_
theorem spec_DrawCycleType.calls (k : Nat) (A0 : Option Addr) (c0 : Nat) (l0 : List Int) (r : List Int) (w : World) (hr0 : Kd.C (Kd.int .u8) w A0 l0.length l0) (hc0 : l0.length ≤ c0) (h : spec_DrawCycleType.f k l0 = some r) :
  Calls Tryz.prog 6 #[.slice A0 l0.length c0] w fun e w' => ∃ v0_ : Value, e = .returned (v0_) ∧ Kd.R (Kd.int .i64) 3 w' w.heap.size (fun _ => True) v0_ r ∧ Below w.heap.size w w' := by
 have HR0 := ax hr0
 have HC0 := ax hc0
 clear hr0 hc0
 have HB := ax (Below.refl w.heap.size w)
 have H : ((spec_DrawInverseOf.f k l0).bind fun t269 => (some t269)) = some r := h
 clear h
 obtain ⟨t269, A2, H⟩ := xI H
 obtain rfl := Option.some.inj H
 go_enter Tryz.func6, Tryz.ntmps6
 go_wp2_with (first | ((with_reducible refine gate_callee (f := 26) rfl ?_); refine goesL_ (some 4) rfl rfl Tryz.func26 (by kernel_rfl) rfl #[.slice A0 l0.length c0] rfl xm ?_; (with_reducible refine (spec_DrawInverseOf.calls k _ _ l0 t269 _ ?side1 ?side2 A2.out).mono ?_); (case side1 => exact xc HR0.out); (case side2 => exact HC0.out); rintro e w3 ⟨v270, rfl, ho0, hb⟩; refine ⟨_, rfl, ?_⟩; have HO271 := ax (Kd.R_lower ho0 (below_size (xb HB.out))); replace HB := yB HB hb; (try clear hb); (try clear ho0)))
 go_ret
 exact ⟨_, xe, xR HO271.out, xb HB.out⟩

-- NOT PRINTED: function 88 (slices_IndexFunc_int_int)

-- NOT PRINTED: function 67 (slices_ContainsFunc_int_int)

/-! ### impl_within: function 55 -/
def impl_within.f (a0 : Int) (a1 : Int) (a2 : Int) : Option (Bool) := if a1 ≤ a0 then (some (decide (a0 ≤ a2))) else (some false)
theorem impl_within.calls (a0 : Int) (a1 : Int) (a2 : Int) (r : Bool) (w : World) (h : impl_within.f a0 a1 a2 = some r) :
  Calls Tryz.prog 55 #[.int .i64 a0, .int .i64 a1, .int .i64 a2] w fun e w' => e = .returned (.bool r) ∧ Drawn0 w w' := by
 have H : (if a1 ≤ a0 then (some (decide (a0 ≤ a2))) else (some false)) = some r := h
 clear h
 by_cases c4 : a1 ≤ a0
 ·rw [if_pos c4] at H
  have c4b0 := decide_eq_true c4
  clear c4
  obtain rfl := Option.some.inj H
  go_enter Tryz.func55, Tryz.ntmps55
  go_wp2
  go_ret
  exact ⟨by first | rfl | (simp; done) | (simp [*]; done), by repeat (first | exact Drawn0.refl _ | apply Drawn0.step)⟩
 ·rw [if_neg c4] at H
  have c4b0 := decide_eq_false c4
  clear c4
  obtain rfl := Option.some.inj H
  go_enter Tryz.func55, Tryz.ntmps55
  go_wp2
  go_ret
  exact ⟨by first | rfl | (simp; done) | (simp [*]; done), by repeat (first | exact Drawn0.refl _ | apply Drawn0.step)⟩

/-! ### impl_IsWord_1: function 68 -/
def impl_IsWord_1.f (a0 : Int) : Option (Bool) := (impl_within.f a0 1 9).bind fun t272 => (some (!t272))
theorem impl_IsWord_1.calls (a0 : Int) (r : Bool) (w : World) (h : impl_IsWord_1.f a0 = some r) :
  Calls Tryz.prog 68 #[.int .i64 a0] w fun e w' => e = .returned (.bool r) ∧ Drawn0 w w' := by
 have H : ((impl_within.f a0 1 9).bind fun t272 => (some (!t272))) = some r := h
 clear h
 obtain ⟨t272, A2, H⟩ := xI H
 obtain rfl := Option.some.inj H
 go_enter Tryz.func68, Tryz.ntmps68
 go_wp2_with (first | ((with_reducible refine gate_callee (f := 55) rfl ?_); refine goesL_ (some 4) rfl rfl Tryz.func55 (by kernel_rfl) rfl #[.int .i64 a0, .int .i64 1, .int .i64 9] rfl xm ?_; (with_reducible refine (impl_within.calls a0 1 9 t272 _ A2.out).mono ?_); rintro e w' ⟨rfl, ⟨nd, rfl⟩⟩; refine ⟨_, rfl, ?_⟩))
 go_ret
 exact ⟨by first | rfl | (simp; done) | (simp [*]; done), by repeat (first | exact Drawn0.refl _ | apply Drawn0.step)⟩

/-! ### slices_IndexFunc_int_int__impl_IsWord_1: function 128 -/
def slices_IndexFunc_int_int__impl_IsWord_1.l0 : Nat → List Int → Int → Int → Option (Int)
 | 0, _, _, _ => none
 | k + 1, x0, x7, x8 => if x8 < x7 then (if 0 ≤ x8 then (if x8 < (x0.length : Int) then ((impl_IsWord_1.f (rd x0 x8)).bind fun t274 => (if t274 = true then (some x8) else (slices_IndexFunc_int_int__impl_IsWord_1.l0 k x0 x7 (wrap64 (x8 + 1))))) else (none)) else (none)) else (some (-1))
def slices_IndexFunc_int_int__impl_IsWord_1.f (k : Nat) (l0 : List Int)  : Option (Int) := slices_IndexFunc_int_int__impl_IsWord_1.l0 k l0 (l0.length : Int) 0
theorem slices_IndexFunc_int_int__impl_IsWord_1.mono_l : ∀ k, (∀ y0 y1 y2, LeO (slices_IndexFunc_int_int__impl_IsWord_1.l0 k y0 y1 y2) (slices_IndexFunc_int_int__impl_IsWord_1.l0 (k + 1) y0 y1 y2))
 | 0 => fun _ _ _ r h => by simp [slices_IndexFunc_int_int__impl_IsWord_1.l0] at h
 | k + 1 => by
  have ih0 := slices_IndexFunc_int_int__impl_IsWord_1.mono_l k
  ·intro y0 y1 y2
   unfold slices_IndexFunc_int_int__impl_IsWord_1.l0
   repeat' with_reducible first | exact ih0 _ _ _ | exact xl | refine LeO.ite ?_ ?_ | refine LeO.bind ?_ fun _ => ?_
theorem slices_IndexFunc_int_int__impl_IsWord_1.mono : ∀ a0 k, LeO (slices_IndexFunc_int_int__impl_IsWord_1.f k a0) (slices_IndexFunc_int_int__impl_IsWord_1.f (k + 1) a0) := by
 intro a0 k
 have ih0 := slices_IndexFunc_int_int__impl_IsWord_1.mono_l k
 unfold slices_IndexFunc_int_int__impl_IsWord_1.f
 repeat' with_reducible first | exact ih0 _ _ _ | exact xl | refine LeO.ite ?_ ?_ | refine LeO.bind ?_ fun _ => ?_
theorem slices_IndexFunc_int_int__impl_IsWord_1.calls (k : Nat) (A0 : Option Addr) (c0 : Nat) (l0 : List Int)  (r : Int) (w : World) (hr0 : Kd.C (Kd.int .i64) w A0 l0.length l0) (hc0 : l0.length ≤ c0) (h : slices_IndexFunc_int_int__impl_IsWord_1.f k l0 = some r) :
  Calls Tryz.prog 88 #[.slice A0 l0.length c0, .func (.func 68) #[] #[]] w fun e w' => e = .returned (.int .i64 r) ∧ Drawn0 w w' := by
 have HR0 := ax hr0
 have HC0 := ax hc0
 clear hr0 hc0
 have H : (slices_IndexFunc_int_int__impl_IsWord_1.l0 k l0 (l0.length : Int) 0) = some r := h
 clear h
 have H' := ax H
 clear H
 go_enter Tryz.func88, Tryz.ntmps88
 go_wp2
 go_loopg [8] k (fun kq v8 w' => ∃ (x8_1 : Int), v8 = .int .i64 x8_1 ∧ Aside0 (slices_IndexFunc_int_int__impl_IsWord_1.l0 kq l0 (l0.length : Int) x8_1 = some r) ∧ Aside0 (kq ≤ k) ∧ Drawn0 w w')
 case atStart => exact ⟨(0), xr, H', ⟨Nat.le_refl _⟩, by repeat (first | exact Drawn0.refl _ | apply Drawn0.step)⟩
 case round =>
  clear H'
  obtain ⟨x8_1, rfl, HA, HK1, ⟨m1, rfl⟩⟩ := hrel
  cases gk with
  | zero => exact absurd HA.out (by simp [slices_IndexFunc_int_int__impl_IsWord_1.l0])
  | succ k1 =>
   have H := HA.out
   clear HA
   simp only [slices_IndexFunc_int_int__impl_IsWord_1.l0] at H
   by_cases c3 : x8_1 < (l0.length : Int)
   ·rw [if_pos c3] at H
    have c3b0 := decide_eq_true c3
    clear c3
    obtain ⟨c4b0, H⟩ := xq H
    obtain ⟨c5b0, H⟩ := xq H
    obtain ⟨t274, A6, H⟩ := xI H
    by_cases c7 : t274 = true
    ·subst c7
     rw [if_pos rfl] at H
     obtain rfl := Option.some.inj H
     have p273 : 0 ≤ (x8_1 : Int) := xd
     have q273 : x8_1 < (l0.length : Int) := xd
     obtain ⟨ad273, e273, hx273_0⟩ := Kd.at_int HR0.out x8_1 p273 q273
     cases e273
     replace p273 := eq_true p273
     replace q273 := eq_true q273
     go_wp2_with (first | (go_at_call 68; (with_reducible refine (impl_IsWord_1.calls (rd l0 x8_1) true _ A6.out).mono ?_); rintro e w' ⟨rfl, ⟨nd, rfl⟩⟩))
     go_ret
     exact ⟨by first | rfl | (simp; done) | (simp [*]; done), by repeat (first | exact Drawn0.refl _ | apply Drawn0.step)⟩
    ·replace c7 := Bool.eq_false_iff.mpr c7
     subst c7
     rw [if_neg (show ¬ (false = true) by decide)] at H
     have H' := ax H
     clear H
     have p273 : 0 ≤ (x8_1 : Int) := xd
     have q273 : x8_1 < (l0.length : Int) := xd
     obtain ⟨ad273, e273, hx273_0⟩ := Kd.at_int HR0.out x8_1 p273 q273
     cases e273
     replace p273 := eq_true p273
     replace q273 := eq_true q273
     go_wp2_with (first | (go_at_call 68; (with_reducible refine (impl_IsWord_1.calls (rd l0 x8_1) false _ A6.out).mono ?_); rintro e w' ⟨rfl, ⟨nd, rfl⟩⟩))
     go_roundg k1
     case measure => have := HK1.out; omega
     case rel => exact ⟨(wrap64 (x8_1 + 1)), xr, H', ⟨by have := HK1.out; omega⟩, by repeat (first | exact Drawn0.refl _ | apply Drawn0.step)⟩
   ·rw [if_neg c3] at H
    have c3b0 := decide_eq_false c3
    clear c3
    obtain rfl := Option.some.inj H
    go_wp2
    go_ret
    exact ⟨by first | rfl | (simp; done) | (simp [*]; done), by repeat (first | exact Drawn0.refl _ | apply Drawn0.step)⟩

/-! ### slices_ContainsFunc_int_int__impl_IsWord_1: function 127 -/
def slices_ContainsFunc_int_int__impl_IsWord_1.f (k : Nat) (l0 : List Int)  : Option (Bool) := (slices_IndexFunc_int_int__impl_IsWord_1.f k l0).bind fun t275 => (some (decide (t275 ≥ 0)))
theorem slices_ContainsFunc_int_int__impl_IsWord_1.mono : ∀ a0 k, LeO (slices_ContainsFunc_int_int__impl_IsWord_1.f k a0) (slices_ContainsFunc_int_int__impl_IsWord_1.f (k + 1) a0) := by
 intro a0 k
 unfold slices_ContainsFunc_int_int__impl_IsWord_1.f
 repeat' with_reducible first | exact slices_IndexFunc_int_int__impl_IsWord_1.mono _ _ | exact xl | refine LeO.ite ?_ ?_ | refine LeO.bind ?_ fun _ => ?_
theorem slices_ContainsFunc_int_int__impl_IsWord_1.calls (k : Nat) (A0 : Option Addr) (c0 : Nat) (l0 : List Int)  (r : Bool) (w : World) (hr0 : Kd.C (Kd.int .i64) w A0 l0.length l0) (hc0 : l0.length ≤ c0) (h : slices_ContainsFunc_int_int__impl_IsWord_1.f k l0 = some r) :
  Calls Tryz.prog 67 #[.slice A0 l0.length c0, .func (.func 68) #[] #[]] w fun e w' => e = .returned (.bool r) ∧ Drawn0 w w' := by
 have HR0 := ax hr0
 have HC0 := ax hc0
 clear hr0 hc0
 have H : ((slices_IndexFunc_int_int__impl_IsWord_1.f k l0).bind fun t275 => (some (decide (t275 ≥ 0)))) = some r := h
 clear h
 obtain ⟨t275, A3, H⟩ := xI H
 obtain rfl := Option.some.inj H
 go_enter Tryz.func67, Tryz.ntmps67
 go_wp2_with (first | ((with_reducible refine gate_callee (f := 88) rfl ?_); refine goesL_ (some 7) rfl rfl Tryz.func88 (by kernel_rfl) rfl #[.slice A0 l0.length c0, .func (.func 68) #[] #[]] rfl xm ?_; (with_reducible refine (slices_IndexFunc_int_int__impl_IsWord_1.calls k _ _ l0  t275 _ ?side1 ?side2 A3.out).mono ?_); (case side1 => exact xc HR0.out); (case side2 => exact HC0.out); rintro e w' ⟨rfl, ⟨nd, rfl⟩⟩; refine ⟨_, rfl, ?_⟩))
 go_ret
 exact ⟨by first | rfl | (simp; done) | (simp [*]; done), by repeat (first | exact Drawn0.refl _ | apply Drawn0.step)⟩

/-! ### impl_IsWord: function 50 -/
def impl_IsWord.f (k : Nat) (l0 : List Int) : Option (Bool) := if (l0.length : Int) ≤ 9 then ((slices_ContainsFunc_int_int__impl_IsWord_1.f k l0).bind fun t276 => (some (!t276))) else (some false)
theorem impl_IsWord.mono : ∀ a0 k, LeO (impl_IsWord.f k a0) (impl_IsWord.f (k + 1) a0) := by
 intro a0 k
 unfold impl_IsWord.f
 repeat' with_reducible first | exact slices_ContainsFunc_int_int__impl_IsWord_1.mono _ _ | exact xl | refine LeO.ite ?_ ?_ | refine LeO.bind ?_ fun _ => ?_
theorem impl_IsWord.calls (k : Nat) (A0 : Option Addr) (c0 : Nat) (l0 : List Int) (r : Bool) (w : World) (hr0 : Kd.C (Kd.int .i64) w A0 l0.length l0) (hc0 : l0.length ≤ c0) (h : impl_IsWord.f k l0 = some r) :
  Calls Tryz.prog 50 #[.slice A0 l0.length c0] w fun e w' => e = .returned (.bool r) ∧ Drawn0 w w' := by
 have HR0 := ax hr0
 have HC0 := ax hc0
 clear hr0 hc0
 have H : (if (l0.length : Int) ≤ 9 then ((slices_ContainsFunc_int_int__impl_IsWord_1.f k l0).bind fun t276 => (some (!t276))) else (some false)) = some r := h
 clear h
 by_cases c2 : (l0.length : Int) ≤ 9
 ·rw [if_pos c2] at H
  have c2b0 := decide_eq_true c2
  have c2b1 : decide (l0.length ≤ 9) = true := decide_eq_true (by omega)
  clear c2
  obtain ⟨t276, A3, H⟩ := xI H
  obtain rfl := Option.some.inj H
  go_enter Tryz.func50, Tryz.ntmps50
  go_wp2_with (first | (go_at_call 67; (with_reducible refine (slices_ContainsFunc_int_int__impl_IsWord_1.calls k _ _ l0  t276 _ ?side1 ?side2 A3.out).mono ?_); (case side1 => exact xc HR0.out); (case side2 => exact HC0.out); rintro e w' ⟨rfl, ⟨nd, rfl⟩⟩))
  go_ret
  exact ⟨by first | rfl | (simp; done) | (simp [*]; done), by repeat (first | exact Drawn0.refl _ | apply Drawn0.step)⟩
 ·rw [if_neg c2] at H
  have c2b0 := decide_eq_false c2
  have c2b1 : decide (l0.length ≤ 9) = false := decide_eq_false (by omega)
  clear c2
  obtain rfl := Option.some.inj H
  go_enter Tryz.func50, Tryz.ntmps50
  go_wp2
  go_ret
  exact ⟨by first | rfl | (simp; done) | (simp [*]; done), by repeat (first | exact Drawn0.refl _ | apply Drawn0.step)⟩

/-! ### slices_Index_int_int: function 89 -/
def slices_Index_int_int.l0 : Nat → List Int → Int → Int → Int → Option (Int)
 | 0, _, _, _, _ => none
 | k + 1, x0, x1, x7, x8 => if x8 < x7 then (if 0 ≤ x8 then (if x8 < (x0.length : Int) then (if x1 = (rd x0 x8) then (some x8) else (slices_Index_int_int.l0 k x0 x1 x7 (wrap64 (x8 + 1)))) else (none)) else (none)) else (some (-1))
def slices_Index_int_int.f (k : Nat) (l0 : List Int) (a1 : Int) : Option (Int) := slices_Index_int_int.l0 k l0 a1 (l0.length : Int) 0
theorem slices_Index_int_int.mono_l : ∀ k, (∀ y0 y1 y2 y3, LeO (slices_Index_int_int.l0 k y0 y1 y2 y3) (slices_Index_int_int.l0 (k + 1) y0 y1 y2 y3))
 | 0 => fun _ _ _ _ r h => by simp [slices_Index_int_int.l0] at h
 | k + 1 => by
  have ih0 := slices_Index_int_int.mono_l k
  ·intro y0 y1 y2 y3
   unfold slices_Index_int_int.l0
   repeat' with_reducible first | exact ih0 _ _ _ _ | exact xl | refine LeO.ite ?_ ?_ | refine LeO.bind ?_ fun _ => ?_
theorem slices_Index_int_int.mono : ∀ a0 a1 k, LeO (slices_Index_int_int.f k a0 a1) (slices_Index_int_int.f (k + 1) a0 a1) := by
 intro a0 a1 k
 have ih0 := slices_Index_int_int.mono_l k
 unfold slices_Index_int_int.f
 repeat' with_reducible first | exact ih0 _ _ _ _ | exact xl | refine LeO.ite ?_ ?_ | refine LeO.bind ?_ fun _ => ?_
theorem slices_Index_int_int.calls (k : Nat) (A0 : Option Addr) (c0 : Nat) (l0 : List Int) (a1 : Int) (r : Int) (w : World) (hr0 : Kd.C (Kd.int .i64) w A0 l0.length l0) (hc0 : l0.length ≤ c0) (h : slices_Index_int_int.f k l0 a1 = some r) :
  Calls Tryz.prog 89 #[.slice A0 l0.length c0, .int .i64 a1] w fun e w' => e = .returned (.int .i64 r) ∧ Drawn0 w w' := by
 have HR0 := ax hr0
 have HC0 := ax hc0
 clear hr0 hc0
 have H : (slices_Index_int_int.l0 k l0 a1 (l0.length : Int) 0) = some r := h
 clear h
 have H' := ax H
 clear H
 go_enter Tryz.func89, Tryz.ntmps89
 go_wp2
 go_loopg [8] k (fun kq v8 w' => ∃ (x8_1 : Int), v8 = .int .i64 x8_1 ∧ Aside0 (slices_Index_int_int.l0 kq l0 a1 (l0.length : Int) x8_1 = some r) ∧ Aside0 (kq ≤ k) ∧ Drawn0 w w')
 case atStart => exact ⟨(0), xr, H', ⟨Nat.le_refl _⟩, by repeat (first | exact Drawn0.refl _ | apply Drawn0.step)⟩
 case round =>
  clear H'
  obtain ⟨x8_1, rfl, HA, HK1, ⟨m1, rfl⟩⟩ := hrel
  cases gk with
  | zero => exact absurd HA.out (by simp [slices_Index_int_int.l0])
  | succ k1 =>
   have H := HA.out
   clear HA
   simp only [slices_Index_int_int.l0] at H
   by_cases c3 : x8_1 < (l0.length : Int)
   ·rw [if_pos c3] at H
    have c3b0 := decide_eq_true c3
    clear c3
    obtain ⟨c4b0, H⟩ := xq H
    obtain ⟨c5b0, H⟩ := xq H
    by_cases c6 : a1 = (rd l0 x8_1)
    ·rw [if_pos c6] at H
     have c6b0 : (a1 == (rd l0 x8_1)) = true := beq_iff_eq.mpr c6
     have c6b1 : (a1 != (rd l0 x8_1)) = false := bne_eq_false_iff_eq.mpr c6
     clear c6
     obtain rfl := Option.some.inj H
     have p277 : 0 ≤ (x8_1 : Int) := xd
     have q277 : x8_1 < (l0.length : Int) := xd
     obtain ⟨ad277, e277, hx277_0⟩ := Kd.at_int HR0.out x8_1 p277 q277
     cases e277
     replace p277 := eq_true p277
     replace q277 := eq_true q277
     go_wp2
     go_ret
     exact ⟨by first | rfl | (simp; done) | (simp [*]; done), by repeat (first | exact Drawn0.refl _ | apply Drawn0.step)⟩
    ·rw [if_neg c6] at H
     have c6b0 : (a1 == (rd l0 x8_1)) = false := beq_eq_false_iff_ne.mpr c6
     have c6b1 : (a1 != (rd l0 x8_1)) = true := bne_iff_ne.mpr c6
     have H' := ax H
     clear H
     have p277 : 0 ≤ (x8_1 : Int) := xd
     have q277 : x8_1 < (l0.length : Int) := xd
     obtain ⟨ad277, e277, hx277_0⟩ := Kd.at_int HR0.out x8_1 p277 q277
     cases e277
     replace p277 := eq_true p277
     replace q277 := eq_true q277
     go_wp2
     go_roundg k1
     case measure => have := HK1.out; omega
     case rel => exact ⟨(wrap64 (x8_1 + 1)), xr, H', ⟨by have := HK1.out; omega⟩, by repeat (first | exact Drawn0.refl _ | apply Drawn0.step)⟩
   ·rw [if_neg c3] at H
    have c3b0 := decide_eq_false c3
    clear c3
    obtain rfl := Option.some.inj H
    go_wp2
    go_ret
    exact ⟨by first | rfl | (simp; done) | (simp [*]; done), by repeat (first | exact Drawn0.refl _ | apply Drawn0.step)⟩

/-! ### slices_Contains_int_int: function 69 -/
def slices_Contains_int_int.f (k : Nat) (l0 : List Int) (a1 : Int) : Option (Bool) := (slices_Index_int_int.f k l0 a1).bind fun t278 => (some (decide (t278 ≥ 0)))
theorem slices_Contains_int_int.mono : ∀ a0 a1 k, LeO (slices_Contains_int_int.f k a0 a1) (slices_Contains_int_int.f (k + 1) a0 a1) := by
 intro a0 a1 k
 unfold slices_Contains_int_int.f
 repeat' with_reducible first | exact slices_Index_int_int.mono _ _ _ | exact xl | refine LeO.ite ?_ ?_ | refine LeO.bind ?_ fun _ => ?_
theorem slices_Contains_int_int.calls (k : Nat) (A0 : Option Addr) (c0 : Nat) (l0 : List Int) (a1 : Int) (r : Bool) (w : World) (hr0 : Kd.C (Kd.int .i64) w A0 l0.length l0) (hc0 : l0.length ≤ c0) (h : slices_Contains_int_int.f k l0 a1 = some r) :
  Calls Tryz.prog 69 #[.slice A0 l0.length c0, .int .i64 a1] w fun e w' => e = .returned (.bool r) ∧ Drawn0 w w' := by
 have HR0 := ax hr0
 have HC0 := ax hc0
 clear hr0 hc0
 have H : ((slices_Index_int_int.f k l0 a1).bind fun t278 => (some (decide (t278 ≥ 0)))) = some r := h
 clear h
 obtain ⟨t278, A3, H⟩ := xI H
 obtain rfl := Option.some.inj H
 go_enter Tryz.func69, Tryz.ntmps69
 go_wp2_with (first | ((with_reducible refine gate_callee (f := 89) rfl ?_); refine goesL_ (some 7) rfl rfl Tryz.func89 (by kernel_rfl) rfl #[.slice A0 l0.length c0, .int .i64 a1] rfl xm ?_; (with_reducible refine (slices_Index_int_int.calls k _ _ l0 a1 t278 _ ?side1 ?side2 A3.out).mono ?_); (case side1 => exact xc HR0.out); (case side2 => exact HC0.out); rintro e w' ⟨rfl, ⟨nd, rfl⟩⟩; refine ⟨_, rfl, ?_⟩))
 go_ret
 exact ⟨by first | rfl | (simp; done) | (simp [*]; done), by repeat (first | exact Drawn0.refl _ | apply Drawn0.step)⟩

end Go.Proofs.YtopmggldaicpaacGreat.PFnKronecker
