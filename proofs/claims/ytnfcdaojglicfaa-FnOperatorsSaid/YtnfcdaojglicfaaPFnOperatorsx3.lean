import Derived.Test.YtnfcdaojglicfaaPFnOperatorsx2
namespace Go.Proofs.Ytnfcdaojglicfaa.PFnOperators
open Go.RowKit Go.Proofs.YtnfcdaojglicfaaW.PrintWords Go.Proofs.YtnfcdaojglicfaaW.PrintLast Go.Proofs.YtnfcdaojglicfaaW.PrintMore
set_option linter.unusedVariables false
set_option linter.unusedSimpArgs false
set_option maxHeartbeats 8000000
set_option maxRecDepth 100000
/-! ### spec_l8Word: function 37 -/
def spec_l8Word.f (k : Nat) (s0_0 : List Int) (s0_1 : Int) (s0_2 : Int) : Option (List Int × Int × Int) := (spec_l1Below.f s0_0 s0_1 s0_2 4).bind fun bt152 => ((spec_l8Draw.f k s0_0 bt152.2.1 bt152.2.2 7 (wrap64 (2 + bt152.1))).bind fun bt155 => ((spec_l1Once.f s0_0 bt155.2.1 bt155.2.2 3).bind fun bt160 => (if bt160.1 = true then ((spec_StandardizeWord.f k bt155.1).bind fun t163 => (some (t163, bt160.2.1, bt160.2.2))) else (some (bt155.1, bt160.2.1, bt160.2.2)))))
theorem spec_l8Word.mono : ∀ a0 a1 a2 k, LeO (spec_l8Word.f k a0 a1 a2) (spec_l8Word.f (k + 1) a0 a1 a2) := by
 intro a0 a1 a2 k
 unfold spec_l8Word.f
 repeat' with_reducible first | exact spec_StandardizeWord.mono _ _ | exact spec_l8Draw.mono _ _ _ _ _ _ | exact xl | refine LeO.ite ?_ ?_ | refine LeO.bind ?_ fun _ => ?_
theorem spec_l8Word.calls (k : Nat) (g : Nat) (s0_0 : List Int) (s0_1 : Int) (s0_2 : Int) (r1 : List Int) (r2 : Int) (r3 : Int) (w0 w : World) (hI : IsS58 w0 w g s0_0 s0_1 s0_2) (hB : Below w0.heap.size w0 w) (h : spec_l8Word.f k s0_0 s0_1 s0_2 = some (r1, r2, r3)) :
  Calls Try.prog 37 #[.pointer (some ⟨g, 0, none⟩)] w fun e w' => ∃ v0_ : Value, e = .returned (v0_) ∧ Kd.R (Kd.int .i64) 3 w' w.heap.size (fun _ => True) v0_ r1 ∧ IsS58 w0 w' g s0_0 r2 r3 ∧ Below w0.heap.size w0 w' ∧ KeepBut w w' g none := by
 have HI0 := ax hI
 have HK := ax (KeepBut.refl w g none)
 have HL := ax hB.size
 clear hI
 have HW0 := ax hB.size
 have HB := ax hB
 clear hB
 have H : ((spec_l1Below.f s0_0 s0_1 s0_2 4).bind fun bt152 => ((spec_l8Draw.f k s0_0 bt152.2.1 bt152.2.2 7 (wrap64 (2 + bt152.1))).bind fun bt155 => ((spec_l1Once.f s0_0 bt155.2.1 bt155.2.2 3).bind fun bt160 => (if bt160.1 = true then ((spec_StandardizeWord.f k bt155.1).bind fun t163 => (some (t163, bt160.2.1, bt160.2.2))) else (some (bt155.1, bt160.2.1, bt160.2.2)))))) = some (r1, r2, r3) := h
 clear h
 obtain ⟨⟨t152, t153, t154⟩, A2, H⟩ := xI H
 dsimp only at H
 obtain ⟨⟨t155, t158, t159⟩, A3, H⟩ := xI H
 dsimp only at H
 obtain ⟨⟨t160, t161, t162⟩, A4, H⟩ := xI H
 dsimp only at H
 by_cases c5 : t160 = true
 ·subst c5
  rw [if_pos rfl] at H
  obtain ⟨t163, A6, H⟩ := xI H
  simp only [Option.some.injEq, Prod.mk.injEq] at H
  obtain ⟨rfl, rfl, rfl⟩ := H
  go_enter Try.func37, Try.ntmps37
  go_wp2_with (first | ((with_reducible refine gate_callee (f := 38) rfl ?_); refine goesL_ (some 6) rfl rfl Try.func38 (by kernel_rfl) rfl #[.pointer (some ⟨g, 0, none⟩), .int .i64 4] rfl xm ?_; (with_reducible refine (spec_l1Below.calls g s0_0 s0_1 s0_2 4 t152 t153 t154 w0 _ ?side1 ?side2 A2.out).mono ?_); (case side1 => exact xt58 HI0.out); (case side2 => exact xs HB.out (IsS58.ge HI0.out)); rintro e w7 ⟨rfl, hi, hb, hk⟩; refine ⟨_, rfl, ?_⟩; replace HK := ax (KeepBut.trans (xh HK.out) hk (.inl rfl)); replace HB := ax (hb); replace HI0 := ax (hi); (try clear hb); (try clear hk); (try clear hi)) | ((with_reducible refine gate_callee (f := 42) rfl ?_); refine goesL_ (some 8) rfl rfl Try.func42 (by kernel_rfl) rfl #[.pointer (some ⟨g, 0, none⟩), .int .i64 7, .int .i64 (wrap64 (2 + t152))] rfl xm ?_; (with_reducible refine (spec_l8Draw.calls k g s0_0 t153 t154 7 (wrap64 (2 + t152)) t155 t158 t159 w0 _ ?side1 ?side2 A3.out).mono ?_); (case side1 => exact xt58 HI0.out); (case side2 => exact xs HB.out (IsS58.ge HI0.out)); rintro e w8 ⟨v156, rfl, ho0, hi, hb, hk⟩; refine ⟨_, rfl, ?_⟩; have HO157 := ax (Kd.R_lower ho0 (keep_size (w := w) (g := g) (row := none) (xh HK.out))); replace HK := ax (KeepBut.trans (xh HK.out) hk (.inl rfl)); replace HB := ax (hb); replace HI0 := ax (hi); (try clear hb); (try clear hk); (try clear hi); (try clear ho0)) | ((with_reducible refine gate_callee (f := 43) rfl ?_); refine goesL_ (some 10) rfl rfl Try.func43 (by kernel_rfl) rfl #[.pointer (some ⟨g, 0, none⟩), .int .i64 3] rfl xm ?_; (with_reducible refine (spec_l1Once.calls g s0_0 t158 t159 3 true t161 t162 w0 _ ?side1 ?side2 A4.out).mono ?_); (case side1 => exact xt58 HI0.out); (case side2 => exact xs HB.out (IsS58.ge HI0.out)); rintro e w9 ⟨rfl, hi, hb, hk⟩; refine ⟨_, rfl, ?_⟩; replace HO157 := ax (Kd.R_mono (Kd.R_keep (IsS58.apart (show IsS58 w0 _ g s0_0 t158 t159 from xt58 HI0.out) (xR HO157.out) (by decide)) hk (fun _ h => h.2)) (fun _ h => h.1)); replace HK := ax (KeepBut.trans (xh HK.out) hk (.inl rfl)); replace HB := ax (hb); replace HI0 := ax (hi); (try clear hb); (try clear hk); (try clear hi); obtain ⟨Ao10, co10, eo10⟩ := Kd.R_slice HO157.out; subst eo10) | ((with_reducible refine gate_callee (f := 44) rfl ?_); refine goesL_ (some 12) rfl rfl Try.func44 (by kernel_rfl) rfl #[.slice Ao10 t155.length co10] rfl xm ?_; (with_reducible refine (spec_StandardizeWord.calls k _ _ t155 t163 _ ?side1 ?side2 A6.out).mono ?_); (case side1 => exact xc (Kd.R_reads' HO157.out).2.2); (case side2 => exact (Kd.R_reads' HO157.out).2.1); rintro e w11 ⟨v164, rfl, ho0, hb⟩; refine ⟨_, rfl, ?_⟩; have HO165 := ax (Kd.R_lower (Kd.R_new' ho0 (Kd.R_lt (xR HO157.out))) (keep_size (w := w) (g := g) (row := none) (xh HK.out))); replace HO157 := ax (Kd.R_elder' (xR HO157.out) (Kd.R_base ho0) hb); replace HK := ax (KeepBut.trans (xh HK.out) (KeepBut.of_below hb g none) (.inl rfl)); replace HB := ax (below_step (xs HB.out (IsS58.ge HI0.out)) hb); replace HI0 := ax (IsS58.below (xt58 HI0.out) hb); (try clear hb); (try clear ho0)))
  go_ret
  exact ⟨_, xe, by (with_reducible repeat (first | apply Kd.R_alloc | apply Kd.R_drewN | apply Kd.R_drew)); exact Kd.R_mono HO165.out (fun _ hk => trivial), xt58 HI0.out, xs HB.out (IsS58.ge HI0.out), xh HK.out⟩
 ·replace c5 := Bool.eq_false_iff.mpr c5
  subst c5
  rw [if_neg (show ¬ (false = true) by decide)] at H
  simp only [Option.some.injEq, Prod.mk.injEq] at H
  obtain ⟨rfl, rfl, rfl⟩ := H
  go_enter Try.func37, Try.ntmps37
  go_wp2_with (first | ((with_reducible refine gate_callee (f := 38) rfl ?_); refine goesL_ (some 6) rfl rfl Try.func38 (by kernel_rfl) rfl #[.pointer (some ⟨g, 0, none⟩), .int .i64 4] rfl xm ?_; (with_reducible refine (spec_l1Below.calls g s0_0 s0_1 s0_2 4 t152 t153 t154 w0 _ ?side1 ?side2 A2.out).mono ?_); (case side1 => exact xt58 HI0.out); (case side2 => exact xs HB.out (IsS58.ge HI0.out)); rintro e w12 ⟨rfl, hi, hb, hk⟩; refine ⟨_, rfl, ?_⟩; replace HK := ax (KeepBut.trans (xh HK.out) hk (.inl rfl)); replace HB := ax (hb); replace HI0 := ax (hi); (try clear hb); (try clear hk); (try clear hi)) | ((with_reducible refine gate_callee (f := 42) rfl ?_); refine goesL_ (some 8) rfl rfl Try.func42 (by kernel_rfl) rfl #[.pointer (some ⟨g, 0, none⟩), .int .i64 7, .int .i64 (wrap64 (2 + t152))] rfl xm ?_; (with_reducible refine (spec_l8Draw.calls k g s0_0 t153 t154 7 (wrap64 (2 + t152)) t155 t158 t159 w0 _ ?side1 ?side2 A3.out).mono ?_); (case side1 => exact xt58 HI0.out); (case side2 => exact xs HB.out (IsS58.ge HI0.out)); rintro e w13 ⟨v156, rfl, ho0, hi, hb, hk⟩; refine ⟨_, rfl, ?_⟩; have HO157 := ax (Kd.R_lower ho0 (keep_size (w := w) (g := g) (row := none) (xh HK.out))); replace HK := ax (KeepBut.trans (xh HK.out) hk (.inl rfl)); replace HB := ax (hb); replace HI0 := ax (hi); (try clear hb); (try clear hk); (try clear hi); (try clear ho0)) | ((with_reducible refine gate_callee (f := 43) rfl ?_); refine goesL_ (some 10) rfl rfl Try.func43 (by kernel_rfl) rfl #[.pointer (some ⟨g, 0, none⟩), .int .i64 3] rfl xm ?_; (with_reducible refine (spec_l1Once.calls g s0_0 t158 t159 3 false t161 t162 w0 _ ?side1 ?side2 A4.out).mono ?_); (case side1 => exact xt58 HI0.out); (case side2 => exact xs HB.out (IsS58.ge HI0.out)); rintro e w14 ⟨rfl, hi, hb, hk⟩; refine ⟨_, rfl, ?_⟩; replace HO157 := ax (Kd.R_mono (Kd.R_keep (IsS58.apart (show IsS58 w0 _ g s0_0 t158 t159 from xt58 HI0.out) (xR HO157.out) (by decide)) hk (fun _ h => h.2)) (fun _ h => h.1)); replace HK := ax (KeepBut.trans (xh HK.out) hk (.inl rfl)); replace HB := ax (hb); replace HI0 := ax (hi); (try clear hb); (try clear hk); (try clear hi)))
  go_ret
  exact ⟨_, xe, xR HO157.out, xt58 HI0.out, xs HB.out (IsS58.ge HI0.out), xh HK.out⟩

/-! ### spec_l8Bent: function 28 -/
def spec_l8Bent.l0 : Nat → List Int → List Int → Int → Int → Option (List Int × Int × Int)
 | 0, _, _, _, _ => none
 | k + 1, x3, x1000, x1001, x1002 => if (x3.length : Int) < 10 then (if x3.length < 17592186044416 then (spec_l8Bent.l0 k (x3 ++ [1]) x1000 x1001 x1002) else (none)) else (some (x3, x1001, x1002))
def spec_l8Bent.f (k : Nat) (s0_0 : List Int) (s0_1 : Int) (s0_2 : Int) : Option (List Int × Int × Int) := (spec_l8Word.f k s0_0 s0_1 s0_2).bind fun bt166 => ((spec_l1Below.f s0_0 bt166.2.1 bt166.2.2 14).bind fun bt171 => (if bt171.1 = 0 then ((spec_l1PickInt.f s0_0 bt171.2.1 bt171.2.2 (([0, 10, (-1), 9] : List Int))).bind fun bt177 => (if bt166.1.length < 17592186044416 then (some ((bt166.1 ++ [bt177.1]), bt177.2.1, bt177.2.2)) else (none))) else (if bt171.1 = 1 then (spec_l8Bent.l0 k bt166.1 s0_0 bt171.2.1 bt171.2.2) else (some (bt166.1, bt171.2.1, bt171.2.2)))))
theorem spec_l8Bent.mono_l : ∀ k, (∀ y0 y1 y2 y3, LeO (spec_l8Bent.l0 k y0 y1 y2 y3) (spec_l8Bent.l0 (k + 1) y0 y1 y2 y3))
 | 0 => fun _ _ _ _ r h => by simp [spec_l8Bent.l0] at h
 | k + 1 => by
  have ih0 := spec_l8Bent.mono_l k
  ·intro y0 y1 y2 y3
   unfold spec_l8Bent.l0
   repeat' with_reducible first | exact ih0 _ _ _ _ | exact spec_l8Word.mono _ _ _ _ | exact xl | refine LeO.ite ?_ ?_ | refine LeO.bind ?_ fun _ => ?_
theorem spec_l8Bent.mono : ∀ a0 a1 a2 k, LeO (spec_l8Bent.f k a0 a1 a2) (spec_l8Bent.f (k + 1) a0 a1 a2) := by
 intro a0 a1 a2 k
 have ih0 := spec_l8Bent.mono_l k
 unfold spec_l8Bent.f
 repeat' with_reducible first | exact ih0 _ _ _ _ | exact spec_l8Word.mono _ _ _ _ | exact xl | refine LeO.ite ?_ ?_ | refine LeO.bind ?_ fun _ => ?_
theorem spec_l8Bent.calls (k : Nat) (g : Nat) (s0_0 : List Int) (s0_1 : Int) (s0_2 : Int) (r1 : List Int) (r2 : Int) (r3 : Int) (w0 w : World) (hI : IsS58 w0 w g s0_0 s0_1 s0_2) (hB : Below w0.heap.size w0 w) (h : spec_l8Bent.f k s0_0 s0_1 s0_2 = some (r1, r2, r3)) :
  Calls Try.prog 28 #[.pointer (some ⟨g, 0, none⟩)] w fun e w' => ∃ v0_ : Value, e = .returned (v0_) ∧ Kd.R (Kd.int .i64) 3 w' w.heap.size (fun _ => True) v0_ r1 ∧ IsS58 w0 w' g s0_0 r2 r3 ∧ Below w0.heap.size w0 w' ∧ KeepBut w w' g none := by
 have HI0 := ax hI
 have HK := ax (KeepBut.refl w g none)
 have HL := ax hB.size
 clear hI
 have HW0 := ax hB.size
 have HB := ax hB
 clear hB
 have H : ((spec_l8Word.f k s0_0 s0_1 s0_2).bind fun bt166 => ((spec_l1Below.f s0_0 bt166.2.1 bt166.2.2 14).bind fun bt171 => (if bt171.1 = 0 then ((spec_l1PickInt.f s0_0 bt171.2.1 bt171.2.2 (([0, 10, (-1), 9] : List Int))).bind fun bt177 => (if bt166.1.length < 17592186044416 then (some ((bt166.1 ++ [bt177.1]), bt177.2.1, bt177.2.2)) else (none))) else (if bt171.1 = 1 then (spec_l8Bent.l0 k bt166.1 s0_0 bt171.2.1 bt171.2.2) else (some (bt166.1, bt171.2.1, bt171.2.2)))))) = some (r1, r2, r3) := h
 clear h
 obtain ⟨⟨t166, t169, t170⟩, A2, H⟩ := xI H
 dsimp only at H
 obtain ⟨⟨t171, t172, t173⟩, A3, H⟩ := xI H
 dsimp only at H
 by_cases c4 : t171 = 0
 ·rw [if_pos c4] at H
  have c4b0 : (t171 == 0) = true := beq_iff_eq.mpr c4
  have c4b1 : (t171 != 0) = false := bne_eq_false_iff_eq.mpr c4
  clear c4
  obtain ⟨y174, hy174⟩ : ∃ y_ : List Int, y_ = (([0, 10, (-1), 9] : List Int)) := ⟨_, rfl⟩
  replace H : ((spec_l1PickInt.f s0_0 t172 t173 y174).bind fun bt177 => (if t166.length < 17592186044416 then (some ((t166 ++ [bt177.1]), bt177.2.1, bt177.2.2)) else (none))) = some (r1, r2, r3) := xv hy174 H
  have Ny174 := ax hy174
  clear hy174
  obtain ⟨⟨t177, t178, t179⟩, A5, H⟩ := xI H
  dsimp only at H
  obtain ⟨c6, H⟩ := xp H
  have LMc6 := ax c6
  clear c6
  obtain ⟨y180, hy180⟩ : ∃ y_ : List Int, y_ = (t166 ++ [t177]) := ⟨_, rfl⟩
  replace H : (some (y180, t178, t179)) = some (r1, r2, r3) := xv hy180 H
  have Ny180 := ax hy180
  clear hy180
  simp only [Option.some.injEq, Prod.mk.injEq] at H
  obtain ⟨rfl, rfl, rfl⟩ := H
  go_enter Try.func28, Try.ntmps28
  go_wp2_with (first | ((with_reducible refine gate_callee (f := 37) rfl ?_); refine goesL_ (some 5) rfl rfl Try.func37 (by kernel_rfl) rfl #[.pointer (some ⟨g, 0, none⟩)] rfl xm ?_; (with_reducible refine (spec_l8Word.calls k g s0_0 s0_1 s0_2 t166 t169 t170 w0 _ ?side1 ?side2 A2.out).mono ?_); (case side1 => exact xt58 HI0.out); (case side2 => exact xs HB.out (IsS58.ge HI0.out)); rintro e w7 ⟨v167, rfl, ho0, hi, hb, hk⟩; refine ⟨_, rfl, ?_⟩; have HO168 := ax (Kd.R_lower ho0 (keep_size (w := w) (g := g) (row := none) (xh HK.out))); replace HK := ax (KeepBut.trans (xh HK.out) hk (.inl rfl)); replace HB := ax (hb); replace HI0 := ax (hi); (try clear hb); (try clear hk); (try clear hi); (try clear ho0)) | ((with_reducible refine gate_callee (f := 38) rfl ?_); refine goesL_ (some 7) rfl rfl Try.func38 (by kernel_rfl) rfl #[.pointer (some ⟨g, 0, none⟩), .int .i64 14] rfl xm ?_; (with_reducible refine (spec_l1Below.calls g s0_0 t169 t170 14 t171 t172 t173 w0 _ ?side1 ?side2 A3.out).mono ?_); (case side1 => exact xt58 HI0.out); (case side2 => exact xs HB.out (IsS58.ge HI0.out)); rintro e w8 ⟨rfl, hi, hb, hk⟩; refine ⟨_, rfl, ?_⟩; replace HO168 := ax (Kd.R_mono (Kd.R_keep (IsS58.apart (show IsS58 w0 _ g s0_0 t169 t170 from xt58 HI0.out) (xR HO168.out) (by decide)) hk (fun _ h => h.2)) (fun _ h => h.1)); replace HK := ax (KeepBut.trans (xh HK.out) hk (.inl rfl)); replace HB := ax (hb); replace HI0 := ax (hi); (try clear hb); (try clear hk); (try clear hi)) | ((with_reducible refine gate_dst (N := 12) rfl ?_); refine Kd.R_lit (Kd.int .i64) _ 3 ?hg (N := 12) ?hd (xs := ([0, 10, (-1), 9] : List Int)) (inner := [.int .i64 0, .int .i64 10, .int .i64 (-1), .int .i64 9]) (ok := fun _ => True) (okp := fun _ => True) ?hr ?hp (fun _ hk => hk) trivial (Below.refl _ _) (Nat.le_refl _) (by simp) ?_; (case hd => rfl); (case hg => rfl); (case hr => first | (go_simp; done) | (go_simp; rfl)); (case hp => exact (Reps.one (show Kd.M (Kd.int .i64) _ _ _ 0 [.int .i64 0] from rfl) (Reps.one (show Kd.M (Kd.int .i64) _ _ _ 10 [.int .i64 10] from rfl) (Reps.one (show Kd.M (Kd.int .i64) _ _ _ (-1) [.int .i64 (-1)] from rfl) (Reps.one (show Kd.M (Kd.int .i64) _ _ _ 9 [.int .i64 9] from rfl) (Reps.none _ _)))))); intro v175 w9 ho10 hb hg_ hnew_; clear hg_ hnew_; (first | rw [← Ny174.out] at ho10 | (simp only [Int.reduceToNat] at ho10; rw [← Ny174.out] at ho10)); have HO176 := ax (Kd.R_lower (Kd.R_new' ho10 (Kd.R_lt (xR HO168.out))) (keep_size (w := w) (g := g) (row := none) (xh HK.out))); replace HO168 := ax (Kd.R_elder' (xR HO168.out) (Kd.R_base ho10) hb); replace HK := ax (KeepBut.trans (xh HK.out) (KeepBut.of_below hb g none) (.inl rfl)); replace HB := ax (below_step (xs HB.out (IsS58.ge HI0.out)) hb); replace HI0 := ax (IsS58.below (xt58 HI0.out) hb); clear hb ho10; obtain ⟨Ao11, co11, eo11⟩ := Kd.R_slice HO176.out; subst eo11) | ((with_reducible refine gate_callee (f := 34) rfl ?_); refine goesL_ (some 13) rfl rfl Try.func34 (by kernel_rfl) rfl #[.pointer (some ⟨g, 0, none⟩), .slice Ao11 y174.length co11] rfl xm ?_; (with_reducible refine (spec_l1PickInt.calls g s0_0 t172 t173 _ _ y174 t177 t178 t179 w0 _ ?side1 ?side2 ?side3 ?side4 ?side5 A5.out).mono ?_); (case side1 => exact xt58 HI0.out); (case side2 => exact xs HB.out (IsS58.ge HI0.out)); (case side3 => exact xc (Kd.R_reads' HO176.out).2.2); (case side4 => exact (Kd.R_reads' HO176.out).2.1); (case side5 => exact far_slice (IsS58.own_ne HI0.out HO176.out (by decide))); rintro e w12 ⟨rfl, hi, hb, hk⟩; refine ⟨_, rfl, ?_⟩; replace HO168 := ax (Kd.R_mono (Kd.R_keep (IsS58.apart (show IsS58 w0 _ g s0_0 t172 t173 from xt58 HI0.out) (xR HO168.out) (by decide)) hk (fun _ h => h.2)) (fun _ h => h.1)); replace HO176 := ax (Kd.R_mono (Kd.R_keep (IsS58.apart (show IsS58 w0 _ g s0_0 t172 t173 from xt58 HI0.out) (xR HO176.out) (by decide)) hk (fun _ h => h.2)) (fun _ h => h.1)); replace HK := ax (KeepBut.trans (xh HK.out) hk (.inl rfl)); replace HB := ax (hb); replace HI0 := ax (hi); (try clear hb); (try clear hk); (try clear hi)) | ((with_reducible refine gate_builtin (b := .append) (xs := #[.tmp 10, .tmp 14]) rfl ?_); at_builtin; refine Kd.R_append (Kd.int .i64) w.heap.size rfl (.tmp 10) (.tmp 14) 24 3 (.int .i64 0) 8 rfl Try.underlying24 info3 rfl (by decide) (by omega) v167 t166 t177 [.int .i64 t177] (fun k_ => some k_ ≠ (.slice Ao11 y174.length co11 : Value).ownBlock) (fun _ => False) rfl rfl ?aP (fun _ hk => hk.elim) ?aF ?aO (Below.refl _ _) ?aS ?aL ?_; (case aP => exact rfl); (case aF => exact (fun k_ hk => Kd.fresh' (Kd.R_lt (xR HO176.out)) k_ hk)); (case aO => exact (by (with_reducible repeat (first | apply Kd.R_alloc | apply Kd.R_drewN | apply Kd.R_drew)); exact Kd.R_mono HO168.out (fun _ hk => hk.2))); (case aS => exact (keep_size (w := w) (g := g) (row := none) (xh HK.out))); (case aL => have := LMc6.out; omega); intro v181 w13 ho hb hg hat; rw [← Ny180.out] at ho; have n0_ := ax (IsS58.grown (xt58 HI0.out) hg (IsS58.own_ne HI0.out HO168.out (by decide))); have n1_ := ax (Kd.R_after (ok := (fun _ => True)) (xR HO176.out) hg hat); have n2_ := ax (below_weaken (xs HB.out (IsS58.ge HI0.out)) HL.out hb); have n3_ := ax (KeepBut.trans (xh HK.out) (KeepBut.of_grown hg g) (Kd.R_base2 HO168.out)); have n4_ := ax (ho); clear HI0; clear HO176; clear HB; clear HK; clear HO168; have HI0 := n0_; have HO176 := n1_; have HB := n2_; have HK := n3_; have HO182 := n4_; clear n0_ n1_ n2_ n3_ n4_; clear ho hb hg hat))
  go_ret
  exact ⟨_, xe, by (with_reducible repeat (first | apply Kd.R_alloc | apply Kd.R_drewN | apply Kd.R_drew)); exact Kd.R_mono HO182.out (fun _ hk => trivial), xt58 HI0.out, xs HB.out (IsS58.ge HI0.out), xh HK.out⟩
 ·rw [if_neg c4] at H
  have c4b0 : (t171 == 0) = false := beq_eq_false_iff_ne.mpr c4
  have c4b1 : (t171 != 0) = true := bne_iff_ne.mpr c4
  by_cases c14 : t171 = 1
  ·rw [if_pos c14] at H
   have c14b0 : (t171 == 1) = true := beq_iff_eq.mpr c14
   have c14b1 : (t171 != 1) = false := bne_eq_false_iff_eq.mpr c14
   clear c14
   have H' := ax H
   clear H
   go_enter Try.func28, Try.ntmps28
   go_wp2_with (first | ((with_reducible refine gate_callee (f := 37) rfl ?_); refine goesL_ (some 5) rfl rfl Try.func37 (by kernel_rfl) rfl #[.pointer (some ⟨g, 0, none⟩)] rfl xm ?_; (with_reducible refine (spec_l8Word.calls k g s0_0 s0_1 s0_2 t166 t169 t170 w0 _ ?side1 ?side2 A2.out).mono ?_); (case side1 => exact xt58 HI0.out); (case side2 => exact xs HB.out (IsS58.ge HI0.out)); rintro e w15 ⟨v167, rfl, ho0, hi, hb, hk⟩; refine ⟨_, rfl, ?_⟩; have HO168 := ax (Kd.R_lower ho0 (keep_size (w := w) (g := g) (row := none) (xh HK.out))); replace HK := ax (KeepBut.trans (xh HK.out) hk (.inl rfl)); replace HB := ax (hb); replace HI0 := ax (hi); (try clear hb); (try clear hk); (try clear hi); (try clear ho0)) | ((with_reducible refine gate_callee (f := 38) rfl ?_); refine goesL_ (some 7) rfl rfl Try.func38 (by kernel_rfl) rfl #[.pointer (some ⟨g, 0, none⟩), .int .i64 14] rfl xm ?_; (with_reducible refine (spec_l1Below.calls g s0_0 t169 t170 14 t171 t172 t173 w0 _ ?side1 ?side2 A3.out).mono ?_); (case side1 => exact xt58 HI0.out); (case side2 => exact xs HB.out (IsS58.ge HI0.out)); rintro e w16 ⟨rfl, hi, hb, hk⟩; refine ⟨_, rfl, ?_⟩; replace HO168 := ax (Kd.R_mono (Kd.R_keep (IsS58.apart (show IsS58 w0 _ g s0_0 t169 t170 from xt58 HI0.out) (xR HO168.out) (by decide)) hk (fun _ h => h.2)) (fun _ h => h.1)); replace HK := ax (KeepBut.trans (xh HK.out) hk (.inl rfl)); replace HB := ax (hb); replace HI0 := ax (hi); (try clear hb); (try clear hk); (try clear hi)))
   go_loopg [3] k (fun kq v3 w' => ∃ (x3_1 : List Int), Aside0 (spec_l8Bent.l0 kq x3_1 s0_0 t172 t173 = some (r1, r2, r3)) ∧ Aside0 (kq ≤ k) ∧ Aside0 (Kd.R (Kd.int .i64) 3 w' w.heap.size (fun _ => True) v3 x3_1) ∧ Aside0 (IsS58 w0 w' g s0_0 t172 t173) ∧ Aside0 (KeepBut w w' g none) ∧ Aside0 (Below w0.heap.size w0 w'))
   case atStart => exact ⟨(t166), H', ⟨Nat.le_refl _⟩, ⟨xR HO168.out⟩, ⟨xt58 HI0.out⟩, ⟨xh HK.out⟩, ⟨xs HB.out (IsS58.ge HI0.out)⟩⟩
   case round =>
    clear H'
    (try clear c4); (try clear c4b0); (try clear c4b1); (try clear c6); (try clear c14); (try clear c14b0); (try clear c14b1)
    obtain ⟨x3_1, HA, HK1, HO_3, HI0, HK, HB⟩ := hrel
    cases gk with
    | zero => exact absurd HA.out (by simp [spec_l8Bent.l0])
    | succ k1 =>
     have H := HA.out
     clear HA
     simp only [spec_l8Bent.l0] at H
     by_cases c17 : (x3_1.length : Int) < 10
     ·rw [if_pos c17] at H
      have c17b0 := decide_eq_true c17
      have c17b1 : decide (x3_1.length < 10) = true := decide_eq_true (by omega)
      clear c17
      obtain ⟨c18, H⟩ := xp H
      have LMc18 := ax c18
      clear c18
      obtain ⟨y183, hy183⟩ : ∃ y_ : List Int, y_ = (x3_1 ++ [1]) := ⟨_, rfl⟩
      replace H : (spec_l8Bent.l0 k1 y183 s0_0 t172 t173) = some (r1, r2, r3) := xv hy183 H
      have Ny183 := ax hy183
      clear hy183
      have H' := ax H
      clear H
      obtain ⟨Ao19, co19, eo19⟩ := Kd.R_slice HO_3.out
      subst eo19
      go_wp2_with (first | ((with_reducible refine gate_builtin (b := .append) (xs := #[.tmp 21, .tmp 22]) rfl ?_); at_builtin; refine Kd.R_append (Kd.int .i64) w.heap.size rfl (.tmp 21) (.tmp 22) 24 3 (.int .i64 0) 8 rfl Try.underlying24 info3 rfl (by decide) (by omega) (.slice Ao19 x3_1.length co19) x3_1 1 [.int .i64 1] (fun _ => True) (fun _ => False) rfl rfl ?aP (fun _ hk => hk.elim) ?aF ?aO (Below.refl _ _) ?aS ?aL ?_; (case aP => exact rfl); (case aF => exact (fun _ _ => trivial)); (case aO => exact (xR HO_3.out)); (case aS => exact (keep_size (w := w) (g := g) (row := none) (xh HK.out))); (case aL => have := LMc18.out; omega); intro v184 w20 ho hb hg hat; rw [← Ny183.out] at ho; have n0_ := ax (IsS58.grown (xt58 HI0.out) hg (IsS58.own_ne HI0.out HO_3.out (by decide))); have n1_ := ax (below_weaken (xs HB.out (IsS58.ge HI0.out)) HL.out hb); have n2_ := ax (KeepBut.trans (xh HK.out) (KeepBut.of_grown hg g) (Kd.R_base2 HO_3.out)); have n3_ := ax (ho); clear HI0; clear HB; clear HK; clear HO_3; have HI0 := n0_; have HB := n1_; have HK := n2_; have HO185 := n3_; clear n0_ n1_ n2_ n3_; clear ho hb hg hat))
      go_roundg k1
      case measure => have := HK1.out; omega
      case rel => exact ⟨(y183), H', ⟨by have := HK1.out; omega⟩, ⟨xR HO185.out⟩, ⟨xt58 HI0.out⟩, ⟨xh HK.out⟩, ⟨xs HB.out (IsS58.ge HI0.out)⟩⟩
     ·rw [if_neg c17] at H
      have c17b0 := decide_eq_false c17
      have c17b1 : decide (x3_1.length < 10) = false := decide_eq_false (by omega)
      clear c17
      simp only [Option.some.injEq, Prod.mk.injEq] at H
      obtain ⟨rfl, rfl, rfl⟩ := H
      obtain ⟨Ao21, co21, eo21⟩ := Kd.R_slice HO_3.out
      subst eo21
      go_wp2
      go_ret
      exact ⟨_, xe, xR HO_3.out, xt58 HI0.out, xs HB.out (IsS58.ge HI0.out), xh HK.out⟩
  ·rw [if_neg c14] at H
   have c14b0 : (t171 == 1) = false := beq_eq_false_iff_ne.mpr c14
   have c14b1 : (t171 != 1) = true := bne_iff_ne.mpr c14
   simp only [Option.some.injEq, Prod.mk.injEq] at H
   obtain ⟨rfl, rfl, rfl⟩ := H
   go_enter Try.func28, Try.ntmps28
   go_wp2_with (first | ((with_reducible refine gate_callee (f := 37) rfl ?_); refine goesL_ (some 5) rfl rfl Try.func37 (by kernel_rfl) rfl #[.pointer (some ⟨g, 0, none⟩)] rfl xm ?_; (with_reducible refine (spec_l8Word.calls k g s0_0 s0_1 s0_2 t166 t169 t170 w0 _ ?side1 ?side2 A2.out).mono ?_); (case side1 => exact xt58 HI0.out); (case side2 => exact xs HB.out (IsS58.ge HI0.out)); rintro e w22 ⟨v167, rfl, ho0, hi, hb, hk⟩; refine ⟨_, rfl, ?_⟩; have HO168 := ax (Kd.R_lower ho0 (keep_size (w := w) (g := g) (row := none) (xh HK.out))); replace HK := ax (KeepBut.trans (xh HK.out) hk (.inl rfl)); replace HB := ax (hb); replace HI0 := ax (hi); (try clear hb); (try clear hk); (try clear hi); (try clear ho0)) | ((with_reducible refine gate_callee (f := 38) rfl ?_); refine goesL_ (some 7) rfl rfl Try.func38 (by kernel_rfl) rfl #[.pointer (some ⟨g, 0, none⟩), .int .i64 14] rfl xm ?_; (with_reducible refine (spec_l1Below.calls g s0_0 t169 t170 14 t171 t172 t173 w0 _ ?side1 ?side2 A3.out).mono ?_); (case side1 => exact xt58 HI0.out); (case side2 => exact xs HB.out (IsS58.ge HI0.out)); rintro e w23 ⟨rfl, hi, hb, hk⟩; refine ⟨_, rfl, ?_⟩; replace HO168 := ax (Kd.R_mono (Kd.R_keep (IsS58.apart (show IsS58 w0 _ g s0_0 t169 t170 from xt58 HI0.out) (xR HO168.out) (by decide)) hk (fun _ h => h.2)) (fun _ h => h.1)); replace HK := ax (KeepBut.trans (xh HK.out) hk (.inl rfl)); replace HB := ax (hb); replace HI0 := ax (hi); (try clear hb); (try clear hk); (try clear hi)))
   go_ret
   exact ⟨_, xe, xR HO168.out, xt58 HI0.out, xs HB.out (IsS58.ge HI0.out), xh HK.out⟩

/-! ### spec_l1New: function 29 -/
def spec_l1New.l0 : Nat → List Int → Int → Int → Option (List Int × Int × Int)
 | 0, _, _, _ => none
 | k + 1, x0, x3, x4 => if x4 < (x0.length : Int) then (if x4 < 4000 then (if 0 ≤ x4 then (spec_l1New.l0 k x0 (Go.bits .and .i64 (wrap64 ((wrap64 ((wrap64 (x3 * 131)) + (wrap64 (rd x0 x4)))) + 7)) 1073741823) (wrap64 (x4 + 1))) else (none)) else (some (x0, 0, x3))) else (some (x0, 0, x3))
def spec_l1New.f (k : Nat) (l0 : List Int) : Option (List Int × Int × Int) := spec_l1New.l0 k l0 (wrap64 (26583 + (l0.length : Int))) 0
theorem spec_l1New.mono_l : ∀ k, (∀ y0 y1 y2, LeO (spec_l1New.l0 k y0 y1 y2) (spec_l1New.l0 (k + 1) y0 y1 y2))
 | 0 => fun _ _ _ r h => by simp [spec_l1New.l0] at h
 | k + 1 => by
  have ih0 := spec_l1New.mono_l k
  ·intro y0 y1 y2
   unfold spec_l1New.l0
   repeat' with_reducible first | exact ih0 _ _ _ | exact xl | refine LeO.ite ?_ ?_ | refine LeO.bind ?_ fun _ => ?_
theorem spec_l1New.mono : ∀ a0 k, LeO (spec_l1New.f k a0) (spec_l1New.f (k + 1) a0) := by
 intro a0 k
 have ih0 := spec_l1New.mono_l k
 unfold spec_l1New.f
 repeat' with_reducible first | exact ih0 _ _ _ | exact xl | refine LeO.ite ?_ ?_ | refine LeO.bind ?_ fun _ => ?_
theorem spec_l1New.calls (k : Nat) (A0 : Option Addr) (c0 : Nat) (l0 : List Int) (r1 : List Int) (r2 : Int) (r3 : Int) (w0 w : World) (hB : Below w0.heap.size w0 w) (hr0 : Kd.C (Kd.int .u8) w0 A0 l0.length l0) (hc0 : l0.length ≤ c0) (h : spec_l1New.f k l0 = some (r1, r2, r3)) :
  Calls Try.prog 29 #[.slice A0 l0.length c0] w fun e w' => ∃ g_ : Nat, e = .returned (.pointer (some ⟨g_, 0, none⟩)) ∧ IsS58 w0 w' g_ r1 r2 r3 ∧ Below w0.heap.size w0 w' ∧ Below w.heap.size w w' := by
 have hu58 := Try.underlying58
 have HR0 := ax hr0
 have HC0 := ax hc0
 clear hr0 hc0
 have HBW := ax (Below.refl w.heap.size w)
 have HW0 := ax hB.size
 have HB := ax hB
 clear hB
 have H : (spec_l1New.l0 k l0 (wrap64 (26583 + (l0.length : Int))) 0) = some (r1, r2, r3) := h
 clear h
 have H' := ax H
 clear H
 go_enter Try.func29, Try.ntmps29
 go_wp2
 go_loopg [3, 4] k (fun kq v3 v4 w' => ∃ (x3_1 : Int) (x4_1 : Int), v3 = .int .i64 x3_1 ∧ v4 = .int .i64 x4_1 ∧ Aside0 (spec_l1New.l0 kq l0 x3_1 x4_1 = some (r1, r2, r3)) ∧ Aside0 (kq ≤ k) ∧ Aside0 (Below w0.heap.size w0 w') ∧ Aside0 (Below w.heap.size w w'))
 case atStart => exact ⟨(wrap64 (26583 + (l0.length : Int))), (0), xr, xr, H', ⟨Nat.le_refl _⟩, ⟨xb HB.out⟩, ⟨xb HBW.out⟩⟩
 case round =>
  clear H'
  obtain ⟨x3_1, x4_1, rfl, rfl, HA, HK1, HB, HBW⟩ := hrel
  cases gk with
  | zero => exact absurd HA.out (by simp [spec_l1New.l0])
  | succ k1 =>
   have H := HA.out
   clear HA
   simp only [spec_l1New.l0] at H
   by_cases c2 : x4_1 < (l0.length : Int)
   ·rw [if_pos c2] at H
    have c2b0 := decide_eq_true c2
    clear c2
    by_cases c3 : x4_1 < 4000
    ·rw [if_pos c3] at H
     have c3b0 := decide_eq_true c3
     clear c3
     obtain ⟨c4b0, H⟩ := xq H
     have H' := ax H
     clear H
     have p186 : 0 ≤ (x4_1 : Int) := xd
     have q186 : x4_1 < (l0.length : Int) := xd
     obtain ⟨ad186, e186, hx186_0⟩ := Kd.at_int HR0.out x4_1 p186 q186
     cases e186
     replace hx186_0 := pw_cell_below HB.out hx186_0
     replace p186 := eq_true p186
     replace q186 := eq_true q186
     go_wp2
     go_roundg k1
     case measure => have := HK1.out; omega
     case rel => exact ⟨(Go.bits .and .i64 (wrap64 ((wrap64 ((wrap64 (x3_1 * 131)) + (wrap64 (rd l0 x4_1)))) + 7)) 1073741823), (wrap64 (x4_1 + 1)), xr, xr, H', ⟨by have := HK1.out; omega⟩, ⟨xb HB.out⟩, ⟨xb HBW.out⟩⟩
    ·rw [if_neg c3] at H
     have c3b0 := decide_eq_false c3
     clear c3
     simp only [Option.some.injEq, Prod.mk.injEq] at H
     obtain ⟨rfl, rfl, rfl⟩ := H
     go_wp2_with (first | ((with_reducible refine gate_dst (N := 31) rfl ?_); refine box_event ?hg (N := 31) ?hd (cs := #[.slice A0 l0.length c0, .int .i64 0, .int .i64 x3_1]) (t := 58) ?hr ?_; (case hd => rfl); (case hg => rfl); (case hr => first | (go_simp; done) | (go_simp; rfl)); intro gb187 hg w5 hbox hb; replace HB := yB HB hb; have BK187 := ax (hbox); have GW187 := ax ((by rw [hg]; exact (below_size (xb HBW.out)) : w.heap.size ≤ gb187)); have GE187 := ax ((Nat.le_trans HW0.out (by rw [hg]; exact (below_size (xb HBW.out)) : w.heap.size ≤ gb187) : w0.heap.size ≤ gb187)); replace HBW := ax (below_step HBW.out hb); clear hb hbox hg))
     go_ret
     exact ⟨_, rfl, (show IsS58 w0 _ gb187 l0 0 x3_1 from ⟨_, _, xk BK187.out, GE187.out, HR0.out⟩), xs HB.out GE187.out, xs HBW.out GW187.out⟩
   ·rw [if_neg c2] at H
    have c2b0 := decide_eq_false c2
    clear c2
    simp only [Option.some.injEq, Prod.mk.injEq] at H
    obtain ⟨rfl, rfl, rfl⟩ := H
    go_wp2_with (first | ((with_reducible refine gate_dst (N := 31) rfl ?_); refine box_event ?hg (N := 31) ?hd (cs := #[.slice A0 l0.length c0, .int .i64 0, .int .i64 x3_1]) (t := 58) ?hr ?_; (case hd => rfl); (case hg => rfl); (case hr => first | (go_simp; done) | (go_simp; rfl)); intro gb188 hg w6 hbox hb; replace HB := yB HB hb; have BK188 := ax (hbox); have GW188 := ax ((by rw [hg]; exact (below_size (xb HBW.out)) : w.heap.size ≤ gb188)); have GE188 := ax ((Nat.le_trans HW0.out (by rw [hg]; exact (below_size (xb HBW.out)) : w.heap.size ≤ gb188) : w0.heap.size ≤ gb188)); replace HBW := ax (below_step HBW.out hb); clear hb hbox hg))
    go_ret
    exact ⟨_, rfl, (show IsS58 w0 _ gb188 l0 0 x3_1 from ⟨_, _, xk BK188.out, GE188.out, HR0.out⟩), xs HB.out GE188.out, xs HBW.out GW188.out⟩

/-! ### spec_l26Case: function 21 -/
def spec_l26Case.f (k : Nat) (l0 : List Int) : Option (List Int × Int) := (spec_l1New.f k l0).bind fun bt189 => ((spec_l8Bent.f k bt189.1 bt189.2.1 bt189.2.2).bind fun bt193 => ((spec_l1PickInt.f bt189.1 bt193.2.1 bt193.2.2 (([1, 2, 1, 2, 3, 0, 9, 8] : List Int))).bind fun bt201 => (some (bt193.1, bt201.1))))
theorem spec_l26Case.mono : ∀ a0 k, LeO (spec_l26Case.f k a0) (spec_l26Case.f (k + 1) a0) := by
 intro a0 k
 unfold spec_l26Case.f
 repeat' with_reducible first | exact spec_l1New.mono _ _ | exact spec_l8Bent.mono _ _ _ _ | exact xl | refine LeO.ite ?_ ?_ | refine LeO.bind ?_ fun _ => ?_
theorem spec_l26Case.calls (k : Nat) (A0 : Option Addr) (c0 : Nat) (l0 : List Int) (r1 : List Int) (r2 : Int) (w : World) (hr0 : Kd.C (Kd.int .u8) w A0 l0.length l0) (hc0 : l0.length ≤ c0) (h : spec_l26Case.f k l0 = some (r1, r2)) :
  Calls Try.prog 21 #[.slice A0 l0.length c0] w fun e w' => ∃ v0_ : Value, e = .returned (.tuple #[v0_, .int .i64 r2]) ∧ Kd.R (Kd.int .i64) 3 w' w.heap.size (fun _ => True) v0_ r1 ∧ Below w.heap.size w w' := by
 have HR0 := ax hr0
 have HC0 := ax hc0
 clear hr0 hc0
 have HB := ax (Below.refl w.heap.size w)
 have H : ((spec_l1New.f k l0).bind fun bt189 => ((spec_l8Bent.f k bt189.1 bt189.2.1 bt189.2.2).bind fun bt193 => ((spec_l1PickInt.f bt189.1 bt193.2.1 bt193.2.2 (([1, 2, 1, 2, 3, 0, 9, 8] : List Int))).bind fun bt201 => (some (bt193.1, bt201.1))))) = some (r1, r2) := h
 clear h
 obtain ⟨⟨t189, t190, t191⟩, A2, H⟩ := xI H
 dsimp only at H
 obtain ⟨⟨t193, t196, t197⟩, A3, H⟩ := xI H
 dsimp only at H
 obtain ⟨y198, hy198⟩ : ∃ y_ : List Int, y_ = (([1, 2, 1, 2, 3, 0, 9, 8] : List Int)) := ⟨_, rfl⟩
 replace H : ((spec_l1PickInt.f t189 t196 t197 y198).bind fun bt201 => (some (t193, bt201.1))) = some (r1, r2) := xv hy198 H
 have Ny198 := ax hy198
 clear hy198
 obtain ⟨⟨t201, t202, t203⟩, A4, H⟩ := xI H
 dsimp only at H
 simp only [Option.some.injEq, Prod.mk.injEq] at H
 obtain ⟨rfl, rfl⟩ := H
 go_enter Try.func21, Try.ntmps21
 go_wp2_with (first | ((with_reducible refine gate_callee (f := 29) rfl ?_); refine goesL_ (some 7) rfl rfl Try.func29 (by kernel_rfl) rfl #[.slice A0 l0.length c0] rfl xm ?_; (with_reducible refine (spec_l1New.calls k _ _ l0 t189 t190 t191 w _ ?side1 ?side2 ?side3 A2.out).mono ?_); (case side1 => exact xb HB.out); (case side2 => exact HR0.out); (case side3 => exact HC0.out); rintro e w5 ⟨g192, rfl, hi, hb, hb2⟩; refine ⟨_, rfl, ?_⟩; replace HB := ax (hb); have HI192 := ax (hi); (try clear hb); (try clear hb2); (try clear hi)) | ((with_reducible refine gate_callee (f := 28) rfl ?_); refine goesL_ (some 9) rfl rfl Try.func28 (by kernel_rfl) rfl #[.pointer (some ⟨g192, 0, none⟩)] rfl xm ?_; (with_reducible refine (spec_l8Bent.calls k g192 t189 t190 t191 t193 t196 t197 w _ ?side1 ?side2 A3.out).mono ?_); (case side1 => exact xt58 HI192.out); (case side2 => exact xs HB.out (IsS58.ge HI192.out)); rintro e w6 ⟨v194, rfl, ho0, hi, hb, hk⟩; refine ⟨_, rfl, ?_⟩; have HO195 := ax (Kd.R_lower ho0 (below_size (xs HB.out (IsS58.ge HI192.out)))); replace HB := ax (hb); replace HI192 := ax (hi); (try clear hb); (try clear hk); (try clear hi); (try clear ho0)) | ((with_reducible refine gate_dst (N := 12) rfl ?_); refine Kd.R_lit (Kd.int .i64) _ 3 ?hg (N := 12) ?hd (xs := ([1, 2, 1, 2, 3, 0, 9, 8] : List Int)) (inner := [.int .i64 1, .int .i64 2, .int .i64 1, .int .i64 2, .int .i64 3, .int .i64 0, .int .i64 9, .int .i64 8]) (ok := fun _ => True) (okp := fun _ => True) ?hr ?hp (fun _ hk => hk) trivial (Below.refl _ _) (Nat.le_refl _) (by simp) ?_; (case hd => rfl); (case hg => rfl); (case hr => first | (go_simp; done) | (go_simp; rfl)); (case hp => exact (Reps.one (show Kd.M (Kd.int .i64) _ _ _ 1 [.int .i64 1] from rfl) (Reps.one (show Kd.M (Kd.int .i64) _ _ _ 2 [.int .i64 2] from rfl) (Reps.one (show Kd.M (Kd.int .i64) _ _ _ 1 [.int .i64 1] from rfl) (Reps.one (show Kd.M (Kd.int .i64) _ _ _ 2 [.int .i64 2] from rfl) (Reps.one (show Kd.M (Kd.int .i64) _ _ _ 3 [.int .i64 3] from rfl) (Reps.one (show Kd.M (Kd.int .i64) _ _ _ 0 [.int .i64 0] from rfl) (Reps.one (show Kd.M (Kd.int .i64) _ _ _ 9 [.int .i64 9] from rfl) (Reps.one (show Kd.M (Kd.int .i64) _ _ _ 8 [.int .i64 8] from rfl) (Reps.none _ _)))))))))); intro v199 w7 ho8 hb hg_ hnew_; clear hg_ hnew_; (first | rw [← Ny198.out] at ho8 | (simp only [Int.reduceToNat] at ho8; rw [← Ny198.out] at ho8)); have HO200 := ax (Kd.R_lower (Kd.R_new' ho8 (Kd.R_lt (xR HO195.out))) (below_size (xs HB.out (IsS58.ge HI192.out)))); replace HO195 := ax (Kd.R_elder' (xR HO195.out) (Kd.R_base ho8) hb); replace HB := ax (below_step (xs HB.out (IsS58.ge HI192.out)) hb); replace HI192 := ax (IsS58.below (xt58 HI192.out) hb); clear hb ho8; obtain ⟨Ao9, co9, eo9⟩ := Kd.R_slice HO200.out; subst eo9) | ((with_reducible refine gate_callee (f := 34) rfl ?_); refine goesL_ (some 13) rfl rfl Try.func34 (by kernel_rfl) rfl #[.pointer (some ⟨g192, 0, none⟩), .slice Ao9 y198.length co9] rfl xm ?_; (with_reducible refine (spec_l1PickInt.calls g192 t189 t196 t197 _ _ y198 t201 t202 t203 w _ ?side1 ?side2 ?side3 ?side4 ?side5 A4.out).mono ?_); (case side1 => exact xt58 HI192.out); (case side2 => exact xs HB.out (IsS58.ge HI192.out)); (case side3 => exact xc (Kd.R_reads' HO200.out).2.2); (case side4 => exact (Kd.R_reads' HO200.out).2.1); (case side5 => exact far_slice (IsS58.own_ne HI192.out HO200.out (by decide))); rintro e w10 ⟨rfl, hi, hb, hk⟩; refine ⟨_, rfl, ?_⟩; replace HO195 := ax (Kd.R_mono (Kd.R_keep (IsS58.apart (show IsS58 w _ g192 t189 t196 t197 from xt58 HI192.out) (xR HO195.out) (by decide)) hk (fun _ h => h.2)) (fun _ h => h.1)); replace HO200 := ax (Kd.R_mono (Kd.R_keep (IsS58.apart (show IsS58 w _ g192 t189 t196 t197 from xt58 HI192.out) (xR HO200.out) (by decide)) hk (fun _ h => h.2)) (fun _ h => h.1)); replace HB := ax (hb); replace HI192 := ax (hi); (try clear hb); (try clear hk); (try clear hi)))
 go_ret2
 exact ⟨_, xe, by (with_reducible repeat (first | apply Kd.R_alloc | apply Kd.R_drewN | apply Kd.R_drew)); exact Kd.R_mono HO195.out (fun _ hk => trivial), xs HB.out (IsS58.ge HI192.out)⟩

/-! ### spec_DrawLowerWord: function 5 -/
def spec_DrawLowerWord.f (k : Nat) (l0 : List Int) : Option (List Int × Int) := (spec_l26Case.f k l0).bind fun bt204 => (some (bt204.1, bt204.2))
theorem spec_DrawLowerWord.mono : ∀ a0 k, LeO (spec_DrawLowerWord.f k a0) (spec_DrawLowerWord.f (k + 1) a0) := by
 intro a0 k
 unfold spec_DrawLowerWord.f
 repeat' with_reducible first | exact spec_l26Case.mono _ _ | exact xl | refine LeO.ite ?_ ?_ | refine LeO.bind ?_ fun _ => ?_
theorem spec_DrawLowerWord.calls (k : Nat) (A0 : Option Addr) (c0 : Nat) (l0 : List Int) (r1 : List Int) (r2 : Int) (w : World) (hr0 : Kd.C (Kd.int .u8) w A0 l0.length l0) (hc0 : l0.length ≤ c0) (h : spec_DrawLowerWord.f k l0 = some (r1, r2)) :
  Calls Try.prog 5 #[.slice A0 l0.length c0] w fun e w' => ∃ v0_ : Value, e = .returned (.tuple #[v0_, .int .i64 r2]) ∧ Kd.R (Kd.int .i64) 3 w' w.heap.size (fun _ => True) v0_ r1 ∧ Below w.heap.size w w' := by
 have HR0 := ax hr0
 have HC0 := ax hc0
 clear hr0 hc0
 have HB := ax (Below.refl w.heap.size w)
 have H : ((spec_l26Case.f k l0).bind fun bt204 => (some (bt204.1, bt204.2))) = some (r1, r2) := h
 clear h
 obtain ⟨⟨t204, t205⟩, A2, H⟩ := xI H
 dsimp only at H
 simp only [Option.some.injEq, Prod.mk.injEq] at H
 obtain ⟨rfl, rfl⟩ := H
 go_enter Try.func5, Try.ntmps5
 go_wp2_with (first | ((with_reducible refine gate_callee (f := 21) rfl ?_); refine goesL_ (some 8) rfl rfl Try.func21 (by kernel_rfl) rfl #[.slice A0 l0.length c0] rfl xm ?_; (with_reducible refine (spec_l26Case.calls k _ _ l0 t204 t205 _ ?side1 ?side2 A2.out).mono ?_); (case side1 => exact xc HR0.out); (case side2 => exact HC0.out); rintro e w3 ⟨v206, rfl, ho0, hb⟩; refine ⟨_, rfl, ?_⟩; have HO207 := ax (Kd.R_lower ho0 (below_size (xb HB.out))); replace HB := yB HB hb; (try clear hb); (try clear ho0)))
 go_ret2
 exact ⟨_, xe, xR HO207.out, xb HB.out⟩

-- NOT PRINTED: function 46 (slices_IndexFunc_int_int)

-- NOT PRINTED: function 39 (slices_ContainsFunc_int_int)

/-! ### impl_within: function 35 -/
def impl_within.f (a0 : Int) (a1 : Int) (a2 : Int) : Option (Bool) := if a1 ≤ a0 then (some (decide (a0 ≤ a2))) else (some false)
theorem impl_within.calls (a0 : Int) (a1 : Int) (a2 : Int) (r : Bool) (w : World) (h : impl_within.f a0 a1 a2 = some r) :
  Calls Try.prog 35 #[.int .i64 a0, .int .i64 a1, .int .i64 a2] w fun e w' => e = .returned (.bool r) ∧ Drawn0 w w' := by
 have H : (if a1 ≤ a0 then (some (decide (a0 ≤ a2))) else (some false)) = some r := h
 clear h
 by_cases c4 : a1 ≤ a0
 ·rw [if_pos c4] at H
  have c4b0 := decide_eq_true c4
  clear c4
  obtain rfl := Option.some.inj H
  go_enter Try.func35, Try.ntmps35
  go_wp2
  go_ret
  exact ⟨by first | rfl | (simp; done) | (simp [*]; done), by repeat (first | exact Drawn0.refl _ | apply Drawn0.step)⟩
 ·rw [if_neg c4] at H
  have c4b0 := decide_eq_false c4
  clear c4
  obtain rfl := Option.some.inj H
  go_enter Try.func35, Try.ntmps35
  go_wp2
  go_ret
  exact ⟨by first | rfl | (simp; done) | (simp [*]; done), by repeat (first | exact Drawn0.refl _ | apply Drawn0.step)⟩

/-! ### impl_IsWord_1: function 40 -/
def impl_IsWord_1.f (a0 : Int) : Option (Bool) := (impl_within.f a0 1 9).bind fun t208 => (some (!t208))
theorem impl_IsWord_1.calls (a0 : Int) (r : Bool) (w : World) (h : impl_IsWord_1.f a0 = some r) :
  Calls Try.prog 40 #[.int .i64 a0] w fun e w' => e = .returned (.bool r) ∧ Drawn0 w w' := by
 have H : ((impl_within.f a0 1 9).bind fun t208 => (some (!t208))) = some r := h
 clear h
 obtain ⟨t208, A2, H⟩ := xI H
 obtain rfl := Option.some.inj H
 go_enter Try.func40, Try.ntmps40
 go_wp2_with (first | ((with_reducible refine gate_callee (f := 35) rfl ?_); refine goesL_ (some 4) rfl rfl Try.func35 (by kernel_rfl) rfl #[.int .i64 a0, .int .i64 1, .int .i64 9] rfl xm ?_; (with_reducible refine (impl_within.calls a0 1 9 t208 _ A2.out).mono ?_); rintro e w' ⟨rfl, ⟨nd, rfl⟩⟩; refine ⟨_, rfl, ?_⟩))
 go_ret
 exact ⟨by first | rfl | (simp; done) | (simp [*]; done), by repeat (first | exact Drawn0.refl _ | apply Drawn0.step)⟩

/-! ### slices_IndexFunc_int_int__impl_IsWord_1: function 66 -/
def slices_IndexFunc_int_int__impl_IsWord_1.l0 : Nat → List Int → Int → Int → Option (Int)
 | 0, _, _, _ => none
 | k + 1, x0, x7, x8 => if x8 < x7 then (if 0 ≤ x8 then (if x8 < (x0.length : Int) then ((impl_IsWord_1.f (rd x0 x8)).bind fun t210 => (if t210 = true then (some x8) else (slices_IndexFunc_int_int__impl_IsWord_1.l0 k x0 x7 (wrap64 (x8 + 1))))) else (none)) else (none)) else (some (-1))
def slices_IndexFunc_int_int__impl_IsWord_1.f (k : Nat) (l0 : List Int)  : Option (Int) := slices_IndexFunc_int_int__impl_IsWord_1.l0 k l0 (l0.length : Int) 0
theorem slices_IndexFunc_int_int__impl_IsWord_1.mono_l : ∀ k, (∀ y0 y1 y2, LeO (slices_IndexFunc_int_int__impl_IsWord_1.l0 k y0 y1 y2) (slices_IndexFunc_int_int__impl_IsWord_1.l0 (k + 1) y0 y1 y2))
 | 0 => fun _ _ _ r h => by simp [slices_IndexFunc_int_int__impl_IsWord_1.l0] at h
 | k + 1 => by
  have ih0 := slices_IndexFunc_int_int__impl_IsWord_1.mono_l k
  ·intro y0 y1 y2
   unfold slices_IndexFunc_int_int__impl_IsWord_1.l0
   repeat' with_reducible first | exact ih0 _ _ _ | exact xl | refine LeO.ite ?_ ?_ | refine LeO.bind ?_ fun _ => ?_
theorem slices_IndexFunc_int_int__impl_IsWord_1.mono : ∀ a0 k, LeO (slices_IndexFunc_int_int__impl_IsWord_1.f k a0) (slices_IndexFunc_int_int__impl_IsWord_1.f (k + 1) a0) := by
 intro a0 k
 have ih0 := slices_IndexFunc_int_int__impl_IsWord_1.mono_l k
 unfold slices_IndexFunc_int_int__impl_IsWord_1.f
 repeat' with_reducible first | exact ih0 _ _ _ | exact xl | refine LeO.ite ?_ ?_ | refine LeO.bind ?_ fun _ => ?_
theorem slices_IndexFunc_int_int__impl_IsWord_1.calls (k : Nat) (A0 : Option Addr) (c0 : Nat) (l0 : List Int)  (r : Int) (w : World) (hr0 : Kd.C (Kd.int .i64) w A0 l0.length l0) (hc0 : l0.length ≤ c0) (h : slices_IndexFunc_int_int__impl_IsWord_1.f k l0 = some r) :
  Calls Try.prog 46 #[.slice A0 l0.length c0, .func (.func 40) #[] #[]] w fun e w' => e = .returned (.int .i64 r) ∧ Drawn0 w w' := by
 have HR0 := ax hr0
 have HC0 := ax hc0
 clear hr0 hc0
 have H : (slices_IndexFunc_int_int__impl_IsWord_1.l0 k l0 (l0.length : Int) 0) = some r := h
 clear h
 have H' := ax H
 clear H
 go_enter Try.func46, Try.ntmps46
 go_wp2
 go_loopg [8] k (fun kq v8 w' => ∃ (x8_1 : Int), v8 = .int .i64 x8_1 ∧ Aside0 (slices_IndexFunc_int_int__impl_IsWord_1.l0 kq l0 (l0.length : Int) x8_1 = some r) ∧ Aside0 (kq ≤ k) ∧ Drawn0 w w')
 case atStart => exact ⟨(0), xr, H', ⟨Nat.le_refl _⟩, by repeat (first | exact Drawn0.refl _ | apply Drawn0.step)⟩
 case round =>
  clear H'
  obtain ⟨x8_1, rfl, HA, HK1, ⟨m1, rfl⟩⟩ := hrel
  cases gk with
  | zero => exact absurd HA.out (by simp [slices_IndexFunc_int_int__impl_IsWord_1.l0])
  | succ k1 =>
   have H := HA.out
   clear HA
   simp only [slices_IndexFunc_int_int__impl_IsWord_1.l0] at H
   by_cases c3 : x8_1 < (l0.length : Int)
   ·rw [if_pos c3] at H
    have c3b0 := decide_eq_true c3
    clear c3
    obtain ⟨c4b0, H⟩ := xq H
    obtain ⟨c5b0, H⟩ := xq H
    obtain ⟨t210, A6, H⟩ := xI H
    by_cases c7 : t210 = true
    ·subst c7
     rw [if_pos rfl] at H
     obtain rfl := Option.some.inj H
     have p209 : 0 ≤ (x8_1 : Int) := xd
     have q209 : x8_1 < (l0.length : Int) := xd
     obtain ⟨ad209, e209, hx209_0⟩ := Kd.at_int HR0.out x8_1 p209 q209
     cases e209
     replace p209 := eq_true p209
     replace q209 := eq_true q209
     go_wp2_with (first | (go_at_call 40; (with_reducible refine (impl_IsWord_1.calls (rd l0 x8_1) true _ A6.out).mono ?_); rintro e w' ⟨rfl, ⟨nd, rfl⟩⟩))
     go_ret
     exact ⟨by first | rfl | (simp; done) | (simp [*]; done), by repeat (first | exact Drawn0.refl _ | apply Drawn0.step)⟩
    ·replace c7 := Bool.eq_false_iff.mpr c7
     subst c7
     rw [if_neg (show ¬ (false = true) by decide)] at H
     have H' := ax H
     clear H
     have p209 : 0 ≤ (x8_1 : Int) := xd
     have q209 : x8_1 < (l0.length : Int) := xd
     obtain ⟨ad209, e209, hx209_0⟩ := Kd.at_int HR0.out x8_1 p209 q209
     cases e209
     replace p209 := eq_true p209
     replace q209 := eq_true q209
     go_wp2_with (first | (go_at_call 40; (with_reducible refine (impl_IsWord_1.calls (rd l0 x8_1) false _ A6.out).mono ?_); rintro e w' ⟨rfl, ⟨nd, rfl⟩⟩))
     go_roundg k1
     case measure => have := HK1.out; omega
     case rel => exact ⟨(wrap64 (x8_1 + 1)), xr, H', ⟨by have := HK1.out; omega⟩, by repeat (first | exact Drawn0.refl _ | apply Drawn0.step)⟩
   ·rw [if_neg c3] at H
    have c3b0 := decide_eq_false c3
    clear c3
    obtain rfl := Option.some.inj H
    go_wp2
    go_ret
    exact ⟨by first | rfl | (simp; done) | (simp [*]; done), by repeat (first | exact Drawn0.refl _ | apply Drawn0.step)⟩

/-! ### slices_ContainsFunc_int_int__impl_IsWord_1: function 65 -/
def slices_ContainsFunc_int_int__impl_IsWord_1.f (k : Nat) (l0 : List Int)  : Option (Bool) := (slices_IndexFunc_int_int__impl_IsWord_1.f k l0).bind fun t211 => (some (decide (t211 ≥ 0)))
theorem slices_ContainsFunc_int_int__impl_IsWord_1.mono : ∀ a0 k, LeO (slices_ContainsFunc_int_int__impl_IsWord_1.f k a0) (slices_ContainsFunc_int_int__impl_IsWord_1.f (k + 1) a0) := by
 intro a0 k
 unfold slices_ContainsFunc_int_int__impl_IsWord_1.f
 repeat' with_reducible first | exact slices_IndexFunc_int_int__impl_IsWord_1.mono _ _ | exact xl | refine LeO.ite ?_ ?_ | refine LeO.bind ?_ fun _ => ?_
theorem slices_ContainsFunc_int_int__impl_IsWord_1.calls (k : Nat) (A0 : Option Addr) (c0 : Nat) (l0 : List Int)  (r : Bool) (w : World) (hr0 : Kd.C (Kd.int .i64) w A0 l0.length l0) (hc0 : l0.length ≤ c0) (h : slices_ContainsFunc_int_int__impl_IsWord_1.f k l0 = some r) :
  Calls Try.prog 39 #[.slice A0 l0.length c0, .func (.func 40) #[] #[]] w fun e w' => e = .returned (.bool r) ∧ Drawn0 w w' := by
 have HR0 := ax hr0
 have HC0 := ax hc0
 clear hr0 hc0
 have H : ((slices_IndexFunc_int_int__impl_IsWord_1.f k l0).bind fun t211 => (some (decide (t211 ≥ 0)))) = some r := h
 clear h
 obtain ⟨t211, A3, H⟩ := xI H
 obtain rfl := Option.some.inj H
 go_enter Try.func39, Try.ntmps39
 go_wp2_with (first | ((with_reducible refine gate_callee (f := 46) rfl ?_); refine goesL_ (some 7) rfl rfl Try.func46 (by kernel_rfl) rfl #[.slice A0 l0.length c0, .func (.func 40) #[] #[]] rfl xm ?_; (with_reducible refine (slices_IndexFunc_int_int__impl_IsWord_1.calls k _ _ l0  t211 _ ?side1 ?side2 A3.out).mono ?_); (case side1 => exact xc HR0.out); (case side2 => exact HC0.out); rintro e w' ⟨rfl, ⟨nd, rfl⟩⟩; refine ⟨_, rfl, ?_⟩))
 go_ret
 exact ⟨by first | rfl | (simp; done) | (simp [*]; done), by repeat (first | exact Drawn0.refl _ | apply Drawn0.step)⟩

/-! ### impl_IsWord: function 30 -/
def impl_IsWord.f (k : Nat) (l0 : List Int) : Option (Bool) := if (l0.length : Int) ≤ 9 then ((slices_ContainsFunc_int_int__impl_IsWord_1.f k l0).bind fun t212 => (some (!t212))) else (some false)
theorem impl_IsWord.mono : ∀ a0 k, LeO (impl_IsWord.f k a0) (impl_IsWord.f (k + 1) a0) := by
 intro a0 k
 unfold impl_IsWord.f
 repeat' with_reducible first | exact slices_ContainsFunc_int_int__impl_IsWord_1.mono _ _ | exact xl | refine LeO.ite ?_ ?_ | refine LeO.bind ?_ fun _ => ?_
theorem impl_IsWord.calls (k : Nat) (A0 : Option Addr) (c0 : Nat) (l0 : List Int) (r : Bool) (w : World) (hr0 : Kd.C (Kd.int .i64) w A0 l0.length l0) (hc0 : l0.length ≤ c0) (h : impl_IsWord.f k l0 = some r) :
  Calls Try.prog 30 #[.slice A0 l0.length c0] w fun e w' => e = .returned (.bool r) ∧ Drawn0 w w' := by
 have HR0 := ax hr0
 have HC0 := ax hc0
 clear hr0 hc0
 have H : (if (l0.length : Int) ≤ 9 then ((slices_ContainsFunc_int_int__impl_IsWord_1.f k l0).bind fun t212 => (some (!t212))) else (some false)) = some r := h
 clear h
 by_cases c2 : (l0.length : Int) ≤ 9
 ·rw [if_pos c2] at H
  have c2b0 := decide_eq_true c2
  have c2b1 : decide (l0.length ≤ 9) = true := decide_eq_true (by omega)
  clear c2
  obtain ⟨t212, A3, H⟩ := xI H
  obtain rfl := Option.some.inj H
  go_enter Try.func30, Try.ntmps30
  go_wp2_with (first | (go_at_call 39; (with_reducible refine (slices_ContainsFunc_int_int__impl_IsWord_1.calls k _ _ l0  t212 _ ?side1 ?side2 A3.out).mono ?_); (case side1 => exact xc HR0.out); (case side2 => exact HC0.out); rintro e w' ⟨rfl, ⟨nd, rfl⟩⟩))
  go_ret
  exact ⟨by first | rfl | (simp; done) | (simp [*]; done), by repeat (first | exact Drawn0.refl _ | apply Drawn0.step)⟩
 ·rw [if_neg c2] at H
  have c2b0 := decide_eq_false c2
  have c2b1 : decide (l0.length ≤ 9) = false := decide_eq_false (by omega)
  clear c2
  obtain rfl := Option.some.inj H
  go_enter Try.func30, Try.ntmps30
  go_wp2
  go_ret
  exact ⟨by first | rfl | (simp; done) | (simp [*]; done), by repeat (first | exact Drawn0.refl _ | apply Drawn0.step)⟩

end Go.Proofs.Ytnfcdaojglicfaa.PFnOperators
