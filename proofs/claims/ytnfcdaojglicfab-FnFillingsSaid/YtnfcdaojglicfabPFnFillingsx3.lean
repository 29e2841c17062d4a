import Derived.Test.YtnfcdaojglicfabPFnFillingsx2
namespace Go.Proofs.Ytnfcdaojglicfab.PFnFillings
open Go.RowKit Go.Proofs.YtnfcdaojglicfabW.PrintWords Go.Proofs.YtnfcdaojglicfabW.PrintLast Go.Proofs.YtnfcdaojglicfabW.PrintMore
set_option linter.unusedVariables false
set_option linter.unusedSimpArgs false
set_option maxHeartbeats 8000000
set_option maxRecDepth 100000
/-! ### spec_l2Bent: function 47 -/
def spec_l2Bent.f (k : Nat) (s0_0 : List Int) (s0_1 : Int) (s0_2 : Int) (a1 : Int) : Option (List Int × Int × Int) := (spec_l2Draw.f k s0_0 s0_1 s0_2 a1).bind fun bt192 => ((spec_l1Below.f s0_0 bt192.2.1 bt192.2.2 14).bind fun bt197 => (if bt197.1 = 0 then ((spec_l1PickInt.f s0_0 bt197.2.1 bt197.2.2 (([0, 5, (-1), 1, 9223372036854775807] : List Int))).bind fun bt203 => (if bt192.1.length < 17592186044416 then (some ((bt192.1 ++ [bt203.1]), bt203.2.1, bt203.2.2)) else (none))) else (if bt197.1 = 1 then ((some (([1, 1, 1, 1, 1, 1] : List Int) : List Int)).bind fun y209 => (if bt192.1.length + y209.length < 17592186044416 then (some ((bt192.1 ++ y209), bt197.2.1, bt197.2.2)) else (none))) else (some (bt192.1, bt197.2.1, bt197.2.2)))))
theorem spec_l2Bent.mono : ∀ a0 a1 a2 a3 k, LeO (spec_l2Bent.f k a0 a1 a2 a3) (spec_l2Bent.f (k + 1) a0 a1 a2 a3) := by
 intro a0 a1 a2 a3 k
 unfold spec_l2Bent.f
 repeat' with_reducible first | exact spec_l2Draw.mono _ _ _ _ _ | exact xl | refine LeO.ite ?_ ?_ | refine LeO.bind ?_ fun _ => ?_
theorem spec_l2Bent.calls (k : Nat) (g : Nat) (s0_0 : List Int) (s0_1 : Int) (s0_2 : Int) (a1 : Int) (r1 : List Int) (r2 : Int) (r3 : Int) (w0 w : World) (hI : IsS59 w0 w g s0_0 s0_1 s0_2) (hB : Below w0.heap.size w0 w) (h : spec_l2Bent.f k s0_0 s0_1 s0_2 a1 = some (r1, r2, r3)) :
  Calls Try.prog 47 #[.pointer (some ⟨g, 0, none⟩), .int .i64 a1] w fun e w' => ∃ v0_ : Value, e = .returned (v0_) ∧ Kd.R (Kd.int .i64) 3 w' w.heap.size (fun _ => True) v0_ r1 ∧ IsS59 w0 w' g s0_0 r2 r3 ∧ Below w0.heap.size w0 w' ∧ KeepBut w w' g none := by
 have HI0 := ax hI
 have HK := ax (KeepBut.refl w g none)
 have HL := ax hB.size
 clear hI
 have HW0 := ax hB.size
 have HB := ax hB
 clear hB
 have H : ((spec_l2Draw.f k s0_0 s0_1 s0_2 a1).bind fun bt192 => ((spec_l1Below.f s0_0 bt192.2.1 bt192.2.2 14).bind fun bt197 => (if bt197.1 = 0 then ((spec_l1PickInt.f s0_0 bt197.2.1 bt197.2.2 (([0, 5, (-1), 1, 9223372036854775807] : List Int))).bind fun bt203 => (if bt192.1.length < 17592186044416 then (some ((bt192.1 ++ [bt203.1]), bt203.2.1, bt203.2.2)) else (none))) else (if bt197.1 = 1 then ((some (([1, 1, 1, 1, 1, 1] : List Int) : List Int)).bind fun y209 => (if bt192.1.length + y209.length < 17592186044416 then (some ((bt192.1 ++ y209), bt197.2.1, bt197.2.2)) else (none))) else (some (bt192.1, bt197.2.1, bt197.2.2)))))) = some (r1, r2, r3) := h
 clear h
 obtain ⟨⟨t192, t195, t196⟩, A3, H⟩ := xI H
 dsimp only at H
 obtain ⟨⟨t197, t198, t199⟩, A4, H⟩ := xI H
 dsimp only at H
 by_cases c5 : t197 = 0
 ·rw [if_pos c5] at H
  have c5b0 : (t197 == 0) = true := beq_iff_eq.mpr c5
  have c5b1 : (t197 != 0) = false := bne_eq_false_iff_eq.mpr c5
  clear c5
  obtain ⟨y200, hy200⟩ : ∃ y_ : List Int, y_ = (([0, 5, (-1), 1, 9223372036854775807] : List Int)) := ⟨_, rfl⟩
  replace H : ((spec_l1PickInt.f s0_0 t198 t199 y200).bind fun bt203 => (if t192.length < 17592186044416 then (some ((t192 ++ [bt203.1]), bt203.2.1, bt203.2.2)) else (none))) = some (r1, r2, r3) := xv hy200 H
  have Ny200 := ax hy200
  clear hy200
  obtain ⟨⟨t203, t204, t205⟩, A6, H⟩ := xI H
  dsimp only at H
  obtain ⟨c7, H⟩ := xp H
  have LMc7 := ax c7
  clear c7
  obtain ⟨y206, hy206⟩ : ∃ y_ : List Int, y_ = (t192 ++ [t203]) := ⟨_, rfl⟩
  replace H : (some (y206, t204, t205)) = some (r1, r2, r3) := xv hy206 H
  have Ny206 := ax hy206
  clear hy206
  simp only [Option.some.injEq, Prod.mk.injEq] at H
  obtain ⟨rfl, rfl, rfl⟩ := H
  go_enter Try.func47, Try.ntmps47
  go_wp2_with (first | ((with_reducible refine gate_callee (f := 44) rfl ?_); refine goesL_ (some 8) rfl rfl Try.func44 (by kernel_rfl) rfl #[.pointer (some ⟨g, 0, none⟩), .int .i64 a1] rfl xm ?_; (with_reducible refine (spec_l2Draw.calls k g s0_0 s0_1 s0_2 a1 t192 t195 t196 w0 _ ?side1 ?side2 A3.out).mono ?_); (case side1 => exact xt59 HI0.out); (case side2 => exact xs HB.out (IsS59.ge HI0.out)); rintro e w8 ⟨v193, rfl, ho0, hi, hb, hk⟩; refine ⟨_, rfl, ?_⟩; have HO194 := ax (Kd.R_lower ho0 (keep_size (w := w) (g := g) (row := none) (xh HK.out))); replace HK := ax (KeepBut.trans (xh HK.out) hk (.inl rfl)); replace HB := ax (hb); replace HI0 := ax (hi); (try clear hb); (try clear hk); (try clear hi); (try clear ho0)) | ((with_reducible refine gate_callee (f := 46) rfl ?_); refine goesL_ (some 10) rfl rfl Try.func46 (by kernel_rfl) rfl #[.pointer (some ⟨g, 0, none⟩), .int .i64 14] rfl xm ?_; (with_reducible refine (spec_l1Below.calls g s0_0 t195 t196 14 t197 t198 t199 w0 _ ?side1 ?side2 A4.out).mono ?_); (case side1 => exact xt59 HI0.out); (case side2 => exact xs HB.out (IsS59.ge HI0.out)); rintro e w9 ⟨rfl, hi, hb, hk⟩; refine ⟨_, rfl, ?_⟩; replace HO194 := ax (Kd.R_mono (Kd.R_keep (IsS59.apart (show IsS59 w0 _ g s0_0 t195 t196 from xt59 HI0.out) (xR HO194.out) (by decide)) hk (fun _ h => h.2)) (fun _ h => h.1)); replace HK := ax (KeepBut.trans (xh HK.out) hk (.inl rfl)); replace HB := ax (hb); replace HI0 := ax (hi); (try clear hb); (try clear hk); (try clear hi)) | ((with_reducible refine gate_dst (N := 15) rfl ?_); refine Kd.R_lit (Kd.int .i64) _ 3 ?hg (N := 15) ?hd (xs := ([0, 5, (-1), 1, 9223372036854775807] : List Int)) (inner := [.int .i64 0, .int .i64 5, .int .i64 (-1), .int .i64 1, .int .i64 9223372036854775807]) (ok := fun _ => True) (okp := fun _ => True) ?hr ?hp (fun _ hk => hk) trivial (Below.refl _ _) (Nat.le_refl _) (by simp) ?_; (case hd => rfl); (case hg => rfl); (case hr => first | (go_simp; done) | (go_simp; rfl)); (case hp => exact (Reps.one (show Kd.M (Kd.int .i64) _ _ _ 0 [.int .i64 0] from rfl) (Reps.one (show Kd.M (Kd.int .i64) _ _ _ 5 [.int .i64 5] from rfl) (Reps.one (show Kd.M (Kd.int .i64) _ _ _ (-1) [.int .i64 (-1)] from rfl) (Reps.one (show Kd.M (Kd.int .i64) _ _ _ 1 [.int .i64 1] from rfl) (Reps.one (show Kd.M (Kd.int .i64) _ _ _ 9223372036854775807 [.int .i64 9223372036854775807] from rfl) (Reps.none _ _))))))); intro v201 w10 ho11 hb hg_ hnew_; clear hg_ hnew_; (first | rw [← Ny200.out] at ho11 | (simp only [Int.reduceToNat] at ho11; rw [← Ny200.out] at ho11)); have HO202 := ax (Kd.R_lower (Kd.R_new' ho11 (Kd.R_lt (xR HO194.out))) (keep_size (w := w) (g := g) (row := none) (xh HK.out))); replace HO194 := ax (Kd.R_elder' (xR HO194.out) (Kd.R_base ho11) hb); replace HK := ax (KeepBut.trans (xh HK.out) (KeepBut.of_below hb g none) (.inl rfl)); replace HB := ax (below_step (xs HB.out (IsS59.ge HI0.out)) hb); replace HI0 := ax (IsS59.below (xt59 HI0.out) hb); clear hb ho11; obtain ⟨Ao12, co12, eo12⟩ := Kd.R_slice HO202.out; subst eo12) | ((with_reducible refine gate_callee (f := 48) rfl ?_); refine goesL_ (some 16) rfl rfl Try.func48 (by kernel_rfl) rfl #[.pointer (some ⟨g, 0, none⟩), .slice Ao12 y200.length co12] rfl xm ?_; (with_reducible refine (spec_l1PickInt.calls g s0_0 t198 t199 _ _ y200 t203 t204 t205 w0 _ ?side1 ?side2 ?side3 ?side4 ?side5 A6.out).mono ?_); (case side1 => exact xt59 HI0.out); (case side2 => exact xs HB.out (IsS59.ge HI0.out)); (case side3 => exact xc (Kd.R_reads' HO202.out).2.2); (case side4 => exact (Kd.R_reads' HO202.out).2.1); (case side5 => exact far_slice (IsS59.own_ne HI0.out HO202.out (by decide))); rintro e w13 ⟨rfl, hi, hb, hk⟩; refine ⟨_, rfl, ?_⟩; replace HO194 := ax (Kd.R_mono (Kd.R_keep (IsS59.apart (show IsS59 w0 _ g s0_0 t198 t199 from xt59 HI0.out) (xR HO194.out) (by decide)) hk (fun _ h => h.2)) (fun _ h => h.1)); replace HO202 := ax (Kd.R_mono (Kd.R_keep (IsS59.apart (show IsS59 w0 _ g s0_0 t198 t199 from xt59 HI0.out) (xR HO202.out) (by decide)) hk (fun _ h => h.2)) (fun _ h => h.1)); replace HK := ax (KeepBut.trans (xh HK.out) hk (.inl rfl)); replace HB := ax (hb); replace HI0 := ax (hi); (try clear hb); (try clear hk); (try clear hi)) | ((with_reducible refine gate_builtin (b := .append) (xs := #[.tmp 13, .tmp 17]) rfl ?_); at_builtin; refine Kd.R_append (Kd.int .i64) w.heap.size rfl (.tmp 13) (.tmp 17) 24 3 (.int .i64 0) 8 rfl Try.underlying24 info3 rfl (by decide) (by omega) v193 t192 t203 [.int .i64 t203] (fun k_ => some k_ ≠ (.slice Ao12 y200.length co12 : Value).ownBlock) (fun _ => False) rfl rfl ?aP (fun _ hk => hk.elim) ?aF ?aO (Below.refl _ _) ?aS ?aL ?_; (case aP => exact rfl); (case aF => exact (fun k_ hk => Kd.fresh' (Kd.R_lt (xR HO202.out)) k_ hk)); (case aO => exact (by (with_reducible repeat (first | apply Kd.R_alloc | apply Kd.R_drewN | apply Kd.R_drew)); exact Kd.R_mono HO194.out (fun _ hk => hk.2))); (case aS => exact (keep_size (w := w) (g := g) (row := none) (xh HK.out))); (case aL => have := LMc7.out; omega); intro v207 w14 ho hb hg hat; rw [← Ny206.out] at ho; have n0_ := ax (IsS59.grown (xt59 HI0.out) hg (IsS59.own_ne HI0.out HO194.out (by decide))); have n1_ := ax (Kd.R_after (ok := (fun _ => True)) (xR HO202.out) hg hat); have n2_ := ax (below_weaken (xs HB.out (IsS59.ge HI0.out)) HL.out hb); have n3_ := ax (KeepBut.trans (xh HK.out) (KeepBut.of_grown hg g) (Kd.R_base2 HO194.out)); have n4_ := ax (ho); clear HI0; clear HO202; clear HB; clear HK; clear HO194; have HI0 := n0_; have HO202 := n1_; have HB := n2_; have HK := n3_; have HO208 := n4_; clear n0_ n1_ n2_ n3_ n4_; clear ho hb hg hat))
  go_ret
  exact ⟨_, xe, by (with_reducible repeat (first | apply Kd.R_alloc | apply Kd.R_drewN | apply Kd.R_drew)); exact Kd.R_mono HO208.out (fun _ hk => trivial), xt59 HI0.out, xs HB.out (IsS59.ge HI0.out), xh HK.out⟩
 ·rw [if_neg c5] at H
  have c5b0 : (t197 == 0) = false := beq_eq_false_iff_ne.mpr c5
  have c5b1 : (t197 != 0) = true := bne_iff_ne.mpr c5
  by_cases c15 : t197 = 1
  ·rw [if_pos c15] at H
   have c15b0 : (t197 == 1) = true := beq_iff_eq.mpr c15
   have c15b1 : (t197 != 1) = false := bne_eq_false_iff_eq.mpr c15
   clear c15
   obtain ⟨y209, Ny209, H⟩ := xg H
   obtain ⟨c16, H⟩ := xp H
   have LMc16 := ax c16
   clear c16
   obtain ⟨y212, hy212⟩ : ∃ y_ : List Int, y_ = (t192 ++ y209) := ⟨_, rfl⟩
   replace H : (some (y212, t198, t199)) = some (r1, r2, r3) := xv hy212 H
   have Ny212 := ax hy212
   clear hy212
   simp only [Option.some.injEq, Prod.mk.injEq] at H
   obtain ⟨rfl, rfl, rfl⟩ := H
   go_enter Try.func47, Try.ntmps47
   go_wp2_with (first | ((with_reducible refine gate_callee (f := 44) rfl ?_); refine goesL_ (some 8) rfl rfl Try.func44 (by kernel_rfl) rfl #[.pointer (some ⟨g, 0, none⟩), .int .i64 a1] rfl xm ?_; (with_reducible refine (spec_l2Draw.calls k g s0_0 s0_1 s0_2 a1 t192 t195 t196 w0 _ ?side1 ?side2 A3.out).mono ?_); (case side1 => exact xt59 HI0.out); (case side2 => exact xs HB.out (IsS59.ge HI0.out)); rintro e w17 ⟨v193, rfl, ho0, hi, hb, hk⟩; refine ⟨_, rfl, ?_⟩; have HO194 := ax (Kd.R_lower ho0 (keep_size (w := w) (g := g) (row := none) (xh HK.out))); replace HK := ax (KeepBut.trans (xh HK.out) hk (.inl rfl)); replace HB := ax (hb); replace HI0 := ax (hi); (try clear hb); (try clear hk); (try clear hi); (try clear ho0)) | ((with_reducible refine gate_callee (f := 46) rfl ?_); refine goesL_ (some 10) rfl rfl Try.func46 (by kernel_rfl) rfl #[.pointer (some ⟨g, 0, none⟩), .int .i64 14] rfl xm ?_; (with_reducible refine (spec_l1Below.calls g s0_0 t195 t196 14 t197 t198 t199 w0 _ ?side1 ?side2 A4.out).mono ?_); (case side1 => exact xt59 HI0.out); (case side2 => exact xs HB.out (IsS59.ge HI0.out)); rintro e w18 ⟨rfl, hi, hb, hk⟩; refine ⟨_, rfl, ?_⟩; replace HO194 := ax (Kd.R_mono (Kd.R_keep (IsS59.apart (show IsS59 w0 _ g s0_0 t195 t196 from xt59 HI0.out) (xR HO194.out) (by decide)) hk (fun _ h => h.2)) (fun _ h => h.1)); replace HK := ax (KeepBut.trans (xh HK.out) hk (.inl rfl)); replace HB := ax (hb); replace HI0 := ax (hi); (try clear hb); (try clear hk); (try clear hi)) | ((with_reducible refine gate_dst (N := 22) rfl ?_); refine Kd.R_lit (Kd.int .i64) _ 3 ?hg (N := 22) ?hd (xs := ([1, 1, 1, 1, 1, 1] : List Int)) (inner := [.int .i64 1, .int .i64 1, .int .i64 1, .int .i64 1, .int .i64 1, .int .i64 1]) (ok := fun _ => True) (okp := fun _ => True) ?hr ?hp (fun _ hk => hk) trivial (Below.refl _ _) (Nat.le_refl _) (by simp) ?_; (case hd => rfl); (case hg => rfl); (case hr => first | (go_simp; done) | (go_simp; rfl)); (case hp => exact (Reps.one (show Kd.M (Kd.int .i64) _ _ _ 1 [.int .i64 1] from rfl) (Reps.one (show Kd.M (Kd.int .i64) _ _ _ 1 [.int .i64 1] from rfl) (Reps.one (show Kd.M (Kd.int .i64) _ _ _ 1 [.int .i64 1] from rfl) (Reps.one (show Kd.M (Kd.int .i64) _ _ _ 1 [.int .i64 1] from rfl) (Reps.one (show Kd.M (Kd.int .i64) _ _ _ 1 [.int .i64 1] from rfl) (Reps.one (show Kd.M (Kd.int .i64) _ _ _ 1 [.int .i64 1] from rfl) (Reps.none _ _)))))))); intro v210 w19 ho20 hb hg_ hnew_; clear hg_ hnew_; (first | rw [← Ny209.out] at ho20 | (simp only [Int.reduceToNat] at ho20; rw [← Ny209.out] at ho20)); have HO211 := ax (Kd.R_lower (Kd.R_new' ho20 (Kd.R_lt (xR HO194.out))) (keep_size (w := w) (g := g) (row := none) (xh HK.out))); replace HO194 := ax (Kd.R_elder' (xR HO194.out) (Kd.R_base ho20) hb); replace HK := ax (KeepBut.trans (xh HK.out) (KeepBut.of_below hb g none) (.inl rfl)); replace HB := ax (below_step (xs HB.out (IsS59.ge HI0.out)) hb); replace HI0 := ax (IsS59.below (xt59 HI0.out) hb); clear hb ho20; obtain ⟨Ao22, co22, eo22⟩ := Kd.R_slice HO211.out; subst eo22) | ((with_reducible refine gate_builtin (b := .append) (xs := #[.tmp 21, .tmp 22]) rfl ?_); at_builtin; refine Kd.R_append_rows (Kd.int .i64) w.heap.size rfl (.tmp 21) (.tmp 22) 24 3 (.int .i64 0) 8 rfl Try.underlying24 info3 rfl (by decide) (by omega) v193 t192 y209 _ _ _ (fun k_ => some k_ ≠ (.slice Ao22 y209.length co22 : Value).ownBlock) (fun _ => False) rfl rfl ?aO ?aR (fun _ _ h => h) (fun _ h => h.elim) ?aF (Below.refl _ _) ?aS ?aL ?_; (case aR => exact xc (Kd.R_reads' HO211.out).2.2); (case aF => exact (fun k_ hk => Kd.fresh' (Kd.R_lt (xR HO211.out)) k_ hk)); (case aO => exact (by (with_reducible repeat (first | apply Kd.R_alloc | apply Kd.R_drewN | apply Kd.R_drew)); exact Kd.R_mono HO194.out (fun _ hk => hk.2))); (case aS => exact (keep_size (w := w) (g := g) (row := none) (xh HK.out))); (case aL => have := LMc16.out; omega); intro v213 w21 ho hb hg hat; rw [← Ny212.out] at ho; have n0_ := ax (IsS59.grown (xt59 HI0.out) hg (IsS59.own_ne HI0.out HO194.out (by decide))); have n1_ := ax (Kd.R_after (ok := (fun _ => True)) (xR HO211.out) hg hat); have n2_ := ax (below_weaken (xs HB.out (IsS59.ge HI0.out)) HL.out hb); have n3_ := ax (KeepBut.trans (xh HK.out) (KeepBut.of_grown hg g) (Kd.R_base2 HO194.out)); have n4_ := ax (ho); clear HI0; clear HO211; clear HB; clear HK; clear HO194; have HI0 := n0_; have HO211 := n1_; have HB := n2_; have HK := n3_; have HO214 := n4_; clear n0_ n1_ n2_ n3_ n4_; clear ho hb hg hat))
   go_ret
   exact ⟨_, xe, by (with_reducible repeat (first | apply Kd.R_alloc | apply Kd.R_drewN | apply Kd.R_drew)); exact Kd.R_mono HO214.out (fun _ hk => trivial), xt59 HI0.out, xs HB.out (IsS59.ge HI0.out), xh HK.out⟩
  ·rw [if_neg c15] at H
   have c15b0 : (t197 == 1) = false := beq_eq_false_iff_ne.mpr c15
   have c15b1 : (t197 != 1) = true := bne_iff_ne.mpr c15
   simp only [Option.some.injEq, Prod.mk.injEq] at H
   obtain ⟨rfl, rfl, rfl⟩ := H
   go_enter Try.func47, Try.ntmps47
   go_wp2_with (first | ((with_reducible refine gate_callee (f := 44) rfl ?_); refine goesL_ (some 8) rfl rfl Try.func44 (by kernel_rfl) rfl #[.pointer (some ⟨g, 0, none⟩), .int .i64 a1] rfl xm ?_; (with_reducible refine (spec_l2Draw.calls k g s0_0 s0_1 s0_2 a1 t192 t195 t196 w0 _ ?side1 ?side2 A3.out).mono ?_); (case side1 => exact xt59 HI0.out); (case side2 => exact xs HB.out (IsS59.ge HI0.out)); rintro e w23 ⟨v193, rfl, ho0, hi, hb, hk⟩; refine ⟨_, rfl, ?_⟩; have HO194 := ax (Kd.R_lower ho0 (keep_size (w := w) (g := g) (row := none) (xh HK.out))); replace HK := ax (KeepBut.trans (xh HK.out) hk (.inl rfl)); replace HB := ax (hb); replace HI0 := ax (hi); (try clear hb); (try clear hk); (try clear hi); (try clear ho0)) | ((with_reducible refine gate_callee (f := 46) rfl ?_); refine goesL_ (some 10) rfl rfl Try.func46 (by kernel_rfl) rfl #[.pointer (some ⟨g, 0, none⟩), .int .i64 14] rfl xm ?_; (with_reducible refine (spec_l1Below.calls g s0_0 t195 t196 14 t197 t198 t199 w0 _ ?side1 ?side2 A4.out).mono ?_); (case side1 => exact xt59 HI0.out); (case side2 => exact xs HB.out (IsS59.ge HI0.out)); rintro e w24 ⟨rfl, hi, hb, hk⟩; refine ⟨_, rfl, ?_⟩; replace HO194 := ax (Kd.R_mono (Kd.R_keep (IsS59.apart (show IsS59 w0 _ g s0_0 t195 t196 from xt59 HI0.out) (xR HO194.out) (by decide)) hk (fun _ h => h.2)) (fun _ h => h.1)); replace HK := ax (KeepBut.trans (xh HK.out) hk (.inl rfl)); replace HB := ax (hb); replace HI0 := ax (hi); (try clear hb); (try clear hk); (try clear hi)))
   go_ret
   exact ⟨_, xe, xR HO194.out, xt59 HI0.out, xs HB.out (IsS59.ge HI0.out), xh HK.out⟩

/-! ### spec_l27Case: function 21 -/
def spec_l27Case.f (k : Nat) (l0 : List Int) (a1 : Bool) : Option (List Int × (List (List Int))) := (spec_l1New.f k l0).bind fun bt215 => ((spec_l2Draw.f k bt215.1 bt215.2.1 bt215.2.2 6).bind fun bt219 => ((spec_l27Make.f k bt215.1 bt219.2.1 bt219.2.2 bt219.1 a1).bind fun bt224 => ((spec_l1Below.f bt215.1 bt224.2.1 bt224.2.2 12).bind fun bt229 => (if bt229.1 = 0 then ((spec_l2Bent.f k bt215.1 bt229.2.1 bt229.2.2 6).bind fun bt232 => (some (bt232.1, bt224.1))) else (if bt229.1 = 1 then (if (bt224.1.length : Int) > 0 then (if 0 < (bt224.1.length : Int) then ((spec_l1PickInt.f bt215.1 bt229.2.1 bt229.2.2 (([(-1), 9, 10, 4] : List Int))).bind fun bt241 => (if 0 < ((rd_L2 bt224.1 0).length : Int) then (some (bt219.1, (bt224.1.set (0 : Int).toNat ((rd_L2 bt224.1 0).set (0 : Int).toNat bt241.1)))) else (none))) else (none)) else (some (bt219.1, bt224.1))) else (some (bt219.1, bt224.1)))))))
theorem spec_l27Case.mono : ∀ a0 a1 k, LeO (spec_l27Case.f k a0 a1) (spec_l27Case.f (k + 1) a0 a1) := by
 intro a0 a1 k
 unfold spec_l27Case.f
 repeat' with_reducible first | exact spec_l1New.mono _ _ | exact spec_l27Make.mono _ _ _ _ _ _ | exact spec_l2Bent.mono _ _ _ _ _ | exact spec_l2Draw.mono _ _ _ _ _ | exact xl | refine LeO.ite ?_ ?_ | refine LeO.bind ?_ fun _ => ?_
def spec_l27Case.T9 : Bool × List (List Nat × List Nat) := (true, [([], []), ([0], [0]), ([1], [1]), ([], []), ([], []), ([3, 4], [3, 4]), ([2, 0, 1, 2, 3, 4, 5], [2]), ([6, 5, 5, 0, 1, 2, 3, 4, 5], [5, 6])])
def spec_l27Case.B9 : List Nat := [0, 1, 3, 0, 0, 24, 63, 127]
theorem spec_l27Case.tab9 : rtab .any (opsOf Try.f21 9) = spec_l27Case.T9 := by kernel_rfl
theorem spec_l27Case.bits9 : waitsOk spec_l27Case.T9.2 spec_l27Case.B9 = true := by kernel_rfl
theorem spec_l27Case.calls (k : Nat) (A0 : Option Addr) (c0 : Nat) (l0 : List Int) (a1 : Bool) (r1 : List Int) (r2 : List (List Int)) (w : World) (hr0 : Kd.C (Kd.int .u8) w A0 l0.length l0) (hc0 : l0.length ≤ c0) (h : spec_l27Case.f k l0 a1 = some (r1, r2)) :
  Calls Try.prog 21 #[.slice A0 l0.length c0, .bool a1] w fun e w' => ∃ v0_ v1_ : Value, e = .returned (.tuple #[v0_, v1_]) ∧ Kd.R (Kd.int .i64) 3 w' w.heap.size (fun _ => True) v0_ r1 ∧ Kd.S (Kd.slice 3 (Kd.int .i64)) 24 w' w.heap.size (fun k_ => some k_ ≠ (v0_ : Value).ownBlock) v1_ r2 ∧ Below w.heap.size w w' := by
 have HR0 := ax hr0
 have HC0 := ax hc0
 clear hr0 hc0
 have HB := ax (Below.refl w.heap.size w)
 have H : ((spec_l1New.f k l0).bind fun bt215 => ((spec_l2Draw.f k bt215.1 bt215.2.1 bt215.2.2 6).bind fun bt219 => ((spec_l27Make.f k bt215.1 bt219.2.1 bt219.2.2 bt219.1 a1).bind fun bt224 => ((spec_l1Below.f bt215.1 bt224.2.1 bt224.2.2 12).bind fun bt229 => (if bt229.1 = 0 then ((spec_l2Bent.f k bt215.1 bt229.2.1 bt229.2.2 6).bind fun bt232 => (some (bt232.1, bt224.1))) else (if bt229.1 = 1 then (if (bt224.1.length : Int) > 0 then (if 0 < (bt224.1.length : Int) then ((spec_l1PickInt.f bt215.1 bt229.2.1 bt229.2.2 (([(-1), 9, 10, 4] : List Int))).bind fun bt241 => (if 0 < ((rd_L2 bt224.1 0).length : Int) then (some (bt219.1, (bt224.1.set (0 : Int).toNat ((rd_L2 bt224.1 0).set (0 : Int).toNat bt241.1)))) else (none))) else (none)) else (some (bt219.1, bt224.1))) else (some (bt219.1, bt224.1)))))))) = some (r1, r2) := h
 clear h
 obtain ⟨⟨t215, t216, t217⟩, A3, H⟩ := xI H
 dsimp only at H
 obtain ⟨⟨t219, t222, t223⟩, A4, H⟩ := xI H
 dsimp only at H
 obtain ⟨⟨t224, t227, t228⟩, A5, H⟩ := xI H
 dsimp only at H
 obtain ⟨⟨t229, t230, t231⟩, A6, H⟩ := xI H
 dsimp only at H
 by_cases c7 : t229 = 0
 ·rw [if_pos c7] at H
  have c7b0 : (t229 == 0) = true := beq_iff_eq.mpr c7
  have c7b1 : (t229 != 0) = false := bne_eq_false_iff_eq.mpr c7
  clear c7
  obtain ⟨⟨t232, t235, t236⟩, A8, H⟩ := xI H
  dsimp only at H
  simp only [Option.some.injEq, Prod.mk.injEq] at H
  obtain ⟨rfl, rfl⟩ := H
  go_enter Try.func21, Try.ntmps21
  go_wp2_with (first | ((with_reducible refine gate_callee (f := 43) rfl ?_); refine goesL_ (some 10) rfl rfl Try.func43 (by kernel_rfl) rfl #[.slice A0 l0.length c0] rfl xm ?_; (with_reducible refine (spec_l1New.calls k _ _ l0 t215 t216 t217 w _ ?side1 ?side2 ?side3 A3.out).mono ?_); (case side1 => exact xb HB.out); (case side2 => exact HR0.out); (case side3 => exact HC0.out); rintro e w9 ⟨g218, rfl, hi, hb, hb2⟩; refine ⟨_, rfl, ?_⟩; replace HB := ax (hb); have HI218 := ax (hi); (try clear hb); (try clear hb2); (try clear hi)) | ((with_reducible refine gate_callee (f := 44) rfl ?_); refine goesL_ (some 12) rfl rfl Try.func44 (by kernel_rfl) rfl #[.pointer (some ⟨g218, 0, none⟩), .int .i64 6] rfl xm ?_; (with_reducible refine (spec_l2Draw.calls k g218 t215 t216 t217 6 t219 t222 t223 w _ ?side1 ?side2 A4.out).mono ?_); (case side1 => exact xt59 HI218.out); (case side2 => exact xs HB.out (IsS59.ge HI218.out)); rintro e w10 ⟨v220, rfl, ho0, hi, hb, hk⟩; refine ⟨_, rfl, ?_⟩; have HO221 := ax (Kd.R_lower ho0 (below_size (xs HB.out (IsS59.ge HI218.out)))); replace HB := ax (hb); replace HI218 := ax (hi); (try clear hb); (try clear hk); (try clear hi); (try clear ho0); obtain ⟨Ao11, co11, eo11⟩ := Kd.R_slice HO221.out; subst eo11) | ((with_reducible refine gate_callee (f := 45) rfl ?_); refine goesL_ (some 16) rfl rfl Try.func45 (by kernel_rfl) rfl #[.pointer (some ⟨g218, 0, none⟩), .slice Ao11 t219.length co11, .bool a1] rfl xm ?_; (with_reducible refine (spec_l27Make.calls k g218 t215 t222 t223 _ _ t219 a1 t224 t227 t228 w _ ?side1 ?side2 ?side3 ?side4 ?side5 A5.out).mono ?_); (case side1 => exact xt59 HI218.out); (case side2 => exact xs HB.out (IsS59.ge HI218.out)); (case side3 => exact xc (Kd.R_reads' HO221.out).2.2); (case side4 => exact (Kd.R_reads' HO221.out).2.1); (case side5 => exact far_slice (IsS59.own_ne HI218.out HO221.out (by decide))); rintro e w12 ⟨v225, rfl, ho0, hi, hb, hk⟩; refine ⟨_, rfl, ?_⟩; have HO226 := ax (Kd.S_lower (Kd.S_new' ho0 (Kd.R_lt (xR HO221.out))) (below_size (xs HB.out (IsS59.ge HI218.out)))); replace HO221 := ax (Kd.R_mono (Kd.R_keep (IsS59.apart (show IsS59 w _ g218 t215 t222 t223 from xt59 HI218.out) (xR HO221.out) (by decide)) hk (fun _ h => h.2)) (fun _ h => h.1)); replace HB := ax (hb); replace HI218 := ax (hi); (try clear hb); (try clear hk); (try clear hi); (try clear ho0)) | ((with_reducible refine gate_callee (f := 46) rfl ?_); refine goesL_ (some 18) rfl rfl Try.func46 (by kernel_rfl) rfl #[.pointer (some ⟨g218, 0, none⟩), .int .i64 12] rfl xm ?_; (with_reducible refine (spec_l1Below.calls g218 t215 t227 t228 12 t229 t230 t231 w _ ?side1 ?side2 A6.out).mono ?_); (case side1 => exact xt59 HI218.out); (case side2 => exact xs HB.out (IsS59.ge HI218.out)); rintro e w13 ⟨rfl, hi, hb, hk⟩; refine ⟨_, rfl, ?_⟩; replace HO221 := ax (Kd.R_mono (Kd.R_keep (IsS59.apart (show IsS59 w _ g218 t215 t227 t228 from xt59 HI218.out) (xR HO221.out) (by decide)) hk (fun _ h => h.2)) (fun _ h => h.1)); replace HO226 := ax (Kd.S_mono (Kd.S_keep (IsS59.apartS (show IsS59 w _ g218 t215 t227 t228 from xt59 HI218.out) (xS HO226.out) (by decide)) hk (fun _ h => h.2)) (fun _ h => h.1)); replace HB := ax (hb); replace HI218 := ax (hi); (try clear hb); (try clear hk); (try clear hi)) | ((with_reducible refine gate_callee (f := 47) rfl ?_); refine goesL_ (some 22) rfl rfl Try.func47 (by kernel_rfl) rfl #[.pointer (some ⟨g218, 0, none⟩), .int .i64 6] rfl xm ?_; (with_reducible refine (spec_l2Bent.calls k g218 t215 t230 t231 6 t232 t235 t236 w _ ?side1 ?side2 A8.out).mono ?_); (case side1 => exact xt59 HI218.out); (case side2 => exact xs HB.out (IsS59.ge HI218.out)); rintro e w14 ⟨v233, rfl, ho0, hi, hb, hk⟩; refine ⟨_, rfl, ?_⟩; replace HO226 := ax (Kd.S_mono (Kd.S_told (Kd.S_oldK (IsS59.apartS (show IsS59 w _ g218 t215 t230 t231 from xt59 HI218.out) (xS HO226.out) (by decide)) hk) (Kd.R_base ho0)) (fun _ h_ => h_.1)); have HO234 := ax (Kd.R_lower (Kd.R_new' ho0 (Kd.R_lt (xR HO221.out))) (below_size (xs HB.out (IsS59.ge HI218.out)))); replace HO221 := ax (Kd.R_mono (Kd.R_told (Kd.R_oldK (IsS59.apart (show IsS59 w _ g218 t215 t230 t231 from xt59 HI218.out) (xR HO221.out) (by decide)) hk) (Kd.R_base ho0)) (fun _ h_ => h_.1)); replace HB := ax (hb); replace HI218 := ax (hi); (try clear hb); (try clear hk); (try clear hi); (try clear ho0)))
  go_ret2
  exact ⟨_, _, xe, by (with_reducible repeat (first | apply Kd.R_alloc | apply Kd.R_drewN | apply Kd.R_drew)); exact Kd.R_mono HO234.out (fun _ hk => trivial), by (with_reducible repeat (first | apply Kd.S_alloc | apply Kd.S_drewN | apply Kd.S_drew)); exact Kd.S_mono HO226.out (fun _ hk => hk.2), xs HB.out (IsS59.ge HI218.out)⟩
 ·rw [if_neg c7] at H
  have c7b0 : (t229 == 0) = false := beq_eq_false_iff_ne.mpr c7
  have c7b1 : (t229 != 0) = true := bne_iff_ne.mpr c7
  by_cases c15 : t229 = 1
  ·rw [if_pos c15] at H
   have c15b0 : (t229 == 1) = true := beq_iff_eq.mpr c15
   have c15b1 : (t229 != 1) = false := bne_eq_false_iff_eq.mpr c15
   clear c15
   by_cases c16 : (t224.length : Int) > 0
   ·rw [if_pos c16] at H
    have c16b0 : decide (0 < (t224.length : Int)) = true := decide_eq_true c16
    have c16b1 : decide (0 < t224.length) = true := decide_eq_true (by omega)
    clear c16
    obtain ⟨c17, H⟩ := xp H
    have c17b0 := decide_eq_true c17
    have c17b1 : decide (0 < t224.length) = true := decide_eq_true (by omega)
    clear c17
    obtain ⟨y238, hy238⟩ : ∃ y_ : List Int, y_ = (([(-1), 9, 10, 4] : List Int)) := ⟨_, rfl⟩
    replace H : ((spec_l1PickInt.f t215 t230 t231 y238).bind fun bt241 => (if 0 < ((rd_L2 t224 0).length : Int) then (some (t219, (t224.set (0 : Int).toNat ((rd_L2 t224 0).set (0 : Int).toNat bt241.1)))) else (none))) = some (r1, r2) := xv hy238 H
    have Ny238 := ax hy238
    clear hy238
    obtain ⟨⟨t241, t242, t243⟩, A18, H⟩ := xI H
    dsimp only at H
    obtain ⟨c19, H⟩ := xp H
    have c19b0 := decide_eq_true c19
    have c19b1 : decide (0 < (rd_L2 t224 0).length) = true := decide_eq_true (by omega)
    clear c19
    obtain ⟨y244, hy244⟩ : ∃ y_ : List Int, y_ = ((rd_L2 t224 0).set (0 : Int).toNat t241) := ⟨_, rfl⟩
    replace H : (some (t219, (t224.set (0 : Int).toNat y244))) = some (r1, r2) := xv hy244 H
    have Ny244 := ax hy244
    clear hy244
    obtain ⟨y246, hy246⟩ : ∃ y_ : List (List Int), y_ = (t224.set (0 : Int).toNat y244) := ⟨_, rfl⟩
    replace H : (some (t219, y246)) = some (r1, r2) := xv hy246 H
    have Ny246 := ax hy246
    clear hy246
    simp only [Option.some.injEq, Prod.mk.injEq] at H
    obtain ⟨rfl, rfl⟩ := H
    go_enter Try.func21, Try.ntmps21
    try go_wp2_with (first | ((with_reducible refine gate_callee (f := 43) rfl ?_); refine goesL_ (some 10) rfl rfl Try.func43 (by kernel_rfl) rfl #[.slice A0 l0.length c0] rfl xm ?_; (with_reducible refine (spec_l1New.calls k _ _ l0 t215 t216 t217 w _ ?side1 ?side2 ?side3 A3.out).mono ?_); (case side1 => exact xb HB.out); (case side2 => exact HR0.out); (case side3 => exact HC0.out); rintro e w21 ⟨g218, rfl, hi, hb, hb2⟩; refine ⟨_, rfl, ?_⟩; replace HB := ax (hb); have HI218 := ax (hi); (try clear hb); (try clear hb2); (try clear hi)) | ((with_reducible refine gate_callee (f := 44) rfl ?_); refine goesL_ (some 12) rfl rfl Try.func44 (by kernel_rfl) rfl #[.pointer (some ⟨g218, 0, none⟩), .int .i64 6] rfl xm ?_; (with_reducible refine (spec_l2Draw.calls k g218 t215 t216 t217 6 t219 t222 t223 w _ ?side1 ?side2 A4.out).mono ?_); (case side1 => exact xt59 HI218.out); (case side2 => exact xs HB.out (IsS59.ge HI218.out)); rintro e w22 ⟨v220, rfl, ho0, hi, hb, hk⟩; refine ⟨_, rfl, ?_⟩; have HO221 := ax (Kd.R_lower ho0 (below_size (xs HB.out (IsS59.ge HI218.out)))); replace HB := ax (hb); replace HI218 := ax (hi); (try clear hb); (try clear hk); (try clear hi); (try clear ho0); obtain ⟨Ao23, co23, eo23⟩ := Kd.R_slice HO221.out; subst eo23) | ((with_reducible refine gate_callee (f := 45) rfl ?_); refine goesL_ (some 16) rfl rfl Try.func45 (by kernel_rfl) rfl #[.pointer (some ⟨g218, 0, none⟩), .slice Ao23 t219.length co23, .bool a1] rfl xm ?_; (with_reducible refine (spec_l27Make.calls k g218 t215 t222 t223 _ _ t219 a1 t224 t227 t228 w _ ?side1 ?side2 ?side3 ?side4 ?side5 A5.out).mono ?_); (case side1 => exact xt59 HI218.out); (case side2 => exact xs HB.out (IsS59.ge HI218.out)); (case side3 => exact xc (Kd.R_reads' HO221.out).2.2); (case side4 => exact (Kd.R_reads' HO221.out).2.1); (case side5 => exact far_slice (IsS59.own_ne HI218.out HO221.out (by decide))); rintro e w24 ⟨v225, rfl, ho0, hi, hb, hk⟩; refine ⟨_, rfl, ?_⟩; have HO226 := ax (Kd.S_lower (Kd.S_new' ho0 (Kd.R_lt (xR HO221.out))) (below_size (xs HB.out (IsS59.ge HI218.out)))); replace HO221 := ax (Kd.R_mono (Kd.R_keep (IsS59.apart (show IsS59 w _ g218 t215 t222 t223 from xt59 HI218.out) (xR HO221.out) (by decide)) hk (fun _ h => h.2)) (fun _ h => h.1)); replace HB := ax (hb); replace HI218 := ax (hi); (try clear hb); (try clear hk); (try clear hi); (try clear ho0)) | ((with_reducible refine gate_callee (f := 46) rfl ?_); refine goesL_ (some 18) rfl rfl Try.func46 (by kernel_rfl) rfl #[.pointer (some ⟨g218, 0, none⟩), .int .i64 12] rfl xm ?_; (with_reducible refine (spec_l1Below.calls g218 t215 t227 t228 12 t229 t230 t231 w _ ?side1 ?side2 A6.out).mono ?_); (case side1 => exact xt59 HI218.out); (case side2 => exact xs HB.out (IsS59.ge HI218.out)); rintro e w25 ⟨rfl, hi, hb, hk⟩; refine ⟨_, rfl, ?_⟩; replace HO221 := ax (Kd.R_mono (Kd.R_keep (IsS59.apart (show IsS59 w _ g218 t215 t227 t228 from xt59 HI218.out) (xR HO221.out) (by decide)) hk (fun _ h => h.2)) (fun _ h => h.1)); replace HO226 := ax (Kd.S_mono (Kd.S_keep (IsS59.apartS (show IsS59 w _ g218 t215 t227 t228 from xt59 HI218.out) (xS HO226.out) (by decide)) hk (fun _ h => h.2)) (fun _ h => h.1)); replace HB := ax (hb); replace HI218 := ax (hi); (try clear hb); (try clear hk); (try clear hi); obtain ⟨Ao26, co26, eo26⟩ := Kd.S_slice HO226.out; subst eo26))
    replace HO221 := ax (Kd.R_drew HO221.out); replace HO226 := ax (Kd.S_drew HO226.out); replace HI218 := ax (IsS59.drew HI218.out); replace HB := ax (below_drew1 HB.out)
    have p237 : 0 ≤ (0 : Int) := (by omega)
    have q237 : 0 < (t224.length : Int) := xd
    obtain ⟨ad237, A237_0, c237_0, e237, hx237_0, hl237_0, hi237_0⟩ := at_L2 (Kd.S_reads' HO226.out).2.2 0 p237 q237
    cases e237
    obtain ⟨ce237, hce237, hMe237, hcc237⟩ := Kd.S_get HO226.out [] 0 p237 (by first | exact q237 | exact xd | (have e_ := (Kd.S_reads' HO226.out).1; omega))
    obtain ⟨ve237_0, rfl, ge237_0⟩ := hMe237
    have hv237_0 := hcc237 0 _ rfl
    rw [Nat.add_zero, show ((Kd.slice 3 (Kd.int .i64))).sz = 1 from rfl, Nat.mul_one] at hv237_0
    replace hv237_0 := Option.some.inj (hv237_0.symm.trans hx237_0)
    rw [hv237_0] at ge237_0
    have HL237_0 := ax (show Kd.R (Kd.int .i64) 3 _ _ _ _ (rd_L2 t224 0) from ge237_0)
    clear hv237_0 ge237_0
    have HX237_0 := ax hx237_0
    clear hcc237 hce237
    have qi237 : (0 < t224.length) = True := eq_true (by omega)
    (try rw [show ((0 : Int)).toNat = 0 from rfl] at hx237_0)
    (try rw [Addr.add_zero'] at hx237_0)
    have HR237_0 := ax hi237_0
    have HC237_0 := ax hl237_0
    clear hi237_0 hl237_0
    replace p237 := eq_true p237
    replace q237 := eq_true q237
    refine start_ (n := 8) (S := fun w' => w'.cell? ad237 = some (.slice A237_0 (rd_L2 t224 0).length c237_0)) (ds := [7]) (xB 8 0) (by kernel_rfl) rfl (by kernel_rfl) (hx237_0) (fun hHeld => ?_); refine with_tabW spec_l27Case.tab9 spec_l27Case.bits9 (fun HT_ HW_ => ?_)
    generalize w25.drew = w27 at HO221 HO226 HI218 HB HL237_0 HR237_0 HX237_0 hx237_0 hHeld ⊢
    refine pu (i := 0) (N := some 28) (xB 8 1) HT_.out ?_
    refine pu (i := 1) (N := some 29) (xB 8 3) HT_.out ?_
    refine pu (i := 3) (N := some 31) (xB 8 11) HT_.out ?_
    refine tk (i := 2) (N := some 30) (xB 8 15) HT_.out HW_.out hHeld ?_
    refine one_ (i := 4) (N := some 32) (xB 8 31) rfl rfl (one_of HT_.out (by kernel_rfl)) (by decide) (fun K hK => ?_)
    refine Kd.R_lit_step (Kd.int .i64) _ 3 ?hg (N := 32) ?hd (xs := ([(-1), 9, 10, 4] : List Int)) (inner := [.int .i64 (-1), .int .i64 9, .int .i64 10, .int .i64 4]) (ok := fun _ => True) (okp := fun _ => True) ?hr ?hp (fun _ hk => hk) trivial (Below.refl _ _) (Nat.le_refl _) (by simp) ?_; (case hd => rfl); (case hg => rfl); (case hr => first | (go_simp; done) | (go_simp; rfl)); (case hp => exact (Reps.one (show Kd.M (Kd.int .i64) _ _ _ (-1) [.int .i64 (-1)] from rfl) (Reps.one (show Kd.M (Kd.int .i64) _ _ _ 9 [.int .i64 9] from rfl) (Reps.one (show Kd.M (Kd.int .i64) _ _ _ 10 [.int .i64 10] from rfl) (Reps.one (show Kd.M (Kd.int .i64) _ _ _ 4 [.int .i64 4] from rfl) (Reps.none _ _))))))
    intro v239 w28 ho29 hb hg_ hnew_
    have HS0_ := (hb.cell (World.block_lt_of_cell? _ _ (hHeld))).trans (hHeld)
    clear hg_ hnew_
    (first | rw [← Ny238.out] at ho29 | (simp only [Int.reduceToNat] at ho29; rw [← Ny238.out] at ho29))
    replace HO226 := ax (Kd.S_elder' (xS HO226.out) (Kd.R_base ho29) hb); have HO240 := ax (Kd.R_lower (Kd.R_new' (Kd.R_new' ho29 (Kd.R_lt (xR HO221.out))) (Kd.R_lt (xR HL237_0.out))) (below_size (xs HB.out (IsS59.ge HI218.out)))); replace HO221 := ax (Kd.R_elder' (xR HO221.out) (Kd.R_base ho29) hb); replace HL237_0 := ax (Kd.R_elder' (xR HL237_0.out) (Kd.R_base ho29) hb); replace HR237_0 := ax (Kd.C_below (xw HR237_0.out) hb); replace HX237_0 := ax (pw_cell_below hb HX237_0.out); replace HB := ax (below_step (xs HB.out (IsS59.ge HI218.out)) hb); replace HI218 := ax (IsS59.below (xt59 HI218.out) hb); clear hb ho29
    obtain ⟨Ao30, co30, eo30⟩ := Kd.R_slice HO240.out
    (first | subst eo30 | (injection eo30 with f1_ f2_ f3_; have f4_ := f1_.symm; have f5_ := f3_.symm; clear f1_ f2_ f3_; subst f4_; subst f5_))
    refine hK.out _ _ (HS0_) (fun hHeld => ?_)
    clear hK K
    refine nm ?_
    refine one_ (i := 5) (N := some 33) (xB 8 63) rfl rfl (one_of HT_.out (by kernel_rfl)) (by decide) (fun K hK => ?_)
    refine goes_ Try.func48 (by kernel_rfl) rfl #[.pointer (some ⟨g218, 0, none⟩), .slice Ao30 y238.length co30] (by rfl) rfl rfl xm ?_
    with_reducible refine (spec_l1PickInt.calls g218 t215 t230 t231 _ _ y238 t241 t242 t243 w _ ?side1 ?side2 ?side3 ?side4 ?side5 A18.out).mono ?_
    (case side1 => exact xt59 HI218.out)
    (case side2 => exact xs HB.out (IsS59.ge HI218.out))
    (case side3 => exact xc (Kd.R_reads' HO240.out).2.2)
    (case side4 => exact (Kd.R_reads' HO240.out).2.1)
    (case side5 => exact far_slice (IsS59.own_ne HI218.out HO240.out (by decide)))
    rintro e w31 ⟨rfl, hi, hb, hk⟩
    have HS0_ := keep_cell hk (hHeld) (by first | (rw [add_block]; exact Kd.own_blk (IsS59.own_neS HI218.out HO226.out (by decide))) | (show (Addr.add _ _).block ≠ _; rw [add_block]; exact Kd.own_blk (IsS59.own_neS HI218.out HO226.out (by decide))) | exact Kd.own_blk (IsS59.own_neS HI218.out HO226.out (by decide)))
    refine ⟨_, rfl, ?_⟩
    replace HO221 := ax (Kd.R_mono (Kd.R_keep (IsS59.apart (show IsS59 w _ g218 t215 t230 t231 from xt59 HI218.out) (xR HO221.out) (by decide)) hk (fun _ h => h.2)) (fun _ h => h.1)); replace HL237_0 := ax (Kd.R_mono (Kd.R_keep (IsS59.apart (show IsS59 w _ g218 t215 t230 t231 from xt59 HI218.out) (xR HL237_0.out) (by decide)) hk (fun _ h => h.2)) (fun _ h => h.1)); replace HX237_0 := ax (keep_cell hk HX237_0.out (by first | (rw [add_block]; exact Kd.own_blk (IsS59.own_neS HI218.out HO226.out (by decide))) | (show (Addr.add _ _).block ≠ _; rw [add_block]; exact Kd.own_blk (IsS59.own_neS HI218.out HO226.out (by decide))) | exact Kd.own_blk (IsS59.own_neS HI218.out HO226.out (by decide)) | (dsimp only; exact Kd.own_blk (IsS59.own_neS HI218.out HO226.out (by decide))))); replace HO226 := ax (Kd.S_mono (Kd.S_keep (IsS59.apartS (show IsS59 w _ g218 t215 t230 t231 from xt59 HI218.out) (xS HO226.out) (by decide)) hk (fun _ h => h.2)) (fun _ h => h.1)); replace HO240 := ax (Kd.R_mono (Kd.R_keep (IsS59.apart (show IsS59 w _ g218 t215 t230 t231 from xt59 HI218.out) (xR HO240.out) (by decide)) hk (fun _ h => h.2)) (fun _ h => h.1)); replace HB := ax (hb); replace HI218 := ax (hi)
    (try clear hb)
    (try clear hb2)
    (try clear hk)
    (try clear hi)
    have p20 : 0 ≤ (0 : Int) := (by omega)
    have q20 : (0 : Int) < (((rd_L2 t224 0).length : Int) : Int) := xd
    have qi20 : (0 < (rd_L2 t224 0).length) = True := eq_true (by omega)
    obtain ⟨go20, co20, eo20, gb20, gl20, cl20, HG20⟩ := Kd.R_form HL237_0.out (by omega)
    (first | cases eo20 | (injection eo20 with ea_ en_ ec_; (first | subst ea_ | (injection ea_ with ea_; subst ea_)); subst ec_; clear en_))
    have GB20 := ax gb20
    have GG20 := ax HG20
    clear gb20 gl20 HG20
    obtain ⟨hx20_0, hf20_0⟩ := Kd.R_celln 0 HL237_0.out (0 : Int) p20 q20
    (try rw [show ((0 : Int)).toNat = 0 from rfl] at hx20_0)
    (try simp only [Nat.reduceMul, Nat.zero_mul, Nat.zero_add, Nat.reduceAdd] at hx20_0)
    (try rw [show ((0 : Int)).toNat = 0 from rfl] at hf20_0)
    (try simp only [Nat.reduceMul, Nat.zero_mul, Nat.zero_add, Nat.reduceAdd] at hf20_0)
    replace p20 := eq_true p20
    replace q20 := eq_true q20
    have n_ := ax (Kd.S_mono (ok' := (fun k_ => some k_ ≠ (.slice Ao23 t219.length co23 : Value).ownBlock ∧ some k_ ≠ (.slice Ao30 y238.length co30 : Value).ownBlock)) HO226.out (fun k_ hk => ⟨hk.1.2, hk.2⟩))
    clear HO226
    have HO226 := n_
    clear n_
    have hq32 : (0 : Int) < (t224.length : Int) := (by have h_ : (0 : Int) < ((t224.length : Int) : Int) := xd; first | exact h_ | (have e_ := (Kd.S_reads' HO226.out).1; omega) | simpa only [List.length_set, List.length_set] using h_)
    obtain ⟨oki32, ce32, hcl32, hM32, hcc32, hok32, hbk32⟩ := Kd.S_borrow HO226.out [] (0 : Int) (by omega) hq32
    obtain ⟨ve32_0, rfl, ge32_0⟩ := hM32
    have hv32 := hcc32 0 _ rfl
    rw [Nat.add_zero, show ((Kd.slice 3 (Kd.int .i64))).sz = 1 from rfl, Nat.mul_one] at hv32
    replace hv32 := Option.some.inj (hv32.symm.trans HX237_0.out)
    subst hv32
    clear hcc32 hcl32
    replace ge32_0 := (show Kd.R (Kd.int .i64) 3 _ _ _ _ (rd_L2 t224 0) from ge32_0)
    have HP32 := Kd.R_putg ge32_0 (0 : Int) t241
    have HN218_go20 := ax (show g218 ≠ go20 from by have h_ := IsS59.own_ne HI218.out HL237_0.out (by decide); intro e_; exact h_ (by rw [e_]; rfl))
    rw [← Ny244.out] at HP32
    have HS32 := hbk32 HP32.2 (fun k_ e_ => by injection e_ with e_; subst e_; exact ge32_0.1 _ rfl) (x' := y244) (Kd.M_row HP32.1)
    rw [← Ny246.out] at HS32
    have HQ32 := ax HS32
    clear HP32 HS32 hbk32 hok32
    refine hK.out _ _ (HS0_) (fun hHeld => ?_)
    clear hK K
    refine nm ?_
    refine pu (i := 6) (N := some 34) (xB 8 127) HT_.out ?_
    refine last_ (i := 7) (N := none) (xB 8 255) rfl rfl (one_of HT_.out (by kernel_rfl)) (by decide) (fun K hK => ?_)
    refine skip_ (w1 := ?_) (by rfl) rfl ?_ ?_
    rotate_left
    ·go_simp
     rfl
    refine hK.out _ _ ?_
    clear hK K
    refine done_ (done_of HT_.out (by kernel_rfl)) ?_
    try go_wp2
    go_ret2
    exact ⟨_, _, xe, by (with_reducible repeat (first | apply Kd.R_alloc | apply Kd.R_drewN | apply Kd.R_drew)); exact Kd.R_mono (Kd.R_far (p := ⟨go20, 0, none⟩) (Kd.R_far1 HO221.out rfl ((HL237_0.out.1 _ rfl).1.1.2)) (fun _ hk => hk.2) (.int .i64 t241)) (fun _ hk => trivial), by (with_reducible repeat (first | apply Kd.S_alloc | apply Kd.S_drewN | apply Kd.S_drew)); exact Kd.S_mono HQ32.out (fun _ hk => hk.1), by repeat (first | (with_reducible first | exact HB.out | apply below_alloc | apply pw_below_drewN | apply below_drew1 | refine below_set ?_ GB20.out | refine below_set ?_ (IsS59.ge HI218.out)) | exact HB.out)⟩
   ·rw [if_neg c16] at H
    have c16b0 : decide (0 < (t224.length : Int)) = false := decide_eq_false c16
    have c16b1 : decide (0 < t224.length) = false := decide_eq_false (by omega)
    clear c16
    simp only [Option.some.injEq, Prod.mk.injEq] at H
    obtain ⟨rfl, rfl⟩ := H
    go_enter Try.func21, Try.ntmps21
    go_wp2_with (first | ((with_reducible refine gate_callee (f := 43) rfl ?_); refine goesL_ (some 10) rfl rfl Try.func43 (by kernel_rfl) rfl #[.slice A0 l0.length c0] rfl xm ?_; (with_reducible refine (spec_l1New.calls k _ _ l0 t215 t216 t217 w _ ?side1 ?side2 ?side3 A3.out).mono ?_); (case side1 => exact xb HB.out); (case side2 => exact HR0.out); (case side3 => exact HC0.out); rintro e w34 ⟨g218, rfl, hi, hb, hb2⟩; refine ⟨_, rfl, ?_⟩; replace HB := ax (hb); have HI218 := ax (hi); (try clear hb); (try clear hb2); (try clear hi)) | ((with_reducible refine gate_callee (f := 44) rfl ?_); refine goesL_ (some 12) rfl rfl Try.func44 (by kernel_rfl) rfl #[.pointer (some ⟨g218, 0, none⟩), .int .i64 6] rfl xm ?_; (with_reducible refine (spec_l2Draw.calls k g218 t215 t216 t217 6 t219 t222 t223 w _ ?side1 ?side2 A4.out).mono ?_); (case side1 => exact xt59 HI218.out); (case side2 => exact xs HB.out (IsS59.ge HI218.out)); rintro e w35 ⟨v220, rfl, ho0, hi, hb, hk⟩; refine ⟨_, rfl, ?_⟩; have HO221 := ax (Kd.R_lower ho0 (below_size (xs HB.out (IsS59.ge HI218.out)))); replace HB := ax (hb); replace HI218 := ax (hi); (try clear hb); (try clear hk); (try clear hi); (try clear ho0); obtain ⟨Ao36, co36, eo36⟩ := Kd.R_slice HO221.out; subst eo36) | ((with_reducible refine gate_callee (f := 45) rfl ?_); refine goesL_ (some 16) rfl rfl Try.func45 (by kernel_rfl) rfl #[.pointer (some ⟨g218, 0, none⟩), .slice Ao36 t219.length co36, .bool a1] rfl xm ?_; (with_reducible refine (spec_l27Make.calls k g218 t215 t222 t223 _ _ t219 a1 t224 t227 t228 w _ ?side1 ?side2 ?side3 ?side4 ?side5 A5.out).mono ?_); (case side1 => exact xt59 HI218.out); (case side2 => exact xs HB.out (IsS59.ge HI218.out)); (case side3 => exact xc (Kd.R_reads' HO221.out).2.2); (case side4 => exact (Kd.R_reads' HO221.out).2.1); (case side5 => exact far_slice (IsS59.own_ne HI218.out HO221.out (by decide))); rintro e w37 ⟨v225, rfl, ho0, hi, hb, hk⟩; refine ⟨_, rfl, ?_⟩; have HO226 := ax (Kd.S_lower (Kd.S_new' ho0 (Kd.R_lt (xR HO221.out))) (below_size (xs HB.out (IsS59.ge HI218.out)))); replace HO221 := ax (Kd.R_mono (Kd.R_keep (IsS59.apart (show IsS59 w _ g218 t215 t222 t223 from xt59 HI218.out) (xR HO221.out) (by decide)) hk (fun _ h => h.2)) (fun _ h => h.1)); replace HB := ax (hb); replace HI218 := ax (hi); (try clear hb); (try clear hk); (try clear hi); (try clear ho0)) | ((with_reducible refine gate_callee (f := 46) rfl ?_); refine goesL_ (some 18) rfl rfl Try.func46 (by kernel_rfl) rfl #[.pointer (some ⟨g218, 0, none⟩), .int .i64 12] rfl xm ?_; (with_reducible refine (spec_l1Below.calls g218 t215 t227 t228 12 t229 t230 t231 w _ ?side1 ?side2 A6.out).mono ?_); (case side1 => exact xt59 HI218.out); (case side2 => exact xs HB.out (IsS59.ge HI218.out)); rintro e w38 ⟨rfl, hi, hb, hk⟩; refine ⟨_, rfl, ?_⟩; replace HO221 := ax (Kd.R_mono (Kd.R_keep (IsS59.apart (show IsS59 w _ g218 t215 t227 t228 from xt59 HI218.out) (xR HO221.out) (by decide)) hk (fun _ h => h.2)) (fun _ h => h.1)); replace HO226 := ax (Kd.S_mono (Kd.S_keep (IsS59.apartS (show IsS59 w _ g218 t215 t227 t228 from xt59 HI218.out) (xS HO226.out) (by decide)) hk (fun _ h => h.2)) (fun _ h => h.1)); replace HB := ax (hb); replace HI218 := ax (hi); (try clear hb); (try clear hk); (try clear hi); obtain ⟨Ao39, co39, eo39⟩ := Kd.S_slice HO226.out; subst eo39))
    go_ret2
    exact ⟨_, _, xe, xR HO221.out, by (with_reducible repeat (first | apply Kd.S_alloc | apply Kd.S_drewN | apply Kd.S_drew)); exact Kd.S_mono HO226.out (fun _ hk => hk.2), xs HB.out (IsS59.ge HI218.out)⟩
  ·rw [if_neg c15] at H
   have c15b0 : (t229 == 1) = false := beq_eq_false_iff_ne.mpr c15
   have c15b1 : (t229 != 1) = true := bne_iff_ne.mpr c15
   simp only [Option.some.injEq, Prod.mk.injEq] at H
   obtain ⟨rfl, rfl⟩ := H
   go_enter Try.func21, Try.ntmps21
   go_wp2_with (first | ((with_reducible refine gate_callee (f := 43) rfl ?_); refine goesL_ (some 10) rfl rfl Try.func43 (by kernel_rfl) rfl #[.slice A0 l0.length c0] rfl xm ?_; (with_reducible refine (spec_l1New.calls k _ _ l0 t215 t216 t217 w _ ?side1 ?side2 ?side3 A3.out).mono ?_); (case side1 => exact xb HB.out); (case side2 => exact HR0.out); (case side3 => exact HC0.out); rintro e w40 ⟨g218, rfl, hi, hb, hb2⟩; refine ⟨_, rfl, ?_⟩; replace HB := ax (hb); have HI218 := ax (hi); (try clear hb); (try clear hb2); (try clear hi)) | ((with_reducible refine gate_callee (f := 44) rfl ?_); refine goesL_ (some 12) rfl rfl Try.func44 (by kernel_rfl) rfl #[.pointer (some ⟨g218, 0, none⟩), .int .i64 6] rfl xm ?_; (with_reducible refine (spec_l2Draw.calls k g218 t215 t216 t217 6 t219 t222 t223 w _ ?side1 ?side2 A4.out).mono ?_); (case side1 => exact xt59 HI218.out); (case side2 => exact xs HB.out (IsS59.ge HI218.out)); rintro e w41 ⟨v220, rfl, ho0, hi, hb, hk⟩; refine ⟨_, rfl, ?_⟩; have HO221 := ax (Kd.R_lower ho0 (below_size (xs HB.out (IsS59.ge HI218.out)))); replace HB := ax (hb); replace HI218 := ax (hi); (try clear hb); (try clear hk); (try clear hi); (try clear ho0); obtain ⟨Ao42, co42, eo42⟩ := Kd.R_slice HO221.out; subst eo42) | ((with_reducible refine gate_callee (f := 45) rfl ?_); refine goesL_ (some 16) rfl rfl Try.func45 (by kernel_rfl) rfl #[.pointer (some ⟨g218, 0, none⟩), .slice Ao42 t219.length co42, .bool a1] rfl xm ?_; (with_reducible refine (spec_l27Make.calls k g218 t215 t222 t223 _ _ t219 a1 t224 t227 t228 w _ ?side1 ?side2 ?side3 ?side4 ?side5 A5.out).mono ?_); (case side1 => exact xt59 HI218.out); (case side2 => exact xs HB.out (IsS59.ge HI218.out)); (case side3 => exact xc (Kd.R_reads' HO221.out).2.2); (case side4 => exact (Kd.R_reads' HO221.out).2.1); (case side5 => exact far_slice (IsS59.own_ne HI218.out HO221.out (by decide))); rintro e w43 ⟨v225, rfl, ho0, hi, hb, hk⟩; refine ⟨_, rfl, ?_⟩; have HO226 := ax (Kd.S_lower (Kd.S_new' ho0 (Kd.R_lt (xR HO221.out))) (below_size (xs HB.out (IsS59.ge HI218.out)))); replace HO221 := ax (Kd.R_mono (Kd.R_keep (IsS59.apart (show IsS59 w _ g218 t215 t222 t223 from xt59 HI218.out) (xR HO221.out) (by decide)) hk (fun _ h => h.2)) (fun _ h => h.1)); replace HB := ax (hb); replace HI218 := ax (hi); (try clear hb); (try clear hk); (try clear hi); (try clear ho0)) | ((with_reducible refine gate_callee (f := 46) rfl ?_); refine goesL_ (some 18) rfl rfl Try.func46 (by kernel_rfl) rfl #[.pointer (some ⟨g218, 0, none⟩), .int .i64 12] rfl xm ?_; (with_reducible refine (spec_l1Below.calls g218 t215 t227 t228 12 t229 t230 t231 w _ ?side1 ?side2 A6.out).mono ?_); (case side1 => exact xt59 HI218.out); (case side2 => exact xs HB.out (IsS59.ge HI218.out)); rintro e w44 ⟨rfl, hi, hb, hk⟩; refine ⟨_, rfl, ?_⟩; replace HO221 := ax (Kd.R_mono (Kd.R_keep (IsS59.apart (show IsS59 w _ g218 t215 t227 t228 from xt59 HI218.out) (xR HO221.out) (by decide)) hk (fun _ h => h.2)) (fun _ h => h.1)); replace HO226 := ax (Kd.S_mono (Kd.S_keep (IsS59.apartS (show IsS59 w _ g218 t215 t227 t228 from xt59 HI218.out) (xS HO226.out) (by decide)) hk (fun _ h => h.2)) (fun _ h => h.1)); replace HB := ax (hb); replace HI218 := ax (hi); (try clear hb); (try clear hk); (try clear hi)))
   go_ret2
   exact ⟨_, _, xe, xR HO221.out, by (with_reducible repeat (first | apply Kd.S_alloc | apply Kd.S_drewN | apply Kd.S_drew)); exact Kd.S_mono HO226.out (fun _ hk => hk.2), xs HB.out (IsS59.ge HI218.out)⟩

/-! ### spec_DrawHooksOfReverse: function 5 -/
def spec_DrawHooksOfReverse.f (k : Nat) (l0 : List Int) : Option (List Int × (List (List Int))) := (spec_l27Case.f k l0 true).bind fun bt247 => (some (bt247.1, bt247.2))
theorem spec_DrawHooksOfReverse.mono : ∀ a0 k, LeO (spec_DrawHooksOfReverse.f k a0) (spec_DrawHooksOfReverse.f (k + 1) a0) := by
 intro a0 k
 unfold spec_DrawHooksOfReverse.f
 repeat' with_reducible first | exact spec_l27Case.mono _ _ _ | exact xl | refine LeO.ite ?_ ?_ | refine LeO.bind ?_ fun _ => ?_
theorem spec_DrawHooksOfReverse.calls (k : Nat) (A0 : Option Addr) (c0 : Nat) (l0 : List Int) (r1 : List Int) (r2 : List (List Int)) (w : World) (hr0 : Kd.C (Kd.int .u8) w A0 l0.length l0) (hc0 : l0.length ≤ c0) (h : spec_DrawHooksOfReverse.f k l0 = some (r1, r2)) :
  Calls Try.prog 5 #[.slice A0 l0.length c0] w fun e w' => ∃ v0_ v1_ : Value, e = .returned (.tuple #[v0_, v1_]) ∧ Kd.R (Kd.int .i64) 3 w' w.heap.size (fun _ => True) v0_ r1 ∧ Kd.S (Kd.slice 3 (Kd.int .i64)) 24 w' w.heap.size (fun k_ => some k_ ≠ (v0_ : Value).ownBlock) v1_ r2 ∧ Below w.heap.size w w' := by
 have HR0 := ax hr0
 have HC0 := ax hc0
 clear hr0 hc0
 have HB := ax (Below.refl w.heap.size w)
 have H : ((spec_l27Case.f k l0 true).bind fun bt247 => (some (bt247.1, bt247.2))) = some (r1, r2) := h
 clear h
 obtain ⟨⟨t247, t248⟩, A2, H⟩ := xI H
 dsimp only at H
 simp only [Option.some.injEq, Prod.mk.injEq] at H
 obtain ⟨rfl, rfl⟩ := H
 go_enter Try.func5, Try.ntmps5
 go_wp2_with (first | ((with_reducible refine gate_callee (f := 21) rfl ?_); refine goesL_ (some 8) rfl rfl Try.func21 (by kernel_rfl) rfl #[.slice A0 l0.length c0, .bool true] rfl xm ?_; (with_reducible refine (spec_l27Case.calls k _ _ l0 true t247 t248 _ ?side1 ?side2 A2.out).mono ?_); (case side1 => exact xc HR0.out); (case side2 => exact HC0.out); rintro e w3 ⟨v249, v251, rfl, ho0, ho1, hb⟩; refine ⟨_, rfl, ?_⟩; have HO250 := ax (Kd.R_lower ho0 (below_size (xb HB.out))); have HO252 := ax (Kd.S_lower ho1 (below_size (xb HB.out))); replace HB := yB HB hb; (try clear hb); (try clear ho0); (try clear ho1)))
 go_ret2
 exact ⟨_, _, xe, xR HO250.out, xS HO252.out, xb HB.out⟩

/-! ### impl_within: function 39 -/
def impl_within.f (a0 : Int) (a1 : Int) (a2 : Int) : Option (Bool) := if a1 ≤ a0 then (some (decide (a0 ≤ a2))) else (some false)
theorem impl_within.calls (a0 : Int) (a1 : Int) (a2 : Int) (r : Bool) (w : World) (h : impl_within.f a0 a1 a2 = some r) :
  Calls Try.prog 39 #[.int .i64 a0, .int .i64 a1, .int .i64 a2] w fun e w' => e = .returned (.bool r) ∧ Drawn0 w w' := by
 have H : (if a1 ≤ a0 then (some (decide (a0 ≤ a2))) else (some false)) = some r := h
 clear h
 by_cases c4 : a1 ≤ a0
 ·rw [if_pos c4] at H
  have c4b0 := decide_eq_true c4
  clear c4
  obtain rfl := Option.some.inj H
  go_enter Try.func39, Try.ntmps39
  go_wp2
  go_ret
  exact ⟨by first | rfl | (simp; done) | (simp [*]; done), by repeat (first | exact Drawn0.refl _ | apply Drawn0.step)⟩
 ·rw [if_neg c4] at H
  have c4b0 := decide_eq_false c4
  clear c4
  obtain rfl := Option.some.inj H
  go_enter Try.func39, Try.ntmps39
  go_wp2
  go_ret
  exact ⟨by first | rfl | (simp; done) | (simp [*]; done), by repeat (first | exact Drawn0.refl _ | apply Drawn0.step)⟩

/-! ### impl_IsPartition: function 36 -/
mutual
def impl_IsPartition.l0 : Nat → List Int → Int → List Int → Int → Int → Option (Bool)
 | 0, _, _, _, _, _ => none
 | k + 1, x0, x3, x6, x7, x8 => if x8 < x7 then (if 0 ≤ x8 then (if x8 < (x6.length : Int) then ((impl_within.f (rd x6 x8) 1 9).bind fun t254 => (if t254 = true then (if x8 > 0 then (if 0 ≤ (wrap64 (x8 - 1)) then (if (wrap64 (x8 - 1)) < (x0.length : Int) then (impl_IsPartition.j1 k x0 x3 (rd x6 x8) x6 x7 x8 (decide ((rd x6 x8) > (rd x0 (wrap64 (x8 - 1)))))) else (none)) else (none)) else (impl_IsPartition.j1 k x0 x3 (rd x6 x8) x6 x7 x8 false)) else (impl_IsPartition.j1 k x0 x3 (rd x6 x8) x6 x7 x8 true))) else (none)) else (none)) else (some true)
def impl_IsPartition.j1 : Nat → List Int → Int → Int → List Int → Int → Int → Bool → Option (Bool)
 | 0, _, _, _, _, _, _, _ => none
 | k + 1, x0, x3, x5, x6, x7, x8, x28 => if x28 = true then (some false) else (if (wrap64 (x3 + x5)) > 9 then (some false) else (impl_IsPartition.l0 k x0 (wrap64 (x3 + x5)) x6 x7 (wrap64 (x8 + 1))))
end
def impl_IsPartition.f (k : Nat) (l0 : List Int) : Option (Bool) := impl_IsPartition.l0 k l0 0 l0 (l0.length : Int) 0
theorem impl_IsPartition.mono_l : ∀ k, (∀ y0 y1 y2 y3 y4, LeO (impl_IsPartition.l0 k y0 y1 y2 y3 y4) (impl_IsPartition.l0 (k + 1) y0 y1 y2 y3 y4)) ∧ (∀ y0 y1 y2 y3 y4 y5 y6, LeO (impl_IsPartition.j1 k y0 y1 y2 y3 y4 y5 y6) (impl_IsPartition.j1 (k + 1) y0 y1 y2 y3 y4 y5 y6))
 | 0 => ⟨fun _ _ _ _ _ r h => by simp [impl_IsPartition.l0] at h, fun _ _ _ _ _ _ _ r h => by simp [impl_IsPartition.j1] at h⟩
 | k + 1 => by
  obtain ⟨ih0, ih1⟩ := impl_IsPartition.mono_l k
  refine ⟨?_, ?_⟩
  ·intro y0 y1 y2 y3 y4
   unfold impl_IsPartition.l0
   repeat' with_reducible first | exact ih0 _ _ _ _ _ | exact ih1 _ _ _ _ _ _ _ | exact xl | refine LeO.ite ?_ ?_ | refine LeO.bind ?_ fun _ => ?_
  ·intro y0 y1 y2 y3 y4 y5 y6
   unfold impl_IsPartition.j1
   repeat' with_reducible first | exact ih0 _ _ _ _ _ | exact ih1 _ _ _ _ _ _ _ | exact xl | refine LeO.ite ?_ ?_ | refine LeO.bind ?_ fun _ => ?_
theorem impl_IsPartition.mono : ∀ a0 k, LeO (impl_IsPartition.f k a0) (impl_IsPartition.f (k + 1) a0) := by
 intro a0 k
 obtain ⟨ih0, ih1⟩ := impl_IsPartition.mono_l k
 unfold impl_IsPartition.f
 repeat' with_reducible first | exact ih0 _ _ _ _ _ | exact ih1 _ _ _ _ _ _ _ | exact xl | refine LeO.ite ?_ ?_ | refine LeO.bind ?_ fun _ => ?_
theorem impl_IsPartition.calls (k : Nat) (A0 : Option Addr) (c0 : Nat) (l0 : List Int) (r : Bool) (w : World) (hr0 : Kd.C (Kd.int .i64) w A0 l0.length l0) (hc0 : l0.length ≤ c0) (h : impl_IsPartition.f k l0 = some r) :
  Calls Try.prog 36 #[.slice A0 l0.length c0] w fun e w' => e = .returned (.bool r) ∧ Drawn0 w w' := by
 have HR0 := ax hr0
 have HC0 := ax hc0
 clear hr0 hc0
 have H : (impl_IsPartition.l0 k l0 0 l0 (l0.length : Int) 0) = some r := h
 clear h
 have H' := ax H
 clear H
 go_enter Try.func36, Try.ntmps36
 go_wp2
 go_loopg [3, 8] k (fun kq v3 v8 w' => ∃ (x3_1 : Int) (x8_1 : Int), v3 = .int .i64 x3_1 ∧ v8 = .int .i64 x8_1 ∧ Aside0 (impl_IsPartition.l0 kq l0 x3_1 l0 (l0.length : Int) x8_1 = some r) ∧ Aside0 (kq ≤ k) ∧ Drawn0 w w')
 case atStart => exact ⟨(0), (0), xr, xr, H', ⟨Nat.le_refl _⟩, by repeat (first | exact Drawn0.refl _ | apply Drawn0.step)⟩
 case round =>
  clear H'
  obtain ⟨x3_1, x8_1, rfl, rfl, HA, HK1, ⟨m1, rfl⟩⟩ := hrel
  cases gk with
  | zero => exact absurd HA.out (by simp [impl_IsPartition.l0])
  | succ k1 =>
   have H := HA.out
   clear HA
   simp only [impl_IsPartition.l0] at H
   by_cases c2 : x8_1 < (l0.length : Int)
   ·rw [if_pos c2] at H
    have c2b0 := decide_eq_true c2
    clear c2
    obtain ⟨c3b0, H⟩ := xq H
    obtain ⟨c4b0, H⟩ := xq H
    have HC5 := ax H
    clear H
    have p253 : 0 ≤ (x8_1 : Int) := xd
    have q253 : x8_1 < (l0.length : Int) := xd
    obtain ⟨ad253, e253, hx253_0⟩ := Kd.at_int HR0.out x8_1 p253 q253
    cases e253
    replace p253 := eq_true p253
    replace q253 := eq_true q253
    go_upto_region 5 with (fail)
    go_cut [28] (fun v28 wc => ∃ (kq : Nat) (x28_4 : Bool), v28 = .bool x28_4 ∧ Aside0 (impl_IsPartition.j1 kq l0 x3_1 (rd l0 x8_1) l0 (l0.length : Int) x8_1 x28_4 = some r) ∧ Aside0 (kq ≤ k1) ∧ Drawn0 w wc)
    case first =>
     have H := HC5.out
     clear HC5
     obtain ⟨t254, A6, H⟩ := xI H
     by_cases c7 : t254 = true
     ·subst c7
      rw [if_pos rfl] at H
      by_cases c8 : x8_1 > 0
      ·rw [if_pos c8] at H
       have c8b0 : decide (0 < x8_1) = true := decide_eq_true c8
       clear c8
       (first | rw [c8b0] | (simp only [i64_w, i32_w]; rw [c8b0]) | skip)
       obtain ⟨ji9, hji9⟩ : ∃ j_ : Int, (wrap64 (x8_1 - 1)) = j_ := ⟨_, rfl⟩
       replace H : (if 0 ≤ (ji9) then (if (ji9) < (l0.length : Int) then (impl_IsPartition.j1 k1 l0 x3_1 (rd l0 x8_1) l0 (l0.length : Int) x8_1 (decide ((rd l0 x8_1) > (rd l0 (ji9))))) else (none)) else (none)) = some r := by first | (rw [hji9] at H; exact H) | (simp only [hji9] at H ⊢; exact H)
       (try rw [hji9] at A6)
       have hji9w : (IntKind.i64.wrap (x8_1 - 1)) = ji9 := (i64_w _).trans hji9
       obtain ⟨c10b0, H⟩ := xq H
       obtain ⟨c11b0, H⟩ := xq H
       have H' := ax H
       clear H
       go_wp2_with (first | ((with_reducible refine gate_callee (f := 39) rfl ?_); refine goesL_ (some 14) rfl rfl Try.func39 (by kernel_rfl) rfl #[.int .i64 (rd l0 x8_1), .int .i64 1, .int .i64 9] rfl xm ?_; (with_reducible refine (impl_within.calls (rd l0 x8_1) 1 9 true _ A6.out).mono ?_); rintro e w' ⟨rfl, ⟨nd, rfl⟩⟩; refine ⟨_, rfl, ?_⟩; have p255 : 0 ≤ ((ji9) : Int) := xd; have q255 : (ji9) < (l0.length : Int) := xd; obtain ⟨ad255, e255, hx255_0⟩ := Kd.at_int HR0.out (ji9) p255 q255; obtain rfl : ad253 = ad255 := (by injection e255); replace p255 := eq_true p255; replace q255 := eq_true q255))
       go_meet
       case rel => exact ⟨_, (decide ((rd l0 x8_1) > (rd l0 (ji9)))), (by first | rfl | (simp; done) | (simp only [← hji9] <;> (first | rfl | simp)) | (simp [*]; done)), H', ⟨by have := HK1.out; first | omega | exact Nat.le_refl _⟩, by repeat (first | exact Drawn0.refl _ | apply Drawn0.step)⟩
      ·rw [if_neg c8] at H
       have c8b0 : decide (0 < x8_1) = false := decide_eq_false c8
       clear c8
       (first | rw [c8b0] | (simp only [i64_w, i32_w]; rw [c8b0]) | skip)
       have H' := ax H
       clear H
       go_wp2_with (first | ((with_reducible refine gate_callee (f := 39) rfl ?_); refine goesL_ (some 14) rfl rfl Try.func39 (by kernel_rfl) rfl #[.int .i64 (rd l0 x8_1), .int .i64 1, .int .i64 9] rfl xm ?_; (with_reducible refine (impl_within.calls (rd l0 x8_1) 1 9 true _ A6.out).mono ?_); rintro e w' ⟨rfl, ⟨nd, rfl⟩⟩; refine ⟨_, rfl, ?_⟩))
       go_meet
       case rel => exact ⟨_, (false), xr, H', ⟨by have := HK1.out; first | omega | exact Nat.le_refl _⟩, by repeat (first | exact Drawn0.refl _ | apply Drawn0.step)⟩
     ·replace c7 := Bool.eq_false_iff.mpr c7
      subst c7
      rw [if_neg (show ¬ (false = true) by decide)] at H
      have H' := ax H
      clear H
      go_wp2_with (first | ((with_reducible refine gate_callee (f := 39) rfl ?_); refine goesL_ (some 14) rfl rfl Try.func39 (by kernel_rfl) rfl #[.int .i64 (rd l0 x8_1), .int .i64 1, .int .i64 9] rfl xm ?_; (with_reducible refine (impl_within.calls (rd l0 x8_1) 1 9 false _ A6.out).mono ?_); rintro e w' ⟨rfl, ⟨nd, rfl⟩⟩; refine ⟨_, rfl, ?_⟩))
      go_meet
      case rel => exact ⟨_, (true), xr, H', ⟨by have := HK1.out; first | omega | exact Nat.le_refl _⟩, by repeat (first | exact Drawn0.refl _ | apply Drawn0.step)⟩
    case rest =>
     clear HC5
     (try clear c2); (try clear c2b0); (try clear c3); (try clear c3b0); (try clear c4); (try clear c4b0); (try clear c7); (try clear c8); (try clear c8b0); (try clear c10); (try clear c10b0); (try clear c11); (try clear c11b0); (try clear hx253_0); (try clear hx255_0); (try clear p253); (try clear p255); (try clear q253); (try clear q255)
     obtain ⟨kq, x28_4, rfl, HA, HJ4, ⟨mc4, rfl⟩⟩ := hcut
     cases kq with
     | zero => exact absurd HA.out (by simp [impl_IsPartition.j1])
     | succ kj4 =>
      have H := HA.out
      clear HA
      simp only [impl_IsPartition.j1] at H
      by_cases c12 : x28_4 = true
      ·subst c12
       rw [if_pos rfl] at H
       obtain rfl := Option.some.inj H
       go_wp2
       go_ret
       exact ⟨by first | rfl | (simp; done) | (simp [*]; done), by repeat (first | exact Drawn0.refl _ | apply Drawn0.step)⟩
      ·replace c12 := Bool.eq_false_iff.mpr c12
       subst c12
       rw [if_neg (show ¬ (false = true) by decide)] at H
       by_cases c13 : (wrap64 (x3_1 + (rd l0 x8_1))) > 9
       ·rw [if_pos c13] at H
        have c13b0 : decide (9 < (wrap64 (x3_1 + (rd l0 x8_1)))) = true := decide_eq_true c13
        clear c13
        obtain rfl := Option.some.inj H
        go_wp2
        go_ret
        exact ⟨by first | rfl | (simp; done) | (simp [*]; done), by repeat (first | exact Drawn0.refl _ | apply Drawn0.step)⟩
       ·rw [if_neg c13] at H
        have c13b0 : decide (9 < (wrap64 (x3_1 + (rd l0 x8_1)))) = false := decide_eq_false c13
        clear c13
        have H' := ax H
        clear H
        go_wp2
        go_roundg kj4
        case measure => have := HK1.out; have := HJ4.out; omega
        case rel => exact ⟨(wrap64 (x3_1 + (rd l0 x8_1))), (wrap64 (x8_1 + 1)), xr, xr, H', ⟨by have := HK1.out; have := HJ4.out; omega⟩, by repeat (first | exact Drawn0.refl _ | apply Drawn0.step)⟩
   ·rw [if_neg c2] at H
    have c2b0 := decide_eq_false c2
    clear c2
    obtain rfl := Option.some.inj H
    go_wp2
    go_ret
    exact ⟨by first | rfl | (simp; done) | (simp [*]; done), by repeat (first | exact Drawn0.refl _ | apply Drawn0.step)⟩

-- NOT PRINTED: function 51 (slices_IndexFunc_int_int)

-- NOT PRINTED: function 37 (slices_ContainsFunc_int_int)

/-! ### impl_IsFilling_1: function 38 -/
def impl_IsFilling_1.f (a0 : Int) : Option (Bool) := (impl_within.f a0 0 9).bind fun t256 => (some (!t256))
theorem impl_IsFilling_1.calls (a0 : Int) (r : Bool) (w : World) (h : impl_IsFilling_1.f a0 = some r) :
  Calls Try.prog 38 #[.int .i64 a0] w fun e w' => e = .returned (.bool r) ∧ Drawn0 w w' := by
 have H : ((impl_within.f a0 0 9).bind fun t256 => (some (!t256))) = some r := h
 clear h
 obtain ⟨t256, A2, H⟩ := xI H
 obtain rfl := Option.some.inj H
 go_enter Try.func38, Try.ntmps38
 go_wp2_with (first | ((with_reducible refine gate_callee (f := 39) rfl ?_); refine goesL_ (some 4) rfl rfl Try.func39 (by kernel_rfl) rfl #[.int .i64 a0, .int .i64 0, .int .i64 9] rfl xm ?_; (with_reducible refine (impl_within.calls a0 0 9 t256 _ A2.out).mono ?_); rintro e w' ⟨rfl, ⟨nd, rfl⟩⟩; refine ⟨_, rfl, ?_⟩))
 go_ret
 exact ⟨by first | rfl | (simp; done) | (simp [*]; done), by repeat (first | exact Drawn0.refl _ | apply Drawn0.step)⟩

/-! ### slices_IndexFunc_int_int__impl_IsFilling_1: function 81 -/
def slices_IndexFunc_int_int__impl_IsFilling_1.l0 : Nat → List Int → Int → Int → Option (Int)
 | 0, _, _, _ => none
 | k + 1, x0, x7, x8 => if x8 < x7 then (if 0 ≤ x8 then (if x8 < (x0.length : Int) then ((impl_IsFilling_1.f (rd x0 x8)).bind fun t258 => (if t258 = true then (some x8) else (slices_IndexFunc_int_int__impl_IsFilling_1.l0 k x0 x7 (wrap64 (x8 + 1))))) else (none)) else (none)) else (some (-1))
def slices_IndexFunc_int_int__impl_IsFilling_1.f (k : Nat) (l0 : List Int)  : Option (Int) := slices_IndexFunc_int_int__impl_IsFilling_1.l0 k l0 (l0.length : Int) 0
theorem slices_IndexFunc_int_int__impl_IsFilling_1.mono_l : ∀ k, (∀ y0 y1 y2, LeO (slices_IndexFunc_int_int__impl_IsFilling_1.l0 k y0 y1 y2) (slices_IndexFunc_int_int__impl_IsFilling_1.l0 (k + 1) y0 y1 y2))
 | 0 => fun _ _ _ r h => by simp [slices_IndexFunc_int_int__impl_IsFilling_1.l0] at h
 | k + 1 => by
  have ih0 := slices_IndexFunc_int_int__impl_IsFilling_1.mono_l k
  ·intro y0 y1 y2
   unfold slices_IndexFunc_int_int__impl_IsFilling_1.l0
   repeat' with_reducible first | exact ih0 _ _ _ | exact xl | refine LeO.ite ?_ ?_ | refine LeO.bind ?_ fun _ => ?_
theorem slices_IndexFunc_int_int__impl_IsFilling_1.mono : ∀ a0 k, LeO (slices_IndexFunc_int_int__impl_IsFilling_1.f k a0) (slices_IndexFunc_int_int__impl_IsFilling_1.f (k + 1) a0) := by
 intro a0 k
 have ih0 := slices_IndexFunc_int_int__impl_IsFilling_1.mono_l k
 unfold slices_IndexFunc_int_int__impl_IsFilling_1.f
 repeat' with_reducible first | exact ih0 _ _ _ | exact xl | refine LeO.ite ?_ ?_ | refine LeO.bind ?_ fun _ => ?_
theorem slices_IndexFunc_int_int__impl_IsFilling_1.calls (k : Nat) (A0 : Option Addr) (c0 : Nat) (l0 : List Int)  (r : Int) (w : World) (hr0 : Kd.C (Kd.int .i64) w A0 l0.length l0) (hc0 : l0.length ≤ c0) (h : slices_IndexFunc_int_int__impl_IsFilling_1.f k l0 = some r) :
  Calls Try.prog 51 #[.slice A0 l0.length c0, .func (.func 38) #[] #[]] w fun e w' => e = .returned (.int .i64 r) ∧ Drawn0 w w' := by
 have HR0 := ax hr0
 have HC0 := ax hc0
 clear hr0 hc0
 have H : (slices_IndexFunc_int_int__impl_IsFilling_1.l0 k l0 (l0.length : Int) 0) = some r := h
 clear h
 have H' := ax H
 clear H
 go_enter Try.func51, Try.ntmps51
 go_wp2
 go_loopg [8] k (fun kq v8 w' => ∃ (x8_1 : Int), v8 = .int .i64 x8_1 ∧ Aside0 (slices_IndexFunc_int_int__impl_IsFilling_1.l0 kq l0 (l0.length : Int) x8_1 = some r) ∧ Aside0 (kq ≤ k) ∧ Drawn0 w w')
 case atStart => exact ⟨(0), xr, H', ⟨Nat.le_refl _⟩, by repeat (first | exact Drawn0.refl _ | apply Drawn0.step)⟩
 case round =>
  clear H'
  obtain ⟨x8_1, rfl, HA, HK1, ⟨m1, rfl⟩⟩ := hrel
  cases gk with
  | zero => exact absurd HA.out (by simp [slices_IndexFunc_int_int__impl_IsFilling_1.l0])
  | succ k1 =>
   have H := HA.out
   clear HA
   simp only [slices_IndexFunc_int_int__impl_IsFilling_1.l0] at H
   by_cases c3 : x8_1 < (l0.length : Int)
   ·rw [if_pos c3] at H
    have c3b0 := decide_eq_true c3
    clear c3
    obtain ⟨c4b0, H⟩ := xq H
    obtain ⟨c5b0, H⟩ := xq H
    obtain ⟨t258, A6, H⟩ := xI H
    by_cases c7 : t258 = true
    ·subst c7
     rw [if_pos rfl] at H
     obtain rfl := Option.some.inj H
     have p257 : 0 ≤ (x8_1 : Int) := xd
     have q257 : x8_1 < (l0.length : Int) := xd
     obtain ⟨ad257, e257, hx257_0⟩ := Kd.at_int HR0.out x8_1 p257 q257
     cases e257
     replace p257 := eq_true p257
     replace q257 := eq_true q257
     go_wp2_with (first | (go_at_call 38; (with_reducible refine (impl_IsFilling_1.calls (rd l0 x8_1) true _ A6.out).mono ?_); rintro e w' ⟨rfl, ⟨nd, rfl⟩⟩))
     go_ret
     exact ⟨by first | rfl | (simp; done) | (simp [*]; done), by repeat (first | exact Drawn0.refl _ | apply Drawn0.step)⟩
    ·replace c7 := Bool.eq_false_iff.mpr c7
     subst c7
     rw [if_neg (show ¬ (false = true) by decide)] at H
     have H' := ax H
     clear H
     have p257 : 0 ≤ (x8_1 : Int) := xd
     have q257 : x8_1 < (l0.length : Int) := xd
     obtain ⟨ad257, e257, hx257_0⟩ := Kd.at_int HR0.out x8_1 p257 q257
     cases e257
     replace p257 := eq_true p257
     replace q257 := eq_true q257
     go_wp2_with (first | (go_at_call 38; (with_reducible refine (impl_IsFilling_1.calls (rd l0 x8_1) false _ A6.out).mono ?_); rintro e w' ⟨rfl, ⟨nd, rfl⟩⟩))
     go_roundg k1
     case measure => have := HK1.out; omega
     case rel => exact ⟨(wrap64 (x8_1 + 1)), xr, H', ⟨by have := HK1.out; omega⟩, by repeat (first | exact Drawn0.refl _ | apply Drawn0.step)⟩
   ·rw [if_neg c3] at H
    have c3b0 := decide_eq_false c3
    clear c3
    obtain rfl := Option.some.inj H
    go_wp2
    go_ret
    exact ⟨by first | rfl | (simp; done) | (simp [*]; done), by repeat (first | exact Drawn0.refl _ | apply Drawn0.step)⟩

end Go.Proofs.Ytnfcdaojglicfab.PFnFillings
