import Derived.Test.YtneipehcmmigeaaPFnExactSchurPolyx17
namespace Go.Proofs.Ytneipehcmmigeaa.PFnExactSchurPoly
open Go.RowKit Go.Proofs.YtneipehcmmigeaaW.PrintWords Go.Proofs.YtneipehcmmigeaaW.PrintLast Go.Proofs.YtneipehcmmigeaaW.PrintMore
set_option linter.unusedVariables false
set_option linter.unusedSimpArgs false
set_option maxHeartbeats 8000000
set_option maxRecDepth 100000
/-! ### zap: function 6 -/
mutual
def zap.j0 : Nat → Int → Bool → Bool → Bool → List Int → List Int → Int → List (S48) → List Int → List Int → Int → List (S48) → Option (Bool)
 | 0, _, _, _, _, _, _, _, _, _, _, _, _ => none
 | k + 1, x1, x7, x10, x44, x1006, x1007, x1008, x1003, x1000, x1001, x1004, x1002 => if x44 = true then (some false) else ((zbp.f k x1006 x1007).bind fun bt439 => ((zbM.f k x1000 x1001 bt439.1 bt439.2).bind fun t445 => (if t445 = true then ((zbG.f k x1000 x1001 1).bind fun bt446 => (if bt446.1 < 0 then (zap.j1 k x1 x7 true x1006 x1007 x1008 x1003 x1004 x1002) else ((zbB.f k x1004 x1002 x1008 x1003).bind fun t449 => (if t449 = true then (zap.j1 k x1 x7 (x10 != x7) x1006 x1007 x1008 x1003 x1004 x1002) else (zap.j1 k x1 x7 true x1006 x1007 x1008 x1003 x1004 x1002))))) else (some false))))
def zap.j1 : Nat → Int → Bool → Bool → List Int → List Int → Int → List (S48) → Int → List (S48) → Option (Bool)
 | 0, _, _, _, _, _, _, _, _, _ => none
 | k + 1, x1, x7, x65, x1006, x1007, x1008, x1003, x1004, x1002 => if x65 = true then (some false) else ((zbE.f k x1004 x1002 1).bind fun bt450 => ((zbs.f k x1004 bt450.2 1).bind fun t452 => (if t452 < 0 then (some false) else (if t452 = bt450.1 then ((zbp.f k x1006 x1007).bind fun bt453 => ((zaN.f k bt453.1 bt453.2 x1).bind fun bt459 => ((zbB.f k bt459.1 bt459.2.1 x1008 x1003).bind fun t465 => (if t465 = true then (zap.j2 k bt450.1 (bt459.2.2 != x7) x1004 bt450.2) else (zap.j2 k bt450.1 true x1004 bt450.2))))) else (some false)))))
def zap.j2 : Nat → Int → Bool → Int → List (S48) → Option (Bool)
 | 0, _, _, _, _ => none
 | k + 1, x12, x92, x1004, x1002 => if x92 = true then (some false) else ((zbs.f k x1004 x1002 1).bind fun t466 => (if t466 < 0 then (some false) else (if t466 = x12 then (some true) else (some false))))
end
def zap.f (k : Nat) (l0_0 : List Int) (l0_1 : List Int) (a1 : Int) : Option (Bool) := (zcq.f l0_0 l0_1 1048576).bind fun t412 => (if t412 < 0 then (some true) else ((zbp.f k l0_0 l0_1).bind fun bt413 => ((zax.f k bt413.1 bt413.2 a1).bind fun bt419 => ((zbp.f k l0_0 l0_1).bind fun bt425 => ((zaN.f k bt425.1 bt425.2 a1).bind fun bt432 => ((zbB.f k bt432.1 bt432.2.1 bt419.1 bt419.2.1).bind fun t438 => (if t438 = true then (zap.j0 k a1 bt419.2.2 bt432.2.2 (bt432.2.2 != bt419.2.2) l0_0 l0_1 bt419.1 bt419.2.1 bt425.1 bt425.2 bt432.1 bt432.2.1) else (zap.j0 k a1 bt419.2.2 bt432.2.2 true l0_0 l0_1 bt419.1 bt419.2.1 bt425.1 bt425.2 bt432.1 bt432.2.1))))))))
theorem zap.zaZ : ∀ k, (∀ y0 y1 y2 y3 y4 y5 y6 y7 y8 y9 y10 y11, LeO (zap.j0 k y0 y1 y2 y3 y4 y5 y6 y7 y8 y9 y10 y11) (zap.j0 (k + 1) y0 y1 y2 y3 y4 y5 y6 y7 y8 y9 y10 y11)) ∧ (∀ y0 y1 y2 y3 y4 y5 y6 y7 y8, LeO (zap.j1 k y0 y1 y2 y3 y4 y5 y6 y7 y8) (zap.j1 (k + 1) y0 y1 y2 y3 y4 y5 y6 y7 y8)) ∧ (∀ y0 y1 y2 y3, LeO (zap.j2 k y0 y1 y2 y3) (zap.j2 (k + 1) y0 y1 y2 y3))
 | 0 => ⟨fun _ _ _ _ _ _ _ _ _ _ _ _ r h => by simp [zap.j0] at h, fun _ _ _ _ _ _ _ _ _ r h => by simp [zap.j1] at h, fun _ _ _ _ r h => by simp [zap.j2] at h⟩
 | k + 1 => by
  obtain ⟨ih0, ih1, ih2⟩ := zap.zaZ k
  refine ⟨?_, ?_, ?_⟩ <;> intros <;> (first | unfold zap.j0 | unfold zap.j1 | unfold zap.j2) <;> repeat' with_reducible first | exact ih0 _ _ _ _ _ _ _ _ _ _ _ _ | exact ih1 _ _ _ _ _ _ _ _ _ | exact ih2 _ _ _ _ | exact zaN.mono _ _ _ _ | exact zbB.mono _ _ _ _ _ | exact zbM.mono _ _ _ _ _ | exact zbs.mono _ _ _ _ | exact zbE.mono _ _ _ _ | exact zbG.mono _ _ _ _ | exact zbp.mono _ _ _ | exact zax.mono _ _ _ _ | exact xl | refine LeO.ite ?_ ?_ | refine LeO.bind ?_ fun _ => ?_
theorem zap.mono : ∀ a0 a1 a2 k, LeO (zap.f k a0 a1 a2) (zap.f (k + 1) a0 a1 a2) := by
 intro a0 a1 a2 k
 obtain ⟨ih0, ih1, ih2⟩ := zap.zaZ k
 unfold zap.f
 repeat' with_reducible first | exact ih0 _ _ _ _ _ _ _ _ _ _ _ _ | exact ih1 _ _ _ _ _ _ _ _ _ | exact ih2 _ _ _ _ | exact zaN.mono _ _ _ _ | exact zbB.mono _ _ _ _ _ | exact zbM.mono _ _ _ _ _ | exact zbs.mono _ _ _ _ | exact zbE.mono _ _ _ _ | exact zbG.mono _ _ _ _ | exact zbp.mono _ _ _ | exact zax.mono _ _ _ _ | exact xl | refine LeO.ite ?_ ?_ | refine LeO.bind ?_ fun _ => ?_
theorem zap.calls (k : Nat) (A0_0 : Option Addr) (c0_0 : Nat) (l0_0 : List Int) (A0_1 : Option Addr) (c0_1 : Nat) (l0_1 : List Int) (a1 : Int) (r : Bool) (w : World) (hr0_0 : Kd.C (Kd.int .i64) w A0_0 l0_0.length l0_0) (hc0_0 : l0_0.length ≤ c0_0) (hr0_1 : Kd.C (Kd.int .i64) w A0_1 l0_1.length l0_1) (hc0_1 : l0_1.length ≤ c0_1) (h : zap.f k l0_0 l0_1 a1 = some r) :
  Calls Try.prog 6 #[.agg #[.slice A0_0 l0_0.length c0_0, .slice A0_1 l0_1.length c0_1], .int .i64 a1] w fun e w' => e = .returned (.bool r) ∧ Below w.heap.size w w' := by
 have hu37 := Try.underlying37
 have hu28 := Try.underlying28
 have hu40 := Try.underlying40
 have HR0_0 := ax hr0_0
 have HC0_0 := ax hc0_0
 clear hr0_0 hc0_0
 have HR0_1 := ax hr0_1
 have HC0_1 := ax hc0_1
 clear hr0_1 hc0_1
 have HB := ax (Below.refl w.heap.size w)
 have H : ((zcq.f l0_0 l0_1 1048576).bind fun t412 => (if t412 < 0 then (some true) else ((zbp.f k l0_0 l0_1).bind fun bt413 => ((zax.f k bt413.1 bt413.2 a1).bind fun bt419 => ((zbp.f k l0_0 l0_1).bind fun bt425 => ((zaN.f k bt425.1 bt425.2 a1).bind fun bt432 => ((zbB.f k bt432.1 bt432.2.1 bt419.1 bt419.2.1).bind fun t438 => (if t438 = true then (zap.j0 k a1 bt419.2.2 bt432.2.2 (bt432.2.2 != bt419.2.2) l0_0 l0_1 bt419.1 bt419.2.1 bt425.1 bt425.2 bt432.1 bt432.2.1) else (zap.j0 k a1 bt419.2.2 bt432.2.2 true l0_0 l0_1 bt419.1 bt419.2.1 bt425.1 bt425.2 bt432.1 bt432.2.1))))))))) = some r := h
 clear h
 obtain ⟨t412, A3, H⟩ := xI H
 by_cases c4 : t412 < 0
 ·rw [if_pos c4] at H
  have c4b0 := decide_eq_true c4
  clear c4
  obtain rfl := Option.some.inj H
  go_enter Try.func6, Try.ntmps6
  go_wp2_with (first | ((with_reducible refine zaG (N := 2) rfl ?_); refine zaK ?hg (N := 2) ?hd (cs := #[.slice A0_0 l0_0.length c0_0, .slice A0_1 l0_1.length c0_1]) (t := 37) ?hr ?_; (case hd => rfl); (case hg => rfl); (case hr => first | (go_simp; done) | (go_simp; rfl)); intro gb411 hg w5 hbox hb; have BK411 := ax (hbox); have GW411 := ax ((by rw [hg]; exact (zaf (xb HB.out)) : w.heap.size ≤ gb411)); have GE411 := ax ((by rw [hg]; exact (zaf (xb HB.out)) : w.heap.size ≤ gb411)); replace HB := yB HB hb; clear hb hbox hg; have hcz6_0 := bc0 BK411.out; have hcz6_1 := bc1 BK411.out; have hfz6_0 := zae BK411.out 0; have hfz6_1 := zae BK411.out 1) | ((with_reducible refine zan (f := 14) rfl ?_); refine zaM (some 18) rfl rfl Try.func14 (by kernel_rfl) rfl #[.agg #[.slice A0_0 l0_0.length c0_0, .slice A0_1 l0_1.length c0_1], .int .i64 1048576] rfl xm ?_; (with_reducible refine (zcq.calls _ _ l0_0 _ _ l0_1 1048576 t412 _ ?side1 ?side2 ?side3 ?side4 A3.out).mono ?_); (case side1 => exact xz HR0_0.out HB.out); (case side2 => exact HC0_0.out); (case side3 => exact xz HR0_1.out HB.out); (case side4 => exact HC0_1.out); rintro e w7 ⟨rfl, hb⟩; refine ⟨_, rfl, ?_⟩; replace BK411 := ax (bb BK411.out hb); replace HB := ax (zat (xs HB.out GE411.out) hb); (try clear hb)))
  go_ret
  exact ⟨xe, xs HB.out GE411.out⟩
 ·rw [if_neg c4] at H
  have c4b0 := decide_eq_false c4
  clear c4
  obtain ⟨⟨t413, t416⟩, A8, H⟩ := xI H
  dsimp only at H
  obtain ⟨⟨t419, t420, t423⟩, A9, H⟩ := xI H
  dsimp only at H
  obtain ⟨⟨t425, t428⟩, A10, H⟩ := xI H
  dsimp only at H
  obtain ⟨⟨t432, t433, t436⟩, A11, H⟩ := xI H
  dsimp only at H
  have HC12 := ax H
  clear H
  go_enter Try.func6, Try.ntmps6
  go_upto_region 8 with (first | ((with_reducible refine zaG (N := 2) rfl ?_); refine zaK ?hg (N := 2) ?hd (cs := #[.slice A0_0 l0_0.length c0_0, .slice A0_1 l0_1.length c0_1]) (t := 37) ?hr ?_; (case hd => rfl); (case hg => rfl); (case hr => first | (go_simp; done) | (go_simp; rfl)); intro gb411 hg w13 hbox hb; have BK411 := ax (hbox); have GW411 := ax ((by rw [hg]; exact (zaf (xb HB.out)) : w.heap.size ≤ gb411)); have GE411 := ax ((by rw [hg]; exact (zaf (xb HB.out)) : w.heap.size ≤ gb411)); replace HB := yB HB hb; clear hb hbox hg; have hcz14_0 := bc0 BK411.out; have hcz14_1 := bc1 BK411.out; have hfz14_0 := zae BK411.out 0; have hfz14_1 := zae BK411.out 1) | ((with_reducible refine zan (f := 14) rfl ?_); refine zaM (some 18) rfl rfl Try.func14 (by kernel_rfl) rfl #[.agg #[.slice A0_0 l0_0.length c0_0, .slice A0_1 l0_1.length c0_1], .int .i64 1048576] rfl xm ?_; (with_reducible refine (zcq.calls _ _ l0_0 _ _ l0_1 1048576 t412 _ ?side1 ?side2 ?side3 ?side4 A3.out).mono ?_); (case side1 => exact xz HR0_0.out HB.out); (case side2 => exact HC0_0.out); (case side3 => exact xz HR0_1.out HB.out); (case side4 => exact HC0_1.out); rintro e w15 ⟨rfl, hb⟩; refine ⟨_, rfl, ?_⟩; replace BK411 := ax (bb BK411.out hb); replace HB := ax (zat (xs HB.out GE411.out) hb); (try clear hb); have hcz16_0 := bc0 BK411.out; have hcz16_1 := bc1 BK411.out; have hfz16_0 := zae BK411.out 0; have hfz16_1 := zae BK411.out 1) | ((with_reducible refine zan (f := 16) rfl ?_); refine zaM (some 23) rfl rfl Try.func16 (by kernel_rfl) rfl #[.agg #[.slice A0_0 l0_0.length c0_0, .slice A0_1 l0_1.length c0_1]] rfl xm ?_; (with_reducible refine (zbp.calls k _ _ l0_0 _ _ l0_1 t413 t416 _ ?side1 ?side2 ?side3 ?side4 A8.out).mono ?_); (case side1 => exact xz HR0_0.out HB.out); (case side2 => exact HC0_0.out); (case side3 => exact xz HR0_1.out HB.out); (case side4 => exact HC0_1.out); rintro e w17 ⟨v414, v417, rfl, ho0, ho1, hb⟩; refine ⟨_, rfl, ?_⟩; have HO415 := ax (Kd.zbL ho0 (zaf (xs HB.out GE411.out))); have HO418 := ax (Kd.zbL ho1 (zaf (xs HB.out GE411.out))); replace BK411 := ax (bb BK411.out hb); replace HB := ax (zat (xs HB.out GE411.out) hb); (try clear hb); (try clear ho0); (try clear ho1); obtain ⟨Ao18, co18, eo18⟩ := Kd.zbT HO415.out; subst eo18; obtain ⟨Ao19, co19, eo19⟩ := Kd.zbT HO418.out; subst eo19) | ((with_reducible refine zan (f := 21) rfl ?_); refine zaM (some 25) rfl rfl Try.func21 (by kernel_rfl) rfl #[.agg #[.slice Ao18 t413.length co18, .slice Ao19 t416.length co19], .int .i64 a1] rfl xm ?_; (with_reducible refine (zax.calls k _ _ t413 _ _ t416 a1 t419 t420 t423 _ ?side1 ?side2 ?side3 ?side4 A9.out).mono ?_); (case side1 => exact xc (Kd.zbi HO415.out).2.2); (case side2 => exact (Kd.zbi HO415.out).2.1); (case side3 => exact xc (Kd.zbi HO418.out).2.2); (case side4 => exact (Kd.zbi HO418.out).2.1); rintro e w20 ⟨v421, rfl, ho0, hb⟩; refine ⟨_, rfl, ?_⟩; have HO422 := ax (Kd.zcZ (Kd.zdg (Kd.zdg ho0 (Kd.R_lt (xR HO415.out))) (Kd.R_lt (xR HO418.out))) (zaf (xs HB.out GE411.out))); replace HO415 := yR HO415 hb; replace HO418 := yR HO418 hb; replace BK411 := ax (bb BK411.out hb); replace HB := ax (zat (xs HB.out GE411.out) hb); (try clear hb); (try clear ho0)) | ((with_reducible refine zaG (N := 6) rfl ?_); refine zaK ?hg (N := 6) ?hd (cs := #[.int .i64 0, .slice none 0 0]) (t := 28) ?hr ?_; (case hd => rfl); (case hg => rfl); (case hr => first | (go_simp; done) | (go_simp; rfl)); intro gb424 hg w21 hbox hb; replace HO415 := yR HO415 hb; replace HO418 := yR HO418 hb; replace HO422 := ax (Kd.zby (xS HO422.out) hb); have BK424 := ax (hbox); have GW424 := ax ((by rw [hg]; exact (zaf (xs HB.out GE411.out)) : w.heap.size ≤ gb424)); have GE424 := ax ((by rw [hg]; exact (zaf (xs HB.out GE411.out)) : w.heap.size ≤ gb424)); replace HB := ax (zat (xs HB.out GE411.out) hb); have NB411_424 := ax (bn hg BK411.out); have NB424_411 := ax (bm hg BK411.out); replace BK411 := ax (bb BK411.out hb); clear hb hbox hg; have hnb22 := NB424_411.out; have hnc22 := NB411_424.out; have hcz23_0 := bc0 BK424.out; have hcz23_1 := bc1 BK424.out; have hfz23_0 := zae BK424.out 0; have hfz23_1 := zae BK424.out 1; obtain ⟨Ao24, co24, eo24⟩ := Kd.zcY HO422.out; subst eo24; have hcz25_0 := bc0 BK411.out; have hcz25_1 := bc1 BK411.out; have hfz25_0 := zae BK411.out 0; have hfz25_1 := zae BK411.out 1) | ((with_reducible refine zan (f := 16) rfl ?_); refine zaM (some 29) rfl rfl Try.func16 (by kernel_rfl) rfl #[.agg #[.slice A0_0 l0_0.length c0_0, .slice A0_1 l0_1.length c0_1]] rfl xm ?_; (with_reducible refine (zbp.calls k _ _ l0_0 _ _ l0_1 t425 t428 _ ?side1 ?side2 ?side3 ?side4 A10.out).mono ?_); (case side1 => exact Kd.za8 HR0_0.out (bh HB.out)); (case side2 => exact HC0_0.out); (case side3 => exact Kd.za8 HR0_1.out (bh HB.out)); (case side4 => exact HC0_1.out); rintro e w26 ⟨v426, v429, rfl, ho0, ho1, hb⟩; refine ⟨_, rfl, ?_⟩; replace HO422 := ax (Kd.zbr (Kd.zdr (Kd.zdr (Kd.zgL (by (with_reducible repeat (first | apply Kd.zbk | apply Kd.zbf | apply Kd.zbw)); exact (f2S HO422.out BK424.out (.int .i64 t419) (.slice Ao24 t420.length co24))) hb) (Kd.zbh ho0)) (Kd.zbh ho1)) (fun _ h_ => h_.1)); have HO427 := ax (Kd.zbL (Kd.zcL (Kd.zcL ho0 (Kd.R_lt (by (with_reducible repeat (first | apply Kd.zbd | apply Kd.zbc | apply Kd.zbq)); exact (f2R HO415.out BK424.out (.int .i64 t419) (.slice Ao24 t420.length co24))))) (Kd.R_lt (by (with_reducible repeat (first | apply Kd.zbd | apply Kd.zbc | apply Kd.zbq)); exact (f2R HO418.out BK424.out (.int .i64 t419) (.slice Ao24 t420.length co24))))) (zaf (bh HB.out))); have HO430 := ax (Kd.zbL (Kd.zcL (Kd.zcL ho1 (Kd.R_lt (by (with_reducible repeat (first | apply Kd.zbd | apply Kd.zbc | apply Kd.zbq)); exact (f2R HO415.out BK424.out (.int .i64 t419) (.slice Ao24 t420.length co24))))) (Kd.R_lt (by (with_reducible repeat (first | apply Kd.zbd | apply Kd.zbc | apply Kd.zbq)); exact (f2R HO418.out BK424.out (.int .i64 t419) (.slice Ao24 t420.length co24))))) (zaf (bh HB.out))); replace HO415 := ax (Kd.za7 (Kd.zc9 (Kd.zc9 (Kd.zgq (by (with_reducible repeat (first | apply Kd.zbd | apply Kd.zbc | apply Kd.zbq)); exact (f2R HO415.out BK424.out (.int .i64 t419) (.slice Ao24 t420.length co24))) hb) (Kd.zbh ho0)) (Kd.zbh ho1)) (fun _ h_ => h_.1)); replace HO418 := ax (Kd.za7 (Kd.zc9 (Kd.zc9 (Kd.zgq (by (with_reducible repeat (first | apply Kd.zbd | apply Kd.zbc | apply Kd.zbq)); exact (f2R HO418.out BK424.out (.int .i64 t419) (.slice Ao24 t420.length co24))) hb) (Kd.zbh ho0)) (Kd.zbh ho1)) (fun _ h_ => h_.1)); replace BK411 := ax (zbt (g := gb411) (o := .cells #[.slice A0_0 l0_0.length c0_0, .slice A0_1 l0_1.length c0_1] 37 (0, 0)) (by (with_reducible repeat (first | refine zak ?_ _ | refine zal ?_ | refine zai ?_ _)); refine zbb ?_ NB411_424.out _; (with_reducible repeat (first | refine zak ?_ _ | refine zal ?_ | refine zai ?_ _)); refine zbb ?_ NB411_424.out _; (with_reducible repeat (first | refine zak ?_ _ | refine zal ?_ | refine zai ?_ _)); exact BK411.out) hb); replace BK424 := ax (zbt (g := gb424) (o := .cells #[.int .i64 t419, .slice Ao24 t420.length co24] 28 (0, 0)) (by (with_reducible repeat (first | refine zak ?_ _ | refine zal ?_ | refine zai ?_ _)); refine zbz (cs := #[.int .i64 t419, .slice none 0 0]) ?_ 1 _ rfl; (with_reducible repeat (first | refine zak ?_ _ | refine zal ?_ | refine zai ?_ _)); refine zbz (cs := #[.int .i64 0, .slice none 0 0]) ?_ 0 _ rfl; (with_reducible repeat (first | refine zak ?_ _ | refine zal ?_ | refine zai ?_ _)); exact BK424.out) hb); replace HB := ax (zat (bh HB.out) hb); (try clear hb); (try clear ho0); (try clear ho1)) | ((with_reducible refine zaG (N := 8) rfl ?_); refine zaK ?hg (N := 8) ?hd (cs := #[.slice none 0 0, .slice none 0 0]) (t := 40) ?hr ?_; (case hd => rfl); (case hg => rfl); (case hr => first | (go_simp; done) | (go_simp; rfl)); intro gb431 hg w27 hbox hb; replace HO415 := yR HO415 hb; replace HO418 := yR HO418 hb; replace HO422 := ax (Kd.zby (xS HO422.out) hb); replace HO427 := yR HO427 hb; replace HO430 := yR HO430 hb; have BK431 := ax (hbox); have GW431 := ax ((by rw [hg]; exact (zaf (bh HB.out)) : w.heap.size ≤ gb431)); have GE431 := ax ((by rw [hg]; exact (zaf (bh HB.out)) : w.heap.size ≤ gb431)); replace HB := ax (zat (bh HB.out) hb); have NB411_431 := ax (bn hg BK411.out); have NB431_411 := ax (bm hg BK411.out); replace BK411 := ax (bb BK411.out hb); have NB424_431 := ax (bn hg BK424.out); have NB431_424 := ax (bm hg BK424.out); replace BK424 := ax (bb BK424.out hb); clear hb hbox hg; obtain ⟨Ao28, co28, eo28⟩ := Kd.zbT HO427.out; subst eo28; have hnb29 := NB431_411.out; have hnc29 := NB411_431.out; have hnb30 := NB431_424.out; have hnc30 := NB424_431.out; have hcz31_0 := bc0 BK431.out; have hcz31_1 := bc1 BK431.out; have hfz31_0 := zae BK431.out 0; have hfz31_1 := zae BK431.out 1; obtain ⟨Ao32, co32, eo32⟩ := Kd.zbT HO430.out; subst eo32) | ((with_reducible refine zan (f := 22) rfl ?_); refine zaM (some 33) rfl rfl Try.func22 (by kernel_rfl) rfl #[.agg #[.slice Ao28 t425.length co28, .slice Ao32 t428.length co32], .int .i64 a1] rfl xm ?_; (with_reducible refine (zaN.calls k _ _ t425 _ _ t428 a1 t432 t433 t436 _ ?side1 ?side2 ?side3 ?side4 A11.out).mono ?_); (case side1 => refine (Kd.zbi (e := 3) (base := w.heap.size) (ok := fun k_ => ((some k_ ≠ (.slice Ao32 t428.length co32 : Value).ownBlock ∧ some k_ ≠ (.slice Ao18 t413.length co18 : Value).ownBlock) ∧ some k_ ≠ (.slice Ao19 t416.length co19 : Value).ownBlock)) (n := t425.length) (c := co28) ?_).2.2; exact (by (with_reducible repeat (first | apply Kd.zbd | apply Kd.zbc | apply Kd.zbq)); exact (f2R HO427.out BK431.out (.slice Ao28 t425.length co28) (.slice Ao32 t428.length co32)))); (case side2 => exact (Kd.zbi HO427.out).2.1); (case side3 => refine (Kd.zbi (e := 3) (base := w.heap.size) (ok := fun k_ => ((some k_ ≠ (.slice Ao28 t425.length co28 : Value).ownBlock ∧ some k_ ≠ (.slice Ao18 t413.length co18 : Value).ownBlock) ∧ some k_ ≠ (.slice Ao19 t416.length co19 : Value).ownBlock)) (n := t428.length) (c := co32) ?_).2.2; exact (by (with_reducible repeat (first | apply Kd.zbd | apply Kd.zbc | apply Kd.zbq)); exact (f2R HO430.out BK431.out (.slice Ao28 t425.length co28) (.slice Ao32 t428.length co32)))); (case side4 => exact (Kd.zbi HO430.out).2.1); rintro e w33 ⟨v434, rfl, ho0, hb⟩; refine ⟨_, rfl, ?_⟩; replace ho0 := Kd.zk3 ho0; obtain ⟨N467_, ho0, hN467_⟩ := ho0; have HO435 := ax (Kd.zcZ (Kd.zdg (Kd.zdg (Kd.zdg (Kd.zdg (Kd.zdg ho0 (Kd.R_lt (by (with_reducible repeat (first | apply Kd.zbd | apply Kd.zbc | apply Kd.zbq)); exact (f2R HO415.out BK431.out (.slice Ao28 t425.length co28) (.slice Ao32 t428.length co32))))) (Kd.R_lt (by (with_reducible repeat (first | apply Kd.zbd | apply Kd.zbc | apply Kd.zbq)); exact (f2R HO418.out BK431.out (.slice Ao28 t425.length co28) (.slice Ao32 t428.length co32))))) (Kd.S_lt (by (with_reducible repeat (first | apply Kd.zbk | apply Kd.zbf | apply Kd.zbw)); exact (f2S HO422.out BK431.out (.slice Ao28 t425.length co28) (.slice Ao32 t428.length co32))))) (Kd.R_lt (by (with_reducible repeat (first | apply Kd.zbd | apply Kd.zbc | apply Kd.zbq)); exact (f2R HO427.out BK431.out (.slice Ao28 t425.length co28) (.slice Ao32 t428.length co32))))) (Kd.R_lt (by (with_reducible repeat (first | apply Kd.zbd | apply Kd.zbc | apply Kd.zbq)); exact (f2R HO430.out BK431.out (.slice Ao28 t425.length co28) (.slice Ao32 t428.length co32))))) (zaf (bh HB.out))); replace HO415 := ax (Kd.zb8 (by (with_reducible repeat (first | apply Kd.zbd | apply Kd.zbc | apply Kd.zbq)); exact (f2R HO415.out BK431.out (.slice Ao28 t425.length co28) (.slice Ao32 t428.length co32))) hb); replace HO418 := ax (Kd.zb8 (by (with_reducible repeat (first | apply Kd.zbd | apply Kd.zbc | apply Kd.zbq)); exact (f2R HO418.out BK431.out (.slice Ao28 t425.length co28) (.slice Ao32 t428.length co32))) hb); replace HO422 := ax (Kd.zfT (by (with_reducible repeat (first | apply Kd.zbk | apply Kd.zbf | apply Kd.zbw)); exact (f2S HO422.out BK431.out (.slice Ao28 t425.length co28) (.slice Ao32 t428.length co32))) hN467_ (Kd.zcT ho0) hb); replace HO427 := ax (Kd.zb8 (by (with_reducible repeat (first | apply Kd.zbd | apply Kd.zbc | apply Kd.zbq)); exact (f2R HO427.out BK431.out (.slice Ao28 t425.length co28) (.slice Ao32 t428.length co32))) hb); replace HO430 := ax (Kd.zb8 (by (with_reducible repeat (first | apply Kd.zbd | apply Kd.zbc | apply Kd.zbq)); exact (f2R HO430.out BK431.out (.slice Ao28 t425.length co28) (.slice Ao32 t428.length co32))) hb); replace BK411 := ax (zbt (g := gb411) (o := .cells #[.slice A0_0 l0_0.length c0_0, .slice A0_1 l0_1.length c0_1] 37 (0, 0)) (by (with_reducible repeat (first | refine zak ?_ _ | refine zal ?_ | refine zai ?_ _)); refine zbb ?_ NB411_431.out _; (with_reducible repeat (first | refine zak ?_ _ | refine zal ?_ | refine zai ?_ _)); refine zbb ?_ NB411_431.out _; (with_reducible repeat (first | refine zak ?_ _ | refine zal ?_ | refine zai ?_ _)); exact BK411.out) hb); replace BK424 := ax (zbt (g := gb424) (o := .cells #[.int .i64 t419, .slice Ao24 t420.length co24] 28 (0, 0)) (by (with_reducible repeat (first | refine zak ?_ _ | refine zal ?_ | refine zai ?_ _)); refine zbb ?_ NB424_431.out _; (with_reducible repeat (first | refine zak ?_ _ | refine zal ?_ | refine zai ?_ _)); refine zbb ?_ NB424_431.out _; (with_reducible repeat (first | refine zak ?_ _ | refine zal ?_ | refine zai ?_ _)); exact BK424.out) hb); replace BK431 := ax (zbt (g := gb431) (o := .cells #[.slice Ao28 t425.length co28, .slice Ao32 t428.length co32] 40 (0, 0)) (by (with_reducible repeat (first | refine zak ?_ _ | refine zal ?_ | refine zai ?_ _)); refine zbz (cs := #[.slice Ao28 t425.length co28, .slice none 0 0]) ?_ 1 _ rfl; (with_reducible repeat (first | refine zak ?_ _ | refine zal ?_ | refine zai ?_ _)); refine zbz (cs := #[.slice none 0 0, .slice none 0 0]) ?_ 0 _ rfl; (with_reducible repeat (first | refine zak ?_ _ | refine zal ?_ | refine zai ?_ _)); exact BK431.out) hb); replace HB := ax (zat (bh HB.out) hb); (try clear hb); (try clear ho0); (try clear hN467_)) | ((with_reducible refine zaG (N := 9) rfl ?_); refine zaK ?hg (N := 9) ?hd (cs := #[.int .i64 0, .slice none 0 0]) (t := 28) ?hr ?_; (case hd => rfl); (case hg => rfl); (case hr => first | (go_simp; done) | (go_simp; rfl)); intro gb437 hg w34 hbox hb; replace HO415 := yR HO415 hb; replace HO418 := yR HO418 hb; replace HO422 := ax (Kd.zby (xS HO422.out) hb); replace HO427 := yR HO427 hb; replace HO430 := yR HO430 hb; replace HO435 := ax (Kd.zby (xS HO435.out) hb); have BK437 := ax (hbox); have GW437 := ax ((by rw [hg]; exact (zaf (bh HB.out)) : w.heap.size ≤ gb437)); have GE437 := ax ((by rw [hg]; exact (zaf (bh HB.out)) : w.heap.size ≤ gb437)); replace HB := ax (zat (bh HB.out) hb); have NB411_437 := ax (bn hg BK411.out); have NB437_411 := ax (bm hg BK411.out); replace BK411 := ax (bb BK411.out hb); have NB424_437 := ax (bn hg BK424.out); have NB437_424 := ax (bm hg BK424.out); replace BK424 := ax (bb BK424.out hb); have NB431_437 := ax (bn hg BK431.out); have NB437_431 := ax (bm hg BK431.out); replace BK431 := ax (bb BK431.out hb); clear hb hbox hg; have hnb35 := NB437_411.out; have hnc35 := NB411_437.out; have hnb36 := NB437_424.out; have hnc36 := NB424_437.out; have hnb37 := NB437_431.out; have hnc37 := NB431_437.out; have hcz38_0 := bc0 BK437.out; have hcz38_1 := bc1 BK437.out; have hfz38_0 := zae BK437.out 0; have hfz38_1 := zae BK437.out 1; obtain ⟨Ao39, co39, eo39⟩ := Kd.zcY HO435.out; subst eo39))
  (try simp only [Act.put, List.setIfInBounds_toArray, List.set_cons_zero, List.set_cons_succ])
  go_cut [44] (fun v44 wc => ∃ (kq : Nat) (x44_11 : Bool), v44 = .bool x44_11 ∧ zao (zap.j0 kq a1 t423 t436 x44_11 l0_0 l0_1 t419 t420 t425 t428 t432 t433 = some r) ∧ zao (kq ≤ k) ∧ zao (Kd.S k48 48 wc w.heap.size (fun k_ => some k_ ≠ ((.slice Ao28 t425.length co28) : Value).ownBlock ∧ some k_ ≠ ((.slice Ao32 t428.length co32) : Value).ownBlock ∧ some k_ ≠ ((.slice Ao39 t433.length co39) : Value).ownBlock ∧ k_ ≠ dmO N467_ k_) (.slice Ao24 t420.length co24) t420) ∧ zao (Kd.R (Kd.int .i64) 3 wc w.heap.size (fun k_ => some k_ ≠ ((.slice Ao32 t428.length co32) : Value).ownBlock) (.slice Ao28 t425.length co28) t425) ∧ zao (Kd.R (Kd.int .i64) 3 wc w.heap.size (fun k_ => some k_ ≠ ((.slice Ao28 t425.length co28) : Value).ownBlock) (.slice Ao32 t428.length co32) t428) ∧ zao (Kd.S k48 48 wc w.heap.size (fun k_ => some k_ ≠ ((.slice Ao24 t420.length co24) : Value).ownBlock ∧ some k_ ≠ ((.slice Ao28 t425.length co28) : Value).ownBlock ∧ some k_ ≠ ((.slice Ao32 t428.length co32) : Value).ownBlock ∧ k_ ≠ dmI N467_ k_) (.slice Ao39 t433.length co39) t433) ∧ zao (wc.heap[gb411]? = some (.cells #[(.slice A0_0 l0_0.length c0_0), (.slice A0_1 l0_1.length c0_1)] 37 (0, 0))) ∧ zao (wc.heap[gb424]? = some (.cells #[.int .i64 t419, (.slice Ao24 t420.length co24)] 28 (0, 0))) ∧ zao (wc.heap[gb431]? = some (.cells #[(.slice Ao28 t425.length co28), (.slice Ao32 t428.length co32)] 40 (0, 0))) ∧ zao (wc.heap[gb437]? = some (.cells #[.int .i64 t432, (.slice Ao39 t433.length co39)] 28 (0, 0))) ∧ zao (Below w.heap.size w wc))
  case first =>
   have H := HC12.out
   clear HC12
   obtain ⟨t438, A40, H⟩ := xI H
   by_cases c41 : t438 = true
   ·subst c41
    rw [if_pos rfl] at H
    have H' := ax H
    clear H
    have hnb42 := NB437_411.out
    have hnc42 := NB411_437.out
    have hnb43 := NB437_424.out
    have hnc43 := NB424_437.out
    have hnb44 := NB437_431.out
    have hnc44 := NB431_437.out
    have hcz45_0 := bc0 BK437.out
    have hcz45_1 := bc1 BK437.out
    have hfz45_0 := zae BK437.out 0
    have hfz45_1 := zae BK437.out 1
    have hnb46 := NB424_411.out
    have hnc46 := NB411_424.out
    have hnb47 := NB424_431.out
    have hnc47 := NB431_424.out
    have hcz48_0 := bc0 BK424.out
    have hcz48_1 := bc1 BK424.out
    have hfz48_0 := zae BK424.out 0
    have hfz48_1 := zae BK424.out 1
    go_wp2_with (first | ((with_reducible refine zan (f := 11) rfl ?_); refine zaM (some 38) rfl rfl Try.func11 (by kernel_rfl) rfl #[.agg #[.int .i64 t432, .slice Ao39 t433.length co39], .agg #[.int .i64 t419, .slice Ao24 t420.length co24]] rfl xm ?_; (with_reducible refine (zbB.calls k t432 _ _ t433 t419 _ _ t420 true _ ?side1 ?side2 ?side3 ?side4 A40.out).mono ?_); (case side1 => refine (Kd.zbg (e := 48) (base := w.heap.size) (ok := fun k_ => (((((k_ ≠ dmI N467_ k_ ∧ some k_ ≠ (.slice Ao18 t413.length co18 : Value).ownBlock) ∧ some k_ ≠ (.slice Ao19 t416.length co19 : Value).ownBlock) ∧ some k_ ≠ (.slice Ao24 t420.length co24 : Value).ownBlock) ∧ some k_ ≠ (.slice Ao28 t425.length co28 : Value).ownBlock) ∧ some k_ ≠ (.slice Ao32 t428.length co32 : Value).ownBlock)) (n := t433.length) (c := co39) ?_).2.2; exact (by (with_reducible repeat (first | apply Kd.zbk | apply Kd.zbf | apply Kd.zbw)); exact (f2S HO435.out BK437.out (.int .i64 t432) (.slice Ao39 t433.length co39)))); (case side2 => exact (Kd.zbg HO435.out).2.1); (case side3 => refine (Kd.zbg (e := 48) (base := w.heap.size) (ok := fun k_ => ((((((True ∧ some k_ ≠ (.slice Ao18 t413.length co18 : Value).ownBlock) ∧ some k_ ≠ (.slice Ao19 t416.length co19 : Value).ownBlock) ∧ some k_ ≠ (.slice Ao28 t425.length co28 : Value).ownBlock) ∧ some k_ ≠ (.slice Ao32 t428.length co32 : Value).ownBlock) ∧ some k_ ≠ (.slice Ao39 t433.length co39 : Value).ownBlock) ∧ k_ ≠ dmO N467_ k_)) (n := t420.length) (c := co24) ?_).2.2; exact (by (with_reducible repeat (first | apply Kd.zbk | apply Kd.zbf | apply Kd.zbw)); exact (f2S HO422.out BK437.out (.int .i64 t432) (.slice Ao39 t433.length co39)))); (case side4 => exact (Kd.zbg HO422.out).2.1); rintro e w49 ⟨rfl, hb⟩; refine ⟨_, rfl, ?_⟩; replace HO415 := ax (Kd.zb8 (by (with_reducible repeat (first | apply Kd.zbd | apply Kd.zbc | apply Kd.zbq)); exact (f2R HO415.out BK437.out (.int .i64 t432) (.slice Ao39 t433.length co39))) hb); replace HO418 := ax (Kd.zb8 (by (with_reducible repeat (first | apply Kd.zbd | apply Kd.zbc | apply Kd.zbq)); exact (f2R HO418.out BK437.out (.int .i64 t432) (.slice Ao39 t433.length co39))) hb); replace HO422 := ax (Kd.zby (by (with_reducible repeat (first | apply Kd.zbk | apply Kd.zbf | apply Kd.zbw)); exact (f2S HO422.out BK437.out (.int .i64 t432) (.slice Ao39 t433.length co39))) hb); replace HO427 := ax (Kd.zb8 (by (with_reducible repeat (first | apply Kd.zbd | apply Kd.zbc | apply Kd.zbq)); exact (f2R HO427.out BK437.out (.int .i64 t432) (.slice Ao39 t433.length co39))) hb); replace HO430 := ax (Kd.zb8 (by (with_reducible repeat (first | apply Kd.zbd | apply Kd.zbc | apply Kd.zbq)); exact (f2R HO430.out BK437.out (.int .i64 t432) (.slice Ao39 t433.length co39))) hb); replace HO435 := ax (Kd.zby (by (with_reducible repeat (first | apply Kd.zbk | apply Kd.zbf | apply Kd.zbw)); exact (f2S HO435.out BK437.out (.int .i64 t432) (.slice Ao39 t433.length co39))) hb); replace BK411 := ax (zbt (g := gb411) (o := .cells #[.slice A0_0 l0_0.length c0_0, .slice A0_1 l0_1.length c0_1] 37 (0, 0)) (by (with_reducible repeat (first | refine zak ?_ _ | refine zal ?_ | refine zai ?_ _)); refine zbb ?_ NB411_437.out _; (with_reducible repeat (first | refine zak ?_ _ | refine zal ?_ | refine zai ?_ _)); refine zbb ?_ NB411_437.out _; (with_reducible repeat (first | refine zak ?_ _ | refine zal ?_ | refine zai ?_ _)); exact BK411.out) hb); replace BK424 := ax (zbt (g := gb424) (o := .cells #[.int .i64 t419, .slice Ao24 t420.length co24] 28 (0, 0)) (by (with_reducible repeat (first | refine zak ?_ _ | refine zal ?_ | refine zai ?_ _)); refine zbb ?_ NB424_437.out _; (with_reducible repeat (first | refine zak ?_ _ | refine zal ?_ | refine zai ?_ _)); refine zbb ?_ NB424_437.out _; (with_reducible repeat (first | refine zak ?_ _ | refine zal ?_ | refine zai ?_ _)); exact BK424.out) hb); replace BK431 := ax (zbt (g := gb431) (o := .cells #[.slice Ao28 t425.length co28, .slice Ao32 t428.length co32] 40 (0, 0)) (by (with_reducible repeat (first | refine zak ?_ _ | refine zal ?_ | refine zai ?_ _)); refine zbb ?_ NB431_437.out _; (with_reducible repeat (first | refine zak ?_ _ | refine zal ?_ | refine zai ?_ _)); refine zbb ?_ NB431_437.out _; (with_reducible repeat (first | refine zak ?_ _ | refine zal ?_ | refine zai ?_ _)); exact BK431.out) hb); replace BK437 := ax (zbt (g := gb437) (o := .cells #[.int .i64 t432, .slice Ao39 t433.length co39] 28 (0, 0)) (by (with_reducible repeat (first | refine zak ?_ _ | refine zal ?_ | refine zai ?_ _)); refine zbz (cs := #[.int .i64 t432, .slice none 0 0]) ?_ 1 _ rfl; (with_reducible repeat (first | refine zak ?_ _ | refine zal ?_ | refine zai ?_ _)); refine zbz (cs := #[.int .i64 0, .slice none 0 0]) ?_ 0 _ rfl; (with_reducible repeat (first | refine zak ?_ _ | refine zal ?_ | refine zai ?_ _)); exact BK437.out) hb); replace HB := ax (zat (bh HB.out) hb); (try clear hb)))
    go_meet
    case rel => exact ⟨_, ((t436 != t423)), xr, H', ⟨by first | omega | exact Nat.le_refl _⟩, ⟨by (with_reducible repeat (first | apply Kd.zbk | apply Kd.zbf | apply Kd.zbw)); exact Kd.zbr HO422.out (fun _ hk => ⟨hk.1.1.1.2, ⟨hk.1.1.2, ⟨hk.1.2, hk.2⟩⟩⟩)⟩, ⟨by (with_reducible repeat (first | apply Kd.zbd | apply Kd.zbc | apply Kd.zbq)); exact Kd.za7 HO427.out (fun _ hk => hk.1.1)⟩, ⟨by (with_reducible repeat (first | apply Kd.zbd | apply Kd.zbc | apply Kd.zbq)); exact Kd.za7 HO430.out (fun _ hk => hk.1.1)⟩, ⟨by (with_reducible repeat (first | apply Kd.zbk | apply Kd.zbf | apply Kd.zbw)); exact Kd.zbr HO435.out (fun _ hk => ⟨hk.1.1.2, ⟨hk.1.2, ⟨hk.2, hk.1.1.1.1.1⟩⟩⟩)⟩, ⟨xk BK411.out⟩, ⟨xk BK424.out⟩, ⟨xk BK431.out⟩, ⟨xk BK437.out⟩, ⟨bh HB.out⟩⟩
   ·replace c41 := Bool.eq_false_iff.mpr c41
    subst c41
    rw [if_neg (show ¬ (false = true) by decide)] at H
    have H' := ax H
    clear H
    have hnb50 := NB437_411.out
    have hnc50 := NB411_437.out
    have hnb51 := NB437_424.out
    have hnc51 := NB424_437.out
    have hnb52 := NB437_431.out
    have hnc52 := NB431_437.out
    have hcz53_0 := bc0 BK437.out
    have hcz53_1 := bc1 BK437.out
    have hfz53_0 := zae BK437.out 0
    have hfz53_1 := zae BK437.out 1
    have hnb54 := NB424_411.out
    have hnc54 := NB411_424.out
    have hnb55 := NB424_431.out
    have hnc55 := NB431_424.out
    have hcz56_0 := bc0 BK424.out
    have hcz56_1 := bc1 BK424.out
    have hfz56_0 := zae BK424.out 0
    have hfz56_1 := zae BK424.out 1
    go_wp2_with (first | ((with_reducible refine zan (f := 11) rfl ?_); refine zaM (some 38) rfl rfl Try.func11 (by kernel_rfl) rfl #[.agg #[.int .i64 t432, .slice Ao39 t433.length co39], .agg #[.int .i64 t419, .slice Ao24 t420.length co24]] rfl xm ?_; (with_reducible refine (zbB.calls k t432 _ _ t433 t419 _ _ t420 false _ ?side1 ?side2 ?side3 ?side4 A40.out).mono ?_); (case side1 => refine (Kd.zbg (e := 48) (base := w.heap.size) (ok := fun k_ => (((((k_ ≠ dmI N467_ k_ ∧ some k_ ≠ (.slice Ao18 t413.length co18 : Value).ownBlock) ∧ some k_ ≠ (.slice Ao19 t416.length co19 : Value).ownBlock) ∧ some k_ ≠ (.slice Ao24 t420.length co24 : Value).ownBlock) ∧ some k_ ≠ (.slice Ao28 t425.length co28 : Value).ownBlock) ∧ some k_ ≠ (.slice Ao32 t428.length co32 : Value).ownBlock)) (n := t433.length) (c := co39) ?_).2.2; exact (by (with_reducible repeat (first | apply Kd.zbk | apply Kd.zbf | apply Kd.zbw)); exact (f2S HO435.out BK437.out (.int .i64 t432) (.slice Ao39 t433.length co39)))); (case side2 => exact (Kd.zbg HO435.out).2.1); (case side3 => refine (Kd.zbg (e := 48) (base := w.heap.size) (ok := fun k_ => ((((((True ∧ some k_ ≠ (.slice Ao18 t413.length co18 : Value).ownBlock) ∧ some k_ ≠ (.slice Ao19 t416.length co19 : Value).ownBlock) ∧ some k_ ≠ (.slice Ao28 t425.length co28 : Value).ownBlock) ∧ some k_ ≠ (.slice Ao32 t428.length co32 : Value).ownBlock) ∧ some k_ ≠ (.slice Ao39 t433.length co39 : Value).ownBlock) ∧ k_ ≠ dmO N467_ k_)) (n := t420.length) (c := co24) ?_).2.2; exact (by (with_reducible repeat (first | apply Kd.zbk | apply Kd.zbf | apply Kd.zbw)); exact (f2S HO422.out BK437.out (.int .i64 t432) (.slice Ao39 t433.length co39)))); (case side4 => exact (Kd.zbg HO422.out).2.1); rintro e w57 ⟨rfl, hb⟩; refine ⟨_, rfl, ?_⟩; replace HO415 := ax (Kd.zb8 (by (with_reducible repeat (first | apply Kd.zbd | apply Kd.zbc | apply Kd.zbq)); exact (f2R HO415.out BK437.out (.int .i64 t432) (.slice Ao39 t433.length co39))) hb); replace HO418 := ax (Kd.zb8 (by (with_reducible repeat (first | apply Kd.zbd | apply Kd.zbc | apply Kd.zbq)); exact (f2R HO418.out BK437.out (.int .i64 t432) (.slice Ao39 t433.length co39))) hb); replace HO422 := ax (Kd.zby (by (with_reducible repeat (first | apply Kd.zbk | apply Kd.zbf | apply Kd.zbw)); exact (f2S HO422.out BK437.out (.int .i64 t432) (.slice Ao39 t433.length co39))) hb); replace HO427 := ax (Kd.zb8 (by (with_reducible repeat (first | apply Kd.zbd | apply Kd.zbc | apply Kd.zbq)); exact (f2R HO427.out BK437.out (.int .i64 t432) (.slice Ao39 t433.length co39))) hb); replace HO430 := ax (Kd.zb8 (by (with_reducible repeat (first | apply Kd.zbd | apply Kd.zbc | apply Kd.zbq)); exact (f2R HO430.out BK437.out (.int .i64 t432) (.slice Ao39 t433.length co39))) hb); replace HO435 := ax (Kd.zby (by (with_reducible repeat (first | apply Kd.zbk | apply Kd.zbf | apply Kd.zbw)); exact (f2S HO435.out BK437.out (.int .i64 t432) (.slice Ao39 t433.length co39))) hb); replace BK411 := ax (zbt (g := gb411) (o := .cells #[.slice A0_0 l0_0.length c0_0, .slice A0_1 l0_1.length c0_1] 37 (0, 0)) (by (with_reducible repeat (first | refine zak ?_ _ | refine zal ?_ | refine zai ?_ _)); refine zbb ?_ NB411_437.out _; (with_reducible repeat (first | refine zak ?_ _ | refine zal ?_ | refine zai ?_ _)); refine zbb ?_ NB411_437.out _; (with_reducible repeat (first | refine zak ?_ _ | refine zal ?_ | refine zai ?_ _)); exact BK411.out) hb); replace BK424 := ax (zbt (g := gb424) (o := .cells #[.int .i64 t419, .slice Ao24 t420.length co24] 28 (0, 0)) (by (with_reducible repeat (first | refine zak ?_ _ | refine zal ?_ | refine zai ?_ _)); refine zbb ?_ NB424_437.out _; (with_reducible repeat (first | refine zak ?_ _ | refine zal ?_ | refine zai ?_ _)); refine zbb ?_ NB424_437.out _; (with_reducible repeat (first | refine zak ?_ _ | refine zal ?_ | refine zai ?_ _)); exact BK424.out) hb); replace BK431 := ax (zbt (g := gb431) (o := .cells #[.slice Ao28 t425.length co28, .slice Ao32 t428.length co32] 40 (0, 0)) (by (with_reducible repeat (first | refine zak ?_ _ | refine zal ?_ | refine zai ?_ _)); refine zbb ?_ NB431_437.out _; (with_reducible repeat (first | refine zak ?_ _ | refine zal ?_ | refine zai ?_ _)); refine zbb ?_ NB431_437.out _; (with_reducible repeat (first | refine zak ?_ _ | refine zal ?_ | refine zai ?_ _)); exact BK431.out) hb); replace BK437 := ax (zbt (g := gb437) (o := .cells #[.int .i64 t432, .slice Ao39 t433.length co39] 28 (0, 0)) (by (with_reducible repeat (first | refine zak ?_ _ | refine zal ?_ | refine zai ?_ _)); refine zbz (cs := #[.int .i64 t432, .slice none 0 0]) ?_ 1 _ rfl; (with_reducible repeat (first | refine zak ?_ _ | refine zal ?_ | refine zai ?_ _)); refine zbz (cs := #[.int .i64 0, .slice none 0 0]) ?_ 0 _ rfl; (with_reducible repeat (first | refine zak ?_ _ | refine zal ?_ | refine zai ?_ _)); exact BK437.out) hb); replace HB := ax (zat (bh HB.out) hb); (try clear hb)))
    go_meet
    case rel => exact ⟨_, (true), xr, H', ⟨by first | omega | exact Nat.le_refl _⟩, ⟨by (with_reducible repeat (first | apply Kd.zbk | apply Kd.zbf | apply Kd.zbw)); exact Kd.zbr HO422.out (fun _ hk => ⟨hk.1.1.1.2, ⟨hk.1.1.2, ⟨hk.1.2, hk.2⟩⟩⟩)⟩, ⟨by (with_reducible repeat (first | apply Kd.zbd | apply Kd.zbc | apply Kd.zbq)); exact Kd.za7 HO427.out (fun _ hk => hk.1.1)⟩, ⟨by (with_reducible repeat (first | apply Kd.zbd | apply Kd.zbc | apply Kd.zbq)); exact Kd.za7 HO430.out (fun _ hk => hk.1.1)⟩, ⟨by (with_reducible repeat (first | apply Kd.zbk | apply Kd.zbf | apply Kd.zbw)); exact Kd.zbr HO435.out (fun _ hk => ⟨hk.1.1.2, ⟨hk.1.2, ⟨hk.2, hk.1.1.1.1.1⟩⟩⟩)⟩, ⟨xk BK411.out⟩, ⟨xk BK424.out⟩, ⟨xk BK431.out⟩, ⟨xk BK437.out⟩, ⟨bh HB.out⟩⟩
  case rest =>
   clear HC12
   (try clear c4); (try clear c4b0); (try clear c41); (try clear hcz14_0); (try clear hcz14_1); (try clear hcz16_0); (try clear hcz16_1); (try clear hcz23_0); (try clear hcz23_1); (try clear hcz25_0); (try clear hcz25_1); (try clear hcz31_0); (try clear hcz31_1); (try clear hcz38_0); (try clear hcz38_1); (try clear hcz45_0); (try clear hcz45_1); (try clear hcz48_0); (try clear hcz48_1); (try clear hcz53_0); (try clear hcz53_1); (try clear hcz56_0); (try clear hcz56_1); (try clear hcz6_0); (try clear hcz6_1); (try clear hfz14_0); (try clear hfz14_1); (try clear hfz16_0); (try clear hfz16_1); (try clear hfz23_0); (try clear hfz23_1); (try clear hfz25_0); (try clear hfz25_1); (try clear hfz31_0); (try clear hfz31_1); (try clear hfz38_0); (try clear hfz38_1); (try clear hfz45_0); (try clear hfz45_1); (try clear hfz48_0); (try clear hfz48_1); (try clear hfz53_0); (try clear hfz53_1); (try clear hfz56_0); (try clear hfz56_1); (try clear hfz6_0); (try clear hfz6_1)
   obtain ⟨kq, x44_11, rfl, HA, HJ11, HO_1003, HO_1000, HO_1001, HO_1002, BK411, BK424, BK431, BK437, HB⟩ := hcut
   cases kq with
   | zero => exact absurd HA.out (by simp [zap.j0])
   | succ kj11 =>
    have H := HA.out
    clear HA
    simp only [zap.j0] at H
    by_cases c58 : x44_11 = true
    ·subst c58
     rw [if_pos rfl] at H
     obtain rfl := Option.some.inj H
     go_wp2
     go_ret
     exact ⟨xe, bh HB.out⟩
    ·replace c58 := Bool.eq_false_iff.mpr c58
     subst c58
     rw [if_neg (show ¬ (false = true) by decide)] at H
     obtain ⟨⟨t439, t442⟩, A59, H⟩ := xI H
     dsimp only at H
     obtain ⟨t445, A60, H⟩ := xI H
     by_cases c61 : t445 = true
     ·subst c61
      rw [if_pos rfl] at H
      obtain ⟨⟨t446, t447, t448⟩, A62, H⟩ := xI H
      dsimp only at H
      have HC63 := ax H
      clear H
      try go_wp2
      replace HO_1003 := ax (Kd.zbw HO_1003.out); replace HO_1000 := ax (Kd.zbq HO_1000.out); replace HO_1001 := ax (Kd.zbq HO_1001.out); replace HO_1002 := ax (Kd.zbw HO_1002.out); replace BK411 := ax (zal BK411.out); replace BK424 := ax (zal BK424.out); replace BK431 := ax (zal BK431.out); replace BK437 := ax (zal BK437.out); replace HB := ax (zba HB.out)
      refine zcj (n := 5) (S := fun w' => w'.cell? ⟨gb431, 0, none⟩ = some (.slice Ao28 t425.length co28) ∧ w'.cell? ⟨gb431, 1, none⟩ = some (.slice Ao32 t428.length co32) ∧ w'.cell? ⟨gb411, 0, none⟩ = some (.slice A0_0 l0_0.length c0_0) ∧ w'.cell? ⟨gb411, 1, none⟩ = some (.slice A0_1 l0_1.length c0_1)) (ds := []) (xB 5 0) (by kernel_rfl) rfl (by kernel_rfl) ⟨(zaC BK431.out 0).trans rfl, (zaC BK431.out 1).trans rfl, (zaC BK411.out 0).trans rfl, (zaC BK411.out 1).trans rfl⟩ (fun hHeld => ?_)
      generalize wc.drew = w64 at HO_1003 HO_1000 HO_1001 HO_1002 BK411 BK424 BK431 BK437 HB hHeld ⊢
      refine zeC (i := 0) (N := some 45) (v := ?_) (a' := ?_) (xB 5 1) rfl rfl (by kernel_rfl) (fun _ _ _ h => h) (Or.inl ⟨by rfl, ?_⟩) hHeld ?_ ?_
      rotate_left
      ·rintro w' ⟨s0, s1, s2, s3⟩
       go_simp
       with_reducible rfl
      rotate_left
      ·simp only [Act.put, List.setIfInBounds_toArray, List.set_cons_zero, List.set_cons_succ, zcd, zcw]
       rfl
      refine zeC (i := 1) (N := some 46) (v := ?_) (a' := ?_) (xB 5 3) rfl rfl (by kernel_rfl) (fun _ _ _ h => h) (Or.inl ⟨by rfl, ?_⟩) hHeld ?_ ?_
      rotate_left
      ·rintro w' ⟨s0, s1, s2, s3⟩
       go_simp
       with_reducible rfl
      rotate_left
      ·simp only [Act.put, List.setIfInBounds_toArray, List.set_cons_zero, List.set_cons_succ, zcd, zcw]
       rfl
      refine one_ (i := 2) (N := some 47) (xB 5 7) rfl rfl (by kernel_rfl) (by decide) (fun K hK => ?_)
      refine zc6 Try.func16 (by kernel_rfl) rfl #[.agg #[.slice A0_0 l0_0.length c0_0, .slice A0_1 l0_1.length c0_1]] (by rfl) rfl rfl xm ?_
      with_reducible refine (zbp.calls kj11 _ _ l0_0 _ _ l0_1 t439 t442 _ ?side1 ?side2 ?side3 ?side4 A59.out).mono ?_
      (case side1 => exact xz HR0_0.out HB.out)
      (case side2 => exact HC0_0.out)
      (case side3 => exact xz HR0_1.out HB.out)
      (case side4 => exact HC0_1.out)
      rintro e w65 ⟨v440, v443, rfl, ho0, ho1, hb⟩
      refine ⟨_, rfl, ?_⟩
      replace HO_1003 := ax (Kd.zbr (Kd.zdr (Kd.zdr (Kd.zgL (xS HO_1003.out) hb) (Kd.zbh ho0)) (Kd.zbh ho1)) (fun _ h_ => h_.1)); replace HO_1002 := ax (Kd.zbr (Kd.zdr (Kd.zdr (Kd.zgL (xS HO_1002.out) hb) (Kd.zbh ho0)) (Kd.zbh ho1)) (fun _ h_ => h_.1)); have HO441 := ax (Kd.zbL (Kd.zcL (Kd.zcL ho0 (Kd.R_lt (xR HO_1000.out))) (Kd.R_lt (xR HO_1001.out))) (zaf (bh HB.out))); have HO444 := ax (Kd.zbL (Kd.zcL (Kd.zcL ho1 (Kd.R_lt (xR HO_1000.out))) (Kd.R_lt (xR HO_1001.out))) (zaf (bh HB.out))); replace HO_1000 := ax (Kd.za7 (Kd.zc9 (Kd.zc9 (Kd.zgq (xR HO_1000.out) hb) (Kd.zbh ho0)) (Kd.zbh ho1)) (fun _ h_ => h_.1)); replace HO_1001 := ax (Kd.za7 (Kd.zc9 (Kd.zc9 (Kd.zgq (xR HO_1001.out) hb) (Kd.zbh ho0)) (Kd.zbh ho1)) (fun _ h_ => h_.1)); replace BK411 := ax (bb BK411.out hb); replace BK424 := ax (bb BK424.out hb); replace BK431 := ax (bb BK431.out hb); replace BK437 := ax (bb BK437.out hb); replace HB := ax (zat (bh HB.out) hb)
      (try clear hb)
      (try clear hk)
      (try clear ho0)
      (try clear ho1)
      obtain ⟨Ao66, co66, eo66⟩ := Kd.zbT HO441.out
      (first | subst eo66 | (injection eo66 with f1_ f2_ f3_; have f4_ := f1_.symm; have f5_ := f3_.symm; clear f1_ f2_ f3_; subst f4_; subst f5_))
      obtain ⟨Ao67, co67, eo67⟩ := Kd.zbT HO444.out
      (first | subst eo67 | (injection eo67 with f1_ f2_ f3_; have f4_ := f1_.symm; have f5_ := f3_.symm; clear f1_ f2_ f3_; subst f4_; subst f5_))
      refine hK.out _ _ ⟨(zaC BK431.out 0).trans rfl, (zaC BK431.out 1).trans rfl, (zaC BK411.out 0).trans rfl, (zaC BK411.out 1).trans rfl⟩ (fun hHeld => ?_)
      clear hK K
      refine nm ?_
      refine one_ (i := 3) (N := some 48) (xB 5 15) rfl rfl (by kernel_rfl) (by decide) (fun K hK => ?_)
      refine zc6 Try.func18 (by kernel_rfl) rfl #[.agg #[.slice Ao28 t425.length co28, .slice Ao32 t428.length co32], .agg #[.slice Ao66 t439.length co66, .slice Ao67 t442.length co67]] (by rfl) rfl rfl xm ?_
      with_reducible refine (zbM.calls kj11 _ _ t425 _ _ t428 _ _ t439 _ _ t442 true _ ?side1 ?side2 ?side3 ?side4 ?side5 ?side6 ?side7 ?side8 A60.out).mono ?_
      (case side1 => exact xc (Kd.zbi HO_1000.out).2.2)
      (case side2 => exact (Kd.zbi HO_1000.out).2.1)
      (case side3 => exact xc (Kd.zbi HO_1001.out).2.2)
      (case side4 => exact (Kd.zbi HO_1001.out).2.1)
      (case side5 => exact xc (Kd.zbi HO441.out).2.2)
      (case side6 => exact (Kd.zbi HO441.out).2.1)
      (case side7 => exact xc (Kd.zbi HO444.out).2.2)
      (case side8 => exact (Kd.zbi HO444.out).2.1)
      rintro e w68 ⟨rfl, hb⟩
      refine ⟨_, rfl, ?_⟩
      replace HO_1003 := ax (Kd.zby (xS HO_1003.out) hb); replace HO_1000 := yR HO_1000 hb; replace HO_1001 := yR HO_1001 hb; replace HO_1002 := ax (Kd.zby (xS HO_1002.out) hb); replace HO441 := yR HO441 hb; replace HO444 := yR HO444 hb; replace BK411 := ax (bb BK411.out hb); replace BK424 := ax (bb BK424.out hb); replace BK431 := ax (bb BK431.out hb); replace BK437 := ax (bb BK437.out hb); replace HB := ax (zat (bh HB.out) hb)
      (try clear hb)
      (try clear hk)
      refine hK.out _ _ ⟨(zaC BK431.out 0).trans rfl, (zaC BK431.out 1).trans rfl, (zaC BK411.out 0).trans rfl, (zaC BK411.out 1).trans rfl⟩ (fun hHeld => ?_)
      clear hK K
      refine nm ?_
      refine zeF (i := 4) (N := some 49) (v := ?_) (a' := ?_) (xB 5 31) rfl rfl (by kernel_rfl) (fun _ _ _ h => h) (Or.inl ⟨by rfl, ?_⟩) ?_ ?_
      rotate_left
      ·intro w'
       go_simp
       with_reducible rfl
      rotate_left
      ·simp only [Act.put, List.setIfInBounds_toArray, List.set_cons_zero, List.set_cons_succ, zcd, zcw]
       rfl
      refine zcR (by kernel_rfl) ?_
      have hnb69 := NB431_411.out
      have hnc69 := NB411_431.out
      have hnb70 := NB431_424.out
      have hnc70 := NB424_431.out
      have hnb71 := NB431_437.out
      have hnc71 := NB437_431.out
      have hcz72_0 := bc0 BK431.out
      have hcz72_1 := bc1 BK431.out
      have hfz72_0 := zae BK431.out 0
      have hfz72_1 := zae BK431.out 1
      go_upto_region 14 with (first | ((with_reducible refine zan (f := 23) rfl ?_); refine zaM (some 52) rfl rfl Try.func23 (by kernel_rfl) rfl #[.agg #[.slice Ao28 t425.length co28, .slice Ao32 t428.length co32], .int .i64 1] rfl xm ?_; (with_reducible refine (zbG.calls kj11 (fun k_ => some k_ = (.slice Ao28 t425.length co28 : Value).ownBlock) (.slice Ao28 t425.length co28) t425 (fun k_ => some k_ = (.slice Ao32 t428.length co32 : Value).ownBlock) (.slice Ao32 t428.length co32) t428 1 t446 t447 t448 w _ ?side1 ?side2 ?side3 ?side4 ?side5 A62.out).mono ?_); (case side1 => exact bh HB.out); (case side2 => exact Kd.zdi rfl HO_1000.out); (case side3 => exact fun k_ e_ => (HO_1000.out.1 k_ e_.symm).1.1); (case side4 => exact Kd.zdi rfl HO_1001.out); (case side5 => exact fun k_ e_ => (HO_1001.out.1 k_ e_.symm).1.1); rintro e w73 ⟨rfl, hy0, hy1, hb, hkp⟩; refine ⟨_, rfl, ?_⟩; replace HO_1003 := ax (Kd.zbr (ok' := fun k_ => some k_ ≠ (.slice Ao28 t425.length co28 : Value).ownBlock ∧ some k_ ≠ (.slice Ao32 t428.length co32 : Value).ownBlock ∧ some k_ ≠ (.slice Ao39 t433.length co39 : Value).ownBlock ∧ some k_ ≠ (.slice Ao66 t439.length co66 : Value).ownBlock ∧ some k_ ≠ (.slice Ao67 t442.length co67 : Value).ownBlock ∧ k_ ≠ dmO N467_ k_) (Kd.zdQ (HO_1003.out) hkp (fun k_ hk_ hs_ => Or.elim hs_ (fun e_ => (hk_.1.1.1) e_) (fun e_ => (hk_.1.1.2.1) e_))) (fun k_ hk_ => ⟨hk_.1.1.1.1, hk_.1.1.1.2.1, hk_.1.1.1.2.2.1, hk_.1.1.2, hk_.1.2, hk_.1.1.1.2.2.2⟩)); replace HO_1002 := ax (Kd.zbr (ok' := fun k_ => some k_ ≠ (.slice Ao24 t420.length co24 : Value).ownBlock ∧ some k_ ≠ (.slice Ao28 t425.length co28 : Value).ownBlock ∧ some k_ ≠ (.slice Ao32 t428.length co32 : Value).ownBlock ∧ some k_ ≠ (.slice Ao66 t439.length co66 : Value).ownBlock ∧ some k_ ≠ (.slice Ao67 t442.length co67 : Value).ownBlock ∧ k_ ≠ dmI N467_ k_) (Kd.zdQ (HO_1002.out) hkp (fun k_ hk_ hs_ => Or.elim hs_ (fun e_ => (hk_.1.1.2.1) e_) (fun e_ => (hk_.1.1.2.2.1) e_))) (fun k_ hk_ => ⟨hk_.1.1.1.1, hk_.1.1.1.2.1, hk_.1.1.1.2.2.1, hk_.1.1.2, hk_.1.2, hk_.1.1.1.2.2.2⟩)); replace BK411 := ax (zb5 (xk BK411.out) hkp (fun hs_ => Or.elim hs_ (fun e_ => (fun e_ => (Kd.R_ne HO_1000.out BK411.out (by decide)) e_) e_) (fun e_ => (fun e_ => (Kd.R_ne HO_1001.out BK411.out (by decide)) e_) e_))); replace BK424 := ax (zb5 (xk BK424.out) hkp (fun hs_ => Or.elim hs_ (fun e_ => (fun e_ => (Kd.R_ne HO_1000.out BK424.out (by decide)) e_) e_) (fun e_ => (fun e_ => (Kd.R_ne HO_1001.out BK424.out (by decide)) e_) e_))); replace BK431 := ax (zb5 (xk BK431.out) hkp (fun hs_ => Or.elim hs_ (fun e_ => (fun e_ => (Kd.R_ne HO_1000.out BK431.out (by decide)) e_) e_) (fun e_ => (fun e_ => (Kd.R_ne HO_1001.out BK431.out (by decide)) e_) e_))); replace BK437 := ax (zb5 (xk BK437.out) hkp (fun hs_ => Or.elim hs_ (fun e_ => (fun e_ => (Kd.R_ne HO_1000.out BK437.out (by decide)) e_) e_) (fun e_ => (fun e_ => (Kd.R_ne HO_1001.out BK437.out (by decide)) e_) e_))); replace HO_1000 := ax (Kd.zfz rfl hy0 (fun k_ e_ => HO_1000.out.1 k_ e_)); replace HO_1001 := ax (Kd.zfz rfl hy1 (fun k_ e_ => HO_1001.out.1 k_ e_)); replace HO441 := ax (Kd.za7 (ok' := fun k_ => some k_ ≠ (.slice Ao28 t425.length co28 : Value).ownBlock ∧ some k_ ≠ (.slice Ao32 t428.length co32 : Value).ownBlock ∧ some k_ ≠ (.slice Ao67 t442.length co67 : Value).ownBlock) (Kd.zdx (HO441.out) hkp (fun k_ hk_ hs_ => Or.elim hs_ (fun e_ => (hk_.1.2) e_) (fun e_ => (hk_.2) e_))) (fun k_ hk_ => ⟨hk_.1.1.2, hk_.1.2, hk_.1.1.1⟩)); replace HO444 := ax (Kd.za7 (ok' := fun k_ => some k_ ≠ (.slice Ao28 t425.length co28 : Value).ownBlock ∧ some k_ ≠ (.slice Ao32 t428.length co32 : Value).ownBlock ∧ some k_ ≠ (.slice Ao66 t439.length co66 : Value).ownBlock) (Kd.zdx (HO444.out) hkp (fun k_ hk_ hs_ => Or.elim hs_ (fun e_ => (hk_.1.2) e_) (fun e_ => (hk_.2) e_))) (fun k_ hk_ => ⟨hk_.1.1.2, hk_.1.2, hk_.1.1.1⟩)); replace HB := ax (hb); (try clear hb); (try clear hkp); (try clear hy0); (try clear hy1)))
      (try simp only [Act.put, List.setIfInBounds_toArray, List.set_cons_zero, List.set_cons_succ])
      go_cut [65] (fun v65 wc => ∃ (kq : Nat) (x65_62 : Bool), v65 = .bool x65_62 ∧ zao (zap.j1 kq a1 t423 x65_62 l0_0 l0_1 t419 t420 t432 t433 = some r) ∧ zao (kq ≤ kj11) ∧ zao (Kd.S k48 48 wc w.heap.size (fun k_ => some k_ ≠ ((.slice Ao28 t425.length co28) : Value).ownBlock ∧ some k_ ≠ ((.slice Ao32 t428.length co32) : Value).ownBlock ∧ some k_ ≠ ((.slice Ao39 t433.length co39) : Value).ownBlock ∧ k_ ≠ dmO N467_ k_) (.slice Ao24 t420.length co24) t420) ∧ zao (Kd.R (Kd.int .i64) 3 wc w.heap.size (fun k_ => some k_ ≠ ((.slice Ao32 t428.length co32) : Value).ownBlock) (.slice Ao28 t425.length co28) t447) ∧ zao (Kd.R (Kd.int .i64) 3 wc w.heap.size (fun k_ => some k_ ≠ ((.slice Ao28 t425.length co28) : Value).ownBlock) (.slice Ao32 t428.length co32) t448) ∧ zao (Kd.S k48 48 wc w.heap.size (fun k_ => some k_ ≠ ((.slice Ao24 t420.length co24) : Value).ownBlock ∧ some k_ ≠ ((.slice Ao28 t425.length co28) : Value).ownBlock ∧ some k_ ≠ ((.slice Ao32 t428.length co32) : Value).ownBlock ∧ k_ ≠ dmI N467_ k_) (.slice Ao39 t433.length co39) t433) ∧ zao (wc.heap[gb411]? = some (.cells #[(.slice A0_0 l0_0.length c0_0), (.slice A0_1 l0_1.length c0_1)] 37 (0, 0))) ∧ zao (wc.heap[gb424]? = some (.cells #[.int .i64 t419, (.slice Ao24 t420.length co24)] 28 (0, 0))) ∧ zao (wc.heap[gb431]? = some (.cells #[(.slice Ao28 t425.length co28), (.slice Ao32 t428.length co32)] 40 (0, 0))) ∧ zao (wc.heap[gb437]? = some (.cells #[.int .i64 t432, (.slice Ao39 t433.length co39)] 28 (0, 0))) ∧ zao (Below w.heap.size w wc))
      case first =>
       have H := HC63.out
       clear HC63
       by_cases c74 : t446 < 0
       ·rw [if_pos c74] at H
        have c74b0 := decide_eq_true c74
        clear c74
        (first | rw [c74b0] | (simp only [zcd, zcw]; rw [c74b0]) | skip)
        have H' := ax H
        clear H
        go_wp2
        go_meet
        case rel => exact ⟨_, (true), xr, H', ⟨by have := HJ11.out; first | omega | exact Nat.le_refl _⟩, ⟨by (with_reducible repeat (first | apply Kd.zbk | apply Kd.zbf | apply Kd.zbw)); exact Kd.zbr HO_1003.out (fun _ hk => ⟨hk.1, ⟨hk.2.1, ⟨hk.2.2.1, hk.2.2.2.2.2⟩⟩⟩)⟩, ⟨by (with_reducible repeat (first | apply Kd.zbd | apply Kd.zbc | apply Kd.zbq)); exact Kd.za7 HO_1000.out (fun _ hk => hk.1.1)⟩, ⟨by (with_reducible repeat (first | apply Kd.zbd | apply Kd.zbc | apply Kd.zbq)); exact Kd.za7 HO_1001.out (fun _ hk => hk.1.1)⟩, ⟨by (with_reducible repeat (first | apply Kd.zbk | apply Kd.zbf | apply Kd.zbw)); exact Kd.zbr HO_1002.out (fun _ hk => ⟨hk.1, ⟨hk.2.1, ⟨hk.2.2.1, hk.2.2.2.2.2⟩⟩⟩)⟩, ⟨xk BK411.out⟩, ⟨xk BK424.out⟩, ⟨xk BK431.out⟩, ⟨xk BK437.out⟩, ⟨bh HB.out⟩⟩
       ·rw [if_neg c74] at H
        have c74b0 := decide_eq_false c74
        clear c74
        (first | rw [c74b0] | (simp only [zcd, zcw]; rw [c74b0]) | skip)
        obtain ⟨t449, A75, H⟩ := xI H
        by_cases c76 : t449 = true
        ·subst c76
         rw [if_pos rfl] at H
         have H' := ax H
         clear H
         have hnb77 := NB437_411.out
         have hnc77 := NB411_437.out
         have hnb78 := NB437_424.out
         have hnc78 := NB424_437.out
         have hnb79 := NB437_431.out
         have hnc79 := NB431_437.out
         have hcz80_0 := bc0 BK437.out
         have hcz80_1 := bc1 BK437.out
         have hfz80_0 := zae BK437.out 0
         have hfz80_1 := zae BK437.out 1
         have hnb81 := NB424_411.out
         have hnc81 := NB411_424.out
         have hnb82 := NB424_431.out
         have hnc82 := NB431_424.out
         have hcz83_0 := bc0 BK424.out
         have hcz83_1 := bc1 BK424.out
         have hfz83_0 := zae BK424.out 0
         have hfz83_1 := zae BK424.out 1
         go_wp2_with (first | (go_at_call 11; (with_reducible refine (zbB.calls kj11 t432 _ _ t433 t419 _ _ t420 true _ ?side1 ?side2 ?side3 ?side4 A75.out).mono ?_); (case side1 => exact xc (Kd.zbg HO_1002.out).2.2); (case side2 => exact (Kd.zbg HO_1002.out).2.1); (case side3 => exact xc (Kd.zbg HO_1003.out).2.2); (case side4 => exact (Kd.zbg HO_1003.out).2.1); rintro e w84 ⟨rfl, hb⟩; replace HO_1003 := ax (Kd.zby (xS HO_1003.out) hb); replace HO_1000 := yR HO_1000 hb; replace HO_1001 := yR HO_1001 hb; replace HO_1002 := ax (Kd.zby (xS HO_1002.out) hb); replace HO441 := yR HO441 hb; replace HO444 := yR HO444 hb; replace BK411 := ax (bb BK411.out hb); replace BK424 := ax (bb BK424.out hb); replace BK431 := ax (bb BK431.out hb); replace BK437 := ax (bb BK437.out hb); replace HB := ax (zat (bh HB.out) hb); (try clear hb)))
         go_meet
         case rel => exact ⟨_, ((t436 != t423)), xr, H', ⟨by have := HJ11.out; first | omega | exact Nat.le_refl _⟩, ⟨by (with_reducible repeat (first | apply Kd.zbk | apply Kd.zbf | apply Kd.zbw)); exact Kd.zbr HO_1003.out (fun _ hk => ⟨hk.1, ⟨hk.2.1, ⟨hk.2.2.1, hk.2.2.2.2.2⟩⟩⟩)⟩, ⟨by (with_reducible repeat (first | apply Kd.zbd | apply Kd.zbc | apply Kd.zbq)); exact Kd.za7 HO_1000.out (fun _ hk => hk.1.1)⟩, ⟨by (with_reducible repeat (first | apply Kd.zbd | apply Kd.zbc | apply Kd.zbq)); exact Kd.za7 HO_1001.out (fun _ hk => hk.1.1)⟩, ⟨by (with_reducible repeat (first | apply Kd.zbk | apply Kd.zbf | apply Kd.zbw)); exact Kd.zbr HO_1002.out (fun _ hk => ⟨hk.1, ⟨hk.2.1, ⟨hk.2.2.1, hk.2.2.2.2.2⟩⟩⟩)⟩, ⟨xk BK411.out⟩, ⟨xk BK424.out⟩, ⟨xk BK431.out⟩, ⟨xk BK437.out⟩, ⟨bh HB.out⟩⟩
        ·replace c76 := Bool.eq_false_iff.mpr c76
         subst c76
         rw [if_neg (show ¬ (false = true) by decide)] at H
         have H' := ax H
         clear H
         have hnb85 := NB437_411.out
         have hnc85 := NB411_437.out
         have hnb86 := NB437_424.out
         have hnc86 := NB424_437.out
         have hnb87 := NB437_431.out
         have hnc87 := NB431_437.out
         have hcz88_0 := bc0 BK437.out
         have hcz88_1 := bc1 BK437.out
         have hfz88_0 := zae BK437.out 0
         have hfz88_1 := zae BK437.out 1
         have hnb89 := NB424_411.out
         have hnc89 := NB411_424.out
         have hnb90 := NB424_431.out
         have hnc90 := NB431_424.out
         have hcz91_0 := bc0 BK424.out
         have hcz91_1 := bc1 BK424.out
         have hfz91_0 := zae BK424.out 0
         have hfz91_1 := zae BK424.out 1
         go_wp2_with (first | (go_at_call 11; (with_reducible refine (zbB.calls kj11 t432 _ _ t433 t419 _ _ t420 false _ ?side1 ?side2 ?side3 ?side4 A75.out).mono ?_); (case side1 => exact xc (Kd.zbg HO_1002.out).2.2); (case side2 => exact (Kd.zbg HO_1002.out).2.1); (case side3 => exact xc (Kd.zbg HO_1003.out).2.2); (case side4 => exact (Kd.zbg HO_1003.out).2.1); rintro e w92 ⟨rfl, hb⟩; replace HO_1003 := ax (Kd.zby (xS HO_1003.out) hb); replace HO_1000 := yR HO_1000 hb; replace HO_1001 := yR HO_1001 hb; replace HO_1002 := ax (Kd.zby (xS HO_1002.out) hb); replace HO441 := yR HO441 hb; replace HO444 := yR HO444 hb; replace BK411 := ax (bb BK411.out hb); replace BK424 := ax (bb BK424.out hb); replace BK431 := ax (bb BK431.out hb); replace BK437 := ax (bb BK437.out hb); replace HB := ax (zat (bh HB.out) hb); (try clear hb)))
         go_meet
         case rel => exact ⟨_, (true), xr, H', ⟨by have := HJ11.out; first | omega | exact Nat.le_refl _⟩, ⟨by (with_reducible repeat (first | apply Kd.zbk | apply Kd.zbf | apply Kd.zbw)); exact Kd.zbr HO_1003.out (fun _ hk => ⟨hk.1, ⟨hk.2.1, ⟨hk.2.2.1, hk.2.2.2.2.2⟩⟩⟩)⟩, ⟨by (with_reducible repeat (first | apply Kd.zbd | apply Kd.zbc | apply Kd.zbq)); exact Kd.za7 HO_1000.out (fun _ hk => hk.1.1)⟩, ⟨by (with_reducible repeat (first | apply Kd.zbd | apply Kd.zbc | apply Kd.zbq)); exact Kd.za7 HO_1001.out (fun _ hk => hk.1.1)⟩, ⟨by (with_reducible repeat (first | apply Kd.zbk | apply Kd.zbf | apply Kd.zbw)); exact Kd.zbr HO_1002.out (fun _ hk => ⟨hk.1, ⟨hk.2.1, ⟨hk.2.2.1, hk.2.2.2.2.2⟩⟩⟩)⟩, ⟨xk BK411.out⟩, ⟨xk BK424.out⟩, ⟨xk BK431.out⟩, ⟨xk BK437.out⟩, ⟨bh HB.out⟩⟩
      case rest =>
       clear HC63
       (try clear c4); (try clear c4b0); (try clear c41); (try clear c58); (try clear c61); (try clear c74); (try clear c74b0); (try clear c76); (try clear hcz14_0); (try clear hcz14_1); (try clear hcz16_0); (try clear hcz16_1); (try clear hcz23_0); (try clear hcz23_1); (try clear hcz25_0); (try clear hcz25_1); (try clear hcz31_0); (try clear hcz31_1); (try clear hcz38_0); (try clear hcz38_1); (try clear hcz45_0); (try clear hcz45_1); (try clear hcz48_0); (try clear hcz48_1); (try clear hcz53_0); (try clear hcz53_1); (try clear hcz56_0); (try clear hcz56_1); (try clear hcz6_0); (try clear hcz6_1); (try clear hcz72_0); (try clear hcz72_1); (try clear hcz80_0); (try clear hcz80_1); (try clear hcz83_0); (try clear hcz83_1); (try clear hcz88_0); (try clear hcz88_1); (try clear hcz91_0); (try clear hcz91_1); (try clear hfz14_0); (try clear hfz14_1); (try clear hfz16_0); (try clear hfz16_1); (try clear hfz23_0); (try clear hfz23_1); (try clear hfz25_0); (try clear hfz25_1); (try clear hfz31_0); (try clear hfz31_1); (try clear hfz38_0); (try clear hfz38_1); (try clear hfz45_0); (try clear hfz45_1); (try clear hfz48_0); (try clear hfz48_1); (try clear hfz53_0); (try clear hfz53_1); (try clear hfz56_0); (try clear hfz56_1); (try clear hfz6_0); (try clear hfz6_1); (try clear hfz72_0); (try clear hfz72_1); (try clear hfz80_0); (try clear hfz80_1); (try clear hfz83_0); (try clear hfz83_1); (try clear hfz88_0); (try clear hfz88_1); (try clear hfz91_0); (try clear hfz91_1)
       obtain ⟨kq, x65_62, rfl, HA, HJ62, HO_1003, HO_1000, HO_1001, HO_1002, BK411, BK424, BK431, BK437, HB⟩ := hcut
       have hl1000_62 := (Kd.zbi HO_1000.out).1
       rw [hl1000_62] at HO_1000
       (try simp only [hl1000_62])
       (try simp only [hl1000_62] at BK411)
       (try simp only [hl1000_62] at BK424)
       (try simp only [hl1000_62] at BK431)
       (try simp only [hl1000_62] at BK437)
       (try simp only [hl1000_62] at HO_1003)
       (try simp only [hl1000_62] at HO_1001)
       (try simp only [hl1000_62] at HO_1002)
       have hl1001_62 := (Kd.zbi HO_1001.out).1
       rw [hl1001_62] at HO_1001
       (try simp only [hl1001_62])
       (try simp only [hl1001_62] at BK411)
       (try simp only [hl1001_62] at BK424)
       (try simp only [hl1001_62] at BK431)
       (try simp only [hl1001_62] at BK437)
       (try simp only [hl1001_62] at HO_1003)
       (try simp only [hl1001_62] at HO_1000)
       (try simp only [hl1001_62] at HO_1002)
       cases kq with
       | zero => exact absurd HA.out (by simp [zap.j1])
       | succ kj62 =>
        have H := HA.out
        clear HA
        simp only [zap.j1] at H
        by_cases c93 : x65_62 = true
        ·subst c93
         rw [if_pos rfl] at H
         obtain rfl := Option.some.inj H
         go_wp2
         go_ret
         exact ⟨xe, bh HB.out⟩
        ·replace c93 := Bool.eq_false_iff.mpr c93
         subst c93
         rw [if_neg (show ¬ (false = true) by decide)] at H
         obtain ⟨⟨t450, t451⟩, A94, H⟩ := xI H
         dsimp only at H
         obtain ⟨t452, A95, H⟩ := xI H
         by_cases c96 : t452 < 0
         ·rw [if_pos c96] at H
          have c96b0 := decide_eq_true c96
          clear c96
          obtain rfl := Option.some.inj H
          have hnb97 := NB437_411.out
          have hnc97 := NB411_437.out
          have hnb98 := NB437_424.out
          have hnc98 := NB424_437.out
          have hnb99 := NB437_431.out
          have hnc99 := NB431_437.out
          have hcz100_0 := bc0 BK437.out
          have hcz100_1 := bc1 BK437.out
          have hfz100_0 := zae BK437.out 0
          have hfz100_1 := zae BK437.out 1
          go_wp2_with (first | ((with_reducible refine zan (f := 12) rfl ?_); refine zaM (some 68) rfl rfl Try.func12 (by kernel_rfl) rfl #[.agg #[.int .i64 t432, .slice Ao39 t433.length co39], .int .i64 1] rfl xm ?_; (with_reducible refine (zbE.calls kj62 t432 ?pp1_ (.slice Ao39 t433.length co39) t433 1 t450 t451 w _ ?side1 ?side2 A94.out).mono ?_); (case side1 => exact bh HB.out); (case side2 => first | exact Kd.zdU HO_1002.out | (refine Kd.zdU ?_; (with_reducible repeat (first | apply Kd.zbk | apply Kd.zbf | apply Kd.zbw)); exact HO_1002.out)); rintro e w101 ⟨rfl, hy0, hb, hkp⟩; refine ⟨_, rfl, ?_⟩; (first | have n0_ := ax (Kd.zbr (ok' := fun k_ => some k_ ≠ (.slice Ao28 t447.length co28 : Value).ownBlock ∧ some k_ ≠ (.slice Ao32 t448.length co32 : Value).ownBlock ∧ some k_ ≠ (.slice Ao39 t433.length co39 : Value).ownBlock ∧ k_ ≠ dmO N467_ k_) (Kd.zdQ (HO_1003.out) hkp (fun k_ hk_ hs_ => dmNo hs_.1.2.2.2 hk_.2.2.2)) (fun k_ hk_ => ⟨hk_.1.1, hk_.1.2.1, hk_.1.2.2.1, hk_.1.2.2.2⟩)) | have n0_ := ax (Kd.zbr (ok' := fun k_ => some k_ ≠ (.slice Ao28 t447.length co28 : Value).ownBlock ∧ some k_ ≠ (.slice Ao32 t448.length co32 : Value).ownBlock ∧ some k_ ≠ (.slice Ao39 t433.length co39 : Value).ownBlock ∧ k_ ≠ dmO N467_ k_) (Kd.zdQ (Kd.zbf HO_1003.out _) hkp (fun k_ hk_ hs_ => dmNo hs_.1.2.2.2 hk_.2.2.2)) (fun k_ hk_ => ⟨hk_.1.1, hk_.1.2.1, hk_.1.2.2.1, hk_.1.2.2.2⟩))); have n1_ := ax (Kd.za7 (ok' := fun k_ => some k_ ≠ (.slice Ao32 t448.length co32 : Value).ownBlock) (Kd.zdx (Kd.zdG rfl HO_1000.out) hkp (fun k_ hk_ hs_ => by have h_ := hs_.1; first | exact h_ hk_.1 | exact h_.1 hk_.1 | exact h_.2.1 hk_.1 | exact h_.2 hk_.1 | exact h_.2.2.1 hk_.1 | exact h_.2.2 hk_.1 | exact h_.2.2.2.1 hk_.1 | exact h_.2.2.2 hk_.1 | exact h_.2.2.2.2.1 hk_.1 | exact h_.2.2.2.2 hk_.1 | exact h_.2.2.2.2.2.1 hk_.1 | exact h_.2.2.2.2.2 hk_.1 | exact h_.2.2.2.2.2.2.1 hk_.1 | exact h_.2.2.2.2.2.2 hk_.1 | exact h_.2.2.2.2.2.2.2.1 hk_.1 | exact h_.2.2.2.2.2.2.2 hk_.1 | exact h_.2.2.2.2.2.2.2.2.1 hk_.1 | exact h_.2.2.2.2.2.2.2.2 hk_.1 | exact h_.1.2 hk_.1 | exact h_.1.1.2 hk_.1 | exact h_.1.1.1.2 hk_.1 | exact h_.1.1.1.1.2 hk_.1 | exact h_.1.1.1.1.1.2 hk_.1 | exact h_.1.1.1.1.1.1.2 hk_.1 | exact h_.1.1.1.1.1.1.1.2 hk_.1 | exact h_.1.1.1.1.1.1.1.1.2 hk_.1 | exact h_.1.1 hk_.1 | exact h_.1.1.1 hk_.1 | exact h_.1.1.1.1 hk_.1 | exact h_.1.1.1.1.1 hk_.1 | exact h_.1.1.1.1.1.1 hk_.1 | exact h_.1.1.1.1.1.1.1 hk_.1 | exact h_.1.1.1.1.1.1.1.1 hk_.1)) (fun k_ hk_ => by have q_ := hk_.1.2; first | exact q_ | exact q_.2 | exact q_.1 | (simp only [and_assoc] at q_; exact q_))); have n2_ := ax (Kd.za7 (ok' := fun k_ => some k_ ≠ (.slice Ao28 t447.length co28 : Value).ownBlock) (Kd.zdx (Kd.zdG rfl HO_1001.out) hkp (fun k_ hk_ hs_ => by have h_ := hs_.1; first | exact h_ hk_.1 | exact h_.1 hk_.1 | exact h_.2.1 hk_.1 | exact h_.2 hk_.1 | exact h_.2.2.1 hk_.1 | exact h_.2.2 hk_.1 | exact h_.2.2.2.1 hk_.1 | exact h_.2.2.2 hk_.1 | exact h_.2.2.2.2.1 hk_.1 | exact h_.2.2.2.2 hk_.1 | exact h_.2.2.2.2.2.1 hk_.1 | exact h_.2.2.2.2.2 hk_.1 | exact h_.2.2.2.2.2.2.1 hk_.1 | exact h_.2.2.2.2.2.2 hk_.1 | exact h_.2.2.2.2.2.2.2.1 hk_.1 | exact h_.2.2.2.2.2.2.2 hk_.1 | exact h_.2.2.2.2.2.2.2.2.1 hk_.1 | exact h_.2.2.2.2.2.2.2.2 hk_.1 | exact h_.1.2 hk_.1 | exact h_.1.1.2 hk_.1 | exact h_.1.1.1.2 hk_.1 | exact h_.1.1.1.1.2 hk_.1 | exact h_.1.1.1.1.1.2 hk_.1 | exact h_.1.1.1.1.1.1.2 hk_.1 | exact h_.1.1.1.1.1.1.1.2 hk_.1 | exact h_.1.1.1.1.1.1.1.1.2 hk_.1 | exact h_.1.1 hk_.1 | exact h_.1.1.1 hk_.1 | exact h_.1.1.1.1 hk_.1 | exact h_.1.1.1.1.1 hk_.1 | exact h_.1.1.1.1.1.1 hk_.1 | exact h_.1.1.1.1.1.1.1 hk_.1 | exact h_.1.1.1.1.1.1.1.1 hk_.1)) (fun k_ hk_ => by have q_ := hk_.1.2; first | exact q_ | exact q_.2 | exact q_.1 | (simp only [and_assoc] at q_; exact q_))); have n3_ := ax (Kd.zbr hy0 (fun k_ hk_ => hk_.1)); have n4_ := ax (zb5 (xk BK411.out) hkp (fun hs_ => zeI BK411.out hs_.2 (by decide))); have n5_ := ax (zb5 (xk BK424.out) hkp (fun hs_ => zeI BK424.out hs_.2 (by decide))); have n6_ := ax (zb5 (xk BK431.out) hkp (fun hs_ => zeI BK431.out hs_.2 (by decide))); have n7_ := ax (zb5 (xk BK437.out) hkp (fun hs_ => zeI BK437.out hs_.2 (by decide))); have n8_ := ax (hb); clear HO_1003; clear HO_1000; clear HO_1001; clear HO_1002; clear BK411; clear BK424; clear BK431; clear BK437; clear HB; have HO_1003 := n0_; have HO_1000 := n1_; have HO_1001 := n2_; have HO_1002 := n3_; have BK411 := n4_; have BK424 := n5_; have BK431 := n6_; have BK437 := n7_; have HB := n8_; clear n0_ n1_ n2_ n3_ n4_ n5_ n6_ n7_ n8_; (try clear hb); (try clear hkp); (try clear hy0); have hcz102_0 := bc0 BK437.out; have hcz102_1 := bc1 BK437.out; have hfz102_0 := zae BK437.out 0; have hfz102_1 := zae BK437.out 1) | ((with_reducible refine zan (f := 13) rfl ?_); refine zaM (some 71) rfl rfl Try.func13 (by kernel_rfl) rfl #[.agg #[.int .i64 t432, .slice Ao39 t451.length co39], .int .i64 1] rfl (by (try simp only [List.map_toArray, List.map_cons, List.map_nil]); first | done | (rw [show t451.length = t433.length from (Kd.zbg HO_1002.out).1.symm] <;> rfl) | rfl | (simp only [List.length_drop, List.length_take]; rfl)) ?_; (with_reducible refine (zbs.calls kj62 t432 _ _ t451 1 t452 _ ?side1 ?side2 A95.out).mono ?_); (case side1 => exact xc (Kd.zbg HO_1002.out).2.2); (case side2 => rw [show t451.length = t433.length from (Kd.zbg HO_1002.out).1.symm]; exact (Kd.zbg HO_1002.out).2.1); rintro e w103 ⟨rfl, hb⟩; refine ⟨_, rfl, ?_⟩; replace HO_1003 := ax (Kd.zby (xS HO_1003.out) hb); replace HO_1000 := yR HO_1000 hb; replace HO_1001 := yR HO_1001 hb; replace HO_1002 := ax (Kd.zby (xS HO_1002.out) hb); replace BK411 := ax (bb BK411.out hb); replace BK424 := ax (bb BK424.out hb); replace BK431 := ax (bb BK431.out hb); replace BK437 := ax (bb BK437.out hb); replace HB := ax (zat (bh HB.out) hb); (try clear hb)))
          go_ret
          exact ⟨xe, bh HB.out⟩
         ·rw [if_neg c96] at H
          have c96b0 := decide_eq_false c96
          clear c96
          by_cases c104 : t452 = t450
          ·rw [if_pos c104] at H
           have c104b0 : (t452 == t450) = true := beq_iff_eq.mpr c104
           have c104b1 : (t452 != t450) = false := bne_eq_false_iff_eq.mpr c104
           clear c104
           obtain ⟨⟨t453, t456⟩, A105, H⟩ := xI H
           dsimp only at H
           obtain ⟨⟨t459, t460, t463⟩, A106, H⟩ := xI H
           dsimp only at H
           have HC107 := ax H
           clear H
           have hnb108 := NB437_411.out
           have hnc108 := NB411_437.out
           have hnb109 := NB437_424.out
           have hnc109 := NB424_437.out
           have hnb110 := NB437_431.out
           have hnc110 := NB431_437.out
           have hcz111_0 := bc0 BK437.out
           have hcz111_1 := bc1 BK437.out
           have hfz111_0 := zae BK437.out 0
           have hfz111_1 := zae BK437.out 1
           go_upto_region 25 with (first | ((with_reducible refine zan (f := 12) rfl ?_); refine zaM (some 68) rfl rfl Try.func12 (by kernel_rfl) rfl #[.agg #[.int .i64 t432, .slice Ao39 t433.length co39], .int .i64 1] rfl xm ?_; (with_reducible refine (zbE.calls kj62 t432 ?pp2_ (.slice Ao39 t433.length co39) t433 1 t450 t451 w _ ?side1 ?side2 A94.out).mono ?_); (case side1 => exact bh HB.out); (case side2 => first | exact Kd.zdU HO_1002.out | (refine Kd.zdU ?_; (with_reducible repeat (first | apply Kd.zbk | apply Kd.zbf | apply Kd.zbw)); exact HO_1002.out)); rintro e w112 ⟨rfl, hy0, hb, hkp⟩; refine ⟨_, rfl, ?_⟩; (first | have n0_ := ax (Kd.zbr (ok' := fun k_ => some k_ ≠ (.slice Ao28 t447.length co28 : Value).ownBlock ∧ some k_ ≠ (.slice Ao32 t448.length co32 : Value).ownBlock ∧ some k_ ≠ (.slice Ao39 t433.length co39 : Value).ownBlock ∧ k_ ≠ dmO N467_ k_) (Kd.zdQ (HO_1003.out) hkp (fun k_ hk_ hs_ => dmNo hs_.1.2.2.2 hk_.2.2.2)) (fun k_ hk_ => ⟨hk_.1.1, hk_.1.2.1, hk_.1.2.2.1, hk_.1.2.2.2⟩)) | have n0_ := ax (Kd.zbr (ok' := fun k_ => some k_ ≠ (.slice Ao28 t447.length co28 : Value).ownBlock ∧ some k_ ≠ (.slice Ao32 t448.length co32 : Value).ownBlock ∧ some k_ ≠ (.slice Ao39 t433.length co39 : Value).ownBlock ∧ k_ ≠ dmO N467_ k_) (Kd.zdQ (Kd.zbf HO_1003.out _) hkp (fun k_ hk_ hs_ => dmNo hs_.1.2.2.2 hk_.2.2.2)) (fun k_ hk_ => ⟨hk_.1.1, hk_.1.2.1, hk_.1.2.2.1, hk_.1.2.2.2⟩))); have n1_ := ax (Kd.za7 (ok' := fun k_ => some k_ ≠ (.slice Ao32 t448.length co32 : Value).ownBlock) (Kd.zdx (Kd.zdG rfl HO_1000.out) hkp (fun k_ hk_ hs_ => by have h_ := hs_.1; first | exact h_ hk_.1 | exact h_.1 hk_.1 | exact h_.2.1 hk_.1 | exact h_.2 hk_.1 | exact h_.2.2.1 hk_.1 | exact h_.2.2 hk_.1 | exact h_.2.2.2.1 hk_.1 | exact h_.2.2.2 hk_.1 | exact h_.2.2.2.2.1 hk_.1 | exact h_.2.2.2.2 hk_.1 | exact h_.2.2.2.2.2.1 hk_.1 | exact h_.2.2.2.2.2 hk_.1 | exact h_.2.2.2.2.2.2.1 hk_.1 | exact h_.2.2.2.2.2.2 hk_.1 | exact h_.2.2.2.2.2.2.2.1 hk_.1 | exact h_.2.2.2.2.2.2.2 hk_.1 | exact h_.2.2.2.2.2.2.2.2.1 hk_.1 | exact h_.2.2.2.2.2.2.2.2 hk_.1 | exact h_.1.2 hk_.1 | exact h_.1.1.2 hk_.1 | exact h_.1.1.1.2 hk_.1 | exact h_.1.1.1.1.2 hk_.1 | exact h_.1.1.1.1.1.2 hk_.1 | exact h_.1.1.1.1.1.1.2 hk_.1 | exact h_.1.1.1.1.1.1.1.2 hk_.1 | exact h_.1.1.1.1.1.1.1.1.2 hk_.1 | exact h_.1.1 hk_.1 | exact h_.1.1.1 hk_.1 | exact h_.1.1.1.1 hk_.1 | exact h_.1.1.1.1.1 hk_.1 | exact h_.1.1.1.1.1.1 hk_.1 | exact h_.1.1.1.1.1.1.1 hk_.1 | exact h_.1.1.1.1.1.1.1.1 hk_.1)) (fun k_ hk_ => by have q_ := hk_.1.2; first | exact q_ | exact q_.2 | exact q_.1 | (simp only [and_assoc] at q_; exact q_))); have n2_ := ax (Kd.za7 (ok' := fun k_ => some k_ ≠ (.slice Ao28 t447.length co28 : Value).ownBlock) (Kd.zdx (Kd.zdG rfl HO_1001.out) hkp (fun k_ hk_ hs_ => by have h_ := hs_.1; first | exact h_ hk_.1 | exact h_.1 hk_.1 | exact h_.2.1 hk_.1 | exact h_.2 hk_.1 | exact h_.2.2.1 hk_.1 | exact h_.2.2 hk_.1 | exact h_.2.2.2.1 hk_.1 | exact h_.2.2.2 hk_.1 | exact h_.2.2.2.2.1 hk_.1 | exact h_.2.2.2.2 hk_.1 | exact h_.2.2.2.2.2.1 hk_.1 | exact h_.2.2.2.2.2 hk_.1 | exact h_.2.2.2.2.2.2.1 hk_.1 | exact h_.2.2.2.2.2.2 hk_.1 | exact h_.2.2.2.2.2.2.2.1 hk_.1 | exact h_.2.2.2.2.2.2.2 hk_.1 | exact h_.2.2.2.2.2.2.2.2.1 hk_.1 | exact h_.2.2.2.2.2.2.2.2 hk_.1 | exact h_.1.2 hk_.1 | exact h_.1.1.2 hk_.1 | exact h_.1.1.1.2 hk_.1 | exact h_.1.1.1.1.2 hk_.1 | exact h_.1.1.1.1.1.2 hk_.1 | exact h_.1.1.1.1.1.1.2 hk_.1 | exact h_.1.1.1.1.1.1.1.2 hk_.1 | exact h_.1.1.1.1.1.1.1.1.2 hk_.1 | exact h_.1.1 hk_.1 | exact h_.1.1.1 hk_.1 | exact h_.1.1.1.1 hk_.1 | exact h_.1.1.1.1.1 hk_.1 | exact h_.1.1.1.1.1.1 hk_.1 | exact h_.1.1.1.1.1.1.1 hk_.1 | exact h_.1.1.1.1.1.1.1.1 hk_.1)) (fun k_ hk_ => by have q_ := hk_.1.2; first | exact q_ | exact q_.2 | exact q_.1 | (simp only [and_assoc] at q_; exact q_))); have n3_ := ax (Kd.zbr hy0 (fun k_ hk_ => hk_.1)); have n4_ := ax (zb5 (xk BK411.out) hkp (fun hs_ => zeI BK411.out hs_.2 (by decide))); have n5_ := ax (zb5 (xk BK424.out) hkp (fun hs_ => zeI BK424.out hs_.2 (by decide))); have n6_ := ax (zb5 (xk BK431.out) hkp (fun hs_ => zeI BK431.out hs_.2 (by decide))); have n7_ := ax (zb5 (xk BK437.out) hkp (fun hs_ => zeI BK437.out hs_.2 (by decide))); have n8_ := ax (hb); clear HO_1003; clear HO_1000; clear HO_1001; clear HO_1002; clear BK411; clear BK424; clear BK431; clear BK437; clear HB; have HO_1003 := n0_; have HO_1000 := n1_; have HO_1001 := n2_; have HO_1002 := n3_; have BK411 := n4_; have BK424 := n5_; have BK431 := n6_; have BK437 := n7_; have HB := n8_; clear n0_ n1_ n2_ n3_ n4_ n5_ n6_ n7_ n8_; (try clear hb); (try clear hkp); (try clear hy0); have hcz113_0 := bc0 BK437.out; have hcz113_1 := bc1 BK437.out; have hfz113_0 := zae BK437.out 0; have hfz113_1 := zae BK437.out 1) | ((with_reducible refine zan (f := 13) rfl ?_); refine zaM (some 71) rfl rfl Try.func13 (by kernel_rfl) rfl #[.agg #[.int .i64 t432, .slice Ao39 t451.length co39], .int .i64 1] rfl (by (try simp only [List.map_toArray, List.map_cons, List.map_nil]); first | done | (rw [show t451.length = t433.length from (Kd.zbg HO_1002.out).1.symm] <;> rfl) | rfl | (simp only [List.length_drop, List.length_take]; rfl)) ?_; (with_reducible refine (zbs.calls kj62 t432 _ _ t451 1 t452 _ ?side1 ?side2 A95.out).mono ?_); (case side1 => exact xc (Kd.zbg HO_1002.out).2.2); (case side2 => rw [show t451.length = t433.length from (Kd.zbg HO_1002.out).1.symm]; exact (Kd.zbg HO_1002.out).2.1); rintro e w114 ⟨rfl, hb⟩; refine ⟨_, rfl, ?_⟩; replace HO_1003 := ax (Kd.zby (xS HO_1003.out) hb); replace HO_1000 := yR HO_1000 hb; replace HO_1001 := yR HO_1001 hb; replace HO_1002 := ax (Kd.zby (xS HO_1002.out) hb); replace BK411 := ax (bb BK411.out hb); replace BK424 := ax (bb BK424.out hb); replace BK431 := ax (bb BK431.out hb); replace BK437 := ax (bb BK437.out hb); replace HB := ax (zat (bh HB.out) hb); (try clear hb); have hnb115 := NB411_424.out; have hnc115 := NB424_411.out; have hnb116 := NB411_431.out; have hnc116 := NB431_411.out; have hcz117_0 := bc0 BK411.out; have hcz117_1 := bc1 BK411.out; have hfz117_0 := zae BK411.out 0; have hfz117_1 := zae BK411.out 1) | ((with_reducible refine zan (f := 16) rfl ?_); refine zaM (some 79) rfl rfl Try.func16 (by kernel_rfl) rfl #[.agg #[.slice A0_0 l0_0.length c0_0, .slice A0_1 l0_1.length c0_1]] rfl xm ?_; (with_reducible refine (zbp.calls kj62 _ _ l0_0 _ _ l0_1 t453 t456 _ ?side1 ?side2 ?side3 ?side4 A105.out).mono ?_); (case side1 => exact xz HR0_0.out HB.out); (case side2 => exact HC0_0.out); (case side3 => exact xz HR0_1.out HB.out); (case side4 => exact HC0_1.out); rintro e w118 ⟨v454, v457, rfl, ho0, ho1, hb⟩; refine ⟨_, rfl, ?_⟩; replace HO_1003 := ax (Kd.zbr (Kd.zdr (Kd.zdr (Kd.zgL (xS HO_1003.out) hb) (Kd.zbh ho0)) (Kd.zbh ho1)) (fun _ h_ => h_.1)); replace HO_1002 := ax (Kd.zbr (Kd.zdr (Kd.zdr (Kd.zgL (xS HO_1002.out) hb) (Kd.zbh ho0)) (Kd.zbh ho1)) (fun _ h_ => h_.1)); have HO455 := ax (Kd.zbL (Kd.zcL (Kd.zcL ho0 (Kd.R_lt (xR HO_1000.out))) (Kd.R_lt (xR HO_1001.out))) (zaf (bh HB.out))); have HO458 := ax (Kd.zbL (Kd.zcL (Kd.zcL ho1 (Kd.R_lt (xR HO_1000.out))) (Kd.R_lt (xR HO_1001.out))) (zaf (bh HB.out))); replace HO_1000 := ax (Kd.za7 (Kd.zc9 (Kd.zc9 (Kd.zgq (xR HO_1000.out) hb) (Kd.zbh ho0)) (Kd.zbh ho1)) (fun _ h_ => h_.1)); replace HO_1001 := ax (Kd.za7 (Kd.zc9 (Kd.zc9 (Kd.zgq (xR HO_1001.out) hb) (Kd.zbh ho0)) (Kd.zbh ho1)) (fun _ h_ => h_.1)); replace BK411 := ax (bb BK411.out hb); replace BK424 := ax (bb BK424.out hb); replace BK431 := ax (bb BK431.out hb); replace BK437 := ax (bb BK437.out hb); replace HB := ax (zat (bh HB.out) hb); (try clear hb); (try clear ho0); (try clear ho1); obtain ⟨Ao119, co119, eo119⟩ := Kd.zbT HO455.out; subst eo119; obtain ⟨Ao120, co120, eo120⟩ := Kd.zbT HO458.out; subst eo120) | ((with_reducible refine zan (f := 22) rfl ?_); refine zaM (some 81) rfl rfl Try.func22 (by kernel_rfl) rfl #[.agg #[.slice Ao119 t453.length co119, .slice Ao120 t456.length co120], .int .i64 a1] rfl xm ?_; (with_reducible refine (zaN.calls kj62 _ _ t453 _ _ t456 a1 t459 t460 t463 _ ?side1 ?side2 ?side3 ?side4 A106.out).mono ?_); (case side1 => exact xc (Kd.zbi HO455.out).2.2); (case side2 => exact (Kd.zbi HO455.out).2.1); (case side3 => exact xc (Kd.zbi HO458.out).2.2); (case side4 => exact (Kd.zbi HO458.out).2.1); rintro e w121 ⟨v461, rfl, ho0, hb⟩; refine ⟨_, rfl, ?_⟩; replace ho0 := Kd.zk3 ho0; obtain ⟨N469_, ho0, hN469_⟩ := ho0; have HO462 := ax (Kd.zcZ (Kd.zdg (Kd.zdg (Kd.zdg (Kd.zdg (Kd.zdg (Kd.zdg ho0 (Kd.S_lt (xS HO_1003.out))) (Kd.R_lt (xR HO_1000.out))) (Kd.R_lt (xR HO_1001.out))) (Kd.S_lt (xS HO_1002.out))) (Kd.R_lt (xR HO455.out))) (Kd.R_lt (xR HO458.out))) (zaf (bh HB.out))); replace HO_1003 := ax (Kd.zfT (xS HO_1003.out) hN469_ (Kd.zcT ho0) hb); replace HO_1000 := yR HO_1000 hb; replace HO_1001 := yR HO_1001 hb; replace HO_1002 := ax (Kd.zfT (xS HO_1002.out) hN469_ (Kd.zcT ho0) hb); replace HO455 := yR HO455 hb; replace HO458 := yR HO458 hb; replace BK411 := ax (bb BK411.out hb); replace BK424 := ax (bb BK424.out hb); replace BK431 := ax (bb BK431.out hb); replace BK437 := ax (bb BK437.out hb); replace HB := ax (zat (bh HB.out) hb); (try clear hb); (try clear ho0); (try clear hN469_)) | ((with_reducible refine zaG (N := 14) rfl ?_); refine zaK ?hg (N := 14) ?hd (cs := #[.int .i64 0, .slice none 0 0]) (t := 28) ?hr ?_; (case hd => rfl); (case hg => rfl); (case hr => first | (go_simp; done) | (go_simp; rfl)); intro gb464 hg w122 hbox hb; replace HO_1003 := ax (Kd.zby (xS HO_1003.out) hb); replace HO_1000 := yR HO_1000 hb; replace HO_1001 := yR HO_1001 hb; replace HO_1002 := ax (Kd.zby (xS HO_1002.out) hb); replace HO455 := yR HO455 hb; replace HO458 := yR HO458 hb; replace HO462 := ax (Kd.zby (xS HO462.out) hb); have BK464 := ax (hbox); have GW464 := ax ((by rw [hg]; exact (zaf (bh HB.out)) : w.heap.size ≤ gb464)); have GE464 := ax ((by rw [hg]; exact (zaf (bh HB.out)) : w.heap.size ≤ gb464)); replace HB := ax (zat (bh HB.out) hb); have NB411_464 := ax (bn hg BK411.out); have NB464_411 := ax (bm hg BK411.out); replace BK411 := ax (bb BK411.out hb); have NB424_464 := ax (bn hg BK424.out); have NB464_424 := ax (bm hg BK424.out); replace BK424 := ax (bb BK424.out hb); have NB431_464 := ax (bn hg BK431.out); have NB464_431 := ax (bm hg BK431.out); replace BK431 := ax (bb BK431.out hb); have NB437_464 := ax (bn hg BK437.out); have NB464_437 := ax (bm hg BK437.out); replace BK437 := ax (bb BK437.out hb); clear hb hbox hg; have hnb123 := NB464_411.out; have hnc123 := NB411_464.out; have hnb124 := NB464_424.out; have hnc124 := NB424_464.out; have hnb125 := NB464_431.out; have hnc125 := NB431_464.out; have hnb126 := NB464_437.out; have hnc126 := NB437_464.out; have hcz127_0 := bc0 BK464.out; have hcz127_1 := bc1 BK464.out; have hfz127_0 := zae BK464.out 0; have hfz127_1 := zae BK464.out 1; obtain ⟨Ao128, co128, eo128⟩ := Kd.zcY HO462.out; subst eo128))
           (try simp only [Act.put, List.setIfInBounds_toArray, List.set_cons_zero, List.set_cons_succ])
           go_cut [92] (fun v92 wc => ∃ (kq : Nat) (x92_106 : Bool), v92 = .bool x92_106 ∧ zao (zap.j2 kq t450 x92_106 t432 t451 = some r) ∧ zao (kq ≤ kj62) ∧ zao (Kd.S k48 48 wc w.heap.size (fun k_ => some k_ ≠ ((.slice Ao28 t447.length co28) : Value).ownBlock ∧ some k_ ≠ ((.slice Ao32 t448.length co32) : Value).ownBlock ∧ some k_ ≠ ((.slice Ao39 t433.length co39) : Value).ownBlock ∧ some k_ ≠ ((.slice Ao128 t460.length co128) : Value).ownBlock ∧ k_ ≠ dmO N467_ k_ ∧ k_ ≠ dmO N469_ k_) (.slice Ao24 t420.length co24) t420) ∧ zao (Kd.R (Kd.int .i64) 3 wc w.heap.size (fun k_ => some k_ ≠ ((.slice Ao32 t448.length co32) : Value).ownBlock) (.slice Ao28 t447.length co28) t447) ∧ zao (Kd.R (Kd.int .i64) 3 wc w.heap.size (fun k_ => some k_ ≠ ((.slice Ao28 t447.length co28) : Value).ownBlock) (.slice Ao32 t448.length co32) t448) ∧ zao (Kd.S k48 48 wc w.heap.size (fun k_ => some k_ ≠ ((.slice Ao24 t420.length co24) : Value).ownBlock ∧ some k_ ≠ ((.slice Ao28 t447.length co28) : Value).ownBlock ∧ some k_ ≠ ((.slice Ao32 t448.length co32) : Value).ownBlock ∧ some k_ ≠ ((.slice Ao128 t460.length co128) : Value).ownBlock ∧ k_ ≠ dmI N467_ k_ ∧ k_ ≠ dmO N469_ k_) (.slice Ao39 t433.length co39) t451) ∧ zao (Kd.S k48 48 wc w.heap.size (fun k_ => some k_ ≠ ((.slice Ao24 t420.length co24) : Value).ownBlock ∧ some k_ ≠ ((.slice Ao28 t447.length co28) : Value).ownBlock ∧ some k_ ≠ ((.slice Ao32 t448.length co32) : Value).ownBlock ∧ some k_ ≠ ((.slice Ao39 t433.length co39) : Value).ownBlock ∧ k_ ≠ dmI N469_ k_) (.slice Ao128 t460.length co128) t460) ∧ zao (wc.heap[gb411]? = some (.cells #[(.slice A0_0 l0_0.length c0_0), (.slice A0_1 l0_1.length c0_1)] 37 (0, 0))) ∧ zao (wc.heap[gb424]? = some (.cells #[.int .i64 t419, (.slice Ao24 t420.length co24)] 28 (0, 0))) ∧ zao (wc.heap[gb431]? = some (.cells #[(.slice Ao28 t447.length co28), (.slice Ao32 t448.length co32)] 40 (0, 0))) ∧ zao (wc.heap[gb437]? = some (.cells #[.int .i64 t432, (.slice Ao39 t433.length co39)] 28 (0, 0))) ∧ zao (wc.heap[gb464]? = some (.cells #[.int .i64 t459, (.slice Ao128 t460.length co128)] 28 (0, 0))) ∧ zao (Below w.heap.size w wc))
           case first =>
            have H := HC107.out
            clear HC107
            obtain ⟨t465, A129, H⟩ := xI H
            by_cases c130 : t465 = true
            ·subst c130
             rw [if_pos rfl] at H
             have H' := ax H
             clear H
             have hnb131 := NB464_411.out
             have hnc131 := NB411_464.out
             have hnb132 := NB464_424.out
             have hnc132 := NB424_464.out
             have hnb133 := NB464_431.out
             have hnc133 := NB431_464.out
             have hnb134 := NB464_437.out
             have hnc134 := NB437_464.out
             have hcz135_0 := bc0 BK464.out
             have hcz135_1 := bc1 BK464.out
             have hfz135_0 := zae BK464.out 0
             have hfz135_1 := zae BK464.out 1
             have hnb136 := NB424_411.out
             have hnc136 := NB411_424.out
             have hnb137 := NB424_431.out
             have hnc137 := NB431_424.out
             have hnb138 := NB424_437.out
             have hnc138 := NB437_424.out
             have hcz139_0 := bc0 BK424.out
             have hcz139_1 := bc1 BK424.out
             have hfz139_0 := zae BK424.out 0
             have hfz139_1 := zae BK424.out 1
             go_wp2_with (first | ((with_reducible refine zan (f := 11) rfl ?_); refine zaM (some 86) rfl rfl Try.func11 (by kernel_rfl) rfl #[.agg #[.int .i64 t459, .slice Ao128 t460.length co128], .agg #[.int .i64 t419, .slice Ao24 t420.length co24]] rfl xm ?_; (with_reducible refine (zbB.calls kj62 t459 _ _ t460 t419 _ _ t420 true _ ?side1 ?side2 ?side3 ?side4 A129.out).mono ?_); (case side1 => refine (Kd.zbg (e := 48) (base := w.heap.size) (ok := fun k_ => ((((((k_ ≠ dmI N469_ k_ ∧ some k_ ≠ (.slice Ao24 t420.length co24 : Value).ownBlock) ∧ some k_ ≠ (.slice Ao28 t447.length co28 : Value).ownBlock) ∧ some k_ ≠ (.slice Ao32 t448.length co32 : Value).ownBlock) ∧ some k_ ≠ (.slice Ao39 t433.length co39 : Value).ownBlock) ∧ some k_ ≠ (.slice Ao119 t453.length co119 : Value).ownBlock) ∧ some k_ ≠ (.slice Ao120 t456.length co120 : Value).ownBlock)) (n := t460.length) (c := co128) ?_).2.2; exact (by (with_reducible repeat (first | apply Kd.zbk | apply Kd.zbf | apply Kd.zbw)); exact (f2S HO462.out BK464.out (.int .i64 t459) (.slice Ao128 t460.length co128)))); (case side2 => exact (Kd.zbg HO462.out).2.1); (case side3 => refine (Kd.zbg (e := 48) (base := w.heap.size) (ok := fun k_ => (((((some k_ ≠ (.slice Ao28 t447.length co28 : Value).ownBlock ∧ (some k_ ≠ (.slice Ao32 t448.length co32 : Value).ownBlock ∧ (some k_ ≠ (.slice Ao39 t433.length co39 : Value).ownBlock ∧ k_ ≠ dmO N467_ k_))) ∧ some k_ ≠ (.slice Ao119 t453.length co119 : Value).ownBlock) ∧ some k_ ≠ (.slice Ao120 t456.length co120 : Value).ownBlock) ∧ some k_ ≠ (.slice Ao128 t460.length co128 : Value).ownBlock) ∧ k_ ≠ dmO N469_ k_)) (n := t420.length) (c := co24) ?_).2.2; exact (by (with_reducible repeat (first | apply Kd.zbk | apply Kd.zbf | apply Kd.zbw)); exact (f2S HO_1003.out BK464.out (.int .i64 t459) (.slice Ao128 t460.length co128)))); (case side4 => exact (Kd.zbg HO_1003.out).2.1); rintro e w140 ⟨rfl, hb⟩; refine ⟨_, rfl, ?_⟩; replace HO_1003 := ax (Kd.zby (by (with_reducible repeat (first | apply Kd.zbk | apply Kd.zbf | apply Kd.zbw)); exact (f2S HO_1003.out BK464.out (.int .i64 t459) (.slice Ao128 t460.length co128))) hb); replace HO_1000 := ax (Kd.zb8 (by (with_reducible repeat (first | apply Kd.zbd | apply Kd.zbc | apply Kd.zbq)); exact (f2R HO_1000.out BK464.out (.int .i64 t459) (.slice Ao128 t460.length co128))) hb); replace HO_1001 := ax (Kd.zb8 (by (with_reducible repeat (first | apply Kd.zbd | apply Kd.zbc | apply Kd.zbq)); exact (f2R HO_1001.out BK464.out (.int .i64 t459) (.slice Ao128 t460.length co128))) hb); replace HO_1002 := ax (Kd.zby (by (with_reducible repeat (first | apply Kd.zbk | apply Kd.zbf | apply Kd.zbw)); exact (f2S HO_1002.out BK464.out (.int .i64 t459) (.slice Ao128 t460.length co128))) hb); replace HO455 := ax (Kd.zb8 (by (with_reducible repeat (first | apply Kd.zbd | apply Kd.zbc | apply Kd.zbq)); exact (f2R HO455.out BK464.out (.int .i64 t459) (.slice Ao128 t460.length co128))) hb); replace HO458 := ax (Kd.zb8 (by (with_reducible repeat (first | apply Kd.zbd | apply Kd.zbc | apply Kd.zbq)); exact (f2R HO458.out BK464.out (.int .i64 t459) (.slice Ao128 t460.length co128))) hb); replace HO462 := ax (Kd.zby (by (with_reducible repeat (first | apply Kd.zbk | apply Kd.zbf | apply Kd.zbw)); exact (f2S HO462.out BK464.out (.int .i64 t459) (.slice Ao128 t460.length co128))) hb); replace BK411 := ax (zbt (g := gb411) (o := .cells #[.slice A0_0 l0_0.length c0_0, .slice A0_1 l0_1.length c0_1] 37 (0, 0)) (by (with_reducible repeat (first | refine zak ?_ _ | refine zal ?_ | refine zai ?_ _)); refine zbb ?_ NB411_464.out _; (with_reducible repeat (first | refine zak ?_ _ | refine zal ?_ | refine zai ?_ _)); refine zbb ?_ NB411_464.out _; (with_reducible repeat (first | refine zak ?_ _ | refine zal ?_ | refine zai ?_ _)); exact BK411.out) hb); replace BK424 := ax (zbt (g := gb424) (o := .cells #[.int .i64 t419, .slice Ao24 t420.length co24] 28 (0, 0)) (by (with_reducible repeat (first | refine zak ?_ _ | refine zal ?_ | refine zai ?_ _)); refine zbb ?_ NB424_464.out _; (with_reducible repeat (first | refine zak ?_ _ | refine zal ?_ | refine zai ?_ _)); refine zbb ?_ NB424_464.out _; (with_reducible repeat (first | refine zak ?_ _ | refine zal ?_ | refine zai ?_ _)); exact BK424.out) hb); replace BK431 := ax (zbt (g := gb431) (o := .cells #[.slice Ao28 t447.length co28, .slice Ao32 t448.length co32] 40 (0, 0)) (by (with_reducible repeat (first | refine zak ?_ _ | refine zal ?_ | refine zai ?_ _)); refine zbb ?_ NB431_464.out _; (with_reducible repeat (first | refine zak ?_ _ | refine zal ?_ | refine zai ?_ _)); refine zbb ?_ NB431_464.out _; (with_reducible repeat (first | refine zak ?_ _ | refine zal ?_ | refine zai ?_ _)); exact BK431.out) hb); replace BK437 := ax (zbt (g := gb437) (o := .cells #[.int .i64 t432, .slice Ao39 t433.length co39] 28 (0, 0)) (by (with_reducible repeat (first | refine zak ?_ _ | refine zal ?_ | refine zai ?_ _)); refine zbb ?_ NB437_464.out _; (with_reducible repeat (first | refine zak ?_ _ | refine zal ?_ | refine zai ?_ _)); refine zbb ?_ NB437_464.out _; (with_reducible repeat (first | refine zak ?_ _ | refine zal ?_ | refine zai ?_ _)); exact BK437.out) hb); replace BK464 := ax (zbt (g := gb464) (o := .cells #[.int .i64 t459, .slice Ao128 t460.length co128] 28 (0, 0)) (by (with_reducible repeat (first | refine zak ?_ _ | refine zal ?_ | refine zai ?_ _)); refine zbz (cs := #[.int .i64 t459, .slice none 0 0]) ?_ 1 _ rfl; (with_reducible repeat (first | refine zak ?_ _ | refine zal ?_ | refine zai ?_ _)); refine zbz (cs := #[.int .i64 0, .slice none 0 0]) ?_ 0 _ rfl; (with_reducible repeat (first | refine zak ?_ _ | refine zal ?_ | refine zai ?_ _)); exact BK464.out) hb); replace HB := ax (zat (bh HB.out) hb); (try clear hb)))
             go_meet
             case rel => exact ⟨_, ((t463 != t423)), xr, H', ⟨by have := HJ11.out; have := HJ62.out; first | omega | exact Nat.le_refl _⟩, ⟨by (try simp only [hl1000_62]); (try simp only [hl1001_62]); (with_reducible repeat (first | apply Kd.zbk | apply Kd.zbf | apply Kd.zbw)); exact Kd.zbr HO_1003.out (fun _ hk => ⟨hk.1.1.1.1.1, ⟨hk.1.1.1.1.2.1, ⟨hk.1.1.1.1.2.2.1, ⟨hk.1.2, ⟨hk.1.1.1.1.2.2.2, hk.2⟩⟩⟩⟩⟩)⟩, ⟨by (try simp only [hl1000_62]); (try simp only [hl1001_62]); (with_reducible repeat (first | apply Kd.zbd | apply Kd.zbc | apply Kd.zbq)); exact Kd.za7 HO_1000.out (fun _ hk => hk.1.1)⟩, ⟨by (try simp only [hl1000_62]); (try simp only [hl1001_62]); (with_reducible repeat (first | apply Kd.zbd | apply Kd.zbc | apply Kd.zbq)); exact Kd.za7 HO_1001.out (fun _ hk => hk.1.1)⟩, ⟨by (try simp only [hl1000_62]); (try simp only [hl1001_62]); (with_reducible repeat (first | apply Kd.zbk | apply Kd.zbf | apply Kd.zbw)); exact Kd.zbr HO_1002.out (fun _ hk => ⟨hk.1.1.1.1.1, ⟨hk.1.1.1.1.2.1, ⟨hk.1.1.1.1.2.2.1, ⟨hk.1.2, ⟨hk.1.1.1.1.2.2.2, hk.2⟩⟩⟩⟩⟩)⟩, ⟨by (try simp only [hl1000_62]); (try simp only [hl1001_62]); (with_reducible repeat (first | apply Kd.zbk | apply Kd.zbf | apply Kd.zbw)); exact Kd.zbr HO462.out (fun _ hk => ⟨hk.1.1.1.1.1.2, ⟨hk.1.1.1.1.2, ⟨hk.1.1.1.2, ⟨hk.1.1.2, hk.1.1.1.1.1.1⟩⟩⟩⟩)⟩, ⟨by (try simp only [hl1000_62]); (try simp only [hl1001_62]); (with_reducible repeat (first | refine zak ?_ _ | refine zal ?_ | refine zai ?_ _)); exact BK411.out⟩, ⟨by (try simp only [hl1000_62]); (try simp only [hl1001_62]); (with_reducible repeat (first | refine zak ?_ _ | refine zal ?_ | refine zai ?_ _)); exact BK424.out⟩, ⟨by (try simp only [hl1000_62]); (try simp only [hl1001_62]); (with_reducible repeat (first | refine zak ?_ _ | refine zal ?_ | refine zai ?_ _)); exact BK431.out⟩, ⟨by (try simp only [hl1000_62]); (try simp only [hl1001_62]); (with_reducible repeat (first | refine zak ?_ _ | refine zal ?_ | refine zai ?_ _)); exact BK437.out⟩, ⟨by (try simp only [hl1000_62]); (try simp only [hl1001_62]); (with_reducible repeat (first | refine zak ?_ _ | refine zal ?_ | refine zai ?_ _)); exact BK464.out⟩, ⟨bh HB.out⟩⟩
            ·replace c130 := Bool.eq_false_iff.mpr c130
             subst c130
             rw [if_neg (show ¬ (false = true) by decide)] at H
             have H' := ax H
             clear H
             have hnb141 := NB464_411.out
             have hnc141 := NB411_464.out
             have hnb142 := NB464_424.out
             have hnc142 := NB424_464.out
             have hnb143 := NB464_431.out
             have hnc143 := NB431_464.out
             have hnb144 := NB464_437.out
             have hnc144 := NB437_464.out
             have hcz145_0 := bc0 BK464.out
             have hcz145_1 := bc1 BK464.out
             have hfz145_0 := zae BK464.out 0
             have hfz145_1 := zae BK464.out 1
             have hnb146 := NB424_411.out
             have hnc146 := NB411_424.out
             have hnb147 := NB424_431.out
             have hnc147 := NB431_424.out
             have hnb148 := NB424_437.out
             have hnc148 := NB437_424.out
             have hcz149_0 := bc0 BK424.out
             have hcz149_1 := bc1 BK424.out
             have hfz149_0 := zae BK424.out 0
             have hfz149_1 := zae BK424.out 1
             go_wp2_with (first | ((with_reducible refine zan (f := 11) rfl ?_); refine zaM (some 86) rfl rfl Try.func11 (by kernel_rfl) rfl #[.agg #[.int .i64 t459, .slice Ao128 t460.length co128], .agg #[.int .i64 t419, .slice Ao24 t420.length co24]] rfl xm ?_; (with_reducible refine (zbB.calls kj62 t459 _ _ t460 t419 _ _ t420 false _ ?side1 ?side2 ?side3 ?side4 A129.out).mono ?_); (case side1 => refine (Kd.zbg (e := 48) (base := w.heap.size) (ok := fun k_ => ((((((k_ ≠ dmI N469_ k_ ∧ some k_ ≠ (.slice Ao24 t420.length co24 : Value).ownBlock) ∧ some k_ ≠ (.slice Ao28 t447.length co28 : Value).ownBlock) ∧ some k_ ≠ (.slice Ao32 t448.length co32 : Value).ownBlock) ∧ some k_ ≠ (.slice Ao39 t433.length co39 : Value).ownBlock) ∧ some k_ ≠ (.slice Ao119 t453.length co119 : Value).ownBlock) ∧ some k_ ≠ (.slice Ao120 t456.length co120 : Value).ownBlock)) (n := t460.length) (c := co128) ?_).2.2; exact (by (with_reducible repeat (first | apply Kd.zbk | apply Kd.zbf | apply Kd.zbw)); exact (f2S HO462.out BK464.out (.int .i64 t459) (.slice Ao128 t460.length co128)))); (case side2 => exact (Kd.zbg HO462.out).2.1); (case side3 => refine (Kd.zbg (e := 48) (base := w.heap.size) (ok := fun k_ => (((((some k_ ≠ (.slice Ao28 t447.length co28 : Value).ownBlock ∧ (some k_ ≠ (.slice Ao32 t448.length co32 : Value).ownBlock ∧ (some k_ ≠ (.slice Ao39 t433.length co39 : Value).ownBlock ∧ k_ ≠ dmO N467_ k_))) ∧ some k_ ≠ (.slice Ao119 t453.length co119 : Value).ownBlock) ∧ some k_ ≠ (.slice Ao120 t456.length co120 : Value).ownBlock) ∧ some k_ ≠ (.slice Ao128 t460.length co128 : Value).ownBlock) ∧ k_ ≠ dmO N469_ k_)) (n := t420.length) (c := co24) ?_).2.2; exact (by (with_reducible repeat (first | apply Kd.zbk | apply Kd.zbf | apply Kd.zbw)); exact (f2S HO_1003.out BK464.out (.int .i64 t459) (.slice Ao128 t460.length co128)))); (case side4 => exact (Kd.zbg HO_1003.out).2.1); rintro e w150 ⟨rfl, hb⟩; refine ⟨_, rfl, ?_⟩; replace HO_1003 := ax (Kd.zby (by (with_reducible repeat (first | apply Kd.zbk | apply Kd.zbf | apply Kd.zbw)); exact (f2S HO_1003.out BK464.out (.int .i64 t459) (.slice Ao128 t460.length co128))) hb); replace HO_1000 := ax (Kd.zb8 (by (with_reducible repeat (first | apply Kd.zbd | apply Kd.zbc | apply Kd.zbq)); exact (f2R HO_1000.out BK464.out (.int .i64 t459) (.slice Ao128 t460.length co128))) hb); replace HO_1001 := ax (Kd.zb8 (by (with_reducible repeat (first | apply Kd.zbd | apply Kd.zbc | apply Kd.zbq)); exact (f2R HO_1001.out BK464.out (.int .i64 t459) (.slice Ao128 t460.length co128))) hb); replace HO_1002 := ax (Kd.zby (by (with_reducible repeat (first | apply Kd.zbk | apply Kd.zbf | apply Kd.zbw)); exact (f2S HO_1002.out BK464.out (.int .i64 t459) (.slice Ao128 t460.length co128))) hb); replace HO455 := ax (Kd.zb8 (by (with_reducible repeat (first | apply Kd.zbd | apply Kd.zbc | apply Kd.zbq)); exact (f2R HO455.out BK464.out (.int .i64 t459) (.slice Ao128 t460.length co128))) hb); replace HO458 := ax (Kd.zb8 (by (with_reducible repeat (first | apply Kd.zbd | apply Kd.zbc | apply Kd.zbq)); exact (f2R HO458.out BK464.out (.int .i64 t459) (.slice Ao128 t460.length co128))) hb); replace HO462 := ax (Kd.zby (by (with_reducible repeat (first | apply Kd.zbk | apply Kd.zbf | apply Kd.zbw)); exact (f2S HO462.out BK464.out (.int .i64 t459) (.slice Ao128 t460.length co128))) hb); replace BK411 := ax (zbt (g := gb411) (o := .cells #[.slice A0_0 l0_0.length c0_0, .slice A0_1 l0_1.length c0_1] 37 (0, 0)) (by (with_reducible repeat (first | refine zak ?_ _ | refine zal ?_ | refine zai ?_ _)); refine zbb ?_ NB411_464.out _; (with_reducible repeat (first | refine zak ?_ _ | refine zal ?_ | refine zai ?_ _)); refine zbb ?_ NB411_464.out _; (with_reducible repeat (first | refine zak ?_ _ | refine zal ?_ | refine zai ?_ _)); exact BK411.out) hb); replace BK424 := ax (zbt (g := gb424) (o := .cells #[.int .i64 t419, .slice Ao24 t420.length co24] 28 (0, 0)) (by (with_reducible repeat (first | refine zak ?_ _ | refine zal ?_ | refine zai ?_ _)); refine zbb ?_ NB424_464.out _; (with_reducible repeat (first | refine zak ?_ _ | refine zal ?_ | refine zai ?_ _)); refine zbb ?_ NB424_464.out _; (with_reducible repeat (first | refine zak ?_ _ | refine zal ?_ | refine zai ?_ _)); exact BK424.out) hb); replace BK431 := ax (zbt (g := gb431) (o := .cells #[.slice Ao28 t447.length co28, .slice Ao32 t448.length co32] 40 (0, 0)) (by (with_reducible repeat (first | refine zak ?_ _ | refine zal ?_ | refine zai ?_ _)); refine zbb ?_ NB431_464.out _; (with_reducible repeat (first | refine zak ?_ _ | refine zal ?_ | refine zai ?_ _)); refine zbb ?_ NB431_464.out _; (with_reducible repeat (first | refine zak ?_ _ | refine zal ?_ | refine zai ?_ _)); exact BK431.out) hb); replace BK437 := ax (zbt (g := gb437) (o := .cells #[.int .i64 t432, .slice Ao39 t433.length co39] 28 (0, 0)) (by (with_reducible repeat (first | refine zak ?_ _ | refine zal ?_ | refine zai ?_ _)); refine zbb ?_ NB437_464.out _; (with_reducible repeat (first | refine zak ?_ _ | refine zal ?_ | refine zai ?_ _)); refine zbb ?_ NB437_464.out _; (with_reducible repeat (first | refine zak ?_ _ | refine zal ?_ | refine zai ?_ _)); exact BK437.out) hb); replace BK464 := ax (zbt (g := gb464) (o := .cells #[.int .i64 t459, .slice Ao128 t460.length co128] 28 (0, 0)) (by (with_reducible repeat (first | refine zak ?_ _ | refine zal ?_ | refine zai ?_ _)); refine zbz (cs := #[.int .i64 t459, .slice none 0 0]) ?_ 1 _ rfl; (with_reducible repeat (first | refine zak ?_ _ | refine zal ?_ | refine zai ?_ _)); refine zbz (cs := #[.int .i64 0, .slice none 0 0]) ?_ 0 _ rfl; (with_reducible repeat (first | refine zak ?_ _ | refine zal ?_ | refine zai ?_ _)); exact BK464.out) hb); replace HB := ax (zat (bh HB.out) hb); (try clear hb)))
             go_meet
             case rel => exact ⟨_, (true), xr, H', ⟨by have := HJ11.out; have := HJ62.out; first | omega | exact Nat.le_refl _⟩, ⟨by (try simp only [hl1000_62]); (try simp only [hl1001_62]); (with_reducible repeat (first | apply Kd.zbk | apply Kd.zbf | apply Kd.zbw)); exact Kd.zbr HO_1003.out (fun _ hk => ⟨hk.1.1.1.1.1, ⟨hk.1.1.1.1.2.1, ⟨hk.1.1.1.1.2.2.1, ⟨hk.1.2, ⟨hk.1.1.1.1.2.2.2, hk.2⟩⟩⟩⟩⟩)⟩, ⟨by (try simp only [hl1000_62]); (try simp only [hl1001_62]); (with_reducible repeat (first | apply Kd.zbd | apply Kd.zbc | apply Kd.zbq)); exact Kd.za7 HO_1000.out (fun _ hk => hk.1.1)⟩, ⟨by (try simp only [hl1000_62]); (try simp only [hl1001_62]); (with_reducible repeat (first | apply Kd.zbd | apply Kd.zbc | apply Kd.zbq)); exact Kd.za7 HO_1001.out (fun _ hk => hk.1.1)⟩, ⟨by (try simp only [hl1000_62]); (try simp only [hl1001_62]); (with_reducible repeat (first | apply Kd.zbk | apply Kd.zbf | apply Kd.zbw)); exact Kd.zbr HO_1002.out (fun _ hk => ⟨hk.1.1.1.1.1, ⟨hk.1.1.1.1.2.1, ⟨hk.1.1.1.1.2.2.1, ⟨hk.1.2, ⟨hk.1.1.1.1.2.2.2, hk.2⟩⟩⟩⟩⟩)⟩, ⟨by (try simp only [hl1000_62]); (try simp only [hl1001_62]); (with_reducible repeat (first | apply Kd.zbk | apply Kd.zbf | apply Kd.zbw)); exact Kd.zbr HO462.out (fun _ hk => ⟨hk.1.1.1.1.1.2, ⟨hk.1.1.1.1.2, ⟨hk.1.1.1.2, ⟨hk.1.1.2, hk.1.1.1.1.1.1⟩⟩⟩⟩)⟩, ⟨by (try simp only [hl1000_62]); (try simp only [hl1001_62]); (with_reducible repeat (first | refine zak ?_ _ | refine zal ?_ | refine zai ?_ _)); exact BK411.out⟩, ⟨by (try simp only [hl1000_62]); (try simp only [hl1001_62]); (with_reducible repeat (first | refine zak ?_ _ | refine zal ?_ | refine zai ?_ _)); exact BK424.out⟩, ⟨by (try simp only [hl1000_62]); (try simp only [hl1001_62]); (with_reducible repeat (first | refine zak ?_ _ | refine zal ?_ | refine zai ?_ _)); exact BK431.out⟩, ⟨by (try simp only [hl1000_62]); (try simp only [hl1001_62]); (with_reducible repeat (first | refine zak ?_ _ | refine zal ?_ | refine zai ?_ _)); exact BK437.out⟩, ⟨by (try simp only [hl1000_62]); (try simp only [hl1001_62]); (with_reducible repeat (first | refine zak ?_ _ | refine zal ?_ | refine zai ?_ _)); exact BK464.out⟩, ⟨bh HB.out⟩⟩
           case rest =>
            clear HC107
            (try clear c4); (try clear c4b0); (try clear c41); (try clear c58); (try clear c61); (try clear c74); (try clear c74b0); (try clear c76); (try clear c93); (try clear c96); (try clear c96b0); (try clear c104); (try clear c104b0); (try clear c104b1); (try clear c130); (try clear hcz100_0); (try clear hcz100_1); (try clear hcz102_0); (try clear hcz102_1); (try clear hcz111_0); (try clear hcz111_1); (try clear hcz113_0); (try clear hcz113_1); (try clear hcz117_0); (try clear hcz117_1); (try clear hcz127_0); (try clear hcz127_1); (try clear hcz135_0); (try clear hcz135_1); (try clear hcz139_0); (try clear hcz139_1); (try clear hcz145_0); (try clear hcz145_1); (try clear hcz149_0); (try clear hcz149_1); (try clear hcz14_0); (try clear hcz14_1); (try clear hcz16_0); (try clear hcz16_1); (try clear hcz23_0); (try clear hcz23_1); (try clear hcz25_0); (try clear hcz25_1); (try clear hcz31_0); (try clear hcz31_1); (try clear hcz38_0); (try clear hcz38_1); (try clear hcz45_0); (try clear hcz45_1); (try clear hcz48_0); (try clear hcz48_1); (try clear hcz53_0); (try clear hcz53_1); (try clear hcz56_0); (try clear hcz56_1); (try clear hcz6_0); (try clear hcz6_1); (try clear hcz72_0); (try clear hcz72_1); (try clear hcz80_0); (try clear hcz80_1); (try clear hcz83_0); (try clear hcz83_1); (try clear hcz88_0); (try clear hcz88_1); (try clear hcz91_0); (try clear hcz91_1); (try clear hfz100_0); (try clear hfz100_1); (try clear hfz102_0); (try clear hfz102_1); (try clear hfz111_0); (try clear hfz111_1); (try clear hfz113_0); (try clear hfz113_1); (try clear hfz117_0); (try clear hfz117_1); (try clear hfz127_0); (try clear hfz127_1); (try clear hfz135_0); (try clear hfz135_1); (try clear hfz139_0); (try clear hfz139_1); (try clear hfz145_0); (try clear hfz145_1); (try clear hfz149_0); (try clear hfz149_1); (try clear hfz14_0); (try clear hfz14_1); (try clear hfz16_0); (try clear hfz16_1); (try clear hfz23_0); (try clear hfz23_1); (try clear hfz25_0); (try clear hfz25_1); (try clear hfz31_0); (try clear hfz31_1); (try clear hfz38_0); (try clear hfz38_1); (try clear hfz45_0); (try clear hfz45_1); (try clear hfz48_0); (try clear hfz48_1); (try clear hfz53_0); (try clear hfz53_1); (try clear hfz56_0); (try clear hfz56_1); (try clear hfz6_0); (try clear hfz6_1); (try clear hfz72_0); (try clear hfz72_1); (try clear hfz80_0); (try clear hfz80_1); (try clear hfz83_0); (try clear hfz83_1); (try clear hfz88_0); (try clear hfz88_1); (try clear hfz91_0); (try clear hfz91_1)
            obtain ⟨kq, x92_106, rfl, HA, HJ106, HO_1003, HO_1000, HO_1001, HO_1002, HO_1005, BK411, BK424, BK431, BK437, BK464, HB⟩ := hcut
            have hl1002_106 := (Kd.zbg HO_1002.out).1
            rw [hl1002_106] at HO_1002
            (try simp only [hl1002_106])
            (try simp only [hl1002_106] at BK411)
            (try simp only [hl1002_106] at BK424)
            (try simp only [hl1002_106] at BK431)
            (try simp only [hl1002_106] at BK437)
            (try simp only [hl1002_106] at BK464)
            (try simp only [hl1002_106] at HO_1003)
            (try simp only [hl1002_106] at HO_1000)
            (try simp only [hl1002_106] at HO_1001)
            (try simp only [hl1002_106] at HO_1005)
            cases kq with
            | zero => exact absurd HA.out (by simp [zap.j2])
            | succ kj106 =>
             have H := HA.out
             clear HA
             simp only [zap.j2] at H
             by_cases c151 : x92_106 = true
             ·subst c151
              rw [if_pos rfl] at H
              obtain rfl := Option.some.inj H
              go_wp2
              go_ret
              exact ⟨xe, bh HB.out⟩
             ·replace c151 := Bool.eq_false_iff.mpr c151
              subst c151
              rw [if_neg (show ¬ (false = true) by decide)] at H
              obtain ⟨t466, A152, H⟩ := xI H
              by_cases c153 : t466 < 0
              ·rw [if_pos c153] at H
               have c153b0 := decide_eq_true c153
               clear c153
               obtain rfl := Option.some.inj H
               have hnb154 := NB437_411.out
               have hnc154 := NB411_437.out
               have hnb155 := NB437_424.out
               have hnc155 := NB424_437.out
               have hnb156 := NB437_431.out
               have hnc156 := NB431_437.out
               have hnb157 := NB437_464.out
               have hnc157 := NB464_437.out
               have hcz158_0 := bc0 BK437.out
               have hcz158_1 := bc1 BK437.out
               have hfz158_0 := zae BK437.out 0
               have hfz158_1 := zae BK437.out 1
               go_wp2_with (first | ((with_reducible refine zan (f := 13) rfl ?_); refine zaM (some 95) rfl rfl Try.func13 (by kernel_rfl) rfl #[.agg #[.int .i64 t432, .slice Ao39 t451.length co39], .int .i64 1] rfl xm ?_; (with_reducible refine (zbs.calls kj106 t432 _ _ t451 1 t466 _ ?side1 ?side2 A152.out).mono ?_); (case side1 => exact xc (Kd.zbg HO_1002.out).2.2); (case side2 => exact (Kd.zbg HO_1002.out).2.1); rintro e w159 ⟨rfl, hb⟩; refine ⟨_, rfl, ?_⟩; replace HO_1003 := ax (Kd.zby (xS HO_1003.out) hb); replace HO_1000 := yR HO_1000 hb; replace HO_1001 := yR HO_1001 hb; replace HO_1002 := ax (Kd.zby (xS HO_1002.out) hb); replace HO_1005 := ax (Kd.zby (xS HO_1005.out) hb); replace BK411 := ax (bb BK411.out hb); replace BK424 := ax (bb BK424.out hb); replace BK431 := ax (bb BK431.out hb); replace BK437 := ax (bb BK437.out hb); replace BK464 := ax (bb BK464.out hb); replace HB := ax (zat (bh HB.out) hb); (try clear hb)))
               go_ret
               exact ⟨xe, bh HB.out⟩
              ·rw [if_neg c153] at H
               have c153b0 := decide_eq_false c153
               clear c153
               by_cases c160 : t466 = t450
               ·rw [if_pos c160] at H
                have c160b0 : (t466 == t450) = true := beq_iff_eq.mpr c160
                have c160b1 : (t466 != t450) = false := bne_eq_false_iff_eq.mpr c160
                clear c160
                obtain rfl := Option.some.inj H
                have hnb161 := NB437_411.out
                have hnc161 := NB411_437.out
                have hnb162 := NB437_424.out
                have hnc162 := NB424_437.out
                have hnb163 := NB437_431.out
                have hnc163 := NB431_437.out
                have hnb164 := NB437_464.out
                have hnc164 := NB464_437.out
                have hcz165_0 := bc0 BK437.out
                have hcz165_1 := bc1 BK437.out
                have hfz165_0 := zae BK437.out 0
                have hfz165_1 := zae BK437.out 1
                go_wp2_with (first | ((with_reducible refine zan (f := 13) rfl ?_); refine zaM (some 95) rfl rfl Try.func13 (by kernel_rfl) rfl #[.agg #[.int .i64 t432, .slice Ao39 t451.length co39], .int .i64 1] rfl xm ?_; (with_reducible refine (zbs.calls kj106 t432 _ _ t451 1 t466 _ ?side1 ?side2 A152.out).mono ?_); (case side1 => exact xc (Kd.zbg HO_1002.out).2.2); (case side2 => exact (Kd.zbg HO_1002.out).2.1); rintro e w166 ⟨rfl, hb⟩; refine ⟨_, rfl, ?_⟩; replace HO_1003 := ax (Kd.zby (xS HO_1003.out) hb); replace HO_1000 := yR HO_1000 hb; replace HO_1001 := yR HO_1001 hb; replace HO_1002 := ax (Kd.zby (xS HO_1002.out) hb); replace HO_1005 := ax (Kd.zby (xS HO_1005.out) hb); replace BK411 := ax (bb BK411.out hb); replace BK424 := ax (bb BK424.out hb); replace BK431 := ax (bb BK431.out hb); replace BK437 := ax (bb BK437.out hb); replace BK464 := ax (bb BK464.out hb); replace HB := ax (zat (bh HB.out) hb); (try clear hb)))
                go_ret
                exact ⟨xe, bh HB.out⟩
               ·rw [if_neg c160] at H
                have c160b0 : (t466 == t450) = false := beq_eq_false_iff_ne.mpr c160
                have c160b1 : (t466 != t450) = true := bne_iff_ne.mpr c160
                obtain rfl := Option.some.inj H
                have hnb167 := NB437_411.out
                have hnc167 := NB411_437.out
                have hnb168 := NB437_424.out
                have hnc168 := NB424_437.out
                have hnb169 := NB437_431.out
                have hnc169 := NB431_437.out
                have hnb170 := NB437_464.out
                have hnc170 := NB464_437.out
                have hcz171_0 := bc0 BK437.out
                have hcz171_1 := bc1 BK437.out
                have hfz171_0 := zae BK437.out 0
                have hfz171_1 := zae BK437.out 1
                go_wp2_with (first | ((with_reducible refine zan (f := 13) rfl ?_); refine zaM (some 95) rfl rfl Try.func13 (by kernel_rfl) rfl #[.agg #[.int .i64 t432, .slice Ao39 t451.length co39], .int .i64 1] rfl xm ?_; (with_reducible refine (zbs.calls kj106 t432 _ _ t451 1 t466 _ ?side1 ?side2 A152.out).mono ?_); (case side1 => exact xc (Kd.zbg HO_1002.out).2.2); (case side2 => exact (Kd.zbg HO_1002.out).2.1); rintro e w172 ⟨rfl, hb⟩; refine ⟨_, rfl, ?_⟩; replace HO_1003 := ax (Kd.zby (xS HO_1003.out) hb); replace HO_1000 := yR HO_1000 hb; replace HO_1001 := yR HO_1001 hb; replace HO_1002 := ax (Kd.zby (xS HO_1002.out) hb); replace HO_1005 := ax (Kd.zby (xS HO_1005.out) hb); replace BK411 := ax (bb BK411.out hb); replace BK424 := ax (bb BK424.out hb); replace BK431 := ax (bb BK431.out hb); replace BK437 := ax (bb BK437.out hb); replace BK464 := ax (bb BK464.out hb); replace HB := ax (zat (bh HB.out) hb); (try clear hb)))
                go_ret
                exact ⟨xe, bh HB.out⟩
          ·rw [if_neg c104] at H
           have c104b0 : (t452 == t450) = false := beq_eq_false_iff_ne.mpr c104
           have c104b1 : (t452 != t450) = true := bne_iff_ne.mpr c104
           obtain rfl := Option.some.inj H
           have hnb173 := NB437_411.out
           have hnc173 := NB411_437.out
           have hnb174 := NB437_424.out
           have hnc174 := NB424_437.out
           have hnb175 := NB437_431.out
           have hnc175 := NB431_437.out
           have hcz176_0 := bc0 BK437.out
           have hcz176_1 := bc1 BK437.out
           have hfz176_0 := zae BK437.out 0
           have hfz176_1 := zae BK437.out 1
           go_wp2_with (first | ((with_reducible refine zan (f := 12) rfl ?_); refine zaM (some 68) rfl rfl Try.func12 (by kernel_rfl) rfl #[.agg #[.int .i64 t432, .slice Ao39 t433.length co39], .int .i64 1] rfl xm ?_; (with_reducible refine (zbE.calls kj62 t432 ?pp3_ (.slice Ao39 t433.length co39) t433 1 t450 t451 w _ ?side1 ?side2 A94.out).mono ?_); (case side1 => exact bh HB.out); (case side2 => first | exact Kd.zdU HO_1002.out | (refine Kd.zdU ?_; (with_reducible repeat (first | apply Kd.zbk | apply Kd.zbf | apply Kd.zbw)); exact HO_1002.out)); rintro e w177 ⟨rfl, hy0, hb, hkp⟩; refine ⟨_, rfl, ?_⟩; (first | have n0_ := ax (Kd.zbr (ok' := fun k_ => some k_ ≠ (.slice Ao28 t447.length co28 : Value).ownBlock ∧ some k_ ≠ (.slice Ao32 t448.length co32 : Value).ownBlock ∧ some k_ ≠ (.slice Ao39 t433.length co39 : Value).ownBlock ∧ k_ ≠ dmO N467_ k_) (Kd.zdQ (HO_1003.out) hkp (fun k_ hk_ hs_ => dmNo hs_.1.2.2.2 hk_.2.2.2)) (fun k_ hk_ => ⟨hk_.1.1, hk_.1.2.1, hk_.1.2.2.1, hk_.1.2.2.2⟩)) | have n0_ := ax (Kd.zbr (ok' := fun k_ => some k_ ≠ (.slice Ao28 t447.length co28 : Value).ownBlock ∧ some k_ ≠ (.slice Ao32 t448.length co32 : Value).ownBlock ∧ some k_ ≠ (.slice Ao39 t433.length co39 : Value).ownBlock ∧ k_ ≠ dmO N467_ k_) (Kd.zdQ (Kd.zbf HO_1003.out _) hkp (fun k_ hk_ hs_ => dmNo hs_.1.2.2.2 hk_.2.2.2)) (fun k_ hk_ => ⟨hk_.1.1, hk_.1.2.1, hk_.1.2.2.1, hk_.1.2.2.2⟩))); have n1_ := ax (Kd.za7 (ok' := fun k_ => some k_ ≠ (.slice Ao32 t448.length co32 : Value).ownBlock) (Kd.zdx (Kd.zdG rfl HO_1000.out) hkp (fun k_ hk_ hs_ => by have h_ := hs_.1; first | exact h_ hk_.1 | exact h_.1 hk_.1 | exact h_.2.1 hk_.1 | exact h_.2 hk_.1 | exact h_.2.2.1 hk_.1 | exact h_.2.2 hk_.1 | exact h_.2.2.2.1 hk_.1 | exact h_.2.2.2 hk_.1 | exact h_.2.2.2.2.1 hk_.1 | exact h_.2.2.2.2 hk_.1 | exact h_.2.2.2.2.2.1 hk_.1 | exact h_.2.2.2.2.2 hk_.1 | exact h_.2.2.2.2.2.2.1 hk_.1 | exact h_.2.2.2.2.2.2 hk_.1 | exact h_.2.2.2.2.2.2.2.1 hk_.1 | exact h_.2.2.2.2.2.2.2 hk_.1 | exact h_.2.2.2.2.2.2.2.2.1 hk_.1 | exact h_.2.2.2.2.2.2.2.2 hk_.1 | exact h_.1.2 hk_.1 | exact h_.1.1.2 hk_.1 | exact h_.1.1.1.2 hk_.1 | exact h_.1.1.1.1.2 hk_.1 | exact h_.1.1.1.1.1.2 hk_.1 | exact h_.1.1.1.1.1.1.2 hk_.1 | exact h_.1.1.1.1.1.1.1.2 hk_.1 | exact h_.1.1.1.1.1.1.1.1.2 hk_.1 | exact h_.1.1 hk_.1 | exact h_.1.1.1 hk_.1 | exact h_.1.1.1.1 hk_.1 | exact h_.1.1.1.1.1 hk_.1 | exact h_.1.1.1.1.1.1 hk_.1 | exact h_.1.1.1.1.1.1.1 hk_.1 | exact h_.1.1.1.1.1.1.1.1 hk_.1)) (fun k_ hk_ => by have q_ := hk_.1.2; first | exact q_ | exact q_.2 | exact q_.1 | (simp only [and_assoc] at q_; exact q_))); have n2_ := ax (Kd.za7 (ok' := fun k_ => some k_ ≠ (.slice Ao28 t447.length co28 : Value).ownBlock) (Kd.zdx (Kd.zdG rfl HO_1001.out) hkp (fun k_ hk_ hs_ => by have h_ := hs_.1; first | exact h_ hk_.1 | exact h_.1 hk_.1 | exact h_.2.1 hk_.1 | exact h_.2 hk_.1 | exact h_.2.2.1 hk_.1 | exact h_.2.2 hk_.1 | exact h_.2.2.2.1 hk_.1 | exact h_.2.2.2 hk_.1 | exact h_.2.2.2.2.1 hk_.1 | exact h_.2.2.2.2 hk_.1 | exact h_.2.2.2.2.2.1 hk_.1 | exact h_.2.2.2.2.2 hk_.1 | exact h_.2.2.2.2.2.2.1 hk_.1 | exact h_.2.2.2.2.2.2 hk_.1 | exact h_.2.2.2.2.2.2.2.1 hk_.1 | exact h_.2.2.2.2.2.2.2 hk_.1 | exact h_.2.2.2.2.2.2.2.2.1 hk_.1 | exact h_.2.2.2.2.2.2.2.2 hk_.1 | exact h_.1.2 hk_.1 | exact h_.1.1.2 hk_.1 | exact h_.1.1.1.2 hk_.1 | exact h_.1.1.1.1.2 hk_.1 | exact h_.1.1.1.1.1.2 hk_.1 | exact h_.1.1.1.1.1.1.2 hk_.1 | exact h_.1.1.1.1.1.1.1.2 hk_.1 | exact h_.1.1.1.1.1.1.1.1.2 hk_.1 | exact h_.1.1 hk_.1 | exact h_.1.1.1 hk_.1 | exact h_.1.1.1.1 hk_.1 | exact h_.1.1.1.1.1 hk_.1 | exact h_.1.1.1.1.1.1 hk_.1 | exact h_.1.1.1.1.1.1.1 hk_.1 | exact h_.1.1.1.1.1.1.1.1 hk_.1)) (fun k_ hk_ => by have q_ := hk_.1.2; first | exact q_ | exact q_.2 | exact q_.1 | (simp only [and_assoc] at q_; exact q_))); have n3_ := ax (Kd.zbr hy0 (fun k_ hk_ => hk_.1)); have n4_ := ax (zb5 (xk BK411.out) hkp (fun hs_ => zeI BK411.out hs_.2 (by decide))); have n5_ := ax (zb5 (xk BK424.out) hkp (fun hs_ => zeI BK424.out hs_.2 (by decide))); have n6_ := ax (zb5 (xk BK431.out) hkp (fun hs_ => zeI BK431.out hs_.2 (by decide))); have n7_ := ax (zb5 (xk BK437.out) hkp (fun hs_ => zeI BK437.out hs_.2 (by decide))); have n8_ := ax (hb); clear HO_1003; clear HO_1000; clear HO_1001; clear HO_1002; clear BK411; clear BK424; clear BK431; clear BK437; clear HB; have HO_1003 := n0_; have HO_1000 := n1_; have HO_1001 := n2_; have HO_1002 := n3_; have BK411 := n4_; have BK424 := n5_; have BK431 := n6_; have BK437 := n7_; have HB := n8_; clear n0_ n1_ n2_ n3_ n4_ n5_ n6_ n7_ n8_; (try clear hb); (try clear hkp); (try clear hy0); have hcz178_0 := bc0 BK437.out; have hcz178_1 := bc1 BK437.out; have hfz178_0 := zae BK437.out 0; have hfz178_1 := zae BK437.out 1) | ((with_reducible refine zan (f := 13) rfl ?_); refine zaM (some 71) rfl rfl Try.func13 (by kernel_rfl) rfl #[.agg #[.int .i64 t432, .slice Ao39 t451.length co39], .int .i64 1] rfl (by (try simp only [List.map_toArray, List.map_cons, List.map_nil]); first | done | (rw [show t451.length = t433.length from (Kd.zbg HO_1002.out).1.symm] <;> rfl) | rfl | (simp only [List.length_drop, List.length_take]; rfl)) ?_; (with_reducible refine (zbs.calls kj62 t432 _ _ t451 1 t452 _ ?side1 ?side2 A95.out).mono ?_); (case side1 => exact xc (Kd.zbg HO_1002.out).2.2); (case side2 => rw [show t451.length = t433.length from (Kd.zbg HO_1002.out).1.symm]; exact (Kd.zbg HO_1002.out).2.1); rintro e w179 ⟨rfl, hb⟩; refine ⟨_, rfl, ?_⟩; replace HO_1003 := ax (Kd.zby (xS HO_1003.out) hb); replace HO_1000 := yR HO_1000 hb; replace HO_1001 := yR HO_1001 hb; replace HO_1002 := ax (Kd.zby (xS HO_1002.out) hb); replace BK411 := ax (bb BK411.out hb); replace BK424 := ax (bb BK424.out hb); replace BK431 := ax (bb BK431.out hb); replace BK437 := ax (bb BK437.out hb); replace HB := ax (zat (bh HB.out) hb); (try clear hb)))
           go_ret
           exact ⟨xe, bh HB.out⟩
     ·replace c61 := Bool.eq_false_iff.mpr c61
      subst c61
      rw [if_neg (show ¬ (false = true) by decide)] at H
      obtain rfl := Option.some.inj H
      try go_wp2
      replace HO_1003 := ax (Kd.zbw HO_1003.out); replace HO_1000 := ax (Kd.zbq HO_1000.out); replace HO_1001 := ax (Kd.zbq HO_1001.out); replace HO_1002 := ax (Kd.zbw HO_1002.out); replace BK411 := ax (zal BK411.out); replace BK424 := ax (zal BK424.out); replace BK431 := ax (zal BK431.out); replace BK437 := ax (zal BK437.out); replace HB := ax (zba HB.out)
      refine zcj (n := 5) (S := fun w' => w'.cell? ⟨gb431, 0, none⟩ = some (.slice Ao28 t425.length co28) ∧ w'.cell? ⟨gb431, 1, none⟩ = some (.slice Ao32 t428.length co32) ∧ w'.cell? ⟨gb411, 0, none⟩ = some (.slice A0_0 l0_0.length c0_0) ∧ w'.cell? ⟨gb411, 1, none⟩ = some (.slice A0_1 l0_1.length c0_1)) (ds := []) (xB 5 0) (by kernel_rfl) rfl (by kernel_rfl) ⟨(zaC BK431.out 0).trans rfl, (zaC BK431.out 1).trans rfl, (zaC BK411.out 0).trans rfl, (zaC BK411.out 1).trans rfl⟩ (fun hHeld => ?_)
      generalize wc.drew = w180 at HO_1003 HO_1000 HO_1001 HO_1002 BK411 BK424 BK431 BK437 HB hHeld ⊢
      refine zeC (i := 0) (N := some 45) (v := ?_) (a' := ?_) (xB 5 1) rfl rfl (by kernel_rfl) (fun _ _ _ h => h) (Or.inl ⟨by rfl, ?_⟩) hHeld ?_ ?_
      rotate_left
      ·rintro w' ⟨s0, s1, s2, s3⟩
       go_simp
       with_reducible rfl
      rotate_left
      ·simp only [Act.put, List.setIfInBounds_toArray, List.set_cons_zero, List.set_cons_succ, zcd, zcw]
       rfl
      refine zeC (i := 1) (N := some 46) (v := ?_) (a' := ?_) (xB 5 3) rfl rfl (by kernel_rfl) (fun _ _ _ h => h) (Or.inl ⟨by rfl, ?_⟩) hHeld ?_ ?_
      rotate_left
      ·rintro w' ⟨s0, s1, s2, s3⟩
       go_simp
       with_reducible rfl
      rotate_left
      ·simp only [Act.put, List.setIfInBounds_toArray, List.set_cons_zero, List.set_cons_succ, zcd, zcw]
       rfl
      refine one_ (i := 2) (N := some 47) (xB 5 7) rfl rfl (by kernel_rfl) (by decide) (fun K hK => ?_)
      refine zc6 Try.func16 (by kernel_rfl) rfl #[.agg #[.slice A0_0 l0_0.length c0_0, .slice A0_1 l0_1.length c0_1]] (by rfl) rfl rfl xm ?_
      with_reducible refine (zbp.calls kj11 _ _ l0_0 _ _ l0_1 t439 t442 _ ?side1 ?side2 ?side3 ?side4 A59.out).mono ?_
      (case side1 => exact xz HR0_0.out HB.out)
      (case side2 => exact HC0_0.out)
      (case side3 => exact xz HR0_1.out HB.out)
      (case side4 => exact HC0_1.out)
      rintro e w181 ⟨v440, v443, rfl, ho0, ho1, hb⟩
      refine ⟨_, rfl, ?_⟩
      replace HO_1003 := ax (Kd.zbr (Kd.zdr (Kd.zdr (Kd.zgL (xS HO_1003.out) hb) (Kd.zbh ho0)) (Kd.zbh ho1)) (fun _ h_ => h_.1)); replace HO_1002 := ax (Kd.zbr (Kd.zdr (Kd.zdr (Kd.zgL (xS HO_1002.out) hb) (Kd.zbh ho0)) (Kd.zbh ho1)) (fun _ h_ => h_.1)); have HO441 := ax (Kd.zbL (Kd.zcL (Kd.zcL ho0 (Kd.R_lt (xR HO_1000.out))) (Kd.R_lt (xR HO_1001.out))) (zaf (bh HB.out))); have HO444 := ax (Kd.zbL (Kd.zcL (Kd.zcL ho1 (Kd.R_lt (xR HO_1000.out))) (Kd.R_lt (xR HO_1001.out))) (zaf (bh HB.out))); replace HO_1000 := ax (Kd.za7 (Kd.zc9 (Kd.zc9 (Kd.zgq (xR HO_1000.out) hb) (Kd.zbh ho0)) (Kd.zbh ho1)) (fun _ h_ => h_.1)); replace HO_1001 := ax (Kd.za7 (Kd.zc9 (Kd.zc9 (Kd.zgq (xR HO_1001.out) hb) (Kd.zbh ho0)) (Kd.zbh ho1)) (fun _ h_ => h_.1)); replace BK411 := ax (bb BK411.out hb); replace BK424 := ax (bb BK424.out hb); replace BK431 := ax (bb BK431.out hb); replace BK437 := ax (bb BK437.out hb); replace HB := ax (zat (bh HB.out) hb)
      (try clear hb)
      (try clear hk)
      (try clear ho0)
      (try clear ho1)
      obtain ⟨Ao182, co182, eo182⟩ := Kd.zbT HO441.out
      (first | subst eo182 | (injection eo182 with f1_ f2_ f3_; have f4_ := f1_.symm; have f5_ := f3_.symm; clear f1_ f2_ f3_; subst f4_; subst f5_))
      obtain ⟨Ao183, co183, eo183⟩ := Kd.zbT HO444.out
      (first | subst eo183 | (injection eo183 with f1_ f2_ f3_; have f4_ := f1_.symm; have f5_ := f3_.symm; clear f1_ f2_ f3_; subst f4_; subst f5_))
      refine hK.out _ _ ⟨(zaC BK431.out 0).trans rfl, (zaC BK431.out 1).trans rfl, (zaC BK411.out 0).trans rfl, (zaC BK411.out 1).trans rfl⟩ (fun hHeld => ?_)
      clear hK K
      refine nm ?_
      refine one_ (i := 3) (N := some 48) (xB 5 15) rfl rfl (by kernel_rfl) (by decide) (fun K hK => ?_)
      refine zc6 Try.func18 (by kernel_rfl) rfl #[.agg #[.slice Ao28 t425.length co28, .slice Ao32 t428.length co32], .agg #[.slice Ao182 t439.length co182, .slice Ao183 t442.length co183]] (by rfl) rfl rfl xm ?_
      with_reducible refine (zbM.calls kj11 _ _ t425 _ _ t428 _ _ t439 _ _ t442 false _ ?side1 ?side2 ?side3 ?side4 ?side5 ?side6 ?side7 ?side8 A60.out).mono ?_
      (case side1 => exact xc (Kd.zbi HO_1000.out).2.2)
      (case side2 => exact (Kd.zbi HO_1000.out).2.1)
      (case side3 => exact xc (Kd.zbi HO_1001.out).2.2)
      (case side4 => exact (Kd.zbi HO_1001.out).2.1)
      (case side5 => exact xc (Kd.zbi HO441.out).2.2)
      (case side6 => exact (Kd.zbi HO441.out).2.1)
      (case side7 => exact xc (Kd.zbi HO444.out).2.2)
      (case side8 => exact (Kd.zbi HO444.out).2.1)
      rintro e w184 ⟨rfl, hb⟩
      refine ⟨_, rfl, ?_⟩
      replace HO_1003 := ax (Kd.zby (xS HO_1003.out) hb); replace HO_1000 := yR HO_1000 hb; replace HO_1001 := yR HO_1001 hb; replace HO_1002 := ax (Kd.zby (xS HO_1002.out) hb); replace HO441 := yR HO441 hb; replace HO444 := yR HO444 hb; replace BK411 := ax (bb BK411.out hb); replace BK424 := ax (bb BK424.out hb); replace BK431 := ax (bb BK431.out hb); replace BK437 := ax (bb BK437.out hb); replace HB := ax (zat (bh HB.out) hb)
      (try clear hb)
      (try clear hk)
      refine hK.out _ _ ⟨(zaC BK431.out 0).trans rfl, (zaC BK431.out 1).trans rfl, (zaC BK411.out 0).trans rfl, (zaC BK411.out 1).trans rfl⟩ (fun hHeld => ?_)
      clear hK K
      refine nm ?_
      refine zeF (i := 4) (N := some 49) (v := ?_) (a' := ?_) (xB 5 31) rfl rfl (by kernel_rfl) (fun _ _ _ h => h) (Or.inl ⟨by rfl, ?_⟩) ?_ ?_
      rotate_left
      ·intro w'
       go_simp
       with_reducible rfl
      rotate_left
      ·simp only [Act.put, List.setIfInBounds_toArray, List.set_cons_zero, List.set_cons_succ, zcd, zcw]
       rfl
      refine zcR (by kernel_rfl) ?_
      try go_wp2
      go_ret
      exact ⟨xe, bh HB.out⟩

/-- THE ONE PURE STATEMENT of zap: yours. -/
def zap.Pure : Prop := ∀ (l0_0 : List Int) (l0_1 : List Int) (a1 : Int), (l0_0.length ≤ maxLen ∧ ∀ y0_ ∈ l0_0, (Lit.int .i64 y0_).wf = true) → (l0_1.length ≤ maxLen ∧ ∀ y0_ ∈ l0_1, (Lit.int .i64 y0_).wf = true) → (Lit.int .i64 a1).wf = true → ∃ k, zap.f k l0_0 l0_1 a1 = some true
theorem zap.walk (P : zap.Pure) (A0_0 : Option Addr) (c0_0 : Nat) (l0_0 : List Int) (A0_1 : Option Addr) (c0_1 : Nat) (l0_1 : List Int) (a1 : Int) (w : World) (hr0_0 : Kd.C (Kd.int .i64) w A0_0 l0_0.length l0_0) (hc0_0 : l0_0.length ≤ c0_0) (hr0_1 : Kd.C (Kd.int .i64) w A0_1 l0_1.length l0_1) (hc0_1 : l0_1.length ≤ c0_1) (hF0_0 : (l0_0.length ≤ maxLen ∧ ∀ y0_ ∈ l0_0, (Lit.int .i64 y0_).wf = true)) (hF0_1 : (l0_1.length ≤ maxLen ∧ ∀ y0_ ∈ l0_1, (Lit.int .i64 y0_).wf = true)) (hF1 : (Lit.int .i64 a1).wf = true) :
  Calls Try.prog 6 #[.agg #[.slice A0_0 l0_0.length c0_0, .slice A0_1 l0_1.length c0_1], .int .i64 a1] w fun e w' => e = .returned (.bool true) ∧ Below w.heap.size w w' := by
 obtain ⟨k, h⟩ := P l0_0 l0_1 a1 hF0_0 hF0_1 hF1
 refine (zap.calls k A0_0 c0_0 l0_0 A0_1 c0_1 l0_1 a1 true w hr0_0 hc0_0 hr0_1 hc0_1 h).mono ?_
 rintro e w' ⟨rfl, hd⟩
 exact ⟨rfl, hd⟩

end Go.Proofs.Ytneipehcmmigeaa.PFnExactSchurPoly
