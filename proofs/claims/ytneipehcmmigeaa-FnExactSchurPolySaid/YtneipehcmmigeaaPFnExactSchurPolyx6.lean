import Derived.Test.YtneipehcmmigeaaPFnExactSchurPolyx5
namespace Go.Proofs.Ytneipehcmmigeaa.PFnExactSchurPoly
open Go.RowKit Go.Proofs.YtneipehcmmigeaaW.PrintWords Go.Proofs.YtneipehcmmigeaaW.PrintLast Go.Proofs.YtneipehcmmigeaaW.PrintMore
set_option linter.unusedVariables false
set_option linter.unusedSimpArgs false
set_option maxHeartbeats 8000000
set_option maxRecDepth 100000
/-! ### zaT: function 76 -/
mutual
def zaT.l0 : Nat → List Int → List Int → Int → Int → List (List Int) → Int → Option (Int)
 | 0, _, _, _, _, _, _ => none
 | k + 1, x1, x2, x3, x9, x10, x11 => if x11 < (x10.length : Int) then (if 0 ≤ x11 then ((zbj.f k (zbX x10 x11)).bind fun t232 => ((zaT.f k t232 x1 x2 (wrap64 (x3 + 1))).bind fun t235 => (zaT.l0 k x1 x2 x3 (wrap64 (x9 + t235)) x10 (wrap64 (x11 + 1))))) else (none)) else (some x9)
def zaT.f : Nat → List Int → List Int → List Int → Int → Option (Int)
 | 0, _, _, _, _ => none
 | k + 1, l0, l1, l2, a3 => if a3 = (l2.length : Int) then ((zaS.f k l0).bind fun t224 => ((zaS.f k l1).bind fun t225 => ((zcU.f (t224 == t225)).bind fun t226 => (some t226)))) else (if 0 ≤ a3 then (if a3 < (l2.length : Int) then ((zaw.f k l0 l1 (rd l2 a3) 0).bind fun t228 => (zaT.l0 k l1 l2 a3 0 t228 0)) else (none)) else (none))
end
theorem zaT.zaZ : ∀ k, (∀ y0 y1 y2 y3, LeO (zaT.f k y0 y1 y2 y3) (zaT.f (k + 1) y0 y1 y2 y3)) ∧ (∀ y0 y1 y2 y3 y4 y5, LeO (zaT.l0 k y0 y1 y2 y3 y4 y5) (zaT.l0 (k + 1) y0 y1 y2 y3 y4 y5))
 | 0 => ⟨fun _ _ _ _ r h => by simp [zaT.f] at h, fun _ _ _ _ _ _ r h => by simp [zaT.l0] at h⟩
 | k + 1 => by
  obtain ⟨ih0, ih1⟩ := zaT.zaZ k
  refine ⟨?_, ?_⟩ <;> intros <;> (first | unfold zaT.f | unfold zaT.l0) <;> repeat' with_reducible first | exact ih0 _ _ _ _ | exact ih1 _ _ _ _ _ _ | exact zaS.mono _ _ | exact zaw.mono _ _ _ _ _ | exact zbj.mono _ _ | exact xl | refine LeO.ite ?_ ?_ | refine LeO.bind ?_ fun _ => ?_
theorem zaT.mono : ∀ a0 a1 a2 a3 k, LeO (zaT.f k a0 a1 a2 a3) (zaT.f (k + 1) a0 a1 a2 a3) := by
 intro a0 a1 a2 a3 k
 obtain ⟨ih0, ih1⟩ := zaT.zaZ k
 exact ih0 a0 a1 a2 a3
theorem zaT.calls (k : Nat) : ∀ (A0 : Option Addr) (c0 : Nat) (l0 : List Int) (A1 : Option Addr) (c1 : Nat) (l1 : List Int) (A2 : Option Addr) (c2 : Nat) (l2 : List Int) (a3 : Int) (r : Int) (w : World) (hr0 : Kd.C (Kd.int .i64) w A0 l0.length l0) (hc0 : l0.length ≤ c0) (hr1 : Kd.C (Kd.int .i64) w A1 l1.length l1) (hc1 : l1.length ≤ c1) (hr2 : Kd.C (Kd.int .i64) w A2 l2.length l2) (hc2 : l2.length ≤ c2) (h : zaT.f k l0 l1 l2 a3 = some r),
  Calls Try.prog 76 #[.slice A0 l0.length c0, .slice A1 l1.length c1, .slice A2 l2.length c2, .int .i64 a3] w fun e w' => e = .returned (.int .i64 r) ∧ Below w.heap.size w w' := by
 induction k using Nat.strongRecOn with
 | _ k ih =>
 intro A0 c0 l0 A1 c1 l1 A2 c2 l2 a3 r w hr0 hc0 hr1 hc1 hr2 hc2 h
 cases k with
 | zero => exact absurd h (by simp [zaT.f])
 | succ k =>
 simp only [zaT.f] at h
 have HR0 := ax hr0
 have HC0 := ax hc0
 clear hr0 hc0
 have HR1 := ax hr1
 have HC1 := ax hc1
 clear hr1 hc1
 have HR2 := ax hr2
 have HC2 := ax hc2
 clear hr2 hc2
 have HB := ax (Below.refl w.heap.size w)
 have H : (if a3 = (l2.length : Int) then ((zaS.f k l0).bind fun t224 => ((zaS.f k l1).bind fun t225 => ((zcU.f (t224 == t225)).bind fun t226 => (some t226)))) else (if 0 ≤ a3 then (if a3 < (l2.length : Int) then ((zaw.f k l0 l1 (rd l2 a3) 0).bind fun t228 => (zaT.l0 k l1 l2 a3 0 t228 0)) else (none)) else (none))) = some r := h
 clear h
 by_cases c5 : a3 = (l2.length : Int)
 ·rw [if_pos c5] at H
  have c5b0 : (a3 == (l2.length : Int)) = true := beq_iff_eq.mpr c5
  have c5b1 : (a3 != (l2.length : Int)) = false := bne_eq_false_iff_eq.mpr c5
  clear c5
  obtain ⟨t224, A6, H⟩ := xI H
  obtain ⟨t225, A7, H⟩ := xI H
  obtain ⟨t226, A8, H⟩ := xI H
  obtain rfl := Option.some.inj H
  go_enter Try.func76, Try.ntmps76
  go_wp2_with (first | ((with_reducible refine zan (f := 68) rfl ?_); refine zaM (some 17) rfl rfl Try.func68 (by kernel_rfl) rfl #[.slice A0 l0.length c0] rfl xm ?_; (with_reducible refine (zaS.calls k _ _ l0 t224 _ ?side1 ?side2 A6.out).mono ?_); (case side1 => exact xc HR0.out); (case side2 => exact HC0.out); rintro e w' ⟨rfl, ⟨nd, rfl⟩⟩; refine ⟨_, rfl, ?_⟩) | ((with_reducible refine zan (f := 68) rfl ?_); refine zaM (some 19) rfl rfl Try.func68 (by kernel_rfl) rfl #[.slice A1 l1.length c1] rfl xm ?_; (with_reducible refine (zaS.calls k _ _ l1 t225 _ ?side1 ?side2 A7.out).mono ?_); (case side1 => exact xc HR1.out); (case side2 => exact HC1.out); rintro e w' ⟨rfl, ⟨nd, rfl⟩⟩; refine ⟨_, rfl, ?_⟩) | ((with_reducible refine zan (f := 67) rfl ?_); refine zaM (some 21) rfl rfl Try.func67 (by kernel_rfl) rfl #[.bool (t224 == t225)] rfl xm ?_; (with_reducible refine (zcU.calls (t224 == t225) t226 _ A8.out).mono ?_); rintro e w' ⟨rfl, ⟨nd, rfl⟩⟩; refine ⟨_, rfl, ?_⟩))
  go_ret
  exact ⟨xe, xb HB.out⟩
 ·rw [if_neg c5] at H
  have c5b0 : (a3 == (l2.length : Int)) = false := beq_eq_false_iff_ne.mpr c5
  have c5b1 : (a3 != (l2.length : Int)) = true := bne_iff_ne.mpr c5
  obtain ⟨c9b0, H⟩ := xq H
  obtain ⟨c10b0, H⟩ := xq H
  obtain ⟨t228, A11, H⟩ := xI H
  have H' := ax H
  clear H
  have p227 : 0 ≤ (a3 : Int) := xd
  have q227 : a3 < (l2.length : Int) := xd
  obtain ⟨ad227, e227, hx227_0⟩ := Kd.zbK HR2.out a3 p227 q227
  cases e227
  replace p227 := eq_true p227
  replace q227 := eq_true q227
  go_enter Try.func76, Try.ntmps76
  go_wp2_with (first | ((with_reducible refine zan (f := 69) rfl ?_); refine zaM (some 28) rfl rfl Try.func69 (by kernel_rfl) rfl #[.slice A0 l0.length c0, .slice A1 l1.length c1, .int .i64 (rd l2 a3), .int .i64 0] rfl xm ?_; (with_reducible refine (zaw.calls k _ _ l0 _ _ l1 (rd l2 a3) 0 t228 _ ?side1 ?side2 ?side3 ?side4 A11.out).mono ?_); (case side1 => exact xc HR0.out); (case side2 => exact HC0.out); (case side3 => exact xc HR1.out); (case side4 => exact HC1.out); rintro e w12 ⟨v229, rfl, ho0, hb⟩; refine ⟨_, rfl, ?_⟩; have HO230 := ax (Kd.zcZ ho0 (zaf (xb HB.out))); replace HB := yB HB hb; (try clear hb); (try clear ho0)))
  go_loopg [9, 11] k (fun kq v9 v11 w' => ∃ (x9_1 : Int) (x11_1 : Int), v9 = .int .i64 x9_1 ∧ v11 = .int .i64 x11_1 ∧ zao (zaT.l0 kq l1 l2 a3 x9_1 t228 x11_1 = some r) ∧ zao (kq ≤ k) ∧ zao (Kd.S (Kd.slice 3 (Kd.int .i64)) 35 w' w.heap.size (fun _ => True) v229 t228) ∧ zao (Below w.heap.size w w'))
  case atStart => exact ⟨(0), (0), xr, xr, H', ⟨Nat.le_refl _⟩, ⟨xS HO230.out⟩, ⟨xb HB.out⟩⟩
  case round =>
   clear H'
   (try clear c1); (try clear c2); (try clear c5); (try clear c5b0); (try clear c5b1); (try clear c9); (try clear c9b0); (try clear c10); (try clear c10b0); (try clear hx227_0); (try clear p227); (try clear q227)
   obtain ⟨x9_1, x11_1, rfl, rfl, HA, HK1, HO_10, HB⟩ := hrel
   cases gk with
   | zero => exact absurd HA.out (by simp [zaT.l0])
   | succ k1 =>
    have H := HA.out
    clear HA
    simp only [zaT.l0] at H
    by_cases c13 : x11_1 < (t228.length : Int)
    ·rw [if_pos c13] at H
     have c13b0 := decide_eq_true c13
     clear c13
     obtain ⟨c14b0, H⟩ := xq H
     obtain ⟨t232, A15, H⟩ := xI H
     obtain ⟨t235, A16, H⟩ := xI H
     have H' := ax H
     clear H
     obtain ⟨Ao17, co17, eo17⟩ := Kd.zcY HO_10.out
     subst eo17
     have p231 : 0 ≤ (x11_1 : Int) := xd
     have q231 : x11_1 < (t228.length : Int) := xd
     obtain ⟨ad231, A231_0, c231_0, e231, hx231_0, hl231_0, hi231_0⟩ := zfa (Kd.zbg HO_10.out).2.2 x11_1 p231 q231
     cases e231
     obtain ⟨ce231, hce231, hMe231, hcc231⟩ := Kd.zkx HO_10.out [] x11_1 p231 (by first | exact q231 | exact xd | (have e_ := (Kd.zbg HO_10.out).1; omega))
     obtain ⟨ve231_0, rfl, ge231_0⟩ := hMe231
     have hv231_0 := hcc231 0 _ rfl
     rw [Nat.add_zero, show ((Kd.slice 3 (Kd.int .i64))).sz = 1 from rfl, Nat.mul_one] at hv231_0
     replace hv231_0 := Option.some.inj (hv231_0.symm.trans hx231_0)
     rw [hv231_0] at ge231_0
     have HL231_0 := ax (show Kd.R (Kd.int .i64) 3 _ _ _ _ (zbX t228 x11_1) from ge231_0)
     clear hv231_0 ge231_0 hcc231 hce231
     have HR231_0 := ax hi231_0
     have HC231_0 := ax hl231_0
     clear hi231_0 hl231_0
     replace p231 := eq_true p231
     replace q231 := eq_true q231
     go_wp2_with (first | ((with_reducible refine zan (f := 70) rfl ?_); refine zaM (some 40) rfl rfl Try.func70 (by kernel_rfl) rfl #[.slice A231_0 (zbX t228 x11_1).length c231_0] rfl xm ?_; (with_reducible refine (zbj.calls k1 _ _ (zbX t228 x11_1) t232 _ ?side1 ?side2 A15.out).mono ?_); (case side1 => exact xw HR231_0.out); (case side2 => exact HC231_0.out); rintro e w18 ⟨v233, rfl, ho0, hb⟩; refine ⟨_, rfl, ?_⟩; replace HO_10 := ax (Kd.zc2 (xS HO_10.out) (Kd.zbh ho0) hb); have HO234 := ax (Kd.zbL (Kd.zcL ho0 (Kd.R_lt (xR HL231_0.out))) (zaf (xb HB.out))); replace HL231_0 := ax (Kd.zed (xR HL231_0.out) (Kd.zbh ho0) hb); replace HR231_0 := ax (Kd.za8 (xw HR231_0.out) hb); replace HB := yB HB hb; (try clear hb); (try clear ho0); obtain ⟨Ao19, co19, eo19⟩ := Kd.zbT HO234.out; subst eo19) | ((with_reducible refine zan (f := 76) rfl ?_); refine zaM (some 45) rfl rfl Try.func76 (by kernel_rfl) rfl #[.slice Ao19 t232.length co19, .slice A1 l1.length c1, .slice (some ad227) l2.length c2, .int .i64 (wrap64 (a3 + 1))] rfl xm ?_; (with_reducible refine (ih k1 (by have := HK1.out; omega) _ _ t232 _ _ l1 _ _ l2 (wrap64 (a3 + 1)) t235 _ ?side1 ?side2 ?side3 ?side4 ?side5 ?side6 A16.out).mono ?_); (case side1 => exact xc (Kd.zbi HO234.out).2.2); (case side2 => exact (Kd.zbi HO234.out).2.1); (case side3 => exact xz HR1.out HB.out); (case side4 => exact HC1.out); (case side5 => exact xz HR2.out HB.out); (case side6 => exact HC2.out); rintro e w20 ⟨rfl, hb⟩; refine ⟨_, rfl, ?_⟩; replace HO_10 := ax (Kd.zby (xS HO_10.out) hb); replace HL231_0 := yR HL231_0 hb; replace HO234 := yR HO234 hb; replace HR231_0 := ax (Kd.za8 (xw HR231_0.out) hb); replace HB := yB HB hb; (try clear hb)))
     go_roundg k1
     case measure => have := HK1.out; omega
     case rel => exact ⟨(wrap64 (x9_1 + t235)), (wrap64 (x11_1 + 1)), xr, xr, H', ⟨by have := HK1.out; omega⟩, ⟨by (with_reducible repeat (first | apply Kd.zbk | apply Kd.zbf | apply Kd.zbw)); exact Kd.zbr HO_10.out (fun _ hk => trivial)⟩, ⟨xb HB.out⟩⟩
    ·rw [if_neg c13] at H
     have c13b0 := decide_eq_false c13
     clear c13
     obtain rfl := Option.some.inj H
     obtain ⟨Ao21, co21, eo21⟩ := Kd.zcY HO_10.out
     subst eo21
     go_wp2
     go_ret
     exact ⟨xe, xb HB.out⟩

/-! ### zbm: function 48 -/
def zbm.f (k : Nat) (l0_0 : List Int) (l0_1 : List Int) (l1 : List Int) : Option (Int) := (za9.f k l0_0 l0_1).bind fun t237 => (if t237 = true then ((za2.f k l1).bind fun t238 => (if t238 = true then ((zaT.f k l0_1 l0_0 l1 0).bind fun t239 => (some t239)) else (some 0))) else (some 0))
theorem zbm.mono : ∀ a0 a1 a2 k, LeO (zbm.f k a0 a1 a2) (zbm.f (k + 1) a0 a1 a2) := by
 intro a0 a1 a2 k
 unfold zbm.f
 repeat' with_reducible first | exact za9.mono _ _ _ | exact zaT.mono _ _ _ _ _ | exact za2.mono _ _ | exact xl | refine LeO.ite ?_ ?_ | refine LeO.bind ?_ fun _ => ?_
theorem zbm.calls (k : Nat) (A0_0 : Option Addr) (c0_0 : Nat) (l0_0 : List Int) (A0_1 : Option Addr) (c0_1 : Nat) (l0_1 : List Int) (A1 : Option Addr) (c1 : Nat) (l1 : List Int) (r : Int) (w : World) (hr0_0 : Kd.C (Kd.int .i64) w A0_0 l0_0.length l0_0) (hc0_0 : l0_0.length ≤ c0_0) (hr0_1 : Kd.C (Kd.int .i64) w A0_1 l0_1.length l0_1) (hc0_1 : l0_1.length ≤ c0_1) (hr1 : Kd.C (Kd.int .i64) w A1 l1.length l1) (hc1 : l1.length ≤ c1) (h : zbm.f k l0_0 l0_1 l1 = some r) :
  Calls Try.prog 48 #[.agg #[.slice A0_0 l0_0.length c0_0, .slice A0_1 l0_1.length c0_1], .slice A1 l1.length c1] w fun e w' => e = .returned (.int .i64 r) ∧ Below w.heap.size w w' := by
 have hu40 := Try.underlying40
 have HR0_0 := ax hr0_0
 have HC0_0 := ax hc0_0
 clear hr0_0 hc0_0
 have HR0_1 := ax hr0_1
 have HC0_1 := ax hc0_1
 clear hr0_1 hc0_1
 have HR1 := ax hr1
 have HC1 := ax hc1
 clear hr1 hc1
 have HB := ax (Below.refl w.heap.size w)
 have H : ((za9.f k l0_0 l0_1).bind fun t237 => (if t237 = true then ((za2.f k l1).bind fun t238 => (if t238 = true then ((zaT.f k l0_1 l0_0 l1 0).bind fun t239 => (some t239)) else (some 0))) else (some 0))) = some r := h
 clear h
 obtain ⟨t237, A3, H⟩ := xI H
 by_cases c4 : t237 = true
 ·subst c4
  rw [if_pos rfl] at H
  obtain ⟨t238, A5, H⟩ := xI H
  by_cases c6 : t238 = true
  ·subst c6
   rw [if_pos rfl] at H
   obtain ⟨t239, A7, H⟩ := xI H
   obtain rfl := Option.some.inj H
   go_enter Try.func48, Try.ntmps48
   go_wp2_with (first | ((with_reducible refine zaG (N := 2) rfl ?_); refine zaK ?hg (N := 2) ?hd (cs := #[.slice A0_0 l0_0.length c0_0, .slice A0_1 l0_1.length c0_1]) (t := 40) ?hr ?_; (case hd => rfl); (case hg => rfl); (case hr => first | (go_simp; done) | (go_simp; rfl)); intro gb236 hg w8 hbox hb; have BK236 := ax (hbox); have GW236 := ax ((by rw [hg]; exact (zaf (xb HB.out)) : w.heap.size ≤ gb236)); have GE236 := ax ((by rw [hg]; exact (zaf (xb HB.out)) : w.heap.size ≤ gb236)); replace HB := yB HB hb; clear hb hbox hg; have hcz9_0 := bc0 BK236.out; have hcz9_1 := bc1 BK236.out; have hfz9_0 := zae BK236.out 0; have hfz9_1 := zae BK236.out 1) | ((with_reducible refine zan (f := 37) rfl ?_); refine zaM (some 6) rfl rfl Try.func37 (by kernel_rfl) rfl #[.agg #[.slice A0_0 l0_0.length c0_0, .slice A0_1 l0_1.length c0_1]] rfl xm ?_; (with_reducible refine (za9.calls k _ _ l0_0 _ _ l0_1 true _ ?side1 ?side2 ?side3 ?side4 A3.out).mono ?_); (case side1 => exact xz HR0_0.out HB.out); (case side2 => exact HC0_0.out); (case side3 => exact xz HR0_1.out HB.out); (case side4 => exact HC0_1.out); rintro e w10 ⟨rfl, hb⟩; refine ⟨_, rfl, ?_⟩; replace BK236 := ax (bb BK236.out hb); replace HB := ax (zat (xs HB.out GE236.out) hb); (try clear hb)) | (go_at_call 75; (with_reducible refine (za2.calls k _ _ l1 true _ ?side1 ?side2 A5.out).mono ?_); (case side1 => exact xz HR1.out HB.out); (case side2 => exact HC1.out); rintro e w' ⟨rfl, ⟨nd, rfl⟩⟩; have hcz11_0 := bc0 BK236.out; have hcz11_1 := bc1 BK236.out; have hfz11_0 := zae BK236.out 0; have hfz11_1 := zae BK236.out 1) | ((with_reducible refine zan (f := 76) rfl ?_); refine zaM (some 18) rfl rfl Try.func76 (by kernel_rfl) rfl #[.slice A0_1 l0_1.length c0_1, .slice A0_0 l0_0.length c0_0, .slice A1 l1.length c1, .int .i64 0] rfl xm ?_; (with_reducible refine (zaT.calls k _ _ l0_1 _ _ l0_0 _ _ l1 0 t239 _ ?side1 ?side2 ?side3 ?side4 ?side5 ?side6 A7.out).mono ?_); (case side1 => repeat (first | exact (Kd.za8 HR0_1.out (xs HB.out GE236.out)) | (with_reducible refine Kd.zbR ?_ _) | (with_reducible refine Kd.zbQ ?_ _) | (with_reducible refine Kd.zb2 ?_))); (case side2 => exact HC0_1.out); (case side3 => repeat (first | exact (Kd.za8 HR0_0.out (xs HB.out GE236.out)) | (with_reducible refine Kd.zbR ?_ _) | (with_reducible refine Kd.zbQ ?_ _) | (with_reducible refine Kd.zb2 ?_))); (case side4 => exact HC0_0.out); (case side5 => repeat (first | exact (Kd.za8 HR1.out (xs HB.out GE236.out)) | (with_reducible refine Kd.zbR ?_ _) | (with_reducible refine Kd.zbQ ?_ _) | (with_reducible refine Kd.zb2 ?_))); (case side6 => exact HC1.out); rintro e w12 ⟨rfl, hb⟩; refine ⟨_, rfl, ?_⟩; replace BK236 := ax (bb BK236.out hb); replace HB := ax (zat (xs HB.out GE236.out) hb); (try clear hb)))
   go_ret
   exact ⟨xe, xs HB.out GE236.out⟩
  ·replace c6 := Bool.eq_false_iff.mpr c6
   subst c6
   rw [if_neg (show ¬ (false = true) by decide)] at H
   obtain rfl := Option.some.inj H
   go_enter Try.func48, Try.ntmps48
   go_wp2_with (first | ((with_reducible refine zaG (N := 2) rfl ?_); refine zaK ?hg (N := 2) ?hd (cs := #[.slice A0_0 l0_0.length c0_0, .slice A0_1 l0_1.length c0_1]) (t := 40) ?hr ?_; (case hd => rfl); (case hg => rfl); (case hr => first | (go_simp; done) | (go_simp; rfl)); intro gb236 hg w13 hbox hb; have BK236 := ax (hbox); have GW236 := ax ((by rw [hg]; exact (zaf (xb HB.out)) : w.heap.size ≤ gb236)); have GE236 := ax ((by rw [hg]; exact (zaf (xb HB.out)) : w.heap.size ≤ gb236)); replace HB := yB HB hb; clear hb hbox hg; have hcz14_0 := bc0 BK236.out; have hcz14_1 := bc1 BK236.out; have hfz14_0 := zae BK236.out 0; have hfz14_1 := zae BK236.out 1) | ((with_reducible refine zan (f := 37) rfl ?_); refine zaM (some 6) rfl rfl Try.func37 (by kernel_rfl) rfl #[.agg #[.slice A0_0 l0_0.length c0_0, .slice A0_1 l0_1.length c0_1]] rfl xm ?_; (with_reducible refine (za9.calls k _ _ l0_0 _ _ l0_1 true _ ?side1 ?side2 ?side3 ?side4 A3.out).mono ?_); (case side1 => exact xz HR0_0.out HB.out); (case side2 => exact HC0_0.out); (case side3 => exact xz HR0_1.out HB.out); (case side4 => exact HC0_1.out); rintro e w15 ⟨rfl, hb⟩; refine ⟨_, rfl, ?_⟩; replace BK236 := ax (bb BK236.out hb); replace HB := ax (zat (xs HB.out GE236.out) hb); (try clear hb)) | (go_at_call 75; (with_reducible refine (za2.calls k _ _ l1 false _ ?side1 ?side2 A5.out).mono ?_); (case side1 => exact xz HR1.out HB.out); (case side2 => exact HC1.out); rintro e w' ⟨rfl, ⟨nd, rfl⟩⟩))
   go_ret
   exact ⟨xe, xs HB.out GE236.out⟩
 ·replace c4 := Bool.eq_false_iff.mpr c4
  subst c4
  rw [if_neg (show ¬ (false = true) by decide)] at H
  obtain rfl := Option.some.inj H
  go_enter Try.func48, Try.ntmps48
  go_wp2_with (first | ((with_reducible refine zaG (N := 2) rfl ?_); refine zaK ?hg (N := 2) ?hd (cs := #[.slice A0_0 l0_0.length c0_0, .slice A0_1 l0_1.length c0_1]) (t := 40) ?hr ?_; (case hd => rfl); (case hg => rfl); (case hr => first | (go_simp; done) | (go_simp; rfl)); intro gb236 hg w16 hbox hb; have BK236 := ax (hbox); have GW236 := ax ((by rw [hg]; exact (zaf (xb HB.out)) : w.heap.size ≤ gb236)); have GE236 := ax ((by rw [hg]; exact (zaf (xb HB.out)) : w.heap.size ≤ gb236)); replace HB := yB HB hb; clear hb hbox hg; have hcz17_0 := bc0 BK236.out; have hcz17_1 := bc1 BK236.out; have hfz17_0 := zae BK236.out 0; have hfz17_1 := zae BK236.out 1) | ((with_reducible refine zan (f := 37) rfl ?_); refine zaM (some 6) rfl rfl Try.func37 (by kernel_rfl) rfl #[.agg #[.slice A0_0 l0_0.length c0_0, .slice A0_1 l0_1.length c0_1]] rfl xm ?_; (with_reducible refine (za9.calls k _ _ l0_0 _ _ l0_1 false _ ?side1 ?side2 ?side3 ?side4 A3.out).mono ?_); (case side1 => exact xz HR0_0.out HB.out); (case side2 => exact HC0_0.out); (case side3 => exact xz HR0_1.out HB.out); (case side4 => exact HC0_1.out); rintro e w18 ⟨rfl, hb⟩; refine ⟨_, rfl, ?_⟩; replace BK236 := ax (bb BK236.out hb); replace HB := ax (zat (xs HB.out GE236.out) hb); (try clear hb)))
  go_ret
  exact ⟨xe, xs HB.out GE236.out⟩

end Go.Proofs.Ytneipehcmmigeaa.PFnExactSchurPoly
