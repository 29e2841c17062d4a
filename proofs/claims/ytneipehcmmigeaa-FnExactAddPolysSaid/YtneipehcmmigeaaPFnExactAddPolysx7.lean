import Derived.Test.YtneipehcmmigeaaPFnExactAddPolysx4
import Derived.Test.YtneipehcmmigeaaPFnExactAddPolysx5
import Derived.Test.YtneipehcmmigeaaPFnExactAddPolysx6
namespace Go.Proofs.Ytneipehcmmigeaa.PFnExactAddPolys
open Go.RowKit Go.Proofs.YtneipehcmmigeaaW.PrintWords Go.Proofs.YtneipehcmmigeaaW.PrintLast Go.Proofs.YtneipehcmmigeaaW.PrintMore
set_option linter.unusedVariables false
set_option linter.unusedSimpArgs false
set_option maxHeartbeats 8000000
set_option maxRecDepth 100000
mutual
def zaq.j0 : Nat → Bool → Int → List (S48) → Int → List (S48) → Option (Int × (List (S48)) × Bool)
 | 0, _, _, _, _, _ => none
 | k + 1, x23, x1002, x1000, x1003, x1001 => if x23 = true then (some (0, ([] : List (S48)), false)) else (zaq.l0 k (([] : List (S48))) 0 x1002 x1000 x1003 x1001)
def zaq.l0 : Nat → List (S48) → Int → Int → List (S48) → Int → List (S48) → Option (Int × (List (S48)) × Bool)
 | 0, _, _, _, _, _, _ => none
 | k + 1, x6, x7, x1002, x1000, x1003, x1001 => if x7 < (x1000.length : Int) then (if 0 ≤ x7 then ((zaB.f k x6 ((zab x1000 x7).f0) ((zab x1000 x7).f1)).bind fun t185 => (zaq.l0 k t185 (wrap64 (x7 + 1)) x1002 x1000 x1003 x1001)) else (none)) else (zaq.l1 k x6 0 x1002 x1000 x1003 x1001)
def zaq.l1 : Nat → List (S48) → Int → Int → List (S48) → Int → List (S48) → Option (Int × (List (S48)) × Bool)
 | 0, _, _, _, _, _, _ => none
 | k + 1, x6, x8, x1002, x1000, x1003, x1001 => if x8 < (x1001.length : Int) then (if 0 ≤ x8 then ((zaB.f k x6 ((zab x1001 x8).f0) ((zab x1001 x8).f1)).bind fun t190 => (zaq.l1 k t190 (wrap64 (x8 + 1)) x1002 x1000 x1003 x1001)) else (none)) else ((zaT.f k x6).bind fun t193 => (some (x1002, t193, true)))
end
def zaq.f (k : Nat) (a0_0 : Int) (l0_1 : List (S48)) (a1_0 : Int) (l1_1 : List (S48)) : Option (Int × (List (S48)) × Bool) := (zaJ.f k a0_0 l0_1).bind fun t178 => (if t178 = true then ((zaJ.f k a1_0 l1_1).bind fun t179 => (if t179 = true then (zaq.j0 k (a0_0 != a1_0) a0_0 l0_1 a1_0 l1_1) else (zaq.j0 k true a0_0 l0_1 a1_0 l1_1))) else (zaq.j0 k true a0_0 l0_1 a1_0 l1_1))
theorem zaq.za8 : ∀ k, (∀ y0 y1 y2 y3 y4, LeO (zaq.j0 k y0 y1 y2 y3 y4) (zaq.j0 (k + 1) y0 y1 y2 y3 y4)) ∧ (∀ y0 y1 y2 y3 y4 y5, LeO (zaq.l0 k y0 y1 y2 y3 y4 y5) (zaq.l0 (k + 1) y0 y1 y2 y3 y4 y5)) ∧ (∀ y0 y1 y2 y3 y4 y5, LeO (zaq.l1 k y0 y1 y2 y3 y4 y5) (zaq.l1 (k + 1) y0 y1 y2 y3 y4 y5))
 | 0 => ⟨fun _ _ _ _ _ r h => by simp [zaq.j0] at h, fun _ _ _ _ _ _ r h => by simp [zaq.l0] at h, fun _ _ _ _ _ _ r h => by simp [zaq.l1] at h⟩
 | k + 1 => by
  obtain ⟨ih0, ih1, ih2⟩ := zaq.za8 k
  refine ⟨?_, ?_, ?_⟩ <;> intros <;> (first | unfold zaq.j0 | unfold zaq.l0 | unfold zaq.l1) <;> repeat' with_reducible first | exact ih0 _ _ _ _ _ | exact ih1 _ _ _ _ _ _ | exact ih2 _ _ _ _ _ _ | exact zaJ.mono _ _ _ | exact zaT.mono _ _ | exact zaB.mono _ _ _ _ | exact xl | refine LeO.ite ?_ ?_ | refine LeO.bind ?_ fun _ => ?_
theorem zaq.mono : ∀ a0 a1 a2 a3 k, LeO (zaq.f k a0 a1 a2 a3) (zaq.f (k + 1) a0 a1 a2 a3) := by
 intro a0 a1 a2 a3 k
 obtain ⟨ih0, ih1, ih2⟩ := zaq.za8 k
 unfold zaq.f
 repeat' with_reducible first | exact ih0 _ _ _ _ _ | exact ih1 _ _ _ _ _ _ | exact ih2 _ _ _ _ _ _ | exact zaJ.mono _ _ _ | exact zaT.mono _ _ | exact zaB.mono _ _ _ _ | exact xl | refine LeO.ite ?_ ?_ | refine LeO.bind ?_ fun _ => ?_
def zaq.T7 : Bool × List (List Nat × List Nat) := (true, [([], []), ([], []), ([1], [1]), ([], []), ([2, 3], [2, 3]), ([4], [4]), ([5], [5]), ([], []), ([7], [7]), ([], []), ([8, 9], [8, 9]), ([10], [10]), ([11], [11]), ([0, 6, 12], [0, 6, 12]), ([13, 13, 0, 1, 2, 3, 4, 5, 6, 7, 8, 9, 10, 11, 12, 13], [0, 13])])
def zaq.B7 : List Nat := [0, 0, 2, 0, 14, 30, 62, 0, 128, 0, 896, 1920, 3968, 8191, 16383]
theorem zaq.tab7 : rtab .any (opsOf Try.f19 7) = zaq.T7 := by kernel_rfl
theorem zaq.zko : zbS zaq.T7.2 zaq.B7 = true := by kernel_rfl
def zaq.T11 : Bool × List (List Nat × List Nat) := (true, [([], []), ([], []), ([1], [1]), ([], []), ([2, 3], [2, 3]), ([4], [4]), ([5], [5]), ([], []), ([7], [7]), ([], []), ([8, 9], [8, 9]), ([10], [10]), ([11], [11]), ([0, 6, 12], [0, 6, 12]), ([13, 13, 0, 1, 2, 3, 4, 5, 6, 7, 8, 9, 10, 11, 12, 13], [0, 13])])
def zaq.B11 : List Nat := [0, 0, 2, 0, 14, 30, 62, 0, 128, 0, 896, 1920, 3968, 8191, 16383]
theorem zaq.zi9 : rtab .any (opsOf Try.f19 11) = zaq.T11 := by kernel_rfl
theorem zaq.zhK : zbS zaq.T11.2 zaq.B11 = true := by kernel_rfl
theorem zaq.zhH (k : Nat) (a0_0 : Int) (A0_1 : Option Addr) (c0_1 : Nat) (l0_1 : List (S48)) (a1_0 : Int) (A1_1 : Option Addr) (c1_1 : Nat) (l1_1 : List (S48)) (r1 : Int) (r2 : List (S48)) (r3 : Bool) (w : World) (hr0_1 : Kd.C k48 w A0_1 l0_1.length l0_1) (hc0_1 : l0_1.length ≤ c0_1) (hr1_1 : Kd.C k48 w A1_1 l1_1.length l1_1) (hc1_1 : l1_1.length ≤ c1_1) (h : zaq.f k a0_0 l0_1 a1_0 l1_1 = some (r1, r2, r3)) :
  Calls Try.prog 19 #[.agg #[.int .i64 a0_0, .slice A0_1 l0_1.length c0_1], .agg #[.int .i64 a1_0, .slice A1_1 l1_1.length c1_1]] w fun e w' => ∃ v1_ : Value, e = .returned (.tuple #[.agg #[.int .i64 r1, v1_], .bool r3]) ∧ Kd.N k48 48 w' w.heap.size (fun k_ => (w.heap.size ≤ k_)) v1_ r2 ∧ Below w.heap.size w w' := by
 have hu28 := Try.underlying28
 have HR0_1 := ax hr0_1
 have HC0_1 := ax hc0_1
 clear hr0_1 hc0_1
 have HR1_1 := ax hr1_1
 have HC1_1 := ax hc1_1
 clear hr1_1 hc1_1
 have HB := ax (Below.refl w.heap.size w)
 have H : ((zaJ.f k a0_0 l0_1).bind fun t178 => (if t178 = true then ((zaJ.f k a1_0 l1_1).bind fun t179 => (if t179 = true then (zaq.j0 k (a0_0 != a1_0) a0_0 l0_1 a1_0 l1_1) else (zaq.j0 k true a0_0 l0_1 a1_0 l1_1))) else (zaq.j0 k true a0_0 l0_1 a1_0 l1_1))) = some (r1, r2, r3) := h
 clear h
 have HC3 := ax H
 clear H
 go_enter Try.func19, Try.ntmps19
 go_upto_region 1 with (first | ((with_reducible refine zaV (N := 2) rfl ?_); refine zaO ?hg (N := 2) ?hd (cs := #[.int .i64 a0_0, .slice A0_1 l0_1.length c0_1]) (t := 28) ?hr ?_; (case hd => rfl); (case hg => rfl); (case hr => first | (go_simp; done) | (go_simp; rfl)); intro gb175 hg w4 hbox hb; have BK175 := ax (hbox); have GW175 := ax ((by rw [hg]; exact (zah (xb HB.out)) : w.heap.size ≤ gb175)); have GE175 := ax ((by rw [hg]; exact (zah (xb HB.out)) : w.heap.size ≤ gb175)); replace HB := yB HB hb; clear hb hbox hg) | ((with_reducible refine zaV (N := 3) rfl ?_); refine zaO ?hg (N := 3) ?hd (cs := #[.int .i64 a1_0, .slice A1_1 l1_1.length c1_1]) (t := 28) ?hr ?_; (case hd => rfl); (case hg => rfl); (case hr => first | (go_simp; done) | (go_simp; rfl)); intro gb176 hg w5 hbox hb; have BK176 := ax (hbox); have GW176 := ax ((by rw [hg]; exact (zah (xs HB.out GE175.out)) : w.heap.size ≤ gb176)); have GE176 := ax ((by rw [hg]; exact (zah (xs HB.out GE175.out)) : w.heap.size ≤ gb176)); replace HB := ax (zar (xs HB.out GE175.out) hb); have NB175_176 := ax (bn hg BK175.out); have NB176_175 := ax (bm hg BK175.out); replace BK175 := ax (bb BK175.out hb); clear hb hbox hg) | ((with_reducible refine zaV (N := 4) rfl ?_); refine zaO ?hg (N := 4) ?hd (cs := #[.int .i64 0, .slice none 0 0]) (t := 28) ?hr ?_; (case hd => rfl); (case hg => rfl); (case hr => first | (go_simp; done) | (go_simp; rfl)); intro gb177 hg w6 hbox hb; have BK177 := ax (hbox); have GW177 := ax ((by rw [hg]; exact (zah (bh HB.out)) : w.heap.size ≤ gb177)); have GE177 := ax ((by rw [hg]; exact (zah (bh HB.out)) : w.heap.size ≤ gb177)); replace HB := ax (zar (bh HB.out) hb); have NB175_177 := ax (bn hg BK175.out); have NB177_175 := ax (bm hg BK175.out); replace BK175 := ax (bb BK175.out hb); have NB176_177 := ax (bn hg BK176.out); have NB177_176 := ax (bm hg BK176.out); replace BK176 := ax (bb BK176.out hb); clear hb hbox hg))
 (try simp only [Act.put, List.setIfInBounds_toArray, List.set_cons_zero, List.set_cons_succ])
 go_cut [23] (fun v23 wc => ∃ (kq : Nat) (x23_2 : Bool), v23 = .bool x23_2 ∧ zap (zaq.j0 kq x23_2 a0_0 l0_1 a1_0 l1_1 = some (r1, r2, r3)) ∧ zap (kq ≤ k) ∧ zap (wc.heap[gb175]? = some (.cells #[.int .i64 a0_0, (.slice A0_1 l0_1.length c0_1)] 28 (0, 0))) ∧ zap (wc.heap[gb176]? = some (.cells #[.int .i64 a1_0, (.slice A1_1 l1_1.length c1_1)] 28 (0, 0))) ∧ zap (wc.heap[gb177]? = some (.cells #[.int .i64 0, (.slice none 0 0)] 28 (0, 0))) ∧ zap (Below w.heap.size w wc))
 case first =>
  have H := HC3.out
  clear HC3
  obtain ⟨t178, A7, H⟩ := xI H
  by_cases c8 : t178 = true
  ·subst c8
   rw [if_pos rfl] at H
   obtain ⟨t179, A9, H⟩ := xI H
   by_cases c10 : t179 = true
   ·subst c10
    rw [if_pos rfl] at H
    have H' := ax H
    clear H
    have hnb11 := NB175_176.out
    have hnc11 := NB176_175.out
    have hnb12 := NB175_177.out
    have hnc12 := NB177_175.out
    have hcz13_0 := bc0 BK175.out
    have hcz13_1 := bc1 BK175.out
    have hfz13_0 := zae BK175.out 0
    have hfz13_1 := zae BK175.out 1
    go_wp2_with (first | ((with_reducible refine zas (f := 25) rfl ?_); refine za3 (some 10) rfl rfl Try.func25 (by kernel_rfl) rfl #[.agg #[.int .i64 a0_0, .slice A0_1 l0_1.length c0_1]] rfl xm ?_; (with_reducible refine (zaJ.calls k a0_0 _ _ l0_1 true _ ?side1 ?side2 A7.out).mono ?_); (case side1 => exact xz HR0_1.out HB.out); (case side2 => exact HC0_1.out); rintro e w14 ⟨rfl, hb⟩; refine ⟨_, rfl, ?_⟩; replace BK175 := ax (bb BK175.out hb); replace BK176 := ax (bb BK176.out hb); replace BK177 := ax (bb BK177.out hb); replace HB := ax (zar (bh HB.out) hb); (try clear hb); have hnb15 := NB176_177.out; have hnc15 := NB177_176.out; have hcz16_0 := bc0 BK176.out; have hcz16_1 := bc1 BK176.out; have hfz16_0 := zae BK176.out 0; have hfz16_1 := zae BK176.out 1) | (go_at_call 25; (with_reducible refine (zaJ.calls k a1_0 _ _ l1_1 true _ ?side1 ?side2 A9.out).mono ?_); (case side1 => exact xz HR1_1.out HB.out); (case side2 => exact HC1_1.out); rintro e w17 ⟨rfl, hb⟩; replace BK175 := ax (bb BK175.out hb); replace BK176 := ax (bb BK176.out hb); replace BK177 := ax (bb BK177.out hb); replace HB := ax (zar (bh HB.out) hb); (try clear hb); have hcz18_0 := bc0 BK175.out; have hcz18_1 := bc1 BK175.out; have hfz18_0 := zae BK175.out 0; have hfz18_1 := zae BK175.out 1; have hcz19_0 := bc0 BK176.out; have hcz19_1 := bc1 BK176.out; have hfz19_0 := zae BK176.out 0; have hfz19_1 := zae BK176.out 1))
    go_meet
    case rel => exact ⟨_, ((a0_0 != a1_0)), xr, H', ⟨by first | omega | exact Nat.le_refl _⟩, ⟨xk BK175.out⟩, ⟨xk BK176.out⟩, ⟨xk BK177.out⟩, ⟨bh HB.out⟩⟩
   ·replace c10 := Bool.eq_false_iff.mpr c10
    subst c10
    rw [if_neg (show ¬ (false = true) by decide)] at H
    have H' := ax H
    clear H
    have hnb20 := NB175_176.out
    have hnc20 := NB176_175.out
    have hnb21 := NB175_177.out
    have hnc21 := NB177_175.out
    have hcz22_0 := bc0 BK175.out
    have hcz22_1 := bc1 BK175.out
    have hfz22_0 := zae BK175.out 0
    have hfz22_1 := zae BK175.out 1
    go_wp2_with (first | ((with_reducible refine zas (f := 25) rfl ?_); refine za3 (some 10) rfl rfl Try.func25 (by kernel_rfl) rfl #[.agg #[.int .i64 a0_0, .slice A0_1 l0_1.length c0_1]] rfl xm ?_; (with_reducible refine (zaJ.calls k a0_0 _ _ l0_1 true _ ?side1 ?side2 A7.out).mono ?_); (case side1 => exact xz HR0_1.out HB.out); (case side2 => exact HC0_1.out); rintro e w23 ⟨rfl, hb⟩; refine ⟨_, rfl, ?_⟩; replace BK175 := ax (bb BK175.out hb); replace BK176 := ax (bb BK176.out hb); replace BK177 := ax (bb BK177.out hb); replace HB := ax (zar (bh HB.out) hb); (try clear hb); have hnb24 := NB176_177.out; have hnc24 := NB177_176.out; have hcz25_0 := bc0 BK176.out; have hcz25_1 := bc1 BK176.out; have hfz25_0 := zae BK176.out 0; have hfz25_1 := zae BK176.out 1) | (go_at_call 25; (with_reducible refine (zaJ.calls k a1_0 _ _ l1_1 false _ ?side1 ?side2 A9.out).mono ?_); (case side1 => exact xz HR1_1.out HB.out); (case side2 => exact HC1_1.out); rintro e w26 ⟨rfl, hb⟩; replace BK175 := ax (bb BK175.out hb); replace BK176 := ax (bb BK176.out hb); replace BK177 := ax (bb BK177.out hb); replace HB := ax (zar (bh HB.out) hb); (try clear hb)))
    go_meet
    case rel => exact ⟨_, (true), xr, H', ⟨by first | omega | exact Nat.le_refl _⟩, ⟨xk BK175.out⟩, ⟨xk BK176.out⟩, ⟨xk BK177.out⟩, ⟨bh HB.out⟩⟩
  ·replace c8 := Bool.eq_false_iff.mpr c8
   subst c8
   rw [if_neg (show ¬ (false = true) by decide)] at H
   have H' := ax H
   clear H
   have hnb27 := NB175_176.out
   have hnc27 := NB176_175.out
   have hnb28 := NB175_177.out
   have hnc28 := NB177_175.out
   have hcz29_0 := bc0 BK175.out
   have hcz29_1 := bc1 BK175.out
   have hfz29_0 := zae BK175.out 0
   have hfz29_1 := zae BK175.out 1
   go_wp2_with (first | ((with_reducible refine zas (f := 25) rfl ?_); refine za3 (some 10) rfl rfl Try.func25 (by kernel_rfl) rfl #[.agg #[.int .i64 a0_0, .slice A0_1 l0_1.length c0_1]] rfl xm ?_; (with_reducible refine (zaJ.calls k a0_0 _ _ l0_1 false _ ?side1 ?side2 A7.out).mono ?_); (case side1 => exact xz HR0_1.out HB.out); (case side2 => exact HC0_1.out); rintro e w30 ⟨rfl, hb⟩; refine ⟨_, rfl, ?_⟩; replace BK175 := ax (bb BK175.out hb); replace BK176 := ax (bb BK176.out hb); replace BK177 := ax (bb BK177.out hb); replace HB := ax (zar (bh HB.out) hb); (try clear hb)))
   go_meet
   case rel => exact ⟨_, (true), xr, H', ⟨by first | omega | exact Nat.le_refl _⟩, ⟨xk BK175.out⟩, ⟨xk BK176.out⟩, ⟨xk BK177.out⟩, ⟨bh HB.out⟩⟩
 case rest =>
  clear HC3
  (try clear c8); (try clear c10); (try clear hcz13_0); (try clear hcz13_1); (try clear hcz16_0); (try clear hcz16_1); (try clear hcz18_0); (try clear hcz18_1); (try clear hcz19_0); (try clear hcz19_1); (try clear hcz22_0); (try clear hcz22_1); (try clear hcz25_0); (try clear hcz25_1); (try clear hcz29_0); (try clear hcz29_1); (try clear hfz13_0); (try clear hfz13_1); (try clear hfz16_0); (try clear hfz16_1); (try clear hfz18_0); (try clear hfz18_1); (try clear hfz19_0); (try clear hfz19_1); (try clear hfz22_0); (try clear hfz22_1); (try clear hfz25_0); (try clear hfz25_1); (try clear hfz29_0); (try clear hfz29_1)
  obtain ⟨kq, x23_2, rfl, HA, HJ2, BK175, BK176, BK177, HB⟩ := hcut
  cases kq with
  | zero => exact absurd HA.out (by simp [zaq.j0])
  | succ kj2 =>
   have H := HA.out
   clear HA
   simp only [zaq.j0] at H
   by_cases c31 : x23_2 = true
   ·subst c31
    rw [if_pos rfl] at H
    simp only [Option.some.injEq, Prod.mk.injEq] at H
    obtain ⟨rfl, rfl, rfl⟩ := H
    have hnb32 := NB177_175.out
    have hnc32 := NB175_177.out
    have hnb33 := NB177_176.out
    have hnc33 := NB176_177.out
    have hcz34_0 := bc0 BK177.out
    have hcz34_1 := bc1 BK177.out
    have hfz34_0 := zae BK177.out 0
    have hfz34_1 := zae BK177.out 1
    go_wp2
    refine bodyPost_ret (zcN rfl _ _ gb177 28 #[.int .i64 0, .slice none 0 0] (0, 0) _ rfl (by (with_reducible repeat (first | refine zaj ?_ _ | refine zaf ?_ | refine zai ?_ _)); refine zbf (cs := #[.int .i64 0, .slice none 0 0]) ?_ 1 _ rfl; (with_reducible repeat (first | refine zaj ?_ _ | refine zaf ?_ | refine zai ?_ _)); refine zbf (cs := #[.int .i64 0, .slice none 0 0]) ?_ 0 _ rfl; (with_reducible repeat (first | refine zaj ?_ _ | refine zaf ?_ | refine zai ?_ _)); exact BK177.out) Try.underlying28 rfl (by kernel_rfl)) rfl ?_
    exact ⟨_, xe, by first | exact Kd.zg4 _ _ _ _ _ | exact Kd.ziA _ _ _ _ _ | exact Kd.zit _ _ _ _ _ | exact Kd.zjs _ _ _ _ _ | exact Kd.zeM _ _ _ _ _, bh HB.out⟩
   ·replace c31 := Bool.eq_false_iff.mpr c31
    subst c31
    rw [if_neg (show ¬ (false = true) by decide)] at H
    obtain ⟨y180, hy180⟩ : ∃ y_ : List (S48), y_ = (([] : List (S48))) := ⟨_, rfl⟩
    replace H : (zaq.l0 kj2 y180 0 a0_0 l0_1 a1_0 l1_1) = some (r1, r2, r3) := xv hy180 H
    have Ny180 := ax hy180
    clear hy180
    have H' := ax H
    clear H
    go_wp2_with (first | ((with_reducible refine zaV (N := 25) rfl ?_); refine Kd.zhV k48 _ 48 ?hg (N' := 25) ?hd (xs := ([] : List (S48))) (inner := []) (ok := (fun k_ => (w.heap.size ≤ k_) ∧ k_ ≠ gb175 ∧ k_ ≠ gb176 ∧ k_ ≠ gb177)) (okp := (fun k_ => (w.heap.size ≤ k_) ∧ k_ ≠ gb175 ∧ k_ ≠ gb176 ∧ k_ ≠ gb177)) ?hr ?hp (fun _ hk => hk) ((show ∀ k_, wc.heap.size ≤ k_ → (fun k_ => (w.heap.size ≤ k_) ∧ k_ ≠ gb175 ∧ k_ ≠ gb176 ∧ k_ ≠ gb177) k_ from fun k_ hk => ⟨(Nat.le_trans (zah (bh HB.out)) hk), Kd.zbN (g := gb175) (o := .cells #[.int .i64 a0_0, .slice A0_1 l0_1.length c0_1] 28 (0, 0)) (xk BK175.out) k_ hk, Kd.zbN (g := gb176) (o := .cells #[.int .i64 a1_0, .slice A1_1 l1_1.length c1_1] 28 (0, 0)) (xk BK176.out) k_ hk, Kd.zbN (g := gb177) (o := .cells #[.int .i64 0, .slice none 0 0] 28 (0, 0)) (xk BK177.out) k_ hk⟩) _ (Nat.le_refl _)) (Below.refl _ _) (Nat.le_refl _) (by simp) ?_; (case hd => rfl); (case hg => rfl); (case hr => first | (go_simp; done) | (go_simp; rfl)); (case hp => exact (Reps.none _ _)); intro v181 w35 ho36 hb hg_ hnew_; clear hg_ hnew_; (first | rw [← Ny180.out] at ho36 | (simp only [Int.reduceToNat] at ho36; rw [← Ny180.out] at ho36)); have HO182 := ax (Kd.zdM ho36 (zah (bh HB.out))); replace BK175 := ax (bb BK175.out hb); replace BK176 := ax (bb BK176.out hb); replace BK177 := ax (bb BK177.out hb); replace HB := ax (zar (bh HB.out) hb); clear hb ho36))
    go_loopg [6, 7] kj2 (fun kq v6 v7 w' => ∃ (x6_2 : List (S48)) (x7_2 : Int), v7 = .int .i64 x7_2 ∧ zap (zaq.l0 kq x6_2 x7_2 a0_0 l0_1 a1_0 l1_1 = some (r1, r2, r3)) ∧ zap (kq ≤ kj2) ∧ zap (Kd.N k48 48 w' w.heap.size (fun k_ => (w.heap.size ≤ k_) ∧ k_ ≠ gb175 ∧ k_ ≠ gb176 ∧ k_ ≠ gb177) v6 x6_2) ∧ zap (w'.heap[gb175]? = some (.cells #[.int .i64 a0_0, (.slice A0_1 l0_1.length c0_1)] 28 (0, 0))) ∧ zap (w'.heap[gb176]? = some (.cells #[.int .i64 a1_0, (.slice A1_1 l1_1.length c1_1)] 28 (0, 0))) ∧ zap (w'.heap[gb177]? = some (.cells #[.int .i64 0, (.slice none 0 0)] 28 (0, 0))) ∧ zap (Below w.heap.size w w'))
    case atStart => exact ⟨(y180), (0), xr, H', ⟨Nat.le_refl _⟩, ⟨xN HO182.out⟩, ⟨xk BK175.out⟩, ⟨xk BK176.out⟩, ⟨xk BK177.out⟩, ⟨bh HB.out⟩⟩
    case round =>
     clear H'
     (try clear c8); (try clear c10); (try clear c31); (try clear hcz13_0); (try clear hcz13_1); (try clear hcz16_0); (try clear hcz16_1); (try clear hcz18_0); (try clear hcz18_1); (try clear hcz19_0); (try clear hcz19_1); (try clear hcz22_0); (try clear hcz22_1); (try clear hcz25_0); (try clear hcz25_1); (try clear hcz29_0); (try clear hcz29_1); (try clear hcz34_0); (try clear hcz34_1); (try clear hfz13_0); (try clear hfz13_1); (try clear hfz16_0); (try clear hfz16_1); (try clear hfz18_0); (try clear hfz18_1); (try clear hfz19_0); (try clear hfz19_1); (try clear hfz22_0); (try clear hfz22_1); (try clear hfz25_0); (try clear hfz25_1); (try clear hfz29_0); (try clear hfz29_1); (try clear hfz34_0); (try clear hfz34_1)
     obtain ⟨x6_2, x7_2, rfl, HA, HK2, HO_6, BK175, BK176, BK177, HB⟩ := hrel
     cases gk with
     | zero => exact absurd HA.out (by simp [zaq.l0])
     | succ k2 =>
      have H := HA.out
      clear HA
      simp only [zaq.l0] at H
      by_cases c37 : x7_2 < (l0_1.length : Int)
      ·rw [if_pos c37] at H
       have c37b0 := decide_eq_true c37
       clear c37
       obtain ⟨c38b0, H⟩ := xq H
       obtain ⟨t185, A39, H⟩ := xI H
       have H' := ax H
       clear H
       have hnb40 := NB175_176.out
       have hnc40 := NB176_175.out
       have hnb41 := NB175_177.out
       have hnc41 := NB177_175.out
       have hcz42_0 := bc0 BK175.out
       have hcz42_1 := bc1 BK175.out
       have hfz42_0 := zae BK175.out 0
       have hfz42_1 := zae BK175.out 1
       try go_wp2
       replace HO_6 := ax (Kd.zbp HO_6.out); replace BK175 := ax (zaf BK175.out); replace BK176 := ax (zaf BK176.out); replace BK177 := ax (zaf BK177.out); replace HB := ax (zaN HB.out)
       have p183 : 0 ≤ (x7_2 : Int) := xd
       have q183 : x7_2 < (l0_1.length : Int) := xd
       obtain ⟨ad183, A183_0, c183_0, e183, hx183_0, hx183_1, hl183_0, hi183_0⟩ := zbs HR0_1.out x7_2 p183 q183
       have hw183_1 := hx183_1
       have hw183_0 := hx183_0
       cases e183
       (try replace hx183_0 := (HB.out.cell (World.block_lt_of_cell? w _ hx183_0)).trans hx183_0)
       (try replace hx183_1 := (HB.out.cell (World.block_lt_of_cell? w _ hx183_1)).trans hx183_1)
       have HR183_0 := ax hi183_0
       have HC183_0 := ax hl183_0
       clear hi183_0 hl183_0
       replace p183 := eq_true p183
       replace q183 := eq_true q183
       have p184 : 0 ≤ (x7_2 : Int) := xd
       have q184 : x7_2 < (l0_1.length : Int) := xd
       obtain ⟨ad184, A184_0, c184_0, e184, hx184_0, hx184_1, hl184_0, hi184_0⟩ := zbs HR0_1.out x7_2 p184 q184
       have hw184_1 := hx184_1
       have hw184_0 := hx184_0
       obtain rfl : ad183 = ad184 := (by injection e184)
       (try replace hx184_0 := (HB.out.cell (World.block_lt_of_cell? w _ hx184_0)).trans hx184_0)
       (try replace hx184_1 := (HB.out.cell (World.block_lt_of_cell? w _ hx184_1)).trans hx184_1)
       obtain ⟨rfl, rfl⟩ : A183_0 = A184_0 ∧ c183_0 = c184_0 := by first | exact zbi hx183_0 hx184_0 | exact zbi HS0_ hx184_0 | exact zbi HS1_ hx184_0 | exact zbi HS2_ hx184_0 | exact zbi hHeld hx184_0 | exact zbi hHeld.1 hx184_0 | exact zbi hHeld.2 hx184_0 | exact zbi hHeld.2.1 hx184_0 | exact zbi hHeld.2.2 hx184_0 | exact zbi hHeld.2.2.1 hx184_0 | exact zbi hHeld.2.2.2 hx184_0 | exact zbi hHeld.2.2.2.1 hx184_0 | exact zbi hHeld.2.2.2.2 hx184_0 | exact zbi hHeld.2.2.2.2.1 hx184_0 | exact zbi hHeld.2.2.2.2.2 hx184_0
       have HR184_0 := ax hi184_0
       have HC184_0 := ax hl184_0
       clear hi184_0 hl184_0
       replace p184 := eq_true p184
       replace q184 := eq_true q184
       have ea_ := Option.some.inj (hx183_0.symm.trans hx184_0)
       injection ea_ with ea_ en_ ec_
       (try subst ea_)
       (try subst ec_)
       clear en_
       obtain ⟨Ao44, co44, eo44⟩ := Kd.zbt HO_6.out
       (first | subst eo44 | (injection eo44 with f1_ f2_ f3_; have f4_ := f1_.symm; have f5_ := f3_.symm; clear f1_ f2_ f3_; subst f4_; subst f5_))
       refine zbJ (n := 15) (S := fun w' => w'.cell? ⟨gb175, 0, none⟩ = some (.int .i64 a0_0) ∧ w'.cell? ⟨gb175, 1, none⟩ = some (.slice (some ad183) l0_1.length c0_1) ∧ w'.cell? (ad183.add ((x7_2).toNat * 2)) = some (.slice A183_0 ((zab l0_1 x7_2).f0).length c183_0) ∧ w'.cell? ⟨(ad183.add ((x7_2).toNat * 2)).block, (ad183.add ((x7_2).toNat * 2)).off + 1, none⟩ = some (.int .i64 ((zab l0_1 x7_2).f1)) ∧ w'.cell? (ad183.add ((x7_2).toNat * 2)) = some (.slice A183_0 ((zab l0_1 x7_2).f0).length c183_0) ∧ w'.cell? ⟨(ad183.add ((x7_2).toNat * 2)).block, (ad183.add ((x7_2).toNat * 2)).off + 1, none⟩ = some (.int .i64 ((zab l0_1 x7_2).f1))) (ds := []) (xB 15 0) (by kernel_rfl) rfl (by kernel_rfl) ⟨(zag BK175.out 0).trans rfl, (zag BK175.out 1).trans rfl, ((HB.out.cell (World.block_lt_of_cell? w _ hw183_0)).trans hw183_0), ((HB.out.cell (World.block_lt_of_cell? w _ hw183_1)).trans hw183_1), ((HB.out.cell (World.block_lt_of_cell? w _ hw184_0)).trans hw184_0), ((HB.out.cell (World.block_lt_of_cell? w _ hw184_1)).trans hw184_1)⟩ (fun hHeld => ?_); refine zbg zaq.tab7 zaq.zko (fun HT_ HW_ => ?_)
       generalize wr.drew = w43 at HO_6 BK175 BK176 BK177 HB HR183_0 HR184_0 hx183_0 hx183_1 hx184_0 hx184_1 hHeld ⊢
       refine pu (i := 0) (N := some 33) (xB 15 1) HT_.out ?_
       refine pu (i := 1) (N := some 34) (xB 15 3) HT_.out ?_
       refine pu (i := 3) (N := some 36) (xB 15 11) HT_.out ?_
       refine pu (i := 7) (N := some 40) (xB 15 139) HT_.out ?_
       refine pu (i := 9) (N := some 42) (xB 15 651) HT_.out ?_
       refine tk (i := 2) (N := some 35) (xB 15 655) HT_.out HW_.out hHeld ?_
       refine pu (i := 4) (N := some 37) (xB 15 671) HT_.out ?_
       refine pu (i := 5) (N := some 38) (xB 15 703) HT_.out ?_
       refine tk (i := 6) (N := some 39) (xB 15 767) HT_.out HW_.out hHeld ?_
       refine tk (i := 8) (N := some 41) (xB 15 1023) HT_.out HW_.out hHeld ?_
       refine pu (i := 10) (N := some 43) (xB 15 2047) HT_.out ?_
       refine pu (i := 11) (N := some 44) (xB 15 4095) HT_.out ?_
       refine tk (i := 12) (N := some 45) (xB 15 8191) HT_.out HW_.out hHeld ?_
       refine one_ (i := 13) (N := some 46) (xB 15 16383) rfl rfl (zbj HT_.out (by kernel_rfl)) (by decide) (fun K hK => ?_)
       refine zbQ Try.func26 (by kernel_rfl) rfl #[.slice Ao44 x6_2.length co44, .slice A183_0 ((zab l0_1 x7_2).f0).length c183_0, .int .i64 ((zab l0_1 x7_2).f1)] (by rfl) rfl rfl xm ?_
       with_reducible refine (zaB.calls k2 (fun k_ => ((w.heap.size ≤ k_) ∧ (k_ ≠ gb175 ∧ (k_ ≠ gb176 ∧ k_ ≠ gb177)))) (fun k_ => some k_ = (.slice Ao44 x6_2.length co44 : Value).ownBlock) (.slice Ao44 x6_2.length co44) x6_2 _ _ ((zab l0_1 x7_2).f0) ((zab l0_1 x7_2).f1) t185 w _ ?side1 ?side2 ?side3 ?side4 ?side5 A39.out).mono ?_
       (case side1 => exact bh HB.out)
       (case side2 => exact HO_6.out)
       (case side3 => exact fun k_ e_ => e_.symm)
       (case side4 => exact Kd.zeF (Kd.zdB .i64) HR183_0.out (bh HB.out) (fun k_ hs_ => (fun e_ => (by first | exact Kd.zcI HO_6.out k_ e_.symm | exact Kd.zb4 HO_6.out k_ e_.symm)) hs_))
       (case side5 => exact HC183_0.out)
       rintro e w45 ⟨v186, rfl, ho0, hb, hkp⟩
       refine ⟨_, rfl, ?_⟩
       have n0_ := ax (zbh (xk BK175.out) hkp (fun hs_ => (fun e_ => (Kd.N_ne HO_6.out BK175.out (by decide)) e_) hs_))
       have n1_ := ax (zbh (xk BK176.out) hkp (fun hs_ => (fun e_ => (Kd.N_ne HO_6.out BK176.out (by decide)) e_) hs_))
       have n2_ := ax (zbh (xk BK177.out) hkp (fun hs_ => (fun e_ => (Kd.N_ne HO_6.out BK177.out (by decide)) e_) hs_))
       have n3_ := ax (Kd.zbe (ok' := fun k_ => (w.heap.size ≤ k_) ∧ k_ ≠ gb175 ∧ k_ ≠ gb176 ∧ k_ ≠ gb177) ho0 (fun k_ hk_ => ⟨Or.elim hk_ (fun hs_ => by first | exact hs_ | exact hs_.1 | exact hs_.2.1 | exact hs_.2.2.1 | exact hs_.2.2.2.1 | exact hs_.2.2.2.2.1 | exact hs_.2.2.2.2 | exact hs_.2.2.2 | exact hs_.2.2 | exact hs_.2) (fun hn_ => (Nat.le_trans (zah (bh HB.out)) hn_)), Or.elim hk_ (fun hs_ => by first | exact hs_ | exact hs_.1 | exact hs_.2.1 | exact hs_.2.2.1 | exact hs_.2.2.2.1 | exact hs_.2.2.2.2.1 | exact hs_.2.2.2.2 | exact hs_.2.2.2 | exact hs_.2.2 | exact hs_.2) (fun hn_ => (Kd.zbN (g := gb175) (o := .cells #[.int .i64 a0_0, .slice (some ad183) l0_1.length c0_1] 28 (0, 0)) (xk BK175.out) k_ hn_)), Or.elim hk_ (fun hs_ => by first | exact hs_ | exact hs_.1 | exact hs_.2.1 | exact hs_.2.2.1 | exact hs_.2.2.2.1 | exact hs_.2.2.2.2.1 | exact hs_.2.2.2.2 | exact hs_.2.2.2 | exact hs_.2.2 | exact hs_.2) (fun hn_ => (Kd.zbN (g := gb176) (o := .cells #[.int .i64 a1_0, .slice A1_1 l1_1.length c1_1] 28 (0, 0)) (xk BK176.out) k_ hn_)), Or.elim hk_ (fun hs_ => by first | exact hs_ | exact hs_.1 | exact hs_.2.1 | exact hs_.2.2.1 | exact hs_.2.2.2.1 | exact hs_.2.2.2.2.1 | exact hs_.2.2.2.2 | exact hs_.2.2.2 | exact hs_.2.2 | exact hs_.2) (fun hn_ => (Kd.zbN (g := gb177) (o := .cells #[.int .i64 0, .slice none 0 0] 28 (0, 0)) (xk BK177.out) k_ hn_))⟩))
       have n4_ := ax (hb)
       clear BK175 BK176 BK177 HB HO_6
       have BK175 := n0_
       have BK176 := n1_
       have BK177 := n2_
       have HO187 := n3_
       have HB := n4_
       clear n0_ n1_ n2_ n3_ n4_
       (try clear hb)
       (try clear hkp)
       (try clear ho0)
       refine hK.out _ _ ⟨(zag BK175.out 0).trans rfl, (zag BK175.out 1).trans rfl, ((HB.out.cell (World.block_lt_of_cell? w _ hw183_0)).trans hw183_0), ((HB.out.cell (World.block_lt_of_cell? w _ hw183_1)).trans hw183_1), ((HB.out.cell (World.block_lt_of_cell? w _ hw184_0)).trans hw184_0), ((HB.out.cell (World.block_lt_of_cell? w _ hw184_1)).trans hw184_1)⟩ (fun hHeld => ?_)
       clear hK K
       refine nm ?_
       refine pu (i := 14) (N := some 6) (xB 15 32767) HT_.out ?_
       refine zb6 (zbB HT_.out (by kernel_rfl)) ?_
       try go_wp2
       go_roundg k2
       case measure => have := HJ2.out; have := HK2.out; omega
       case rel => exact ⟨(t185), (wrap64 (x7_2 + 1)), xr, H', ⟨by have := HJ2.out; have := HK2.out; omega⟩, ⟨xN HO187.out⟩, ⟨xk BK175.out⟩, ⟨xk BK176.out⟩, ⟨xk BK177.out⟩, ⟨bh HB.out⟩⟩
      ·rw [if_neg c37] at H
       have c37b0 := decide_eq_false c37
       clear c37
       have H' := ax H
       clear H
       have hnb46 := NB175_176.out
       have hnc46 := NB176_175.out
       have hnb47 := NB175_177.out
       have hnc47 := NB177_175.out
       have hcz48_0 := bc0 BK175.out
       have hcz48_1 := bc1 BK175.out
       have hfz48_0 := zae BK175.out 0
       have hfz48_1 := zae BK175.out 1
       go_wp2
       go_loopg [6, 8] k2 (fun kq v6 v8 w' => ∃ (x6_3 : List (S48)) (x8_3 : Int), v8 = .int .i64 x8_3 ∧ zap (zaq.l1 kq x6_3 x8_3 a0_0 l0_1 a1_0 l1_1 = some (r1, r2, r3)) ∧ zap (kq ≤ k2) ∧ zap (Kd.N k48 48 w' w.heap.size (fun k_ => (w.heap.size ≤ k_) ∧ k_ ≠ gb175 ∧ k_ ≠ gb176 ∧ k_ ≠ gb177) v6 x6_3) ∧ zap (w'.heap[gb175]? = some (.cells #[.int .i64 a0_0, (.slice A0_1 l0_1.length c0_1)] 28 (0, 0))) ∧ zap (w'.heap[gb176]? = some (.cells #[.int .i64 a1_0, (.slice A1_1 l1_1.length c1_1)] 28 (0, 0))) ∧ zap (w'.heap[gb177]? = some (.cells #[.int .i64 0, (.slice none 0 0)] 28 (0, 0))) ∧ zap (Below w.heap.size w w'))
       case atStart => exact ⟨(x6_2), (0), xr, H', ⟨Nat.le_refl _⟩, ⟨xN HO_6.out⟩, ⟨xk BK175.out⟩, ⟨xk BK176.out⟩, ⟨xk BK177.out⟩, ⟨bh HB.out⟩⟩
       case round =>
        clear H'
        (try clear c8); (try clear c10); (try clear c31); (try clear c37); (try clear c37b0); (try clear c38); (try clear c38b0); (try clear hcz13_0); (try clear hcz13_1); (try clear hcz16_0); (try clear hcz16_1); (try clear hcz18_0); (try clear hcz18_1); (try clear hcz19_0); (try clear hcz19_1); (try clear hcz22_0); (try clear hcz22_1); (try clear hcz25_0); (try clear hcz25_1); (try clear hcz29_0); (try clear hcz29_1); (try clear hcz34_0); (try clear hcz34_1); (try clear hcz42_0); (try clear hcz42_1); (try clear hcz48_0); (try clear hcz48_1); (try clear hfz13_0); (try clear hfz13_1); (try clear hfz16_0); (try clear hfz16_1); (try clear hfz18_0); (try clear hfz18_1); (try clear hfz19_0); (try clear hfz19_1); (try clear hfz22_0); (try clear hfz22_1); (try clear hfz25_0); (try clear hfz25_1); (try clear hfz29_0); (try clear hfz29_1); (try clear hfz34_0); (try clear hfz34_1); (try clear hfz42_0); (try clear hfz42_1); (try clear hfz48_0); (try clear hfz48_1); (try clear hx183_0); (try clear hx183_1); (try clear hx184_0); (try clear hx184_1); (try clear p183); (try clear p184); (try clear q183); (try clear q184)
        obtain ⟨x6_3, x8_3, rfl, HA, HK3, HO_6, BK175, BK176, BK177, HB⟩ := hrel
        cases gk with
        | zero => exact absurd HA.out (by simp [zaq.l1])
        | succ k3 =>
         have H := HA.out
         clear HA
         simp only [zaq.l1] at H
         by_cases c49 : x8_3 < (l1_1.length : Int)
         ·rw [if_pos c49] at H
          have c49b0 := decide_eq_true c49
          clear c49
          obtain ⟨c50b0, H⟩ := xq H
          obtain ⟨t190, A51, H⟩ := xI H
          have H' := ax H
          clear H
          have hnb52 := NB176_175.out
          have hnc52 := NB175_176.out
          have hnb53 := NB176_177.out
          have hnc53 := NB177_176.out
          have hcz54_0 := bc0 BK176.out
          have hcz54_1 := bc1 BK176.out
          have hfz54_0 := zae BK176.out 0
          have hfz54_1 := zae BK176.out 1
          try go_wp2
          replace HO_6 := ax (Kd.zbp HO_6.out); replace BK175 := ax (zaf BK175.out); replace BK176 := ax (zaf BK176.out); replace BK177 := ax (zaf BK177.out); replace HB := ax (zaN HB.out)
          have p188 : 0 ≤ (x8_3 : Int) := xd
          have q188 : x8_3 < (l1_1.length : Int) := xd
          obtain ⟨ad188, A188_0, c188_0, e188, hx188_0, hx188_1, hl188_0, hi188_0⟩ := zbs HR1_1.out x8_3 p188 q188
          have hw188_1 := hx188_1
          have hw188_0 := hx188_0
          cases e188
          (try replace hx188_0 := (HB.out.cell (World.block_lt_of_cell? w _ hx188_0)).trans hx188_0)
          (try replace hx188_1 := (HB.out.cell (World.block_lt_of_cell? w _ hx188_1)).trans hx188_1)
          have HR188_0 := ax hi188_0
          have HC188_0 := ax hl188_0
          clear hi188_0 hl188_0
          replace p188 := eq_true p188
          replace q188 := eq_true q188
          have p189 : 0 ≤ (x8_3 : Int) := xd
          have q189 : x8_3 < (l1_1.length : Int) := xd
          obtain ⟨ad189, A189_0, c189_0, e189, hx189_0, hx189_1, hl189_0, hi189_0⟩ := zbs HR1_1.out x8_3 p189 q189
          have hw189_1 := hx189_1
          have hw189_0 := hx189_0
          obtain rfl : ad188 = ad189 := (by injection e189)
          (try replace hx189_0 := (HB.out.cell (World.block_lt_of_cell? w _ hx189_0)).trans hx189_0)
          (try replace hx189_1 := (HB.out.cell (World.block_lt_of_cell? w _ hx189_1)).trans hx189_1)
          obtain ⟨rfl, rfl⟩ : A188_0 = A189_0 ∧ c188_0 = c189_0 := by first | exact zbi hx188_0 hx189_0 | exact zbi HS0_ hx189_0 | exact zbi HS1_ hx189_0 | exact zbi HS2_ hx189_0 | exact zbi hHeld hx189_0 | exact zbi hHeld.1 hx189_0 | exact zbi hHeld.2 hx189_0 | exact zbi hHeld.2.1 hx189_0 | exact zbi hHeld.2.2 hx189_0 | exact zbi hHeld.2.2.1 hx189_0 | exact zbi hHeld.2.2.2 hx189_0 | exact zbi hHeld.2.2.2.1 hx189_0 | exact zbi hHeld.2.2.2.2 hx189_0 | exact zbi hHeld.2.2.2.2.1 hx189_0 | exact zbi hHeld.2.2.2.2.2 hx189_0
          have HR189_0 := ax hi189_0
          have HC189_0 := ax hl189_0
          clear hi189_0 hl189_0
          replace p189 := eq_true p189
          replace q189 := eq_true q189
          have ea_ := Option.some.inj (hx188_0.symm.trans hx189_0)
          injection ea_ with ea_ en_ ec_
          (try subst ea_)
          (try subst ec_)
          clear en_
          obtain ⟨Ao56, co56, eo56⟩ := Kd.zbt HO_6.out
          (first | subst eo56 | (injection eo56 with f1_ f2_ f3_; have f4_ := f1_.symm; have f5_ := f3_.symm; clear f1_ f2_ f3_; subst f4_; subst f5_))
          refine zbJ (n := 15) (S := fun w' => w'.cell? ⟨gb176, 0, none⟩ = some (.int .i64 a1_0) ∧ w'.cell? ⟨gb176, 1, none⟩ = some (.slice (some ad188) l1_1.length c1_1) ∧ w'.cell? (ad188.add ((x8_3).toNat * 2)) = some (.slice A188_0 ((zab l1_1 x8_3).f0).length c188_0) ∧ w'.cell? ⟨(ad188.add ((x8_3).toNat * 2)).block, (ad188.add ((x8_3).toNat * 2)).off + 1, none⟩ = some (.int .i64 ((zab l1_1 x8_3).f1)) ∧ w'.cell? (ad188.add ((x8_3).toNat * 2)) = some (.slice A188_0 ((zab l1_1 x8_3).f0).length c188_0) ∧ w'.cell? ⟨(ad188.add ((x8_3).toNat * 2)).block, (ad188.add ((x8_3).toNat * 2)).off + 1, none⟩ = some (.int .i64 ((zab l1_1 x8_3).f1))) (ds := []) (xB 15 0) (by kernel_rfl) rfl (by kernel_rfl) ⟨(zag BK176.out 0).trans rfl, (zag BK176.out 1).trans rfl, ((HB.out.cell (World.block_lt_of_cell? w _ hw188_0)).trans hw188_0), ((HB.out.cell (World.block_lt_of_cell? w _ hw188_1)).trans hw188_1), ((HB.out.cell (World.block_lt_of_cell? w _ hw189_0)).trans hw189_0), ((HB.out.cell (World.block_lt_of_cell? w _ hw189_1)).trans hw189_1)⟩ (fun hHeld => ?_); refine zbg zaq.zi9 zaq.zhK (fun HT_ HW_ => ?_)
          generalize wr.drew = w55 at HO_6 BK175 BK176 BK177 HB HR188_0 HR189_0 hx188_0 hx188_1 hx189_0 hx189_1 hHeld ⊢
          refine pu (i := 0) (N := some 54) (xB 15 1) HT_.out ?_
          refine pu (i := 1) (N := some 55) (xB 15 3) HT_.out ?_
          refine pu (i := 3) (N := some 57) (xB 15 11) HT_.out ?_
          refine pu (i := 7) (N := some 61) (xB 15 139) HT_.out ?_
          refine pu (i := 9) (N := some 63) (xB 15 651) HT_.out ?_
          refine tk (i := 2) (N := some 56) (xB 15 655) HT_.out HW_.out hHeld ?_
          refine pu (i := 4) (N := some 58) (xB 15 671) HT_.out ?_
          refine pu (i := 5) (N := some 59) (xB 15 703) HT_.out ?_
          refine tk (i := 6) (N := some 60) (xB 15 767) HT_.out HW_.out hHeld ?_
          refine tk (i := 8) (N := some 62) (xB 15 1023) HT_.out HW_.out hHeld ?_
          refine pu (i := 10) (N := some 64) (xB 15 2047) HT_.out ?_
          refine pu (i := 11) (N := some 65) (xB 15 4095) HT_.out ?_
          refine tk (i := 12) (N := some 66) (xB 15 8191) HT_.out HW_.out hHeld ?_
          refine one_ (i := 13) (N := some 67) (xB 15 16383) rfl rfl (zbj HT_.out (by kernel_rfl)) (by decide) (fun K hK => ?_)
          refine zbQ Try.func26 (by kernel_rfl) rfl #[.slice Ao56 x6_3.length co56, .slice A188_0 ((zab l1_1 x8_3).f0).length c188_0, .int .i64 ((zab l1_1 x8_3).f1)] (by rfl) rfl rfl xm ?_
          with_reducible refine (zaB.calls k3 (fun k_ => ((w.heap.size ≤ k_) ∧ (k_ ≠ gb175 ∧ (k_ ≠ gb176 ∧ k_ ≠ gb177)))) (fun k_ => some k_ = (.slice Ao56 x6_3.length co56 : Value).ownBlock) (.slice Ao56 x6_3.length co56) x6_3 _ _ ((zab l1_1 x8_3).f0) ((zab l1_1 x8_3).f1) t190 w _ ?side1 ?side2 ?side3 ?side4 ?side5 A51.out).mono ?_
          (case side1 => exact bh HB.out)
          (case side2 => exact HO_6.out)
          (case side3 => exact fun k_ e_ => e_.symm)
          (case side4 => exact Kd.zeF (Kd.zdB .i64) HR188_0.out (bh HB.out) (fun k_ hs_ => (fun e_ => (by first | exact Kd.zcI HO_6.out k_ e_.symm | exact Kd.zb4 HO_6.out k_ e_.symm)) hs_))
          (case side5 => exact HC188_0.out)
          rintro e w57 ⟨v191, rfl, ho0, hb, hkp⟩
          refine ⟨_, rfl, ?_⟩
          have n0_ := ax (zbh (xk BK175.out) hkp (fun hs_ => (fun e_ => (Kd.N_ne HO_6.out BK175.out (by decide)) e_) hs_))
          have n1_ := ax (zbh (xk BK176.out) hkp (fun hs_ => (fun e_ => (Kd.N_ne HO_6.out BK176.out (by decide)) e_) hs_))
          have n2_ := ax (zbh (xk BK177.out) hkp (fun hs_ => (fun e_ => (Kd.N_ne HO_6.out BK177.out (by decide)) e_) hs_))
          have n3_ := ax (Kd.zbe (ok' := fun k_ => (w.heap.size ≤ k_) ∧ k_ ≠ gb175 ∧ k_ ≠ gb176 ∧ k_ ≠ gb177) ho0 (fun k_ hk_ => ⟨Or.elim hk_ (fun hs_ => by first | exact hs_ | exact hs_.1 | exact hs_.2.1 | exact hs_.2.2.1 | exact hs_.2.2.2.1 | exact hs_.2.2.2.2.1 | exact hs_.2.2.2.2 | exact hs_.2.2.2 | exact hs_.2.2 | exact hs_.2) (fun hn_ => (Nat.le_trans (zah (bh HB.out)) hn_)), Or.elim hk_ (fun hs_ => by first | exact hs_ | exact hs_.1 | exact hs_.2.1 | exact hs_.2.2.1 | exact hs_.2.2.2.1 | exact hs_.2.2.2.2.1 | exact hs_.2.2.2.2 | exact hs_.2.2.2 | exact hs_.2.2 | exact hs_.2) (fun hn_ => (Kd.zbN (g := gb175) (o := .cells #[.int .i64 a0_0, .slice A0_1 l0_1.length c0_1] 28 (0, 0)) (xk BK175.out) k_ hn_)), Or.elim hk_ (fun hs_ => by first | exact hs_ | exact hs_.1 | exact hs_.2.1 | exact hs_.2.2.1 | exact hs_.2.2.2.1 | exact hs_.2.2.2.2.1 | exact hs_.2.2.2.2 | exact hs_.2.2.2 | exact hs_.2.2 | exact hs_.2) (fun hn_ => (Kd.zbN (g := gb176) (o := .cells #[.int .i64 a1_0, .slice (some ad188) l1_1.length c1_1] 28 (0, 0)) (xk BK176.out) k_ hn_)), Or.elim hk_ (fun hs_ => by first | exact hs_ | exact hs_.1 | exact hs_.2.1 | exact hs_.2.2.1 | exact hs_.2.2.2.1 | exact hs_.2.2.2.2.1 | exact hs_.2.2.2.2 | exact hs_.2.2.2 | exact hs_.2.2 | exact hs_.2) (fun hn_ => (Kd.zbN (g := gb177) (o := .cells #[.int .i64 0, .slice none 0 0] 28 (0, 0)) (xk BK177.out) k_ hn_))⟩))
          have n4_ := ax (hb)
          clear BK175 BK176 BK177 HB HO_6
          have BK175 := n0_
          have BK176 := n1_
          have BK177 := n2_
          have HO192 := n3_
          have HB := n4_
          clear n0_ n1_ n2_ n3_ n4_
          (try clear hb)
          (try clear hkp)
          (try clear ho0)
          refine hK.out _ _ ⟨(zag BK176.out 0).trans rfl, (zag BK176.out 1).trans rfl, ((HB.out.cell (World.block_lt_of_cell? w _ hw188_0)).trans hw188_0), ((HB.out.cell (World.block_lt_of_cell? w _ hw188_1)).trans hw188_1), ((HB.out.cell (World.block_lt_of_cell? w _ hw189_0)).trans hw189_0), ((HB.out.cell (World.block_lt_of_cell? w _ hw189_1)).trans hw189_1)⟩ (fun hHeld => ?_)
          clear hK K
          refine nm ?_
          refine pu (i := 14) (N := some 6) (xB 15 32767) HT_.out ?_
          refine zb6 (zbB HT_.out (by kernel_rfl)) ?_
          try go_wp2
          go_roundg k3
          case measure => have := HJ2.out; have := HK2.out; have := HK3.out; omega
          case rel => exact ⟨(t190), (wrap64 (x8_3 + 1)), xr, H', ⟨by have := HJ2.out; have := HK2.out; have := HK3.out; omega⟩, ⟨xN HO192.out⟩, ⟨xk BK175.out⟩, ⟨xk BK176.out⟩, ⟨xk BK177.out⟩, ⟨bh HB.out⟩⟩
         ·rw [if_neg c49] at H
          have c49b0 := decide_eq_false c49
          clear c49
          obtain ⟨t193, A58, H⟩ := xI H
          simp only [Option.some.injEq, Prod.mk.injEq] at H
          obtain ⟨rfl, rfl, rfl⟩ := H
          have hnb59 := NB176_175.out
          have hnc59 := NB175_176.out
          have hnb60 := NB176_177.out
          have hnc60 := NB177_176.out
          have hcz61_0 := bc0 BK176.out
          have hcz61_1 := bc1 BK176.out
          have hfz61_0 := zae BK176.out 0
          have hfz61_1 := zae BK176.out 1
          try go_wp2
          replace HO_6 := ax (Kd.zbp HO_6.out); replace BK175 := ax (zaf BK175.out); replace BK176 := ax (zaf BK176.out); replace BK177 := ax (zaf BK177.out); replace HB := ax (zaN HB.out)
          obtain ⟨Ao63, co63, eo63⟩ := Kd.zbt HO_6.out
          (first | subst eo63 | (injection eo63 with f1_ f2_ f3_; have f4_ := f1_.symm; have f5_ := f3_.symm; clear f1_ f2_ f3_; subst f4_; subst f5_))
          refine zbJ (n := 7) (S := fun w' => w'.cell? ⟨gb175, 0, none⟩ = some (.int .i64 a0_0) ∧ w'.cell? ⟨gb175, 1, none⟩ = some (.slice A0_1 l0_1.length c0_1)) (ds := []) (xB 7 0) (by kernel_rfl) rfl (by kernel_rfl) ⟨(zag BK175.out 0).trans rfl, (zag BK175.out 1).trans rfl⟩ (fun hHeld => ?_)
          generalize wr.drew = w62 at HO_6 BK175 BK176 BK177 HB hHeld ⊢
          refine zer (i := 0) (N := some 68) (v := ?_) (a' := ?_) (xB 7 1) rfl rfl (by kernel_rfl) (fun _ _ _ h => h) (Or.inl ⟨by rfl, ?_⟩) ?_ ?_
          rotate_left
          ·intro w'
           go_simp
           with_reducible rfl
          rotate_left
          ·simp only [Act.put, List.setIfInBounds_toArray, List.set_cons_zero, List.set_cons_succ, zbZ, zcd]
           rfl
          refine zer (i := 2) (N := some 70) (v := ?_) (a' := ?_) (xB 7 5) rfl rfl (by kernel_rfl) (fun _ _ _ h => h) (Or.inl ⟨by rfl, ?_⟩) ?_ ?_
          rotate_left
          ·intro w'
           go_simp
           with_reducible rfl
          rotate_left
          ·simp only [Act.put, List.setIfInBounds_toArray, List.set_cons_zero, List.set_cons_succ, zbZ, zcd]
           rfl
          refine zdQ (i := 1) (N := some 69) (v := ?_) (a' := ?_) (xB 7 7) rfl rfl (by kernel_rfl) (fun _ _ _ h => h) (Or.inl ⟨by rfl, ?_⟩) hHeld ?_ ?_
          rotate_left
          ·rintro w' ⟨s0, s1⟩
           go_simp
           with_reducible rfl
          rotate_left
          ·simp only [Act.put, List.setIfInBounds_toArray, List.set_cons_zero, List.set_cons_succ, zbZ, zcd]
           rfl
          refine one_ (i := 3) (N := some 71) (xB 7 15) rfl rfl (by kernel_rfl) (by decide) (fun K hK => ?_)
          refine zbQ Try.func27 (by kernel_rfl) rfl #[.slice Ao63 x6_3.length co63] (by rfl) rfl rfl xm ?_
          with_reducible refine (zaT.calls k3 (fun k_ => ((w.heap.size ≤ k_) ∧ (k_ ≠ gb175 ∧ (k_ ≠ gb176 ∧ k_ ≠ gb177)))) _ _ x6_3 t193 _ ?side1 A58.out).mono ?_
          (case side1 => exact Kd.N_V (HO_6.out))
          rintro e w64 ⟨v194, rfl, ho0, hb⟩
          refine ⟨_, rfl, ?_⟩
          replace HO_6 := ax (Kd.zdj (xN HO_6.out) (by first | exact Kd.zcI ho0 | exact Kd.za6 ho0 | exact Kd.zb4 ho0) hb); have HO195 := ax (Kd.zdM (Kd.zbe (ok' := fun k_ => (w.heap.size ≤ k_) ∧ k_ ≠ gb175 ∧ k_ ≠ gb176 ∧ k_ ≠ gb177) ho0 (fun k_ hk_ => ⟨Or.elim hk_ (fun hs_ => hs_.1) (fun hn_ => (Nat.le_trans (zah (bh HB.out)) hn_)), Or.elim hk_ (fun hs_ => hs_.2.1) (fun hn_ => (Kd.zbN (g := gb175) (o := .cells #[.int .i64 a0_0, .slice A0_1 l0_1.length c0_1] 28 (0, 0)) (xk BK175.out) k_ hn_)), Or.elim hk_ (fun hs_ => hs_.2.2.1) (fun hn_ => (Kd.zbN (g := gb176) (o := .cells #[.int .i64 a1_0, .slice A1_1 l1_1.length c1_1] 28 (0, 0)) (xk BK176.out) k_ hn_)), Or.elim hk_ (fun hs_ => hs_.2.2.2) (fun hn_ => (Kd.zbN (g := gb177) (o := .cells #[.int .i64 0, .slice none 0 0] 28 (0, 0)) (xk BK177.out) k_ hn_))⟩)) (zah (bh HB.out))); replace BK175 := ax (bb BK175.out hb); replace BK176 := ax (bb BK176.out hb); replace BK177 := ax (bb BK177.out hb); replace HB := ax (zar (bh HB.out) hb)
          (try clear hb)
          (try clear hk)
          (try clear ho0)
          obtain ⟨Ao65, co65, eo65⟩ := Kd.zbt HO195.out
          (first | subst eo65 | (injection eo65 with f1_ f2_ f3_; have f4_ := f1_.symm; have f5_ := f3_.symm; clear f1_ f2_ f3_; subst f4_; subst f5_))
          refine hK.out _ _ ⟨(zag BK175.out 0).trans rfl, (zag BK175.out 1).trans rfl⟩ (fun hHeld => ?_)
          clear hK K
          refine nm ?_
          refine zer (i := 4) (N := some 72) (v := ?_) (a' := ?_) (xB 7 31) rfl rfl (by kernel_rfl) (fun _ _ _ h => h) (Or.inl ⟨by rfl, ?_⟩) ?_ ?_
          rotate_left
          ·intro w'
           go_simp
           with_reducible rfl
          rotate_left
          ·simp only [Act.put, List.setIfInBounds_toArray, List.set_cons_zero, List.set_cons_succ, zbZ, zcd]
           rfl
          refine one_ (i := 5) (N := none) (xB 7 63) rfl rfl (by kernel_rfl) (by decide) (fun K hK => ?_)
          have hs66 : w64.cell? ⟨gb177, 0, none⟩ = some (.int .i64 0) := (zag BK177.out 0).trans rfl
          have hfs66 := zae BK177.out 0
          have hns66_0 := NB175_177.out
          have hns66_1 := NB176_177.out
          have hms66_0 := NB177_175.out
          have hms66_1 := NB177_176.out
          have hs67 : w64.cell? ⟨gb177, 1, none⟩ = some (.slice none 0 0) := (zag BK177.out 1).trans rfl
          have hfs67 := zae BK177.out 1
          have hns67_0 := NB175_177.out
          have hns67_1 := NB176_177.out
          have hms67_0 := NB177_175.out
          have hms67_1 := NB177_176.out
          refine zdF (w1 := ?_) (by rfl) rfl ?_ ?_
          rotate_left
          ·go_simp
           rfl
          refine hK.out _ _ ⟨((cell_far (p := ⟨gb177, _, none⟩) NB175_177.out _).trans (((cell_far (p := ⟨gb177, _, none⟩) NB175_177.out _).trans (hHeld.1)))), ((cell_far (p := ⟨gb177, _, none⟩) NB175_177.out _).trans (((cell_far (p := ⟨gb177, _, none⟩) NB175_177.out _).trans (hHeld.2))))⟩ (fun hHeld => ?_)
          clear hK K
          refine zer (i := 6) (N := some 5) (v := ?_) (a' := ?_) (xB 7 127) rfl rfl (by kernel_rfl) (fun _ _ _ h => h) (Or.inl ⟨by rfl, ?_⟩) ?_ ?_
          rotate_left
          ·intro w'
           go_simp
           with_reducible rfl
          rotate_left
          ·simp only [Act.put, List.setIfInBounds_toArray, List.set_cons_zero, List.set_cons_succ, zbZ, zcd]
           rfl
          refine zb6 (by kernel_rfl) ?_
          try go_wp2
          refine bodyPost_ret (zcN rfl _ _ gb177 28 #[.int .i64 a0_0, .slice Ao65 t193.length co65] (0, 0) _ rfl (by (with_reducible repeat (first | refine zaj ?_ _ | refine zaf ?_ | refine zai ?_ _)); refine zbf (cs := #[.int .i64 a0_0, .slice none 0 0]) ?_ 1 _ rfl; (with_reducible repeat (first | refine zaj ?_ _ | refine zaf ?_ | refine zai ?_ _)); refine zbf (cs := #[.int .i64 0, .slice none 0 0]) ?_ 0 _ rfl; (with_reducible repeat (first | refine zaj ?_ _ | refine zaf ?_ | refine zai ?_ _)); exact BK177.out) Try.underlying28 rfl (by kernel_rfl)) rfl ?_
          exact ⟨_, xe, by (with_reducible repeat (first | apply Kd.zbD | apply Kd.zbz | apply Kd.zbp)); exact Kd.zbe (Kd.zcw (p := ⟨gb177, 1, none⟩) (Kd.zcw (p := ⟨gb177, 0, none⟩) (Kd.zbe HO195.out (fun k_ hk => (⟨hk, hk.2.2.2⟩ : _ ∧ k_ ≠ gb177))) (fun _ hk => hk.2) (.int .i64 a0_0)) (fun _ hk => hk.2) (.slice Ao65 t193.length co65)) (fun _ hk => hk.1.1), bh HB.out⟩
theorem zaq.calls (k : Nat) (a0_0 : Int) (A0_1 : Option Addr) (c0_1 : Nat) (l0_1 : List (S48)) (a1_0 : Int) (A1_1 : Option Addr) (c1_1 : Nat) (l1_1 : List (S48)) (r1 : Int) (r2 : List (S48)) (r3 : Bool) (w : World) (hr0_1 : Kd.C k48 w A0_1 l0_1.length l0_1) (hc0_1 : l0_1.length ≤ c0_1) (hr1_1 : Kd.C k48 w A1_1 l1_1.length l1_1) (hc1_1 : l1_1.length ≤ c1_1) (h : zaq.f k a0_0 l0_1 a1_0 l1_1 = some (r1, r2, r3)) :
  Calls Try.prog 19 #[.agg #[.int .i64 a0_0, .slice A0_1 l0_1.length c0_1], .agg #[.int .i64 a1_0, .slice A1_1 l1_1.length c1_1]] w fun e w' => ∃ v1_ : Value, e = .returned (.tuple #[.agg #[.int .i64 r1, v1_], .bool r3]) ∧ Kd.V k48 48 w' w.heap.size (fun k_ => (w.heap.size ≤ k_)) v1_ r2 ∧ Below w.heap.size w w' := by
 refine (zaq.zhH k a0_0 A0_1 c0_1 l0_1 a1_0 A1_1 c1_1 l1_1 r1 r2 r3 w hr0_1 hc0_1 hr1_1 hc1_1 h).mono ?_
 rintro e w' ⟨v_, h1, h2, h3⟩
 exact ⟨v_, h1, Kd.N_V h2, h3⟩


end Go.Proofs.Ytneipehcmmigeaa.PFnExactAddPolys
