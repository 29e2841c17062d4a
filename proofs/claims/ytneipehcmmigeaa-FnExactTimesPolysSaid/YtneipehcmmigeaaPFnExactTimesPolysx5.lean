import Derived.Test.YtneipehcmmigeaaPFnExactTimesPolysx2
import Derived.Test.YtneipehcmmigeaaPFnExactTimesPolysx3
import Derived.Test.YtneipehcmmigeaaPFnExactTimesPolysx4
namespace Go.Proofs.Ytneipehcmmigeaa.PFnExactTimesPolys
open Go.RowKit Go.Proofs.YtneipehcmmigeaaW.PrintWords Go.Proofs.YtneipehcmmigeaaW.PrintLast Go.Proofs.YtneipehcmmigeaaW.PrintMore
set_option linter.unusedVariables false
set_option linter.unusedSimpArgs false
set_option maxHeartbeats 8000000
set_option maxRecDepth 100000
mutual
def zam.j0 : Nat → Bool → Int → List (S48) → Int → List (S48) → Option (Int × (List (S48)) × Bool)
 | 0, _, _, _, _, _ => none
 | k + 1, x26, x1002, x1000, x1003, x1001 => if x26 = true then (some (0, ([] : List (S48)), false)) else (zam.l0 k (([] : List (S48))) 0 x1002 x1000 x1003 x1001)
def zam.l0 : Nat → List (S48) → Int → Int → List (S48) → Int → List (S48) → Option (Int × (List (S48)) × Bool)
 | 0, _, _, _, _, _, _ => none
 | k + 1, x6, x7, x1002, x1000, x1003, x1001 => if x7 < (x1000.length : Int) then (zam.l1 k x6 x7 0 x1002 x1000 x1003 x1001) else ((zaL.f k x6).bind fun t154 => ((zaH.f k x1002 t154).bind fun t158 => (if t158 = true then (some (x1002, t154, true)) else (some (0, ([] : List (S48)), false)))))
def zam.l1 : Nat → List (S48) → Int → Int → Int → List (S48) → Int → List (S48) → Option (Int × (List (S48)) × Bool)
 | 0, _, _, _, _, _, _, _ => none
 | k + 1, x6, x7, x8, x1002, x1000, x1003, x1001 => if x8 < (x1001.length : Int) then (zam.l2 k x6 x7 x8 (([] : List Int)) 0 x1002 x1000 x1003 x1001) else (zam.l0 k x6 (wrap64 (x7 + 1)) x1002 x1000 x1003 x1001)
def zam.l2 : Nat → List (S48) → Int → Int → List Int → Int → Int → List (S48) → Int → List (S48) → Option (Int × (List (S48)) × Bool)
 | 0, _, _, _, _, _, _, _, _, _ => none
 | k + 1, x6, x7, x8, x9, x10, x1002, x1000, x1003, x1001 => if x10 < x1002 then (if 0 ≤ x7 then (if x7 < (x1000.length : Int) then (if 0 ≤ x10 then (if x10 < (((zab x1000 x7).f0).length : Int) then (if 0 ≤ x8 then (if x8 < (x1001.length : Int) then (if x10 < (((zab x1001 x8).f0).length : Int) then (if x9.length < 17592186044416 then (zam.l2 k x6 x7 x8 (x9 ++ [wrap64 ((rd ((zab x1000 x7).f0) x10) + (rd ((zab x1001 x8).f0) x10))]) (wrap64 (x10 + 1)) x1002 x1000 x1003 x1001) else (none)) else (none)) else (none)) else (none)) else (none)) else (none)) else (none)) else (none)) else (if 0 ≤ x7 then (if x7 < (x1000.length : Int) then (if 0 ≤ x8 then (if x8 < (x1001.length : Int) then ((zaE.f k x6 x9 (wrap64 (((zab x1000 x7).f1) * ((zab x1001 x8).f1)))).bind fun t151 => (zam.l1 k t151 x7 (wrap64 (x8 + 1)) x1002 x1000 x1003 x1001)) else (none)) else (none)) else (none)) else (none))
end
def zam.f (k : Nat) (a0_0 : Int) (l0_1 : List (S48)) (a1_0 : Int) (l1_1 : List (S48)) : Option (Int × (List (S48)) × Bool) := (zaH.f k a0_0 l0_1).bind fun t134 => (if t134 = true then ((zaH.f k a1_0 l1_1).bind fun t135 => (if t135 = true then (zam.j0 k (a0_0 != a1_0) a0_0 l0_1 a1_0 l1_1) else (zam.j0 k true a0_0 l0_1 a1_0 l1_1))) else (zam.j0 k true a0_0 l0_1 a1_0 l1_1))
theorem zam.zbb : ∀ k, (∀ y0 y1 y2 y3 y4, LeO (zam.j0 k y0 y1 y2 y3 y4) (zam.j0 (k + 1) y0 y1 y2 y3 y4)) ∧ (∀ y0 y1 y2 y3 y4 y5, LeO (zam.l0 k y0 y1 y2 y3 y4 y5) (zam.l0 (k + 1) y0 y1 y2 y3 y4 y5)) ∧ (∀ y0 y1 y2 y3 y4 y5 y6, LeO (zam.l1 k y0 y1 y2 y3 y4 y5 y6) (zam.l1 (k + 1) y0 y1 y2 y3 y4 y5 y6)) ∧ (∀ y0 y1 y2 y3 y4 y5 y6 y7 y8, LeO (zam.l2 k y0 y1 y2 y3 y4 y5 y6 y7 y8) (zam.l2 (k + 1) y0 y1 y2 y3 y4 y5 y6 y7 y8))
 | 0 => ⟨fun _ _ _ _ _ r h => by simp [zam.j0] at h, fun _ _ _ _ _ _ r h => by simp [zam.l0] at h, fun _ _ _ _ _ _ _ r h => by simp [zam.l1] at h, fun _ _ _ _ _ _ _ _ _ r h => by simp [zam.l2] at h⟩
 | k + 1 => by
  obtain ⟨ih0, ih1, ih2, ih3⟩ := zam.zbb k
  refine ⟨?_, ?_, ?_, ?_⟩ <;> intros <;> (first | unfold zam.j0 | unfold zam.l0 | unfold zam.l1 | unfold zam.l2) <;> repeat' with_reducible first | exact ih0 _ _ _ _ _ | exact ih1 _ _ _ _ _ _ | exact ih2 _ _ _ _ _ _ _ | exact ih3 _ _ _ _ _ _ _ _ _ | exact zaH.mono _ _ _ | exact zaL.mono _ _ | exact zaE.mono _ _ _ _ | exact xl | refine LeO.ite ?_ ?_ | refine LeO.bind ?_ fun _ => ?_
theorem zam.mono : ∀ a0 a1 a2 a3 k, LeO (zam.f k a0 a1 a2 a3) (zam.f (k + 1) a0 a1 a2 a3) := by
 intro a0 a1 a2 a3 k
 obtain ⟨ih0, ih1, ih2, ih3⟩ := zam.zbb k
 unfold zam.f
 repeat' with_reducible first | exact ih0 _ _ _ _ _ | exact ih1 _ _ _ _ _ _ | exact ih2 _ _ _ _ _ _ _ | exact ih3 _ _ _ _ _ _ _ _ _ | exact zaH.mono _ _ _ | exact zaL.mono _ _ | exact zaE.mono _ _ _ _ | exact xl | refine LeO.ite ?_ ?_ | refine LeO.bind ?_ fun _ => ?_
def zam.T14 : Bool × List (List Nat × List Nat) := (true, [([], []), ([], []), ([1], [1]), ([], []), ([2, 3], [2, 3]), ([4], [4]), ([5], [5]), ([], []), ([6, 7], [6, 7]), ([8], [8]), ([], []), ([10], [10]), ([], []), ([11, 12], [11, 12]), ([13], [13]), ([14], [14]), ([], []), ([15, 16], [15, 16]), ([17], [17]), ([9, 18], [9, 18]), ([19], [19]), ([0, 20], [0, 20]), ([21, 21, 0, 1, 2, 3, 4, 5, 6, 7, 8, 9, 10, 11, 12, 13, 14, 15, 16, 17, 18, 19, 20, 21], [0, 21])])
def zam.B14 : List Nat := [0, 0, 2, 0, 14, 30, 62, 0, 254, 510, 0, 1024, 0, 7168, 15360, 31744, 0, 130048, 261120, 524286, 1048574, 2097151, 4194303]
theorem zam.zkf : rtab .any (opsOf Try.f8 14) = zam.T14 := by kernel_rfl
theorem zam.zjL : zbT zam.T14.2 zam.B14 = true := by kernel_rfl
def zam.T15 : Bool × List (List Nat × List Nat) := (true, [([], []), ([], []), ([], []), ([2], [2]), ([], []), ([3, 4], [3, 4]), ([5], [5]), ([6], [6]), ([], []), ([8], [8]), ([], []), ([9, 10], [9, 10]), ([11], [11]), ([12], [12]), ([7, 13], [7, 13]), ([0, 1, 14], [0, 1, 14]), ([15, 15, 0, 1, 2, 3, 4, 5, 6, 7, 8, 9, 10, 11, 12, 13, 14, 15], [0, 15])])
def zam.B15 : List Nat := [0, 0, 0, 4, 0, 28, 60, 124, 0, 256, 0, 1792, 3840, 7936, 16380, 32767, 65535]
theorem zam.zke : rtab .any (opsOf Try.f8 15) = zam.T15 := by kernel_rfl
theorem zam.zjK : zbT zam.T15.2 zam.B15 = true := by kernel_rfl
theorem zam.zjF (k : Nat) (a0_0 : Int) (A0_1 : Option Addr) (c0_1 : Nat) (l0_1 : List (S48)) (a1_0 : Int) (A1_1 : Option Addr) (c1_1 : Nat) (l1_1 : List (S48)) (r1 : Int) (r2 : List (S48)) (r3 : Bool) (w : World) (hr0_1 : Kd.C k48 w A0_1 l0_1.length l0_1) (hc0_1 : l0_1.length ≤ c0_1) (hr1_1 : Kd.C k48 w A1_1 l1_1.length l1_1) (hc1_1 : l1_1.length ≤ c1_1) (h : zam.f k a0_0 l0_1 a1_0 l1_1 = some (r1, r2, r3)) :
  Calls Try.prog 8 #[.agg #[.int .i64 a0_0, .slice A0_1 l0_1.length c0_1], .agg #[.int .i64 a1_0, .slice A1_1 l1_1.length c1_1]] w fun e w' => ∃ v1_ : Value, e = .returned (.tuple #[.agg #[.int .i64 r1, v1_], .bool r3]) ∧ Kd.N k48 48 w' w.heap.size (fun k_ => (w.heap.size ≤ k_)) v1_ r2 ∧ Below w.heap.size w w' := by
 have hu28 := Try.underlying28
 have HR0_1 := ax hr0_1
 have HC0_1 := ax hc0_1
 clear hr0_1 hc0_1
 have HR1_1 := ax hr1_1
 have HC1_1 := ax hc1_1
 clear hr1_1 hc1_1
 have HB := ax (Below.refl w.heap.size w)
 have H : ((zaH.f k a0_0 l0_1).bind fun t134 => (if t134 = true then ((zaH.f k a1_0 l1_1).bind fun t135 => (if t135 = true then (zam.j0 k (a0_0 != a1_0) a0_0 l0_1 a1_0 l1_1) else (zam.j0 k true a0_0 l0_1 a1_0 l1_1))) else (zam.j0 k true a0_0 l0_1 a1_0 l1_1))) = some (r1, r2, r3) := h
 clear h
 have HC3 := ax H
 clear H
 go_enter Try.func8, Try.ntmps8
 go_upto_region 1 with (first | ((with_reducible refine zaP (N := 2) rfl ?_); refine zaO ?hg (N := 2) ?hd (cs := #[.int .i64 a0_0, .slice A0_1 l0_1.length c0_1]) (t := 28) ?hr ?_; (case hd => rfl); (case hg => rfl); (case hr => first | (go_simp; done) | (go_simp; rfl)); intro gb131 hg w4 hbox hb; have BK131 := ax (hbox); have GW131 := ax ((by rw [hg]; exact (zaj (xb HB.out)) : w.heap.size ≤ gb131)); have GE131 := ax ((by rw [hg]; exact (zaj (xb HB.out)) : w.heap.size ≤ gb131)); replace HB := yB HB hb; clear hb hbox hg) | ((with_reducible refine zaP (N := 3) rfl ?_); refine zaO ?hg (N := 3) ?hd (cs := #[.int .i64 a1_0, .slice A1_1 l1_1.length c1_1]) (t := 28) ?hr ?_; (case hd => rfl); (case hg => rfl); (case hr => first | (go_simp; done) | (go_simp; rfl)); intro gb132 hg w5 hbox hb; have BK132 := ax (hbox); have GW132 := ax ((by rw [hg]; exact (zaj (xs HB.out GE131.out)) : w.heap.size ≤ gb132)); have GE132 := ax ((by rw [hg]; exact (zaj (xs HB.out GE131.out)) : w.heap.size ≤ gb132)); replace HB := ax (zas (xs HB.out GE131.out) hb); have NB131_132 := ax (bn hg BK131.out); have NB132_131 := ax (bm hg BK131.out); replace BK131 := ax (bb BK131.out hb); clear hb hbox hg) | ((with_reducible refine zaP (N := 4) rfl ?_); refine zaO ?hg (N := 4) ?hd (cs := #[.int .i64 0, .slice none 0 0]) (t := 28) ?hr ?_; (case hd => rfl); (case hg => rfl); (case hr => first | (go_simp; done) | (go_simp; rfl)); intro gb133 hg w6 hbox hb; have BK133 := ax (hbox); have GW133 := ax ((by rw [hg]; exact (zaj (bh HB.out)) : w.heap.size ≤ gb133)); have GE133 := ax ((by rw [hg]; exact (zaj (bh HB.out)) : w.heap.size ≤ gb133)); replace HB := ax (zas (bh HB.out) hb); have NB131_133 := ax (bn hg BK131.out); have NB133_131 := ax (bm hg BK131.out); replace BK131 := ax (bb BK131.out hb); have NB132_133 := ax (bn hg BK132.out); have NB133_132 := ax (bm hg BK132.out); replace BK132 := ax (bb BK132.out hb); clear hb hbox hg))
 (try simp only [Act.put, List.setIfInBounds_toArray, List.set_cons_zero, List.set_cons_succ])
 go_cut [26] (fun v26 wc => ∃ (kq : Nat) (x26_2 : Bool), v26 = .bool x26_2 ∧ zal (zam.j0 kq x26_2 a0_0 l0_1 a1_0 l1_1 = some (r1, r2, r3)) ∧ zal (kq ≤ k) ∧ zal (wc.heap[gb131]? = some (.cells #[.int .i64 a0_0, (.slice A0_1 l0_1.length c0_1)] 28 (0, 0))) ∧ zal (wc.heap[gb132]? = some (.cells #[.int .i64 a1_0, (.slice A1_1 l1_1.length c1_1)] 28 (0, 0))) ∧ zal (wc.heap[gb133]? = some (.cells #[.int .i64 0, (.slice none 0 0)] 28 (0, 0))) ∧ zal (Below w.heap.size w wc))
 case first =>
  have H := HC3.out
  clear HC3
  obtain ⟨t134, A7, H⟩ := xI H
  by_cases c8 : t134 = true
  ·subst c8
   rw [if_pos rfl] at H
   obtain ⟨t135, A9, H⟩ := xI H
   by_cases c10 : t135 = true
   ·subst c10
    rw [if_pos rfl] at H
    have H' := ax H
    clear H
    have hnb11 := NB131_132.out
    have hnc11 := NB132_131.out
    have hnb12 := NB131_133.out
    have hnc12 := NB133_131.out
    have hcz13_0 := bc0 BK131.out
    have hcz13_1 := bc1 BK131.out
    have hfz13_0 := zag BK131.out 0
    have hfz13_1 := zag BK131.out 1
    go_wp2_with (first | ((with_reducible refine zat (f := 25) rfl ?_); refine za2 (some 13) rfl rfl Try.func25 (by kernel_rfl) rfl #[.agg #[.int .i64 a0_0, .slice A0_1 l0_1.length c0_1]] rfl xm ?_; (with_reducible refine (zaH.calls k a0_0 _ _ l0_1 true _ ?side1 ?side2 A7.out).mono ?_); (case side1 => exact xz HR0_1.out HB.out); (case side2 => exact HC0_1.out); rintro e w14 ⟨rfl, hb⟩; refine ⟨_, rfl, ?_⟩; replace BK131 := ax (bb BK131.out hb); replace BK132 := ax (bb BK132.out hb); replace BK133 := ax (bb BK133.out hb); replace HB := ax (zas (bh HB.out) hb); (try clear hb); have hnb15 := NB132_133.out; have hnc15 := NB133_132.out; have hcz16_0 := bc0 BK132.out; have hcz16_1 := bc1 BK132.out; have hfz16_0 := zag BK132.out 0; have hfz16_1 := zag BK132.out 1) | (go_at_call 25; (with_reducible refine (zaH.calls k a1_0 _ _ l1_1 true _ ?side1 ?side2 A9.out).mono ?_); (case side1 => exact xz HR1_1.out HB.out); (case side2 => exact HC1_1.out); rintro e w17 ⟨rfl, hb⟩; replace BK131 := ax (bb BK131.out hb); replace BK132 := ax (bb BK132.out hb); replace BK133 := ax (bb BK133.out hb); replace HB := ax (zas (bh HB.out) hb); (try clear hb); have hcz18_0 := bc0 BK131.out; have hcz18_1 := bc1 BK131.out; have hfz18_0 := zag BK131.out 0; have hfz18_1 := zag BK131.out 1; have hcz19_0 := bc0 BK132.out; have hcz19_1 := bc1 BK132.out; have hfz19_0 := zag BK132.out 0; have hfz19_1 := zag BK132.out 1))
    go_meet
    case rel => exact ⟨_, ((a0_0 != a1_0)), xr, H', ⟨by first | omega | exact Nat.le_refl _⟩, ⟨xk BK131.out⟩, ⟨xk BK132.out⟩, ⟨xk BK133.out⟩, ⟨bh HB.out⟩⟩
   ·replace c10 := Bool.eq_false_iff.mpr c10
    subst c10
    rw [if_neg (show ¬ (false = true) by decide)] at H
    have H' := ax H
    clear H
    have hnb20 := NB131_132.out
    have hnc20 := NB132_131.out
    have hnb21 := NB131_133.out
    have hnc21 := NB133_131.out
    have hcz22_0 := bc0 BK131.out
    have hcz22_1 := bc1 BK131.out
    have hfz22_0 := zag BK131.out 0
    have hfz22_1 := zag BK131.out 1
    go_wp2_with (first | ((with_reducible refine zat (f := 25) rfl ?_); refine za2 (some 13) rfl rfl Try.func25 (by kernel_rfl) rfl #[.agg #[.int .i64 a0_0, .slice A0_1 l0_1.length c0_1]] rfl xm ?_; (with_reducible refine (zaH.calls k a0_0 _ _ l0_1 true _ ?side1 ?side2 A7.out).mono ?_); (case side1 => exact xz HR0_1.out HB.out); (case side2 => exact HC0_1.out); rintro e w23 ⟨rfl, hb⟩; refine ⟨_, rfl, ?_⟩; replace BK131 := ax (bb BK131.out hb); replace BK132 := ax (bb BK132.out hb); replace BK133 := ax (bb BK133.out hb); replace HB := ax (zas (bh HB.out) hb); (try clear hb); have hnb24 := NB132_133.out; have hnc24 := NB133_132.out; have hcz25_0 := bc0 BK132.out; have hcz25_1 := bc1 BK132.out; have hfz25_0 := zag BK132.out 0; have hfz25_1 := zag BK132.out 1) | (go_at_call 25; (with_reducible refine (zaH.calls k a1_0 _ _ l1_1 false _ ?side1 ?side2 A9.out).mono ?_); (case side1 => exact xz HR1_1.out HB.out); (case side2 => exact HC1_1.out); rintro e w26 ⟨rfl, hb⟩; replace BK131 := ax (bb BK131.out hb); replace BK132 := ax (bb BK132.out hb); replace BK133 := ax (bb BK133.out hb); replace HB := ax (zas (bh HB.out) hb); (try clear hb)))
    go_meet
    case rel => exact ⟨_, (true), xr, H', ⟨by first | omega | exact Nat.le_refl _⟩, ⟨xk BK131.out⟩, ⟨xk BK132.out⟩, ⟨xk BK133.out⟩, ⟨bh HB.out⟩⟩
  ·replace c8 := Bool.eq_false_iff.mpr c8
   subst c8
   rw [if_neg (show ¬ (false = true) by decide)] at H
   have H' := ax H
   clear H
   have hnb27 := NB131_132.out
   have hnc27 := NB132_131.out
   have hnb28 := NB131_133.out
   have hnc28 := NB133_131.out
   have hcz29_0 := bc0 BK131.out
   have hcz29_1 := bc1 BK131.out
   have hfz29_0 := zag BK131.out 0
   have hfz29_1 := zag BK131.out 1
   go_wp2_with (first | ((with_reducible refine zat (f := 25) rfl ?_); refine za2 (some 13) rfl rfl Try.func25 (by kernel_rfl) rfl #[.agg #[.int .i64 a0_0, .slice A0_1 l0_1.length c0_1]] rfl xm ?_; (with_reducible refine (zaH.calls k a0_0 _ _ l0_1 false _ ?side1 ?side2 A7.out).mono ?_); (case side1 => exact xz HR0_1.out HB.out); (case side2 => exact HC0_1.out); rintro e w30 ⟨rfl, hb⟩; refine ⟨_, rfl, ?_⟩; replace BK131 := ax (bb BK131.out hb); replace BK132 := ax (bb BK132.out hb); replace BK133 := ax (bb BK133.out hb); replace HB := ax (zas (bh HB.out) hb); (try clear hb)))
   go_meet
   case rel => exact ⟨_, (true), xr, H', ⟨by first | omega | exact Nat.le_refl _⟩, ⟨xk BK131.out⟩, ⟨xk BK132.out⟩, ⟨xk BK133.out⟩, ⟨bh HB.out⟩⟩
 case rest =>
  clear HC3
  (try clear c8); (try clear c10); (try clear hcz13_0); (try clear hcz13_1); (try clear hcz16_0); (try clear hcz16_1); (try clear hcz18_0); (try clear hcz18_1); (try clear hcz19_0); (try clear hcz19_1); (try clear hcz22_0); (try clear hcz22_1); (try clear hcz25_0); (try clear hcz25_1); (try clear hcz29_0); (try clear hcz29_1); (try clear hfz13_0); (try clear hfz13_1); (try clear hfz16_0); (try clear hfz16_1); (try clear hfz18_0); (try clear hfz18_1); (try clear hfz19_0); (try clear hfz19_1); (try clear hfz22_0); (try clear hfz22_1); (try clear hfz25_0); (try clear hfz25_1); (try clear hfz29_0); (try clear hfz29_1)
  obtain ⟨kq, x26_2, rfl, HA, HJ2, BK131, BK132, BK133, HB⟩ := hcut
  cases kq with
  | zero => exact absurd HA.out (by simp [zam.j0])
  | succ kj2 =>
   have H := HA.out
   clear HA
   simp only [zam.j0] at H
   by_cases c31 : x26_2 = true
   ·subst c31
    rw [if_pos rfl] at H
    simp only [Option.some.injEq, Prod.mk.injEq] at H
    obtain ⟨rfl, rfl, rfl⟩ := H
    have hnb32 := NB133_131.out
    have hnc32 := NB131_133.out
    have hnb33 := NB133_132.out
    have hnc33 := NB132_133.out
    have hcz34_0 := bc0 BK133.out
    have hcz34_1 := bc1 BK133.out
    have hfz34_0 := zag BK133.out 0
    have hfz34_1 := zag BK133.out 1
    go_wp2
    refine bodyPost_ret (zcB rfl _ _ gb133 28 #[.int .i64 0, .slice none 0 0] (0, 0) _ rfl (by (with_reducible repeat (first | refine zah ?_ _ | refine zad ?_ | refine zae ?_ _)); refine zba (cs := #[.int .i64 0, .slice none 0 0]) ?_ 1 _ rfl; (with_reducible repeat (first | refine zah ?_ _ | refine zad ?_ | refine zae ?_ _)); refine zba (cs := #[.int .i64 0, .slice none 0 0]) ?_ 0 _ rfl; (with_reducible repeat (first | refine zah ?_ _ | refine zad ?_ | refine zae ?_ _)); exact BK133.out) Try.underlying28 rfl (by kernel_rfl)) rfl ?_
    exact ⟨_, xe, by first | exact Kd.zhK _ _ _ _ _ | exact Kd.zhP _ _ _ _ _ | exact Kd.zhH _ _ _ _ _ | exact Kd.ziu _ _ _ _ _ | exact Kd.zeK _ _ _ _ _, bh HB.out⟩
   ·replace c31 := Bool.eq_false_iff.mpr c31
    subst c31
    rw [if_neg (show ¬ (false = true) by decide)] at H
    obtain ⟨y136, hy136⟩ : ∃ y_ : List (S48), y_ = (([] : List (S48))) := ⟨_, rfl⟩
    replace H : (zam.l0 kj2 y136 0 a0_0 l0_1 a1_0 l1_1) = some (r1, r2, r3) := xv hy136 H
    have Ny136 := ax hy136
    clear hy136
    have H' := ax H
    clear H
    go_wp2_with (first | ((with_reducible refine zaP (N := 28) rfl ?_); refine Kd.zhQ k48 _ 48 ?hg (N' := 28) ?hd (xs := ([] : List (S48))) (inner := []) (ok := (fun k_ => (w.heap.size ≤ k_) ∧ k_ ≠ gb131 ∧ k_ ≠ gb132 ∧ k_ ≠ gb133)) (okp := (fun k_ => (w.heap.size ≤ k_) ∧ k_ ≠ gb131 ∧ k_ ≠ gb132 ∧ k_ ≠ gb133)) ?hr ?hp (fun _ hk => hk) ((show ∀ k_, wc.heap.size ≤ k_ → (fun k_ => (w.heap.size ≤ k_) ∧ k_ ≠ gb131 ∧ k_ ≠ gb132 ∧ k_ ≠ gb133) k_ from fun k_ hk => ⟨(Nat.le_trans (zaj (bh HB.out)) hk), Kd.zbK (g := gb131) (o := .cells #[.int .i64 a0_0, .slice A0_1 l0_1.length c0_1] 28 (0, 0)) (xk BK131.out) k_ hk, Kd.zbK (g := gb132) (o := .cells #[.int .i64 a1_0, .slice A1_1 l1_1.length c1_1] 28 (0, 0)) (xk BK132.out) k_ hk, Kd.zbK (g := gb133) (o := .cells #[.int .i64 0, .slice none 0 0] 28 (0, 0)) (xk BK133.out) k_ hk⟩) _ (Nat.le_refl _)) (Below.refl _ _) (Nat.le_refl _) (by simp) ?_; (case hd => rfl); (case hg => rfl); (case hr => first | (go_simp; done) | (go_simp; rfl)); (case hp => exact (Reps.none _ _)); intro v137 w35 ho36 hb hg_ hnew_; clear hg_ hnew_; (first | rw [← Ny136.out] at ho36 | (simp only [Int.reduceToNat] at ho36; rw [← Ny136.out] at ho36)); have HO138 := ax (Kd.zdv ho36 (zaj (bh HB.out))); replace BK131 := ax (bb BK131.out hb); replace BK132 := ax (bb BK132.out hb); replace BK133 := ax (bb BK133.out hb); replace HB := ax (zas (bh HB.out) hb); clear hb ho36))
    go_loopg [6, 7] kj2 (fun kq v6 v7 w' => ∃ (x6_2 : List (S48)) (x7_2 : Int), v7 = .int .i64 x7_2 ∧ zal (zam.l0 kq x6_2 x7_2 a0_0 l0_1 a1_0 l1_1 = some (r1, r2, r3)) ∧ zal (kq ≤ kj2) ∧ zal (Kd.N k48 48 w' w.heap.size (fun k_ => (w.heap.size ≤ k_) ∧ k_ ≠ gb131 ∧ k_ ≠ gb132 ∧ k_ ≠ gb133) v6 x6_2) ∧ zal (w'.heap[gb131]? = some (.cells #[.int .i64 a0_0, (.slice A0_1 l0_1.length c0_1)] 28 (0, 0))) ∧ zal (w'.heap[gb132]? = some (.cells #[.int .i64 a1_0, (.slice A1_1 l1_1.length c1_1)] 28 (0, 0))) ∧ zal (w'.heap[gb133]? = some (.cells #[.int .i64 0, (.slice none 0 0)] 28 (0, 0))) ∧ zal (Below w.heap.size w w'))
    case atStart => exact ⟨(y136), (0), xr, H', ⟨Nat.le_refl _⟩, ⟨xN HO138.out⟩, ⟨xk BK131.out⟩, ⟨xk BK132.out⟩, ⟨xk BK133.out⟩, ⟨bh HB.out⟩⟩
    case round =>
     clear H'
     (try clear c8); (try clear c10); (try clear c31); (try clear hcz13_0); (try clear hcz13_1); (try clear hcz16_0); (try clear hcz16_1); (try clear hcz18_0); (try clear hcz18_1); (try clear hcz19_0); (try clear hcz19_1); (try clear hcz22_0); (try clear hcz22_1); (try clear hcz25_0); (try clear hcz25_1); (try clear hcz29_0); (try clear hcz29_1); (try clear hcz34_0); (try clear hcz34_1); (try clear hfz13_0); (try clear hfz13_1); (try clear hfz16_0); (try clear hfz16_1); (try clear hfz18_0); (try clear hfz18_1); (try clear hfz19_0); (try clear hfz19_1); (try clear hfz22_0); (try clear hfz22_1); (try clear hfz25_0); (try clear hfz25_1); (try clear hfz29_0); (try clear hfz29_1); (try clear hfz34_0); (try clear hfz34_1)
     obtain ⟨x6_2, x7_2, rfl, HA, HK2, HO_6, BK131, BK132, BK133, HB⟩ := hrel
     cases gk with
     | zero => exact absurd HA.out (by simp [zam.l0])
     | succ k2 =>
      have H := HA.out
      clear HA
      simp only [zam.l0] at H
      by_cases c37 : x7_2 < (l0_1.length : Int)
      ·rw [if_pos c37] at H
       have c37b0 := decide_eq_true c37
       clear c37
       have H' := ax H
       clear H
       have hnb38 := NB131_132.out
       have hnc38 := NB132_131.out
       have hnb39 := NB131_133.out
       have hnc39 := NB133_131.out
       have hcz40_0 := bc0 BK131.out
       have hcz40_1 := bc1 BK131.out
       have hfz40_0 := zag BK131.out 0
       have hfz40_1 := zag BK131.out 1
       go_wp2
       go_loopg [6, 8] k2 (fun kq v6 v8 w' => ∃ (x6_3 : List (S48)) (x8_3 : Int), v8 = .int .i64 x8_3 ∧ zal (zam.l1 kq x6_3 x7_2 x8_3 a0_0 l0_1 a1_0 l1_1 = some (r1, r2, r3)) ∧ zal (kq ≤ k2) ∧ zal (Kd.N k48 48 w' w.heap.size (fun k_ => (w.heap.size ≤ k_) ∧ k_ ≠ gb131 ∧ k_ ≠ gb132 ∧ k_ ≠ gb133) v6 x6_3) ∧ zal (w'.heap[gb131]? = some (.cells #[.int .i64 a0_0, (.slice A0_1 l0_1.length c0_1)] 28 (0, 0))) ∧ zal (w'.heap[gb132]? = some (.cells #[.int .i64 a1_0, (.slice A1_1 l1_1.length c1_1)] 28 (0, 0))) ∧ zal (w'.heap[gb133]? = some (.cells #[.int .i64 0, (.slice none 0 0)] 28 (0, 0))) ∧ zal (Below w.heap.size w w'))
       case atStart => exact ⟨(x6_2), (0), xr, H', ⟨Nat.le_refl _⟩, ⟨xN HO_6.out⟩, ⟨xk BK131.out⟩, ⟨xk BK132.out⟩, ⟨xk BK133.out⟩, ⟨bh HB.out⟩⟩
       case round =>
        clear H'
        (try clear c8); (try clear c10); (try clear c31); (try clear c37); (try clear c37b0); (try clear hcz13_0); (try clear hcz13_1); (try clear hcz16_0); (try clear hcz16_1); (try clear hcz18_0); (try clear hcz18_1); (try clear hcz19_0); (try clear hcz19_1); (try clear hcz22_0); (try clear hcz22_1); (try clear hcz25_0); (try clear hcz25_1); (try clear hcz29_0); (try clear hcz29_1); (try clear hcz34_0); (try clear hcz34_1); (try clear hcz40_0); (try clear hcz40_1); (try clear hfz13_0); (try clear hfz13_1); (try clear hfz16_0); (try clear hfz16_1); (try clear hfz18_0); (try clear hfz18_1); (try clear hfz19_0); (try clear hfz19_1); (try clear hfz22_0); (try clear hfz22_1); (try clear hfz25_0); (try clear hfz25_1); (try clear hfz29_0); (try clear hfz29_1); (try clear hfz34_0); (try clear hfz34_1); (try clear hfz40_0); (try clear hfz40_1)
        obtain ⟨x6_3, x8_3, rfl, HA, HK3, HO_6, BK131, BK132, BK133, HB⟩ := hrel
        cases gk with
        | zero => exact absurd HA.out (by simp [zam.l1])
        | succ k3 =>
         have H := HA.out
         clear HA
         simp only [zam.l1] at H
         by_cases c41 : x8_3 < (l1_1.length : Int)
         ·rw [if_pos c41] at H
          have c41b0 := decide_eq_true c41
          clear c41
          obtain ⟨y139, hy139⟩ : ∃ y_ : List Int, y_ = (([] : List Int)) := ⟨_, rfl⟩
          replace H : (zam.l2 k3 x6_3 x7_2 x8_3 y139 0 a0_0 l0_1 a1_0 l1_1) = some (r1, r2, r3) := xv hy139 H
          have Ny139 := ax hy139
          clear hy139
          have H' := ax H
          clear H
          have hnb42 := NB132_131.out
          have hnc42 := NB131_132.out
          have hnb43 := NB132_133.out
          have hnc43 := NB133_132.out
          have hcz44_0 := bc0 BK132.out
          have hcz44_1 := bc1 BK132.out
          have hfz44_0 := zag BK132.out 0
          have hfz44_1 := zag BK132.out 1
          go_wp2_with (first | ((with_reducible refine zaP (N := 43) rfl ?_); refine Kd.zhN (Kd.int .i64) _ 3 ?hg (N := 43) ?hd (xs := ([] : List Int)) (inner := []) (ok := fun _ => True) (okp := fun _ => True) ?hr ?hp (fun _ hk => hk) trivial (Below.refl _ _) (Nat.le_refl _) (by simp) ?_; (case hd => rfl); (case hg => rfl); (case hr => first | (go_simp; done) | (go_simp; rfl)); (case hp => exact (Reps.none _ _)); intro v140 w45 ho46 hb hg_ hnew_; clear hg_ hnew_; (first | rw [← Ny139.out] at ho46 | (simp only [Int.reduceToNat] at ho46; rw [← Ny139.out] at ho46)); replace HO_6 := ax (Kd.zcO (xN HO_6.out) (Kd.zcf ho46) hb); have HO141 := ax (Kd.zcJ (Kd.zhM (M := fun k_ => (w.heap.size ≤ k_)) ho46 (zaj (bh HB.out)) (fun k_ h_ => h_)) (zaj (bh HB.out))); replace BK131 := ax (bb BK131.out hb); replace BK132 := ax (bb BK132.out hb); replace BK133 := ax (bb BK133.out hb); replace HB := ax (zas (bh HB.out) hb); clear hb ho46))
          go_loopg [9, 10] k3 (fun kq v9 v10 w' => ∃ (x9_4 : List Int) (x10_4 : Int), v10 = .int .i64 x10_4 ∧ zal (zam.l2 kq x6_3 x7_2 x8_3 x9_4 x10_4 a0_0 l0_1 a1_0 l1_1 = some (r1, r2, r3)) ∧ zal (kq ≤ k3) ∧ zal (Kd.N k48 48 w' w.heap.size (fun k_ => (w.heap.size ≤ k_) ∧ some k_ ≠ (v9 : Value).ownBlock ∧ k_ ≠ gb131 ∧ k_ ≠ gb132 ∧ k_ ≠ gb133) u6 x6_3) ∧ zal (Kd.R (Kd.int .i64) 3 w' w.heap.size (fun k_ => (w.heap.size ≤ k_)) v9 x9_4) ∧ zal (w'.heap[gb131]? = some (.cells #[.int .i64 a0_0, (.slice A0_1 l0_1.length c0_1)] 28 (0, 0))) ∧ zal (w'.heap[gb132]? = some (.cells #[.int .i64 a1_0, (.slice A1_1 l1_1.length c1_1)] 28 (0, 0))) ∧ zal (w'.heap[gb133]? = some (.cells #[.int .i64 0, (.slice none 0 0)] 28 (0, 0))) ∧ zal (Below w.heap.size w w'))
          case atStart => exact ⟨(y139), (0), xr, H', ⟨Nat.le_refl _⟩, ⟨by (with_reducible repeat (first | apply Kd.zbi | apply Kd.zbg | apply Kd.zbc)); exact Kd.za6 HO_6.out (fun _ hk => ⟨hk.1.1, ⟨hk.2, ⟨hk.1.2.1, ⟨hk.1.2.2.1, hk.1.2.2.2⟩⟩⟩⟩)⟩, ⟨by (with_reducible repeat (first | apply Kd.zd2 | apply Kd.zd1 | apply Kd.zeb)); exact Kd.zbZ HO141.out (fun _ hk => hk.1)⟩, ⟨xk BK131.out⟩, ⟨xk BK132.out⟩, ⟨xk BK133.out⟩, ⟨bh HB.out⟩⟩
          case round =>
           clear H'
           (try clear c8); (try clear c10); (try clear c31); (try clear c37); (try clear c37b0); (try clear c41); (try clear c41b0); (try clear hcz13_0); (try clear hcz13_1); (try clear hcz16_0); (try clear hcz16_1); (try clear hcz18_0); (try clear hcz18_1); (try clear hcz19_0); (try clear hcz19_1); (try clear hcz22_0); (try clear hcz22_1); (try clear hcz25_0); (try clear hcz25_1); (try clear hcz29_0); (try clear hcz29_1); (try clear hcz34_0); (try clear hcz34_1); (try clear hcz40_0); (try clear hcz40_1); (try clear hcz44_0); (try clear hcz44_1); (try clear hfz13_0); (try clear hfz13_1); (try clear hfz16_0); (try clear hfz16_1); (try clear hfz18_0); (try clear hfz18_1); (try clear hfz19_0); (try clear hfz19_1); (try clear hfz22_0); (try clear hfz22_1); (try clear hfz25_0); (try clear hfz25_1); (try clear hfz29_0); (try clear hfz29_1); (try clear hfz34_0); (try clear hfz34_1); (try clear hfz40_0); (try clear hfz40_1); (try clear hfz44_0); (try clear hfz44_1)
           obtain ⟨x9_4, x10_4, rfl, HA, HK4, HO_6, HO_9, BK131, BK132, BK133, HB⟩ := hrel
           cases gk with
           | zero => exact absurd HA.out (by simp [zam.l2])
           | succ k4 =>
            have H := HA.out
            clear HA
            simp only [zam.l2] at H
            by_cases c47 : x10_4 < a0_0
            ·rw [if_pos c47] at H
             have c47b0 := decide_eq_true c47
             clear c47
             by_cases c48 : 0 ≤ x7_2
             case neg => (rw [if_neg c48] at H; exact absurd H (by simp))
             rw [if_pos c48] at H
             have c48b0 := decide_eq_true c48
             clear c48
             by_cases c49 : x7_2 < (l0_1.length : Int)
             case neg => (rw [if_neg c49] at H; exact absurd H (by simp))
             rw [if_pos c49] at H
             have c49b0 := decide_eq_true c49
             clear c49
             by_cases c50 : 0 ≤ x10_4
             case neg => (rw [if_neg c50] at H; exact absurd H (by simp))
             rw [if_pos c50] at H
             have c50b0 := decide_eq_true c50
             clear c50
             by_cases c51 : x10_4 < (((zab l0_1 x7_2).f0).length : Int)
             case neg => (rw [if_neg c51] at H; exact absurd H (by simp))
             rw [if_pos c51] at H
             have c51b0 := decide_eq_true c51
             clear c51
             by_cases c52 : 0 ≤ x8_3
             case neg => (rw [if_neg c52] at H; exact absurd H (by simp))
             rw [if_pos c52] at H
             have c52b0 := decide_eq_true c52
             clear c52
             by_cases c53 : x8_3 < (l1_1.length : Int)
             case neg => (rw [if_neg c53] at H; exact absurd H (by simp))
             rw [if_pos c53] at H
             have c53b0 := decide_eq_true c53
             clear c53
             by_cases c54 : x10_4 < (((zab l1_1 x8_3).f0).length : Int)
             case neg => (rw [if_neg c54] at H; exact absurd H (by simp))
             rw [if_pos c54] at H
             have c54b0 := decide_eq_true c54
             clear c54
             by_cases c55 : x9_4.length < 17592186044416
             case neg => (rw [if_neg c55] at H; exact absurd H (by simp))
             rw [if_pos c55] at H
             have LMc55 := ax c55
             clear c55
             obtain ⟨y146, hy146⟩ : ∃ y_ : List Int, y_ = (x9_4 ++ [wrap64 ((rd ((zab l0_1 x7_2).f0) x10_4) + (rd ((zab l1_1 x8_3).f0) x10_4))]) := ⟨_, rfl⟩
             replace H : (zam.l2 k4 x6_3 x7_2 x8_3 y146 (wrap64 (x10_4 + 1)) a0_0 l0_1 a1_0 l1_1) = some (r1, r2, r3) := xv hy146 H
             have Ny146 := ax hy146
             clear hy146
             have H' := ax H
             clear H
             have hnb56 := NB131_132.out
             have hnc56 := NB132_131.out
             have hnb57 := NB131_133.out
             have hnc57 := NB133_131.out
             have hcz58_0 := bc0 BK131.out
             have hcz58_1 := bc1 BK131.out
             have hfz58_0 := zag BK131.out 0
             have hfz58_1 := zag BK131.out 1
             try go_wp2
             replace HO_6 := ax (Kd.zbc HO_6.out); replace HO_9 := ax (Kd.zeb HO_9.out); replace BK131 := ax (zad BK131.out); replace BK132 := ax (zad BK132.out); replace BK133 := ax (zad BK133.out); replace HB := ax (zaN HB.out)
             have p142 : 0 ≤ (x7_2 : Int) := xd
             have q142 : x7_2 < (l0_1.length : Int) := xd
             obtain ⟨ad142, A142_0, c142_0, e142, hx142_0, hx142_1, hl142_0, hi142_0⟩ := zbr HR0_1.out x7_2 p142 q142
             have hw142_1 := hx142_1
             have hw142_0 := hx142_0
             cases e142
             (try replace hx142_0 := (HB.out.cell (World.block_lt_of_cell? w _ hx142_0)).trans hx142_0)
             (try replace hx142_1 := (HB.out.cell (World.block_lt_of_cell? w _ hx142_1)).trans hx142_1)
             have HR142_0 := ax hi142_0
             have HC142_0 := ax hl142_0
             clear hi142_0 hl142_0
             replace p142 := eq_true p142
             replace q142 := eq_true q142
             have p143 : 0 ≤ (x10_4 : Int) := xd
             have q143 : x10_4 < (((zab l0_1 x7_2).f0).length : Int) := xd
             obtain ⟨ad143, e143, hx143_0⟩ := Kd.zbO HR142_0.out x10_4 p143 q143
             have hw143_0 := hx143_0
             cases e143
             (try replace hx143_0 := (HB.out.cell (World.block_lt_of_cell? w _ hx143_0)).trans hx143_0)
             replace p143 := eq_true p143
             replace q143 := eq_true q143
             have p144 : 0 ≤ (x8_3 : Int) := xd
             have q144 : x8_3 < (l1_1.length : Int) := xd
             obtain ⟨ad144, A144_0, c144_0, e144, hx144_0, hx144_1, hl144_0, hi144_0⟩ := zbr HR1_1.out x8_3 p144 q144
             have hw144_1 := hx144_1
             have hw144_0 := hx144_0
             cases e144
             (try replace hx144_0 := (HB.out.cell (World.block_lt_of_cell? w _ hx144_0)).trans hx144_0)
             (try replace hx144_1 := (HB.out.cell (World.block_lt_of_cell? w _ hx144_1)).trans hx144_1)
             have HR144_0 := ax hi144_0
             have HC144_0 := ax hl144_0
             clear hi144_0 hl144_0
             replace p144 := eq_true p144
             replace q144 := eq_true q144
             have p145 : 0 ≤ (x10_4 : Int) := xd
             have q145 : x10_4 < (((zab l1_1 x8_3).f0).length : Int) := xd
             obtain ⟨ad145, e145, hx145_0⟩ := Kd.zbO HR144_0.out x10_4 p145 q145
             have hw145_0 := hx145_0
             cases e145
             (try replace hx145_0 := (HB.out.cell (World.block_lt_of_cell? w _ hx145_0)).trans hx145_0)
             replace p145 := eq_true p145
             replace q145 := eq_true q145
             refine zbG (n := 23) (S := fun w' => w'.cell? ⟨gb131, 0, none⟩ = some (.int .i64 a0_0) ∧ w'.cell? ⟨gb131, 1, none⟩ = some (.slice (some ad142) l0_1.length c0_1) ∧ w'.cell? ⟨gb132, 0, none⟩ = some (.int .i64 a1_0) ∧ w'.cell? ⟨gb132, 1, none⟩ = some (.slice (some ad144) l1_1.length c1_1) ∧ w'.cell? (ad142.add ((x7_2).toNat * 2)) = some (.slice (some ad143) ((zab l0_1 x7_2).f0).length c142_0) ∧ w'.cell? ⟨(ad142.add ((x7_2).toNat * 2)).block, (ad142.add ((x7_2).toNat * 2)).off + 1, none⟩ = some (.int .i64 ((zab l0_1 x7_2).f1)) ∧ w'.cell? (ad143.add (x10_4).toNat) = some (.int .i64 (rd ((zab l0_1 x7_2).f0) x10_4)) ∧ w'.cell? (ad144.add ((x8_3).toNat * 2)) = some (.slice (some ad145) ((zab l1_1 x8_3).f0).length c144_0) ∧ w'.cell? ⟨(ad144.add ((x8_3).toNat * 2)).block, (ad144.add ((x8_3).toNat * 2)).off + 1, none⟩ = some (.int .i64 ((zab l1_1 x8_3).f1)) ∧ w'.cell? (ad145.add (x10_4).toNat) = some (.int .i64 (rd ((zab l1_1 x8_3).f0) x10_4))) (ds := []) (xB 23 0) (by kernel_rfl) rfl (by kernel_rfl) ⟨(zai BK131.out 0).trans rfl, (zai BK131.out 1).trans rfl, (zai BK132.out 0).trans rfl, (zai BK132.out 1).trans rfl, ((HB.out.cell (World.block_lt_of_cell? w _ hw142_0)).trans hw142_0), ((HB.out.cell (World.block_lt_of_cell? w _ hw142_1)).trans hw142_1), ((HB.out.cell (World.block_lt_of_cell? w _ hw143_0)).trans hw143_0), ((HB.out.cell (World.block_lt_of_cell? w _ hw144_0)).trans hw144_0), ((HB.out.cell (World.block_lt_of_cell? w _ hw144_1)).trans hw144_1), ((HB.out.cell (World.block_lt_of_cell? w _ hw145_0)).trans hw145_0)⟩ (fun hHeld => ?_); refine zbf zam.zkf zam.zjL (fun HT_ HW_ => ?_)
             generalize wr.drew = w59 at HO_6 HO_9 BK131 BK132 BK133 HB HR142_0 HR144_0 hx142_0 hx142_1 hx143_0 hx144_0 hx144_1 hx145_0 hHeld ⊢
             refine pu (i := 0) (N := some 50) (xB 23 1) HT_.out ?_
             refine pu (i := 1) (N := some 51) (xB 23 3) HT_.out ?_
             refine pu (i := 3) (N := some 53) (xB 23 11) HT_.out ?_
             refine pu (i := 7) (N := some 57) (xB 23 139) HT_.out ?_
             refine pu (i := 10) (N := some 60) (xB 23 1163) HT_.out ?_
             refine pu (i := 12) (N := some 62) (xB 23 5259) HT_.out ?_
             refine pu (i := 16) (N := some 66) (xB 23 70795) HT_.out ?_
             refine tk (i := 2) (N := some 52) (xB 23 70799) HT_.out HW_.out hHeld ?_
             refine pu (i := 4) (N := some 54) (xB 23 70815) HT_.out ?_
             refine pu (i := 5) (N := some 55) (xB 23 70847) HT_.out ?_
             refine tk (i := 6) (N := some 56) (xB 23 70911) HT_.out HW_.out hHeld ?_
             refine pu (i := 8) (N := some 58) (xB 23 71167) HT_.out ?_
             refine tk (i := 9) (N := some 59) (xB 23 71679) HT_.out HW_.out hHeld ?_
             refine tk (i := 11) (N := some 61) (xB 23 73727) HT_.out HW_.out hHeld ?_
             refine pu (i := 13) (N := some 63) (xB 23 81919) HT_.out ?_
             refine pu (i := 14) (N := some 64) (xB 23 98303) HT_.out ?_
             refine tk (i := 15) (N := some 65) (xB 23 131071) HT_.out HW_.out hHeld ?_
             refine pu (i := 17) (N := some 67) (xB 23 262143) HT_.out ?_
             refine tk (i := 18) (N := some 68) (xB 23 524287) HT_.out HW_.out hHeld ?_
             refine pu (i := 19) (N := some 69) (xB 23 1048575) HT_.out ?_
             refine one_ (i := 20) (N := some 70) (xB 23 2097151) rfl rfl (zbj HT_.out (by kernel_rfl)) (by decide) (fun K hK => ?_)
             refine zfl (w1 := ?_) (v := ?_) (by rfl) rfl ?_ ?_
             rotate_left 2
             ·go_simp
              constructor
              ·rfl
              ·rfl
             refine hK.out _ _ ⟨(zai (zae BK131.out _) 0).trans rfl, (zai (zae BK131.out _) 1).trans rfl, (zai (zae BK132.out _) 0).trans rfl, (zai (zae BK132.out _) 1).trans rfl, (World.cell?_alloc_lt _ _ _ (World.block_lt_of_cell? _ _ (((HB.out.cell (World.block_lt_of_cell? w _ hw142_0)).trans hw142_0)))).trans (((HB.out.cell (World.block_lt_of_cell? w _ hw142_0)).trans hw142_0)), (World.cell?_alloc_lt _ _ _ (World.block_lt_of_cell? _ _ (((HB.out.cell (World.block_lt_of_cell? w _ hw142_1)).trans hw142_1)))).trans (((HB.out.cell (World.block_lt_of_cell? w _ hw142_1)).trans hw142_1)), (World.cell?_alloc_lt _ _ _ (World.block_lt_of_cell? _ _ (((HB.out.cell (World.block_lt_of_cell? w _ hw143_0)).trans hw143_0)))).trans (((HB.out.cell (World.block_lt_of_cell? w _ hw143_0)).trans hw143_0)), (World.cell?_alloc_lt _ _ _ (World.block_lt_of_cell? _ _ (((HB.out.cell (World.block_lt_of_cell? w _ hw144_0)).trans hw144_0)))).trans (((HB.out.cell (World.block_lt_of_cell? w _ hw144_0)).trans hw144_0)), (World.cell?_alloc_lt _ _ _ (World.block_lt_of_cell? _ _ (((HB.out.cell (World.block_lt_of_cell? w _ hw144_1)).trans hw144_1)))).trans (((HB.out.cell (World.block_lt_of_cell? w _ hw144_1)).trans hw144_1)), (World.cell?_alloc_lt _ _ _ (World.block_lt_of_cell? _ _ (((HB.out.cell (World.block_lt_of_cell? w _ hw145_0)).trans hw145_0)))).trans (((HB.out.cell (World.block_lt_of_cell? w _ hw145_0)).trans hw145_0))⟩ (fun hHeld => ?_)
             clear hK K
             refine nm ?_
             refine one_ (i := 21) (N := some 71) (xB 23 4194303) rfl rfl (zbj HT_.out (by kernel_rfl)) (by decide) (fun K hK => ?_)
             refine Kd.zdS (Kd.int .i64) (w0 := w) w.heap.size (by rfl) (.tmp 50) (.tmp 70) 35 3 (.int .i64 0) 8 rfl Try.underlying35 zhp rfl (by decide) (by omega) u9 x9_4 (wrap64 ((rd ((zab l0_1 x7_2).f0) x10_4) + (rd ((zab l1_1 x8_3).f0) x10_4))) [.int .i64 (wrap64 ((rd ((zab l0_1 x7_2).f0) x10_4) + (rd ((zab l1_1 x8_3).f0) x10_4)))] (fun k_ => (w.heap.size ≤ k_)) (fun _ => False) rfl rfl ?aP (fun _ hk => hk.elim) ?aF ?aO ?aB ?aS ?aL ?_
             (case aP => exact rfl)
             (case aB => exact (bh HB.out))
             (case aF => exact (fun k_ hk => (Nat.le_trans (zaj (bh HB.out)) hk)))
             (case aO => exact (xR HO_9.out))
             (case aS => exact (zaj (bh HB.out)))
             (case aL => have := LMc55.out; omega)
             intro v147 w60 ho hb hg hat
             rw [← Ny146.out] at ho
             have n0_ := ax (Kd.zfh (ok := (fun k_ => (w.heap.size ≤ k_) ∧ k_ ≠ gb131 ∧ k_ ≠ gb132 ∧ k_ ≠ gb133)) (by (with_reducible repeat (first | apply Kd.zbi | apply Kd.zbg | apply Kd.zbc)); exact Kd.za6 HO_6.out (fun _ hk => ⟨⟨hk.1, ⟨hk.2.2.1, ⟨hk.2.2.2.1, hk.2.2.2.2⟩⟩⟩, hk.2.1⟩)) hg hat)
             have n1_ := ax (zbF (g := gb131) (o := .cells #[.int .i64 a0_0, .slice (some ad142) l0_1.length c0_1] 28 (0, 0)) (xk BK131.out) hg (Kd.R_ne HO_9.out BK131.out (by decide)))
             have n2_ := ax (zbF (g := gb132) (o := .cells #[.int .i64 a1_0, .slice (some ad144) l1_1.length c1_1] 28 (0, 0)) (xk BK132.out) hg (Kd.R_ne HO_9.out BK132.out (by decide)))
             have n3_ := ax (zbF (g := gb133) (o := .cells #[.int .i64 0, .slice none 0 0] 28 (0, 0)) (xk BK133.out) hg (Kd.R_ne HO_9.out BK133.out (by decide)))
             have n4_ := ax (hb)
             have n5_ := ax (ho)
             clear HO_6 BK131 BK132 BK133 HB HO_9
             have HO_6 := n0_
             have BK131 := n1_
             have BK132 := n2_
             have BK133 := n3_
             have HB := n4_
             have HO148 := n5_
             clear n0_ n1_ n2_ n3_ n4_ n5_ ho hb hg hat
             refine hK.out _ _ ⟨(zai BK131.out 0).trans rfl, (zai BK131.out 1).trans rfl, (zai BK132.out 0).trans rfl, (zai BK132.out 1).trans rfl, ((HB.out.cell (World.block_lt_of_cell? w _ hw142_0)).trans hw142_0), ((HB.out.cell (World.block_lt_of_cell? w _ hw142_1)).trans hw142_1), ((HB.out.cell (World.block_lt_of_cell? w _ hw143_0)).trans hw143_0), ((HB.out.cell (World.block_lt_of_cell? w _ hw144_0)).trans hw144_0), ((HB.out.cell (World.block_lt_of_cell? w _ hw144_1)).trans hw144_1), ((HB.out.cell (World.block_lt_of_cell? w _ hw145_0)).trans hw145_0)⟩ (fun hHeld => ?_)
             clear hK K
             refine nm ?_
             refine pu (i := 22) (N := some 9) (xB 23 8388607) HT_.out ?_
             refine zb5 (zbA HT_.out (by kernel_rfl)) ?_
             try go_wp2
             go_roundg k4
             case measure => have := HJ2.out; have := HK2.out; have := HK3.out; have := HK4.out; omega
             case rel => exact ⟨(y146), (wrap64 (x10_4 + 1)), xr, H', ⟨by have := HJ2.out; have := HK2.out; have := HK3.out; have := HK4.out; omega⟩, ⟨by (with_reducible repeat (first | apply Kd.zbi | apply Kd.zbg | apply Kd.zbc)); exact Kd.za6 HO_6.out (fun _ hk => ⟨hk.1.1, ⟨hk.2, ⟨hk.1.2.1, ⟨hk.1.2.2.1, hk.1.2.2.2⟩⟩⟩⟩)⟩, ⟨xR HO148.out⟩, ⟨xk BK131.out⟩, ⟨xk BK132.out⟩, ⟨xk BK133.out⟩, ⟨bh HB.out⟩⟩
            ·rw [if_neg c47] at H
             have c47b0 := decide_eq_false c47
             clear c47
             by_cases c61 : 0 ≤ x7_2
             case neg => (rw [if_neg c61] at H; exact absurd H (by simp))
             rw [if_pos c61] at H
             have c61b0 := decide_eq_true c61
             clear c61
             by_cases c62 : x7_2 < (l0_1.length : Int)
             case neg => (rw [if_neg c62] at H; exact absurd H (by simp))
             rw [if_pos c62] at H
             have c62b0 := decide_eq_true c62
             clear c62
             by_cases c63 : 0 ≤ x8_3
             case neg => (rw [if_neg c63] at H; exact absurd H (by simp))
             rw [if_pos c63] at H
             have c63b0 := decide_eq_true c63
             clear c63
             by_cases c64 : x8_3 < (l1_1.length : Int)
             case neg => (rw [if_neg c64] at H; exact absurd H (by simp))
             rw [if_pos c64] at H
             have c64b0 := decide_eq_true c64
             clear c64
             obtain ⟨t151, A65, H⟩ := xI H
             have H' := ax H
             clear H
             have hnb66 := NB131_132.out
             have hnc66 := NB132_131.out
             have hnb67 := NB131_133.out
             have hnc67 := NB133_131.out
             have hcz68_0 := bc0 BK131.out
             have hcz68_1 := bc1 BK131.out
             have hfz68_0 := zag BK131.out 0
             have hfz68_1 := zag BK131.out 1
             try go_wp2
             replace HO_6 := ax (Kd.zbc HO_6.out); replace HO_9 := ax (Kd.zeb HO_9.out); replace BK131 := ax (zad BK131.out); replace BK132 := ax (zad BK132.out); replace BK133 := ax (zad BK133.out); replace HB := ax (zaN HB.out)
             have p149 : 0 ≤ (x7_2 : Int) := xd
             have q149 : x7_2 < (l0_1.length : Int) := xd
             obtain ⟨ad149, A149_0, c149_0, e149, hx149_0, hx149_1, hl149_0, hi149_0⟩ := zbr HR0_1.out x7_2 p149 q149
             have hw149_1 := hx149_1
             have hw149_0 := hx149_0
             cases e149
             (try replace hx149_0 := (HB.out.cell (World.block_lt_of_cell? w _ hx149_0)).trans hx149_0)
             (try replace hx149_1 := (HB.out.cell (World.block_lt_of_cell? w _ hx149_1)).trans hx149_1)
             have HR149_0 := ax hi149_0
             have HC149_0 := ax hl149_0
             clear hi149_0 hl149_0
             replace p149 := eq_true p149
             replace q149 := eq_true q149
             have p150 : 0 ≤ (x8_3 : Int) := xd
             have q150 : x8_3 < (l1_1.length : Int) := xd
             obtain ⟨ad150, A150_0, c150_0, e150, hx150_0, hx150_1, hl150_0, hi150_0⟩ := zbr HR1_1.out x8_3 p150 q150
             have hw150_1 := hx150_1
             have hw150_0 := hx150_0
             cases e150
             (try replace hx150_0 := (HB.out.cell (World.block_lt_of_cell? w _ hx150_0)).trans hx150_0)
             (try replace hx150_1 := (HB.out.cell (World.block_lt_of_cell? w _ hx150_1)).trans hx150_1)
             have HR150_0 := ax hi150_0
             have HC150_0 := ax hl150_0
             clear hi150_0 hl150_0
             replace p150 := eq_true p150
             replace q150 := eq_true q150
             obtain ⟨Ao70, co70, eo70⟩ := Kd.zbp HO_6.out
             (first | subst eo70 | (injection eo70 with f1_ f2_ f3_; have f4_ := f1_.symm; have f5_ := f3_.symm; clear f1_ f2_ f3_; subst f4_; subst f5_))
             obtain ⟨Ao71, co71, eo71⟩ := Kd.zcd HO_9.out
             (first | subst eo71 | (injection eo71 with f1_ f2_ f3_; have f4_ := f1_.symm; have f5_ := f3_.symm; clear f1_ f2_ f3_; subst f4_; subst f5_))
             refine zbG (n := 17) (S := fun w' => w'.cell? ⟨gb131, 0, none⟩ = some (.int .i64 a0_0) ∧ w'.cell? ⟨gb131, 1, none⟩ = some (.slice (some ad149) l0_1.length c0_1) ∧ w'.cell? ⟨gb132, 0, none⟩ = some (.int .i64 a1_0) ∧ w'.cell? ⟨gb132, 1, none⟩ = some (.slice (some ad150) l1_1.length c1_1) ∧ w'.cell? (ad149.add ((x7_2).toNat * 2)) = some (.slice A149_0 ((zab l0_1 x7_2).f0).length c149_0) ∧ w'.cell? ⟨(ad149.add ((x7_2).toNat * 2)).block, (ad149.add ((x7_2).toNat * 2)).off + 1, none⟩ = some (.int .i64 ((zab l0_1 x7_2).f1)) ∧ w'.cell? (ad150.add ((x8_3).toNat * 2)) = some (.slice A150_0 ((zab l1_1 x8_3).f0).length c150_0) ∧ w'.cell? ⟨(ad150.add ((x8_3).toNat * 2)).block, (ad150.add ((x8_3).toNat * 2)).off + 1, none⟩ = some (.int .i64 ((zab l1_1 x8_3).f1))) (ds := []) (xB 17 0) (by kernel_rfl) rfl (by kernel_rfl) ⟨(zai BK131.out 0).trans rfl, (zai BK131.out 1).trans rfl, (zai BK132.out 0).trans rfl, (zai BK132.out 1).trans rfl, ((HB.out.cell (World.block_lt_of_cell? w _ hw149_0)).trans hw149_0), ((HB.out.cell (World.block_lt_of_cell? w _ hw149_1)).trans hw149_1), ((HB.out.cell (World.block_lt_of_cell? w _ hw150_0)).trans hw150_0), ((HB.out.cell (World.block_lt_of_cell? w _ hw150_1)).trans hw150_1)⟩ (fun hHeld => ?_); refine zbf zam.zke zam.zjK (fun HT_ HW_ => ?_)
             generalize wr.drew = w69 at HO_6 HO_9 BK131 BK132 BK133 HB HR149_0 HR150_0 hx149_0 hx149_1 hx150_0 hx150_1 hHeld ⊢
             refine pu (i := 0) (N := some 72) (xB 17 1) HT_.out ?_
             refine pu (i := 1) (N := some 73) (xB 17 3) HT_.out ?_
             refine pu (i := 2) (N := some 74) (xB 17 7) HT_.out ?_
             refine pu (i := 4) (N := some 76) (xB 17 23) HT_.out ?_
             refine pu (i := 8) (N := some 80) (xB 17 279) HT_.out ?_
             refine pu (i := 10) (N := some 82) (xB 17 1303) HT_.out ?_
             refine tk (i := 3) (N := some 75) (xB 17 1311) HT_.out HW_.out hHeld ?_
             refine pu (i := 5) (N := some 77) (xB 17 1343) HT_.out ?_
             refine pu (i := 6) (N := some 78) (xB 17 1407) HT_.out ?_
             refine tk (i := 7) (N := some 79) (xB 17 1535) HT_.out HW_.out hHeld ?_
             refine tk (i := 9) (N := some 81) (xB 17 2047) HT_.out HW_.out hHeld ?_
             refine pu (i := 11) (N := some 83) (xB 17 4095) HT_.out ?_
             refine pu (i := 12) (N := some 84) (xB 17 8191) HT_.out ?_
             refine tk (i := 13) (N := some 85) (xB 17 16383) HT_.out HW_.out hHeld ?_
             refine pu (i := 14) (N := some 86) (xB 17 32767) HT_.out ?_
             refine one_ (i := 15) (N := some 87) (xB 17 65535) rfl rfl (zbj HT_.out (by kernel_rfl)) (by decide) (fun K hK => ?_)
             refine zbM Try.func26 (by kernel_rfl) rfl #[.slice Ao70 x6_3.length co70, .slice Ao71 x9_4.length co71, .int .i64 (wrap64 (((zab l0_1 x7_2).f1) * ((zab l1_1 x8_3).f1)))] (by rfl) rfl rfl xm ?_
             with_reducible refine (zaE.calls k4 (fun k_ => ((w.heap.size ≤ k_) ∧ (some k_ ≠ (.slice Ao71 x9_4.length co71 : Value).ownBlock ∧ (k_ ≠ gb131 ∧ (k_ ≠ gb132 ∧ k_ ≠ gb133))))) (fun k_ => some k_ = (.slice Ao70 x6_3.length co70 : Value).ownBlock) (.slice Ao70 x6_3.length co70) x6_3 _ _ x9_4 (wrap64 (((zab l0_1 x7_2).f1) * ((zab l1_1 x8_3).f1))) t151 w _ ?side1 ?side2 ?side3 ?side4 ?side5 A65.out).mono ?_
             (case side1 => exact bh HB.out)
             (case side2 => exact HO_6.out)
             (case side3 => exact fun k_ e_ => e_.symm)
             (case side4 => exact Kd.zgV ((Kd.zcG HO_9.out (Kd.zd3 HO_6.out) (by decide))) (fun k_ hk_ hs_ => (hk_.2) hs_))
             (case side5 => exact (Kd.zb1 HO_9.out).2.1)
             rintro e w72 ⟨v152, rfl, ho0, hb, hkp⟩
             refine ⟨_, rfl, ?_⟩
             have n0_ := ax (Kd.zbZ (ok' := fun k_ => (w.heap.size ≤ k_)) (Kd.zjj ((Kd.zcG HO_9.out (Kd.zd3 HO_6.out) (by decide))) hkp (fun k_ hk_ hs_ => (hk_.2) hs_)) (fun k_ hk_ => hk_.1.1))
             have n1_ := ax (zbo (xk BK131.out) hkp (fun hs_ => (fun e_ => (Kd.N_ne HO_6.out BK131.out (by decide)) e_) hs_))
             have n2_ := ax (zbo (xk BK132.out) hkp (fun hs_ => (fun e_ => (Kd.N_ne HO_6.out BK132.out (by decide)) e_) hs_))
             have n3_ := ax (zbo (xk BK133.out) hkp (fun hs_ => (fun e_ => (Kd.N_ne HO_6.out BK133.out (by decide)) e_) hs_))
             have n4_ := ax (Kd.za6 (ok' := fun k_ => (w.heap.size ≤ k_) ∧ some k_ ≠ (.slice Ao71 x9_4.length co71 : Value).ownBlock ∧ k_ ≠ gb131 ∧ k_ ≠ gb132 ∧ k_ ≠ gb133) ho0 (fun k_ hk_ => ⟨Or.elim hk_ (fun hs_ => by first | exact hs_ | exact hs_.1 | exact hs_.2.1 | exact hs_.2.2.1 | exact hs_.2.2.2.1 | exact hs_.2.2.2.2.1 | exact hs_.2.2.2.2 | exact hs_.2.2.2 | exact hs_.2.2 | exact hs_.2) (fun hn_ => (Nat.le_trans (zaj (bh HB.out)) hn_)), Or.elim hk_ (fun hs_ => by first | exact hs_ | exact hs_.1 | exact hs_.2.1 | exact hs_.2.2.1 | exact hs_.2.2.2.1 | exact hs_.2.2.2.2.1 | exact hs_.2.2.2.2 | exact hs_.2.2.2 | exact hs_.2.2 | exact hs_.2) (fun hn_ => (Kd.fresh' (Kd.R_lt (xR HO_9.out)) k_ hn_)), Or.elim hk_ (fun hs_ => by first | exact hs_ | exact hs_.1 | exact hs_.2.1 | exact hs_.2.2.1 | exact hs_.2.2.2.1 | exact hs_.2.2.2.2.1 | exact hs_.2.2.2.2 | exact hs_.2.2.2 | exact hs_.2.2 | exact hs_.2) (fun hn_ => (Kd.zbK (g := gb131) (o := .cells #[.int .i64 a0_0, .slice (some ad149) l0_1.length c0_1] 28 (0, 0)) (xk BK131.out) k_ hn_)), Or.elim hk_ (fun hs_ => by first | exact hs_ | exact hs_.1 | exact hs_.2.1 | exact hs_.2.2.1 | exact hs_.2.2.2.1 | exact hs_.2.2.2.2.1 | exact hs_.2.2.2.2 | exact hs_.2.2.2 | exact hs_.2.2 | exact hs_.2) (fun hn_ => (Kd.zbK (g := gb132) (o := .cells #[.int .i64 a1_0, .slice (some ad150) l1_1.length c1_1] 28 (0, 0)) (xk BK132.out) k_ hn_)), Or.elim hk_ (fun hs_ => by first | exact hs_ | exact hs_.1 | exact hs_.2.1 | exact hs_.2.2.1 | exact hs_.2.2.2.1 | exact hs_.2.2.2.2.1 | exact hs_.2.2.2.2 | exact hs_.2.2.2 | exact hs_.2.2 | exact hs_.2) (fun hn_ => (Kd.zbK (g := gb133) (o := .cells #[.int .i64 0, .slice none 0 0] 28 (0, 0)) (xk BK133.out) k_ hn_))⟩))
             have n5_ := ax (hb)
             clear HO_9 BK131 BK132 BK133 HB HO_6
             have HO_9 := n0_
             have BK131 := n1_
             have BK132 := n2_
             have BK133 := n3_
             have HO153 := n4_
             have HB := n5_
             clear n0_ n1_ n2_ n3_ n4_ n5_
             (try clear hb)
             (try clear hkp)
             (try clear ho0)
             refine hK.out _ _ ⟨(zai BK131.out 0).trans rfl, (zai BK131.out 1).trans rfl, (zai BK132.out 0).trans rfl, (zai BK132.out 1).trans rfl, ((HB.out.cell (World.block_lt_of_cell? w _ hw149_0)).trans hw149_0), ((HB.out.cell (World.block_lt_of_cell? w _ hw149_1)).trans hw149_1), ((HB.out.cell (World.block_lt_of_cell? w _ hw150_0)).trans hw150_0), ((HB.out.cell (World.block_lt_of_cell? w _ hw150_1)).trans hw150_1)⟩ (fun hHeld => ?_)
             clear hK K
             refine nm ?_
             refine pu (i := 16) (N := some 6) (xB 17 131071) HT_.out ?_
             refine zb5 (zbA HT_.out (by kernel_rfl)) ?_
             try go_wp2
             go_roundg k4
             case measure => have := HJ2.out; have := HK2.out; have := HK3.out; have := HK4.out; omega
             case rel => exact ⟨(t151), (wrap64 (x8_3 + 1)), xr, H', ⟨by have := HJ2.out; have := HK2.out; have := HK3.out; have := HK4.out; omega⟩, ⟨by (with_reducible repeat (first | apply Kd.zbi | apply Kd.zbg | apply Kd.zbc)); exact Kd.za6 HO153.out (fun _ hk => ⟨hk.1, ⟨hk.2.2.1, ⟨hk.2.2.2.1, hk.2.2.2.2⟩⟩⟩)⟩, ⟨xk BK131.out⟩, ⟨xk BK132.out⟩, ⟨xk BK133.out⟩, ⟨bh HB.out⟩⟩
         ·rw [if_neg c41] at H
          have c41b0 := decide_eq_false c41
          clear c41
          have H' := ax H
          clear H
          have hnb73 := NB132_131.out
          have hnc73 := NB131_132.out
          have hnb74 := NB132_133.out
          have hnc74 := NB133_132.out
          have hcz75_0 := bc0 BK132.out
          have hcz75_1 := bc1 BK132.out
          have hfz75_0 := zag BK132.out 0
          have hfz75_1 := zag BK132.out 1
          go_wp2
          go_roundg k3
          case measure => have := HJ2.out; have := HK2.out; have := HK3.out; omega
          case rel => exact ⟨(x6_3), (wrap64 (x7_2 + 1)), xr, H', ⟨by have := HJ2.out; have := HK2.out; have := HK3.out; omega⟩, ⟨xN HO_6.out⟩, ⟨xk BK131.out⟩, ⟨xk BK132.out⟩, ⟨xk BK133.out⟩, ⟨bh HB.out⟩⟩
      ·rw [if_neg c37] at H
       have c37b0 := decide_eq_false c37
       clear c37
       obtain ⟨t154, A76, H⟩ := xI H
       obtain ⟨t158, A77, H⟩ := xI H
       by_cases c78 : t158 = true
       ·subst c78
        rw [if_pos rfl] at H
        simp only [Option.some.injEq, Prod.mk.injEq] at H
        obtain ⟨rfl, rfl, rfl⟩ := H
        have hnb79 := NB131_132.out
        have hnc79 := NB132_131.out
        have hnb80 := NB131_133.out
        have hnc80 := NB133_131.out
        have hcz81_0 := bc0 BK131.out
        have hcz81_1 := bc1 BK131.out
        have hfz81_0 := zag BK131.out 0
        have hfz81_1 := zag BK131.out 1
        obtain ⟨Ao82, co82, eo82⟩ := Kd.zbp HO_6.out
        subst eo82
        try go_wp2
        replace HO_6 := ax (Kd.zbc HO_6.out); replace BK131 := ax (zad BK131.out); replace BK132 := ax (zad BK132.out); replace BK133 := ax (zad BK133.out); replace HB := ax (zaN HB.out)
        refine zbG (n := 7) (S := fun w' => w'.cell? ⟨gb131, 0, none⟩ = some (.int .i64 a0_0) ∧ w'.cell? ⟨gb131, 1, none⟩ = some (.slice A0_1 l0_1.length c0_1)) (ds := []) (xB 7 0) (by kernel_rfl) rfl (by kernel_rfl) ⟨(zai BK131.out 0).trans rfl, (zai BK131.out 1).trans rfl⟩ (fun hHeld => ?_)
        generalize wr.drew = w83 at HO_6 BK131 BK132 BK133 HB hHeld ⊢
        refine zdD (i := 0) (N := some 88) (v := ?_) (a' := ?_) (xB 7 1) rfl rfl (by kernel_rfl) (fun _ _ _ h => h) (Or.inl ⟨by rfl, ?_⟩) ?_ ?_
        rotate_left
        ·intro w'
         go_simp
         with_reducible rfl
        rotate_left
        ·simp only [Act.put, List.setIfInBounds_toArray, List.set_cons_zero, List.set_cons_succ, zbP, zb8]
         rfl
        refine zdD (i := 2) (N := some 90) (v := ?_) (a' := ?_) (xB 7 5) rfl rfl (by kernel_rfl) (fun _ _ _ h => h) (Or.inl ⟨by rfl, ?_⟩) ?_ ?_
        rotate_left
        ·intro w'
         go_simp
         with_reducible rfl
        rotate_left
        ·simp only [Act.put, List.setIfInBounds_toArray, List.set_cons_zero, List.set_cons_succ, zbP, zb8]
         rfl
        refine zdB (i := 1) (N := some 89) (v := ?_) (a' := ?_) (xB 7 7) rfl rfl (by kernel_rfl) (fun _ _ _ h => h) (Or.inl ⟨by rfl, ?_⟩) hHeld ?_ ?_
        rotate_left
        ·rintro w' ⟨s0, s1⟩
         go_simp
         with_reducible rfl
        rotate_left
        ·simp only [Act.put, List.setIfInBounds_toArray, List.set_cons_zero, List.set_cons_succ, zbP, zb8]
         rfl
        refine zhk (σ := Value × Nat) 1 (xB 7 63) (fun s_ => [(91, s_.1), (11, .pointer (some ⟨s_.2, 0, none⟩)), (92, .agg #[.int .i64 a0_0, s_.1])]) (fun s_ w' => (w'.cell? ⟨gb131, 0, none⟩ = some (.int .i64 a0_0) ∧ w'.cell? ⟨gb131, 1, none⟩ = some (.slice A0_1 l0_1.length c0_1)) ∧ (Kd.N k48 48 w' w.heap.size (fun k_ => (w.heap.size ≤ k_) ∧ k_ ≠ gb131 ∧ k_ ≠ gb132 ∧ k_ ≠ gb133 ∧ k_ ≠ s_.2) s_.1 t154) ∧ (Kd.N k48 48 w' w.heap.size (fun k_ => (w.heap.size ≤ k_) ∧ some k_ ≠ (s_.1 : Value).ownBlock ∧ k_ ≠ gb131 ∧ k_ ≠ gb132 ∧ k_ ≠ gb133 ∧ k_ ≠ s_.2) (.slice Ao82 x6_2.length co82) x6_2) ∧ (w'.heap[gb131]? = some (.cells #[.int .i64 a0_0, .slice A0_1 l0_1.length c0_1] 28 (0, 0))) ∧ (w'.heap[gb132]? = some (.cells #[.int .i64 a1_0, .slice A1_1 l1_1.length c1_1] 28 (0, 0))) ∧ (w'.heap[gb133]? = some (.cells #[.int .i64 0, .slice none 0 0] 28 (0, 0))) ∧ (w'.heap[s_.2]? = some (.cells #[.int .i64 0, .slice none 0 0] 28 (0, 0))) ∧ (w.heap.size ≤ s_.2) ∧ (w.heap.size ≤ s_.2) ∧ (gb131 ≠ s_.2) ∧ (s_.2 ≠ gb131) ∧ (gb132 ≠ s_.2) ∧ (s_.2 ≠ gb132) ∧ (gb133 ≠ s_.2) ∧ (s_.2 ≠ gb133) ∧ (Below w.heap.size w w')) ?_ ?_
        rotate_left
        ·intro hCont
         refine two_ (i := 3) (j := 5) (Ni := some 91) (Nj := some 11) (xB 7 15) (xB 7 39) rfl rfl rfl rfl (by kernel_rfl) (by decide) (by decide) (fun K hK => ?_) (fun K hK => ?_)
         ·skip
          refine zbM Try.func27 (by kernel_rfl) rfl #[.slice Ao82 x6_2.length co82] (by rfl) rfl rfl xm ?_
          with_reducible refine (zaL.calls k2 (fun k_ => ((w.heap.size ≤ k_) ∧ (k_ ≠ gb131 ∧ (k_ ≠ gb132 ∧ k_ ≠ gb133)))) _ _ x6_2 t154 _ ?side1 A76.out).mono ?_
          (case side1 => exact Kd.N_V (HO_6.out))
          rintro e w84 ⟨v155, rfl, ho0, hb⟩
          refine ⟨_, rfl, ?_⟩
          replace HO_6 := ax (Kd.zcO (xN HO_6.out) (by first | exact Kd.zdT ho0 | exact Kd.za9 ho0 | exact Kd.zcf ho0) hb); have HO156 := ax (Kd.zdv (Kd.za6 (ok' := fun k_ => (w.heap.size ≤ k_) ∧ k_ ≠ gb131 ∧ k_ ≠ gb132 ∧ k_ ≠ gb133) ho0 (fun k_ hk_ => ⟨Or.elim hk_ (fun hs_ => hs_.1) (fun hn_ => (Nat.le_trans (zaj (bh HB.out)) hn_)), Or.elim hk_ (fun hs_ => hs_.2.1) (fun hn_ => (Kd.zbK (g := gb131) (o := .cells #[.int .i64 a0_0, .slice A0_1 l0_1.length c0_1] 28 (0, 0)) (xk BK131.out) k_ hn_)), Or.elim hk_ (fun hs_ => hs_.2.2.1) (fun hn_ => (Kd.zbK (g := gb132) (o := .cells #[.int .i64 a1_0, .slice A1_1 l1_1.length c1_1] 28 (0, 0)) (xk BK132.out) k_ hn_)), Or.elim hk_ (fun hs_ => hs_.2.2.2) (fun hn_ => (Kd.zbK (g := gb133) (o := .cells #[.int .i64 0, .slice none 0 0] 28 (0, 0)) (xk BK133.out) k_ hn_))⟩)) (zaj (bh HB.out))); replace BK131 := ax (bb BK131.out hb); replace BK132 := ax (bb BK132.out hb); replace BK133 := ax (bb BK133.out hb); replace HB := ax (zas (bh HB.out) hb)
          (try clear hb)
          (try clear hk)
          (try clear ho0)
          obtain ⟨Ao85, co85, eo85⟩ := Kd.zbp HO156.out
          (first | subst eo85 | (injection eo85 with f1_ f2_ f3_; have f4_ := f1_.symm; have f5_ := f3_.symm; clear f1_ f2_ f3_; subst f4_; subst f5_))
          refine hK.out _ _ ⟨(zai BK131.out 0).trans rfl, (zai BK131.out 1).trans rfl⟩ (fun hHeld => ?_)
          clear hK K
          refine nm ?_
          refine zdD (i := 4) (N := some 92) (v := ?_) (a' := ?_) (xB 7 31) rfl rfl (by kernel_rfl) (fun _ _ _ h => h) (Or.inl ⟨by rfl, ?_⟩) ?_ ?_
          rotate_left
          ·intro w'
           go_simp
           with_reducible rfl
          rotate_left
          ·simp only [Act.put, List.setIfInBounds_toArray, List.set_cons_zero, List.set_cons_succ, zbP, zb8]
           rfl
          refine one_ (i := 5) (N := some 11) (xB 7 63) rfl rfl (by kernel_rfl) (by decide) (fun K hK => ?_)
          refine zce ?hg (N := 11) ?hd (cs := #[.int .i64 0, .slice none 0 0]) (t := 28) ?hr ?_; (case hd => rfl); (case hg => rfl); (case hr => first | (go_simp; done) | (go_simp; rfl))
          intro gb157 hg w86 hbox hb
          replace HO_6 := ax (Kd.zbx (Kd.zca (xN HO_6.out) gb157 (Nat.le_of_eq hg.symm)) hb); replace HO156 := ax (Kd.zbx (Kd.zca (xN HO156.out) gb157 (Nat.le_of_eq hg.symm)) hb); have BK157 := ax (hbox); have GW157 := ax ((by rw [hg]; exact (zaj (bh HB.out)) : w.heap.size ≤ gb157)); have GE157 := ax ((by rw [hg]; exact (zaj (bh HB.out)) : w.heap.size ≤ gb157)); replace HB := ax (zas (bh HB.out) hb); have NB131_157 := ax (bn hg BK131.out); have NB157_131 := ax (bm hg BK131.out); replace BK131 := ax (bb BK131.out hb); have NB132_157 := ax (bn hg BK132.out); have NB157_132 := ax (bm hg BK132.out); replace BK132 := ax (bb BK132.out hb); have NB133_157 := ax (bn hg BK133.out); have NB157_133 := ax (bm hg BK133.out); replace BK133 := ax (bb BK133.out hb); clear hb hbox hg
          refine hK.out _ _ ⟨(zai BK131.out 0).trans rfl, (zai BK131.out 1).trans rfl⟩ (fun hHeld => ?_)
          clear hK K
          refine nm ?_
          exact zc6 (by simp only [zco, Act.put, List.setIfInBounds_toArray, List.set_cons_zero, List.set_cons_succ]) (hCont (.slice Ao85 t154.length co85, gb157) _ ⟨hHeld, (by (with_reducible repeat (first | apply Kd.zbi | apply Kd.zbg | apply Kd.zbc)); exact Kd.za6 HO156.out (fun _ hk => ⟨hk.1.1, ⟨hk.1.2.1, ⟨hk.1.2.2.1, ⟨hk.1.2.2.2, hk.2⟩⟩⟩⟩)), (by (with_reducible repeat (first | apply Kd.zbi | apply Kd.zbg | apply Kd.zbc)); exact Kd.za6 HO_6.out bq), (xk BK131.out), (xk BK132.out), (xk BK133.out), (xk BK157.out), GW157.out, GE157.out, NB131_157.out, NB157_131.out, NB132_157.out, NB157_132.out, NB133_157.out, NB157_133.out, (bh HB.out)⟩)
         ·skip
          refine zce ?hg (N := 11) ?hd (cs := #[.int .i64 0, .slice none 0 0]) (t := 28) ?hr ?_; (case hd => rfl); (case hg => rfl); (case hr => first | (go_simp; done) | (go_simp; rfl))
          intro gb157 hg w84 hbox hb
          replace HO_6 := ax (Kd.zbx (Kd.zca (xN HO_6.out) gb157 (Nat.le_of_eq hg.symm)) hb); have BK157 := ax (hbox); have GW157 := ax ((by rw [hg]; exact (zaj (bh HB.out)) : w.heap.size ≤ gb157)); have GE157 := ax ((by rw [hg]; exact (zaj (bh HB.out)) : w.heap.size ≤ gb157)); replace HB := ax (zas (bh HB.out) hb); have NB131_157 := ax (bn hg BK131.out); have NB157_131 := ax (bm hg BK131.out); replace BK131 := ax (bb BK131.out hb); have NB132_157 := ax (bn hg BK132.out); have NB157_132 := ax (bm hg BK132.out); replace BK132 := ax (bb BK132.out hb); have NB133_157 := ax (bn hg BK133.out); have NB157_133 := ax (bm hg BK133.out); replace BK133 := ax (bb BK133.out hb); clear hb hbox hg
          refine hK.out _ _ ⟨(zai BK131.out 0).trans rfl, (zai BK131.out 1).trans rfl⟩ (fun hHeld => ?_)
          clear hK K
          refine nm ?_
          refine one_ (i := 3) (N := some 91) (xB 7 47) rfl rfl (by kernel_rfl) (by decide) (fun K hK => ?_)
          refine zbM Try.func27 (by kernel_rfl) rfl #[.slice Ao82 x6_2.length co82] (by rfl) rfl rfl xm ?_
          with_reducible refine (zaL.calls k2 (fun k_ => (((w.heap.size ≤ k_) ∧ (k_ ≠ gb131 ∧ (k_ ≠ gb132 ∧ k_ ≠ gb133))) ∧ k_ ≠ gb157)) _ _ x6_2 t154 _ ?side1 A76.out).mono ?_
          (case side1 => exact Kd.N_V (HO_6.out))
          rintro e w85 ⟨v155, rfl, ho0, hb⟩
          refine ⟨_, rfl, ?_⟩
          replace HO_6 := ax (Kd.zcO (xN HO_6.out) (by first | exact Kd.zdT ho0 | exact Kd.za9 ho0 | exact Kd.zcf ho0) hb); have HO156 := ax (Kd.zdv (Kd.za6 (ok' := fun k_ => (w.heap.size ≤ k_) ∧ k_ ≠ gb131 ∧ k_ ≠ gb132 ∧ k_ ≠ gb133 ∧ k_ ≠ gb157) ho0 (fun k_ hk_ => ⟨Or.elim hk_ (fun hs_ => hs_.1.1) (fun hn_ => (Nat.le_trans (zaj (bh HB.out)) hn_)), Or.elim hk_ (fun hs_ => hs_.1.2.1) (fun hn_ => (Kd.zbK (g := gb131) (o := .cells #[.int .i64 a0_0, .slice A0_1 l0_1.length c0_1] 28 (0, 0)) (xk BK131.out) k_ hn_)), Or.elim hk_ (fun hs_ => hs_.1.2.2.1) (fun hn_ => (Kd.zbK (g := gb132) (o := .cells #[.int .i64 a1_0, .slice A1_1 l1_1.length c1_1] 28 (0, 0)) (xk BK132.out) k_ hn_)), Or.elim hk_ (fun hs_ => hs_.1.2.2.2) (fun hn_ => (Kd.zbK (g := gb133) (o := .cells #[.int .i64 0, .slice none 0 0] 28 (0, 0)) (xk BK133.out) k_ hn_)), Or.elim hk_ (fun hs_ => hs_.2) (fun hn_ => (Kd.zbK (g := gb157) (o := .cells #[.int .i64 0, .slice none 0 0] 28 (0, 0)) (xk BK157.out) k_ hn_))⟩)) (zaj (bh HB.out))); replace BK131 := ax (bb BK131.out hb); replace BK132 := ax (bb BK132.out hb); replace BK133 := ax (bb BK133.out hb); replace BK157 := ax (bb BK157.out hb); replace HB := ax (zas (bh HB.out) hb)
          (try clear hb)
          (try clear hk)
          (try clear ho0)
          obtain ⟨Ao86, co86, eo86⟩ := Kd.zbp HO156.out
          (first | subst eo86 | (injection eo86 with f1_ f2_ f3_; have f4_ := f1_.symm; have f5_ := f3_.symm; clear f1_ f2_ f3_; subst f4_; subst f5_))
          refine hK.out _ _ ⟨(zai BK131.out 0).trans rfl, (zai BK131.out 1).trans rfl⟩ (fun hHeld => ?_)
          clear hK K
          refine nm ?_
          refine zdD (i := 4) (N := some 92) (v := ?_) (a' := ?_) (xB 7 63) rfl rfl (by kernel_rfl) (fun _ _ _ h => h) (Or.inl ⟨by rfl, ?_⟩) ?_ ?_
          rotate_left
          ·intro w'
           go_simp
           with_reducible rfl
          rotate_left
          ·simp only [Act.put, List.setIfInBounds_toArray, List.set_cons_zero, List.set_cons_succ, zbP, zb8]
           rfl
          exact zc6 (by simp only [zco, Act.put, List.setIfInBounds_toArray, List.set_cons_zero, List.set_cons_succ]) (hCont (.slice Ao86 t154.length co86, gb157) _ ⟨hHeld, (xN HO156.out), (by (with_reducible repeat (first | apply Kd.zbi | apply Kd.zbg | apply Kd.zbc)); exact Kd.za6 HO_6.out bq), (xk BK131.out), (xk BK132.out), (xk BK133.out), (xk BK157.out), GW157.out, GE157.out, NB131_157.out, NB157_131.out, NB132_157.out, NB157_132.out, NB133_157.out, NB157_133.out, (bh HB.out)⟩)
        rintro ⟨v155, gb157⟩ w87 ⟨hS_, h0_, h1_, h2_, h3_, h4_, h5_, h6_, h7_, h8_, h9_, h10_, h11_, h12_, h13_, h14_⟩
        have n0_ : zal (Kd.N k48 48 w87 w.heap.size (fun k_ => (w.heap.size ≤ k_) ∧ k_ ≠ gb131 ∧ k_ ≠ gb132 ∧ k_ ≠ gb133 ∧ k_ ≠ gb157) v155 t154) := ⟨h0_⟩
        have n1_ : zal (Kd.N k48 48 w87 w.heap.size (fun k_ => (w.heap.size ≤ k_) ∧ some k_ ≠ (v155 : Value).ownBlock ∧ k_ ≠ gb131 ∧ k_ ≠ gb132 ∧ k_ ≠ gb133 ∧ k_ ≠ gb157) (.slice Ao82 x6_2.length co82) x6_2) := ⟨h1_⟩
        have n2_ : zal (w87.heap[gb131]? = some (.cells #[.int .i64 a0_0, .slice A0_1 l0_1.length c0_1] 28 (0, 0))) := ⟨h2_⟩
        have n3_ : zal (w87.heap[gb132]? = some (.cells #[.int .i64 a1_0, .slice A1_1 l1_1.length c1_1] 28 (0, 0))) := ⟨h3_⟩
        have n4_ : zal (w87.heap[gb133]? = some (.cells #[.int .i64 0, .slice none 0 0] 28 (0, 0))) := ⟨h4_⟩
        have n5_ : zal (w87.heap[gb157]? = some (.cells #[.int .i64 0, .slice none 0 0] 28 (0, 0))) := ⟨h5_⟩
        have n6_ : zal (w.heap.size ≤ gb157) := ⟨h6_⟩
        have n7_ : zal (w.heap.size ≤ gb157) := ⟨h7_⟩
        have n8_ : zal (gb131 ≠ gb157) := ⟨h8_⟩
        have n9_ : zal (gb157 ≠ gb131) := ⟨h9_⟩
        have n10_ : zal (gb132 ≠ gb157) := ⟨h10_⟩
        have n11_ : zal (gb157 ≠ gb132) := ⟨h11_⟩
        have n12_ : zal (gb133 ≠ gb157) := ⟨h12_⟩
        have n13_ : zal (gb157 ≠ gb133) := ⟨h13_⟩
        have n14_ : zal (Below w.heap.size w w87) := ⟨h14_⟩
        clear HO_6 BK131 BK132 BK133 HB h0_ h1_ h2_ h3_ h4_ h5_ h6_ h7_ h8_ h9_ h10_ h11_ h12_ h13_ h14_
        have HO156 := n0_
        have HO_6 := n1_
        have BK131 := n2_
        have BK132 := n3_
        have BK133 := n4_
        have BK157 := n5_
        have GW157 := n6_
        have GE157 := n7_
        have NB131_157 := n8_
        have NB157_131 := n9_
        have NB132_157 := n10_
        have NB157_132 := n11_
        have NB133_157 := n12_
        have NB157_133 := n13_
        have HB := n14_
        clear n0_ n1_ n2_ n3_ n4_ n5_ n6_ n7_ n8_ n9_ n10_ n11_ n12_ n13_ n14_
        have hHeld : w87.cell? ⟨gb131, 0, none⟩ = some (.int .i64 a0_0) ∧ w87.cell? ⟨gb131, 1, none⟩ = some (.slice A0_1 l0_1.length c0_1) := hS_
        obtain ⟨Ao88, co88, eo88⟩ := Kd.zbp HO156.out
        (first | subst eo88 | (injection eo88 with f1_ f2_ f3_; have f4_ := f1_.symm; have f5_ := f3_.symm; clear f1_ f2_ f3_; subst f4_; subst f5_))
        refine zc6 (a' := ?_) ?_ ?_
        rotate_left
        ·simp only [zco, Act.put, List.setIfInBounds_toArray, List.set_cons_zero, List.set_cons_succ]
         rfl
        refine one_ (i := 6) (N := none) (xB 7 127) rfl rfl (by kernel_rfl) (by decide) (fun K hK => ?_)
        have hs89 : w87.cell? ⟨gb157, 0, none⟩ = some (.int .i64 0) := (zai BK157.out 0).trans rfl
        have hfs89 := zag BK157.out 0
        have hns89_0 := NB131_157.out
        have hns89_1 := NB132_157.out
        have hns89_2 := NB133_157.out
        have hms89_0 := NB157_131.out
        have hms89_1 := NB157_132.out
        have hms89_2 := NB157_133.out
        have hs90 : w87.cell? ⟨gb157, 1, none⟩ = some (.slice none 0 0) := (zai BK157.out 1).trans rfl
        have hfs90 := zag BK157.out 1
        have hns90_0 := NB131_157.out
        have hns90_1 := NB132_157.out
        have hns90_2 := NB133_157.out
        have hms90_0 := NB157_131.out
        have hms90_1 := NB157_132.out
        have hms90_2 := NB157_133.out
        refine zdz (w1 := ?_) (by rfl) rfl ?_ ?_
        rotate_left
        ·go_simp
         rfl
        refine hK.out _ _ ⟨((cell_far (p := ⟨gb157, _, none⟩) NB131_157.out _).trans (((cell_far (p := ⟨gb157, _, none⟩) NB131_157.out _).trans (hHeld.1)))), ((cell_far (p := ⟨gb157, _, none⟩) NB131_157.out _).trans (((cell_far (p := ⟨gb157, _, none⟩) NB131_157.out _).trans (hHeld.2))))⟩ (fun hHeld => ?_)
        clear hK K
        refine zb5 (by kernel_rfl) ?_
        have hnb91 := NB157_131.out
        have hnc91 := NB131_157.out
        have hnb92 := NB157_132.out
        have hnc92 := NB132_157.out
        have hnb93 := NB157_133.out
        have hnc93 := NB133_157.out
        have hcz94_0 := bc0 BK157.out
        have hcz94_1 := bc1 BK157.out
        have hfz94_0 := zag BK157.out 0
        have hfz94_1 := zag BK157.out 1
        try go_wp2_with (first | ((with_reducible refine zat (f := 25) rfl ?_); refine za2 (some 94) rfl rfl Try.func25 (by kernel_rfl) rfl #[.agg #[.int .i64 a0_0, .slice Ao88 t154.length co88]] rfl xm ?_; (with_reducible refine (zaH.calls k2 a0_0 _ _ t154 true _ ?side1 ?side2 A77.out).mono ?_); (case side1 => refine (Kd.zaC (e := 48) (base := w.heap.size) (ok := fun k_ => ((w.heap.size ≤ k_) ∧ (k_ ≠ gb131 ∧ (k_ ≠ gb132 ∧ (k_ ≠ gb133 ∧ k_ ≠ gb157))))) (n := t154.length) (c := co88) ?_).2.2; exact (by (with_reducible repeat (first | apply Kd.zbi | apply Kd.zbg | apply Kd.zbc)); exact (Kd.za6 (Kd.zb9 (p := ⟨gb157, 1, none⟩) (Kd.zb9 (p := ⟨gb157, 0, none⟩) (Kd.za6 HO156.out (fun k_ hk => (⟨hk, hk.2.2.2.2⟩ : _ ∧ k_ ≠ gb157))) (fun _ hk => hk.2) (.int .i64 a0_0)) (fun _ hk => hk.2) (.slice Ao88 t154.length co88)) (fun _ h_ => h_.1)))); (case side2 => exact (Kd.zaC HO156.out).2.1); rintro e w95 ⟨rfl, hb⟩; refine ⟨_, rfl, ?_⟩; replace HO_6 := ax (Kd.zbx (by (with_reducible repeat (first | apply Kd.zbi | apply Kd.zbg | apply Kd.zbc)); exact (Kd.za6 (Kd.zb9 (p := ⟨gb157, 1, none⟩) (Kd.zb9 (p := ⟨gb157, 0, none⟩) (Kd.za6 HO_6.out (fun k_ hk => (⟨hk, hk.2.2.2.2.2⟩ : _ ∧ k_ ≠ gb157))) (fun _ hk => hk.2) (.int .i64 a0_0)) (fun _ hk => hk.2) (.slice Ao88 t154.length co88)) (fun _ h_ => h_.1))) hb); replace HO156 := ax (Kd.zbx (by (with_reducible repeat (first | apply Kd.zbi | apply Kd.zbg | apply Kd.zbc)); exact (Kd.za6 (Kd.zb9 (p := ⟨gb157, 1, none⟩) (Kd.zb9 (p := ⟨gb157, 0, none⟩) (Kd.za6 HO156.out (fun k_ hk => (⟨hk, hk.2.2.2.2⟩ : _ ∧ k_ ≠ gb157))) (fun _ hk => hk.2) (.int .i64 a0_0)) (fun _ hk => hk.2) (.slice Ao88 t154.length co88)) (fun _ h_ => h_.1))) hb); replace BK131 := ax (zaZ (g := gb131) (o := .cells #[.int .i64 a0_0, .slice A0_1 l0_1.length c0_1] 28 (0, 0)) (by (with_reducible repeat (first | refine zah ?_ _ | refine zad ?_ | refine zae ?_ _)); refine zaD ?_ NB131_157.out _; (with_reducible repeat (first | refine zah ?_ _ | refine zad ?_ | refine zae ?_ _)); refine zaD ?_ NB131_157.out _; (with_reducible repeat (first | refine zah ?_ _ | refine zad ?_ | refine zae ?_ _)); exact BK131.out) hb); replace BK132 := ax (zaZ (g := gb132) (o := .cells #[.int .i64 a1_0, .slice A1_1 l1_1.length c1_1] 28 (0, 0)) (by (with_reducible repeat (first | refine zah ?_ _ | refine zad ?_ | refine zae ?_ _)); refine zaD ?_ NB132_157.out _; (with_reducible repeat (first | refine zah ?_ _ | refine zad ?_ | refine zae ?_ _)); refine zaD ?_ NB132_157.out _; (with_reducible repeat (first | refine zah ?_ _ | refine zad ?_ | refine zae ?_ _)); exact BK132.out) hb); replace BK133 := ax (zaZ (g := gb133) (o := .cells #[.int .i64 0, .slice none 0 0] 28 (0, 0)) (by (with_reducible repeat (first | refine zah ?_ _ | refine zad ?_ | refine zae ?_ _)); refine zaD ?_ NB133_157.out _; (with_reducible repeat (first | refine zah ?_ _ | refine zad ?_ | refine zae ?_ _)); refine zaD ?_ NB133_157.out _; (with_reducible repeat (first | refine zah ?_ _ | refine zad ?_ | refine zae ?_ _)); exact BK133.out) hb); replace BK157 := ax (zaZ (g := gb157) (o := .cells #[.int .i64 a0_0, .slice Ao88 t154.length co88] 28 (0, 0)) (by (with_reducible repeat (first | refine zah ?_ _ | refine zad ?_ | refine zae ?_ _)); refine zba (cs := #[.int .i64 a0_0, .slice none 0 0]) ?_ 1 _ rfl; (with_reducible repeat (first | refine zah ?_ _ | refine zad ?_ | refine zae ?_ _)); refine zba (cs := #[.int .i64 0, .slice none 0 0]) ?_ 0 _ rfl; (with_reducible repeat (first | refine zah ?_ _ | refine zad ?_ | refine zae ?_ _)); exact BK157.out) hb); replace HB := ax (zas (bh HB.out) hb); (try clear hb); have hcz96_0 := bc0 BK157.out; have hcz96_1 := bc1 BK157.out; have hfz96_0 := zag BK157.out 0; have hfz96_1 := zag BK157.out 1; have hnb97 := NB133_132.out; have hnc97 := NB132_133.out; have hcz98_0 := bc0 BK133.out; have hcz98_1 := bc1 BK133.out; have hfz98_0 := zag BK133.out 0; have hfz98_1 := zag BK133.out 1))
        refine bodyPost_ret (zcB rfl _ _ gb133 28 #[.int .i64 a0_0, .slice Ao88 t154.length co88] (0, 0) _ rfl (by (with_reducible repeat (first | refine zah ?_ _ | refine zad ?_ | refine zae ?_ _)); refine zba (cs := #[.int .i64 a0_0, .slice none 0 0]) ?_ 1 _ rfl; (with_reducible repeat (first | refine zah ?_ _ | refine zad ?_ | refine zae ?_ _)); refine zba (cs := #[.int .i64 0, .slice none 0 0]) ?_ 0 _ rfl; (with_reducible repeat (first | refine zah ?_ _ | refine zad ?_ | refine zae ?_ _)); exact BK133.out) Try.underlying28 rfl (by kernel_rfl)) rfl ?_
        exact ⟨_, xe, by (with_reducible repeat (first | apply Kd.zbi | apply Kd.zbg | apply Kd.zbc)); exact Kd.za6 (Kd.zb9 (p := ⟨gb133, 1, none⟩) (Kd.zb9 (p := ⟨gb133, 0, none⟩) (Kd.za6 HO156.out (fun k_ hk => (⟨hk, hk.2.2.2.1⟩ : _ ∧ k_ ≠ gb133))) (fun _ hk => hk.2) (.int .i64 a0_0)) (fun _ hk => hk.2) (.slice Ao88 t154.length co88)) (fun _ hk => hk.1.1), bh HB.out⟩
       ·replace c78 := Bool.eq_false_iff.mpr c78
        subst c78
        rw [if_neg (show ¬ (false = true) by decide)] at H
        simp only [Option.some.injEq, Prod.mk.injEq] at H
        obtain ⟨rfl, rfl, rfl⟩ := H
        have hnb99 := NB131_132.out
        have hnc99 := NB132_131.out
        have hnb100 := NB131_133.out
        have hnc100 := NB133_131.out
        have hcz101_0 := bc0 BK131.out
        have hcz101_1 := bc1 BK131.out
        have hfz101_0 := zag BK131.out 0
        have hfz101_1 := zag BK131.out 1
        obtain ⟨Ao102, co102, eo102⟩ := Kd.zbp HO_6.out
        subst eo102
        try go_wp2
        replace HO_6 := ax (Kd.zbc HO_6.out); replace BK131 := ax (zad BK131.out); replace BK132 := ax (zad BK132.out); replace BK133 := ax (zad BK133.out); replace HB := ax (zaN HB.out)
        refine zbG (n := 7) (S := fun w' => w'.cell? ⟨gb131, 0, none⟩ = some (.int .i64 a0_0) ∧ w'.cell? ⟨gb131, 1, none⟩ = some (.slice A0_1 l0_1.length c0_1)) (ds := []) (xB 7 0) (by kernel_rfl) rfl (by kernel_rfl) ⟨(zai BK131.out 0).trans rfl, (zai BK131.out 1).trans rfl⟩ (fun hHeld => ?_)
        generalize wr.drew = w103 at HO_6 BK131 BK132 BK133 HB hHeld ⊢
        refine zdD (i := 0) (N := some 88) (v := ?_) (a' := ?_) (xB 7 1) rfl rfl (by kernel_rfl) (fun _ _ _ h => h) (Or.inl ⟨by rfl, ?_⟩) ?_ ?_
        rotate_left
        ·intro w'
         go_simp
         with_reducible rfl
        rotate_left
        ·simp only [Act.put, List.setIfInBounds_toArray, List.set_cons_zero, List.set_cons_succ, zbP, zb8]
         rfl
        refine zdD (i := 2) (N := some 90) (v := ?_) (a' := ?_) (xB 7 5) rfl rfl (by kernel_rfl) (fun _ _ _ h => h) (Or.inl ⟨by rfl, ?_⟩) ?_ ?_
        rotate_left
        ·intro w'
         go_simp
         with_reducible rfl
        rotate_left
        ·simp only [Act.put, List.setIfInBounds_toArray, List.set_cons_zero, List.set_cons_succ, zbP, zb8]
         rfl
        refine zdB (i := 1) (N := some 89) (v := ?_) (a' := ?_) (xB 7 7) rfl rfl (by kernel_rfl) (fun _ _ _ h => h) (Or.inl ⟨by rfl, ?_⟩) hHeld ?_ ?_
        rotate_left
        ·rintro w' ⟨s0, s1⟩
         go_simp
         with_reducible rfl
        rotate_left
        ·simp only [Act.put, List.setIfInBounds_toArray, List.set_cons_zero, List.set_cons_succ, zbP, zb8]
         rfl
        refine zhk (σ := Value × Nat) 1 (xB 7 63) (fun s_ => [(91, s_.1), (11, .pointer (some ⟨s_.2, 0, none⟩)), (92, .agg #[.int .i64 a0_0, s_.1])]) (fun s_ w' => (w'.cell? ⟨gb131, 0, none⟩ = some (.int .i64 a0_0) ∧ w'.cell? ⟨gb131, 1, none⟩ = some (.slice A0_1 l0_1.length c0_1)) ∧ (Kd.N k48 48 w' w.heap.size (fun k_ => (w.heap.size ≤ k_) ∧ k_ ≠ gb131 ∧ k_ ≠ gb132 ∧ k_ ≠ gb133 ∧ k_ ≠ s_.2) s_.1 t154) ∧ (Kd.N k48 48 w' w.heap.size (fun k_ => (w.heap.size ≤ k_) ∧ some k_ ≠ (s_.1 : Value).ownBlock ∧ k_ ≠ gb131 ∧ k_ ≠ gb132 ∧ k_ ≠ gb133 ∧ k_ ≠ s_.2) (.slice Ao102 x6_2.length co102) x6_2) ∧ (w'.heap[gb131]? = some (.cells #[.int .i64 a0_0, .slice A0_1 l0_1.length c0_1] 28 (0, 0))) ∧ (w'.heap[gb132]? = some (.cells #[.int .i64 a1_0, .slice A1_1 l1_1.length c1_1] 28 (0, 0))) ∧ (w'.heap[gb133]? = some (.cells #[.int .i64 0, .slice none 0 0] 28 (0, 0))) ∧ (w'.heap[s_.2]? = some (.cells #[.int .i64 0, .slice none 0 0] 28 (0, 0))) ∧ (w.heap.size ≤ s_.2) ∧ (w.heap.size ≤ s_.2) ∧ (gb131 ≠ s_.2) ∧ (s_.2 ≠ gb131) ∧ (gb132 ≠ s_.2) ∧ (s_.2 ≠ gb132) ∧ (gb133 ≠ s_.2) ∧ (s_.2 ≠ gb133) ∧ (Below w.heap.size w w')) ?_ ?_
        rotate_left
        ·intro hCont
         refine two_ (i := 3) (j := 5) (Ni := some 91) (Nj := some 11) (xB 7 15) (xB 7 39) rfl rfl rfl rfl (by kernel_rfl) (by decide) (by decide) (fun K hK => ?_) (fun K hK => ?_)
         ·skip
          refine zbM Try.func27 (by kernel_rfl) rfl #[.slice Ao102 x6_2.length co102] (by rfl) rfl rfl xm ?_
          with_reducible refine (zaL.calls k2 (fun k_ => ((w.heap.size ≤ k_) ∧ (k_ ≠ gb131 ∧ (k_ ≠ gb132 ∧ k_ ≠ gb133)))) _ _ x6_2 t154 _ ?side1 A76.out).mono ?_
          (case side1 => exact Kd.N_V (HO_6.out))
          rintro e w104 ⟨v155, rfl, ho0, hb⟩
          refine ⟨_, rfl, ?_⟩
          replace HO_6 := ax (Kd.zcO (xN HO_6.out) (by first | exact Kd.zdT ho0 | exact Kd.za9 ho0 | exact Kd.zcf ho0) hb); have HO156 := ax (Kd.zdv (Kd.za6 (ok' := fun k_ => (w.heap.size ≤ k_) ∧ k_ ≠ gb131 ∧ k_ ≠ gb132 ∧ k_ ≠ gb133) ho0 (fun k_ hk_ => ⟨Or.elim hk_ (fun hs_ => hs_.1) (fun hn_ => (Nat.le_trans (zaj (bh HB.out)) hn_)), Or.elim hk_ (fun hs_ => hs_.2.1) (fun hn_ => (Kd.zbK (g := gb131) (o := .cells #[.int .i64 a0_0, .slice A0_1 l0_1.length c0_1] 28 (0, 0)) (xk BK131.out) k_ hn_)), Or.elim hk_ (fun hs_ => hs_.2.2.1) (fun hn_ => (Kd.zbK (g := gb132) (o := .cells #[.int .i64 a1_0, .slice A1_1 l1_1.length c1_1] 28 (0, 0)) (xk BK132.out) k_ hn_)), Or.elim hk_ (fun hs_ => hs_.2.2.2) (fun hn_ => (Kd.zbK (g := gb133) (o := .cells #[.int .i64 0, .slice none 0 0] 28 (0, 0)) (xk BK133.out) k_ hn_))⟩)) (zaj (bh HB.out))); replace BK131 := ax (bb BK131.out hb); replace BK132 := ax (bb BK132.out hb); replace BK133 := ax (bb BK133.out hb); replace HB := ax (zas (bh HB.out) hb)
          (try clear hb)
          (try clear hk)
          (try clear ho0)
          obtain ⟨Ao105, co105, eo105⟩ := Kd.zbp HO156.out
          (first | subst eo105 | (injection eo105 with f1_ f2_ f3_; have f4_ := f1_.symm; have f5_ := f3_.symm; clear f1_ f2_ f3_; subst f4_; subst f5_))
          refine hK.out _ _ ⟨(zai BK131.out 0).trans rfl, (zai BK131.out 1).trans rfl⟩ (fun hHeld => ?_)
          clear hK K
          refine nm ?_
          refine zdD (i := 4) (N := some 92) (v := ?_) (a' := ?_) (xB 7 31) rfl rfl (by kernel_rfl) (fun _ _ _ h => h) (Or.inl ⟨by rfl, ?_⟩) ?_ ?_
          rotate_left
          ·intro w'
           go_simp
           with_reducible rfl
          rotate_left
          ·simp only [Act.put, List.setIfInBounds_toArray, List.set_cons_zero, List.set_cons_succ, zbP, zb8]
           rfl
          refine one_ (i := 5) (N := some 11) (xB 7 63) rfl rfl (by kernel_rfl) (by decide) (fun K hK => ?_)
          refine zce ?hg (N := 11) ?hd (cs := #[.int .i64 0, .slice none 0 0]) (t := 28) ?hr ?_; (case hd => rfl); (case hg => rfl); (case hr => first | (go_simp; done) | (go_simp; rfl))
          intro gb157 hg w106 hbox hb
          replace HO_6 := ax (Kd.zbx (Kd.zca (xN HO_6.out) gb157 (Nat.le_of_eq hg.symm)) hb); replace HO156 := ax (Kd.zbx (Kd.zca (xN HO156.out) gb157 (Nat.le_of_eq hg.symm)) hb); have BK157 := ax (hbox); have GW157 := ax ((by rw [hg]; exact (zaj (bh HB.out)) : w.heap.size ≤ gb157)); have GE157 := ax ((by rw [hg]; exact (zaj (bh HB.out)) : w.heap.size ≤ gb157)); replace HB := ax (zas (bh HB.out) hb); have NB131_157 := ax (bn hg BK131.out); have NB157_131 := ax (bm hg BK131.out); replace BK131 := ax (bb BK131.out hb); have NB132_157 := ax (bn hg BK132.out); have NB157_132 := ax (bm hg BK132.out); replace BK132 := ax (bb BK132.out hb); have NB133_157 := ax (bn hg BK133.out); have NB157_133 := ax (bm hg BK133.out); replace BK133 := ax (bb BK133.out hb); clear hb hbox hg
          refine hK.out _ _ ⟨(zai BK131.out 0).trans rfl, (zai BK131.out 1).trans rfl⟩ (fun hHeld => ?_)
          clear hK K
          refine nm ?_
          exact zc6 (by simp only [zco, Act.put, List.setIfInBounds_toArray, List.set_cons_zero, List.set_cons_succ]) (hCont (.slice Ao105 t154.length co105, gb157) _ ⟨hHeld, (by (with_reducible repeat (first | apply Kd.zbi | apply Kd.zbg | apply Kd.zbc)); exact Kd.za6 HO156.out (fun _ hk => ⟨hk.1.1, ⟨hk.1.2.1, ⟨hk.1.2.2.1, ⟨hk.1.2.2.2, hk.2⟩⟩⟩⟩)), (by (with_reducible repeat (first | apply Kd.zbi | apply Kd.zbg | apply Kd.zbc)); exact Kd.za6 HO_6.out bq), (xk BK131.out), (xk BK132.out), (xk BK133.out), (xk BK157.out), GW157.out, GE157.out, NB131_157.out, NB157_131.out, NB132_157.out, NB157_132.out, NB133_157.out, NB157_133.out, (bh HB.out)⟩)
         ·skip
          refine zce ?hg (N := 11) ?hd (cs := #[.int .i64 0, .slice none 0 0]) (t := 28) ?hr ?_; (case hd => rfl); (case hg => rfl); (case hr => first | (go_simp; done) | (go_simp; rfl))
          intro gb157 hg w104 hbox hb
          replace HO_6 := ax (Kd.zbx (Kd.zca (xN HO_6.out) gb157 (Nat.le_of_eq hg.symm)) hb); have BK157 := ax (hbox); have GW157 := ax ((by rw [hg]; exact (zaj (bh HB.out)) : w.heap.size ≤ gb157)); have GE157 := ax ((by rw [hg]; exact (zaj (bh HB.out)) : w.heap.size ≤ gb157)); replace HB := ax (zas (bh HB.out) hb); have NB131_157 := ax (bn hg BK131.out); have NB157_131 := ax (bm hg BK131.out); replace BK131 := ax (bb BK131.out hb); have NB132_157 := ax (bn hg BK132.out); have NB157_132 := ax (bm hg BK132.out); replace BK132 := ax (bb BK132.out hb); have NB133_157 := ax (bn hg BK133.out); have NB157_133 := ax (bm hg BK133.out); replace BK133 := ax (bb BK133.out hb); clear hb hbox hg
          refine hK.out _ _ ⟨(zai BK131.out 0).trans rfl, (zai BK131.out 1).trans rfl⟩ (fun hHeld => ?_)
          clear hK K
          refine nm ?_
          refine one_ (i := 3) (N := some 91) (xB 7 47) rfl rfl (by kernel_rfl) (by decide) (fun K hK => ?_)
          refine zbM Try.func27 (by kernel_rfl) rfl #[.slice Ao102 x6_2.length co102] (by rfl) rfl rfl xm ?_
          with_reducible refine (zaL.calls k2 (fun k_ => (((w.heap.size ≤ k_) ∧ (k_ ≠ gb131 ∧ (k_ ≠ gb132 ∧ k_ ≠ gb133))) ∧ k_ ≠ gb157)) _ _ x6_2 t154 _ ?side1 A76.out).mono ?_
          (case side1 => exact Kd.N_V (HO_6.out))
          rintro e w105 ⟨v155, rfl, ho0, hb⟩
          refine ⟨_, rfl, ?_⟩
          replace HO_6 := ax (Kd.zcO (xN HO_6.out) (by first | exact Kd.zdT ho0 | exact Kd.za9 ho0 | exact Kd.zcf ho0) hb); have HO156 := ax (Kd.zdv (Kd.za6 (ok' := fun k_ => (w.heap.size ≤ k_) ∧ k_ ≠ gb131 ∧ k_ ≠ gb132 ∧ k_ ≠ gb133 ∧ k_ ≠ gb157) ho0 (fun k_ hk_ => ⟨Or.elim hk_ (fun hs_ => hs_.1.1) (fun hn_ => (Nat.le_trans (zaj (bh HB.out)) hn_)), Or.elim hk_ (fun hs_ => hs_.1.2.1) (fun hn_ => (Kd.zbK (g := gb131) (o := .cells #[.int .i64 a0_0, .slice A0_1 l0_1.length c0_1] 28 (0, 0)) (xk BK131.out) k_ hn_)), Or.elim hk_ (fun hs_ => hs_.1.2.2.1) (fun hn_ => (Kd.zbK (g := gb132) (o := .cells #[.int .i64 a1_0, .slice A1_1 l1_1.length c1_1] 28 (0, 0)) (xk BK132.out) k_ hn_)), Or.elim hk_ (fun hs_ => hs_.1.2.2.2) (fun hn_ => (Kd.zbK (g := gb133) (o := .cells #[.int .i64 0, .slice none 0 0] 28 (0, 0)) (xk BK133.out) k_ hn_)), Or.elim hk_ (fun hs_ => hs_.2) (fun hn_ => (Kd.zbK (g := gb157) (o := .cells #[.int .i64 0, .slice none 0 0] 28 (0, 0)) (xk BK157.out) k_ hn_))⟩)) (zaj (bh HB.out))); replace BK131 := ax (bb BK131.out hb); replace BK132 := ax (bb BK132.out hb); replace BK133 := ax (bb BK133.out hb); replace BK157 := ax (bb BK157.out hb); replace HB := ax (zas (bh HB.out) hb)
          (try clear hb)
          (try clear hk)
          (try clear ho0)
          obtain ⟨Ao106, co106, eo106⟩ := Kd.zbp HO156.out
          (first | subst eo106 | (injection eo106 with f1_ f2_ f3_; have f4_ := f1_.symm; have f5_ := f3_.symm; clear f1_ f2_ f3_; subst f4_; subst f5_))
          refine hK.out _ _ ⟨(zai BK131.out 0).trans rfl, (zai BK131.out 1).trans rfl⟩ (fun hHeld => ?_)
          clear hK K
          refine nm ?_
          refine zdD (i := 4) (N := some 92) (v := ?_) (a' := ?_) (xB 7 63) rfl rfl (by kernel_rfl) (fun _ _ _ h => h) (Or.inl ⟨by rfl, ?_⟩) ?_ ?_
          rotate_left
          ·intro w'
           go_simp
           with_reducible rfl
          rotate_left
          ·simp only [Act.put, List.setIfInBounds_toArray, List.set_cons_zero, List.set_cons_succ, zbP, zb8]
           rfl
          exact zc6 (by simp only [zco, Act.put, List.setIfInBounds_toArray, List.set_cons_zero, List.set_cons_succ]) (hCont (.slice Ao106 t154.length co106, gb157) _ ⟨hHeld, (xN HO156.out), (by (with_reducible repeat (first | apply Kd.zbi | apply Kd.zbg | apply Kd.zbc)); exact Kd.za6 HO_6.out bq), (xk BK131.out), (xk BK132.out), (xk BK133.out), (xk BK157.out), GW157.out, GE157.out, NB131_157.out, NB157_131.out, NB132_157.out, NB157_132.out, NB133_157.out, NB157_133.out, (bh HB.out)⟩)
        rintro ⟨v155, gb157⟩ w107 ⟨hS_, h0_, h1_, h2_, h3_, h4_, h5_, h6_, h7_, h8_, h9_, h10_, h11_, h12_, h13_, h14_⟩
        have n0_ : zal (Kd.N k48 48 w107 w.heap.size (fun k_ => (w.heap.size ≤ k_) ∧ k_ ≠ gb131 ∧ k_ ≠ gb132 ∧ k_ ≠ gb133 ∧ k_ ≠ gb157) v155 t154) := ⟨h0_⟩
        have n1_ : zal (Kd.N k48 48 w107 w.heap.size (fun k_ => (w.heap.size ≤ k_) ∧ some k_ ≠ (v155 : Value).ownBlock ∧ k_ ≠ gb131 ∧ k_ ≠ gb132 ∧ k_ ≠ gb133 ∧ k_ ≠ gb157) (.slice Ao102 x6_2.length co102) x6_2) := ⟨h1_⟩
        have n2_ : zal (w107.heap[gb131]? = some (.cells #[.int .i64 a0_0, .slice A0_1 l0_1.length c0_1] 28 (0, 0))) := ⟨h2_⟩
        have n3_ : zal (w107.heap[gb132]? = some (.cells #[.int .i64 a1_0, .slice A1_1 l1_1.length c1_1] 28 (0, 0))) := ⟨h3_⟩
        have n4_ : zal (w107.heap[gb133]? = some (.cells #[.int .i64 0, .slice none 0 0] 28 (0, 0))) := ⟨h4_⟩
        have n5_ : zal (w107.heap[gb157]? = some (.cells #[.int .i64 0, .slice none 0 0] 28 (0, 0))) := ⟨h5_⟩
        have n6_ : zal (w.heap.size ≤ gb157) := ⟨h6_⟩
        have n7_ : zal (w.heap.size ≤ gb157) := ⟨h7_⟩
        have n8_ : zal (gb131 ≠ gb157) := ⟨h8_⟩
        have n9_ : zal (gb157 ≠ gb131) := ⟨h9_⟩
        have n10_ : zal (gb132 ≠ gb157) := ⟨h10_⟩
        have n11_ : zal (gb157 ≠ gb132) := ⟨h11_⟩
        have n12_ : zal (gb133 ≠ gb157) := ⟨h12_⟩
        have n13_ : zal (gb157 ≠ gb133) := ⟨h13_⟩
        have n14_ : zal (Below w.heap.size w w107) := ⟨h14_⟩
        clear HO_6 BK131 BK132 BK133 HB h0_ h1_ h2_ h3_ h4_ h5_ h6_ h7_ h8_ h9_ h10_ h11_ h12_ h13_ h14_
        have HO156 := n0_
        have HO_6 := n1_
        have BK131 := n2_
        have BK132 := n3_
        have BK133 := n4_
        have BK157 := n5_
        have GW157 := n6_
        have GE157 := n7_
        have NB131_157 := n8_
        have NB157_131 := n9_
        have NB132_157 := n10_
        have NB157_132 := n11_
        have NB133_157 := n12_
        have NB157_133 := n13_
        have HB := n14_
        clear n0_ n1_ n2_ n3_ n4_ n5_ n6_ n7_ n8_ n9_ n10_ n11_ n12_ n13_ n14_
        have hHeld : w107.cell? ⟨gb131, 0, none⟩ = some (.int .i64 a0_0) ∧ w107.cell? ⟨gb131, 1, none⟩ = some (.slice A0_1 l0_1.length c0_1) := hS_
        obtain ⟨Ao108, co108, eo108⟩ := Kd.zbp HO156.out
        (first | subst eo108 | (injection eo108 with f1_ f2_ f3_; have f4_ := f1_.symm; have f5_ := f3_.symm; clear f1_ f2_ f3_; subst f4_; subst f5_))
        refine zc6 (a' := ?_) ?_ ?_
        rotate_left
        ·simp only [zco, Act.put, List.setIfInBounds_toArray, List.set_cons_zero, List.set_cons_succ]
         rfl
        refine one_ (i := 6) (N := none) (xB 7 127) rfl rfl (by kernel_rfl) (by decide) (fun K hK => ?_)
        have hs109 : w107.cell? ⟨gb157, 0, none⟩ = some (.int .i64 0) := (zai BK157.out 0).trans rfl
        have hfs109 := zag BK157.out 0
        have hns109_0 := NB131_157.out
        have hns109_1 := NB132_157.out
        have hns109_2 := NB133_157.out
        have hms109_0 := NB157_131.out
        have hms109_1 := NB157_132.out
        have hms109_2 := NB157_133.out
        have hs110 : w107.cell? ⟨gb157, 1, none⟩ = some (.slice none 0 0) := (zai BK157.out 1).trans rfl
        have hfs110 := zag BK157.out 1
        have hns110_0 := NB131_157.out
        have hns110_1 := NB132_157.out
        have hns110_2 := NB133_157.out
        have hms110_0 := NB157_131.out
        have hms110_1 := NB157_132.out
        have hms110_2 := NB157_133.out
        refine zdz (w1 := ?_) (by rfl) rfl ?_ ?_
        rotate_left
        ·go_simp
         rfl
        refine hK.out _ _ ⟨((cell_far (p := ⟨gb157, _, none⟩) NB131_157.out _).trans (((cell_far (p := ⟨gb157, _, none⟩) NB131_157.out _).trans (hHeld.1)))), ((cell_far (p := ⟨gb157, _, none⟩) NB131_157.out _).trans (((cell_far (p := ⟨gb157, _, none⟩) NB131_157.out _).trans (hHeld.2))))⟩ (fun hHeld => ?_)
        clear hK K
        refine zb5 (by kernel_rfl) ?_
        have hnb111 := NB157_131.out
        have hnc111 := NB131_157.out
        have hnb112 := NB157_132.out
        have hnc112 := NB132_157.out
        have hnb113 := NB157_133.out
        have hnc113 := NB133_157.out
        have hcz114_0 := bc0 BK157.out
        have hcz114_1 := bc1 BK157.out
        have hfz114_0 := zag BK157.out 0
        have hfz114_1 := zag BK157.out 1
        try go_wp2_with (first | ((with_reducible refine zat (f := 25) rfl ?_); refine za2 (some 94) rfl rfl Try.func25 (by kernel_rfl) rfl #[.agg #[.int .i64 a0_0, .slice Ao108 t154.length co108]] rfl xm ?_; (with_reducible refine (zaH.calls k2 a0_0 _ _ t154 false _ ?side1 ?side2 A77.out).mono ?_); (case side1 => refine (Kd.zaC (e := 48) (base := w.heap.size) (ok := fun k_ => ((w.heap.size ≤ k_) ∧ (k_ ≠ gb131 ∧ (k_ ≠ gb132 ∧ (k_ ≠ gb133 ∧ k_ ≠ gb157))))) (n := t154.length) (c := co108) ?_).2.2; exact (by (with_reducible repeat (first | apply Kd.zbi | apply Kd.zbg | apply Kd.zbc)); exact (Kd.za6 (Kd.zb9 (p := ⟨gb157, 1, none⟩) (Kd.zb9 (p := ⟨gb157, 0, none⟩) (Kd.za6 HO156.out (fun k_ hk => (⟨hk, hk.2.2.2.2⟩ : _ ∧ k_ ≠ gb157))) (fun _ hk => hk.2) (.int .i64 a0_0)) (fun _ hk => hk.2) (.slice Ao108 t154.length co108)) (fun _ h_ => h_.1)))); (case side2 => exact (Kd.zaC HO156.out).2.1); rintro e w115 ⟨rfl, hb⟩; refine ⟨_, rfl, ?_⟩; replace HO_6 := ax (Kd.zbx (by (with_reducible repeat (first | apply Kd.zbi | apply Kd.zbg | apply Kd.zbc)); exact (Kd.za6 (Kd.zb9 (p := ⟨gb157, 1, none⟩) (Kd.zb9 (p := ⟨gb157, 0, none⟩) (Kd.za6 HO_6.out (fun k_ hk => (⟨hk, hk.2.2.2.2.2⟩ : _ ∧ k_ ≠ gb157))) (fun _ hk => hk.2) (.int .i64 a0_0)) (fun _ hk => hk.2) (.slice Ao108 t154.length co108)) (fun _ h_ => h_.1))) hb); replace HO156 := ax (Kd.zbx (by (with_reducible repeat (first | apply Kd.zbi | apply Kd.zbg | apply Kd.zbc)); exact (Kd.za6 (Kd.zb9 (p := ⟨gb157, 1, none⟩) (Kd.zb9 (p := ⟨gb157, 0, none⟩) (Kd.za6 HO156.out (fun k_ hk => (⟨hk, hk.2.2.2.2⟩ : _ ∧ k_ ≠ gb157))) (fun _ hk => hk.2) (.int .i64 a0_0)) (fun _ hk => hk.2) (.slice Ao108 t154.length co108)) (fun _ h_ => h_.1))) hb); replace BK131 := ax (zaZ (g := gb131) (o := .cells #[.int .i64 a0_0, .slice A0_1 l0_1.length c0_1] 28 (0, 0)) (by (with_reducible repeat (first | refine zah ?_ _ | refine zad ?_ | refine zae ?_ _)); refine zaD ?_ NB131_157.out _; (with_reducible repeat (first | refine zah ?_ _ | refine zad ?_ | refine zae ?_ _)); refine zaD ?_ NB131_157.out _; (with_reducible repeat (first | refine zah ?_ _ | refine zad ?_ | refine zae ?_ _)); exact BK131.out) hb); replace BK132 := ax (zaZ (g := gb132) (o := .cells #[.int .i64 a1_0, .slice A1_1 l1_1.length c1_1] 28 (0, 0)) (by (with_reducible repeat (first | refine zah ?_ _ | refine zad ?_ | refine zae ?_ _)); refine zaD ?_ NB132_157.out _; (with_reducible repeat (first | refine zah ?_ _ | refine zad ?_ | refine zae ?_ _)); refine zaD ?_ NB132_157.out _; (with_reducible repeat (first | refine zah ?_ _ | refine zad ?_ | refine zae ?_ _)); exact BK132.out) hb); replace BK133 := ax (zaZ (g := gb133) (o := .cells #[.int .i64 0, .slice none 0 0] 28 (0, 0)) (by (with_reducible repeat (first | refine zah ?_ _ | refine zad ?_ | refine zae ?_ _)); refine zaD ?_ NB133_157.out _; (with_reducible repeat (first | refine zah ?_ _ | refine zad ?_ | refine zae ?_ _)); refine zaD ?_ NB133_157.out _; (with_reducible repeat (first | refine zah ?_ _ | refine zad ?_ | refine zae ?_ _)); exact BK133.out) hb); replace BK157 := ax (zaZ (g := gb157) (o := .cells #[.int .i64 a0_0, .slice Ao108 t154.length co108] 28 (0, 0)) (by (with_reducible repeat (first | refine zah ?_ _ | refine zad ?_ | refine zae ?_ _)); refine zba (cs := #[.int .i64 a0_0, .slice none 0 0]) ?_ 1 _ rfl; (with_reducible repeat (first | refine zah ?_ _ | refine zad ?_ | refine zae ?_ _)); refine zba (cs := #[.int .i64 0, .slice none 0 0]) ?_ 0 _ rfl; (with_reducible repeat (first | refine zah ?_ _ | refine zad ?_ | refine zae ?_ _)); exact BK157.out) hb); replace HB := ax (zas (bh HB.out) hb); (try clear hb); have hnb116 := NB133_132.out; have hnc116 := NB132_133.out; have hcz117_0 := bc0 BK133.out; have hcz117_1 := bc1 BK133.out; have hfz117_0 := zag BK133.out 0; have hfz117_1 := zag BK133.out 1))
        refine bodyPost_ret (zcB rfl _ _ gb133 28 #[.int .i64 0, .slice none 0 0] (0, 0) _ rfl (by (with_reducible repeat (first | refine zah ?_ _ | refine zad ?_ | refine zae ?_ _)); refine zba (cs := #[.int .i64 0, .slice none 0 0]) ?_ 1 _ rfl; (with_reducible repeat (first | refine zah ?_ _ | refine zad ?_ | refine zae ?_ _)); refine zba (cs := #[.int .i64 0, .slice none 0 0]) ?_ 0 _ rfl; (with_reducible repeat (first | refine zah ?_ _ | refine zad ?_ | refine zae ?_ _)); exact BK133.out) Try.underlying28 rfl (by kernel_rfl)) rfl ?_
        exact ⟨_, xe, by first | exact Kd.zhK _ _ _ _ _ | exact Kd.zhP _ _ _ _ _ | exact Kd.zhH _ _ _ _ _ | exact Kd.ziu _ _ _ _ _ | exact Kd.zeK _ _ _ _ _, bh HB.out⟩
theorem zam.calls (k : Nat) (a0_0 : Int) (A0_1 : Option Addr) (c0_1 : Nat) (l0_1 : List (S48)) (a1_0 : Int) (A1_1 : Option Addr) (c1_1 : Nat) (l1_1 : List (S48)) (r1 : Int) (r2 : List (S48)) (r3 : Bool) (w : World) (hr0_1 : Kd.C k48 w A0_1 l0_1.length l0_1) (hc0_1 : l0_1.length ≤ c0_1) (hr1_1 : Kd.C k48 w A1_1 l1_1.length l1_1) (hc1_1 : l1_1.length ≤ c1_1) (h : zam.f k a0_0 l0_1 a1_0 l1_1 = some (r1, r2, r3)) :
  Calls Try.prog 8 #[.agg #[.int .i64 a0_0, .slice A0_1 l0_1.length c0_1], .agg #[.int .i64 a1_0, .slice A1_1 l1_1.length c1_1]] w fun e w' => ∃ v1_ : Value, e = .returned (.tuple #[.agg #[.int .i64 r1, v1_], .bool r3]) ∧ Kd.V k48 48 w' w.heap.size (fun k_ => (w.heap.size ≤ k_)) v1_ r2 ∧ Below w.heap.size w w' := by
 refine (zam.zjF k a0_0 A0_1 c0_1 l0_1 a1_0 A1_1 c1_1 l1_1 r1 r2 r3 w hr0_1 hc0_1 hr1_1 hc1_1 h).mono ?_
 rintro e w' ⟨v_, h1, h2, h3⟩
 exact ⟨v_, h1, Kd.N_V h2, h3⟩


end Go.Proofs.Ytneipehcmmigeaa.PFnExactTimesPolys
