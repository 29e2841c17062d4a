import Derived.Test.YtneipehcmmigeaaPFnExactSchurPolyx6
namespace Go.Proofs.Ytneipehcmmigeaa.PFnExactSchurPoly
open Go.RowKit Go.Proofs.YtneipehcmmigeaaW.PrintWords Go.Proofs.YtneipehcmmigeaaW.PrintLast Go.Proofs.YtneipehcmmigeaaW.PrintMore
set_option linter.unusedVariables false
set_option linter.unusedSimpArgs false
set_option maxHeartbeats 8000000
set_option maxRecDepth 100000
/-! ### zax: function 21 -/
mutual
def zax.j0 : Nat → Int → Bool → List Int → List Int → Option (Int × (List (S48)) × Bool)
 | 0, _, _, _, _ => none
 | k + 1, x1, x17, x1001, x1002 => if x17 = true then (some (0, ([] : List (S48)), false)) else ((zbF.f k x1001 x1002).bind fun t245 => ((zaD.f k x1 t245).bind fun t246 => (zax.l0 k t246 0 x1001 x1002 x1 ([] : List (S48)))))
def zax.l0 : Nat → List (List Int) → Int → List Int → List Int → Int → List (S48) → Option (Int × (List (S48)) × Bool)
 | 0, _, _, _, _, _, _ => none
 | k + 1, x7, x8, x1001, x1002, x1003, x1000 => if x8 < (x7.length : Int) then (if 0 ≤ x8 then ((zbm.f k x1001 x1002 (zbX x7 x8)).bind fun t250 => (if t250 > 0 then (if x1000.length < 4398046511104 then (zax.l0 k x7 (wrap64 (x8 + 1)) x1001 x1002 x1003 (x1000 ++ [(⟨zbX x7 x8, t250⟩ : S48)])) else (none)) else (zax.l0 k x7 (wrap64 (x8 + 1)) x1001 x1002 x1003 x1000))) else (none)) else (if zeb x1000 = true then (some (x1003, x1000, true)) else (none))
end
def zax.f (k : Nat) (l0_0 : List Int) (l0_1 : List Int) (a1 : Int) : Option (Int × (List (S48)) × Bool) := (za9.f k l0_0 l0_1).bind fun t242 => (if t242 = true then ((zch.f a1 1 4).bind fun t243 => (zax.j0 k a1 (!t243) l0_0 l0_1)) else (zax.j0 k a1 true l0_0 l0_1))
theorem zax.zaZ : ∀ k, (∀ y0 y1 y2 y3, LeO (zax.j0 k y0 y1 y2 y3) (zax.j0 (k + 1) y0 y1 y2 y3)) ∧ (∀ y0 y1 y2 y3 y4 y5, LeO (zax.l0 k y0 y1 y2 y3 y4 y5) (zax.l0 (k + 1) y0 y1 y2 y3 y4 y5))
 | 0 => ⟨fun _ _ _ _ r h => by simp [zax.j0] at h, fun _ _ _ _ _ _ r h => by simp [zax.l0] at h⟩
 | k + 1 => by
  obtain ⟨ih0, ih1⟩ := zax.zaZ k
  refine ⟨?_, ?_⟩ <;> intros <;> (first | unfold zax.j0 | unfold zax.l0) <;> repeat' with_reducible first | exact ih0 _ _ _ _ | exact ih1 _ _ _ _ _ _ | exact zbF.mono _ _ _ | exact za9.mono _ _ _ | exact zbm.mono _ _ _ _ | exact zaD.mono _ _ _ | exact xl | refine LeO.ite ?_ ?_ | refine LeO.bind ?_ fun _ => ?_
theorem zax.mono : ∀ a0 a1 a2 k, LeO (zax.f k a0 a1 a2) (zax.f (k + 1) a0 a1 a2) := by
 intro a0 a1 a2 k
 obtain ⟨ih0, ih1⟩ := zax.zaZ k
 unfold zax.f
 repeat' with_reducible first | exact ih0 _ _ _ _ | exact ih1 _ _ _ _ _ _ | exact zbF.mono _ _ _ | exact za9.mono _ _ _ | exact zbm.mono _ _ _ _ | exact zaD.mono _ _ _ | exact xl | refine LeO.ite ?_ ?_ | refine LeO.bind ?_ fun _ => ?_
def zax.T10 : Bool × List (List Nat × List Nat) := (true, [([], []), ([0], [0]), ([], []), ([], []), ([2, 3], [2, 3]), ([4], [4]), ([], []), ([5, 6], [5, 6]), ([7], [7]), ([1, 8], [1, 8]), ([0, 1, 2, 3, 4, 5, 6, 7, 8, 9], []), ([10, 9, 9, 0, 1, 2, 3, 4, 5, 6, 7, 8, 9], [9, 10])])
def zax.B10 : List Nat := [0, 1, 0, 0, 12, 28, 0, 124, 252, 511, 1023, 2047]
theorem zax.zi6 : rtab .any (opsOf Try.f21 10) = zax.T10 := by kernel_rfl
theorem zax.zg7 : zcm zax.T10.2 zax.B10 = true := by kernel_rfl
theorem zax.calls (k : Nat) (A0_0 : Option Addr) (c0_0 : Nat) (l0_0 : List Int) (A0_1 : Option Addr) (c0_1 : Nat) (l0_1 : List Int) (a1 : Int) (r1 : Int) (r2 : List (S48)) (r3 : Bool) (w : World) (hr0_0 : Kd.C (Kd.int .i64) w A0_0 l0_0.length l0_0) (hc0_0 : l0_0.length ≤ c0_0) (hr0_1 : Kd.C (Kd.int .i64) w A0_1 l0_1.length l0_1) (hc0_1 : l0_1.length ≤ c0_1) (h : zax.f k l0_0 l0_1 a1 = some (r1, r2, r3)) :
  Calls Try.prog 21 #[.agg #[.slice A0_0 l0_0.length c0_0, .slice A0_1 l0_1.length c0_1], .int .i64 a1] w fun e w' => ∃ v1_ : Value, e = .returned (.tuple #[.agg #[.int .i64 r1, v1_], .bool r3]) ∧ Kd.S k48 48 w' w.heap.size (fun _ => True) v1_ r2 ∧ Below w.heap.size w w' := by
 have hu40 := Try.underlying40
 have hu28 := Try.underlying28
 have hu48 := Try.underlying48
 have HR0_0 := ax hr0_0
 have HC0_0 := ax hc0_0
 clear hr0_0 hc0_0
 have HR0_1 := ax hr0_1
 have HC0_1 := ax hc0_1
 clear hr0_1 hc0_1
 have HB := ax (Below.refl w.heap.size w)
 have H : ((za9.f k l0_0 l0_1).bind fun t242 => (if t242 = true then ((zch.f a1 1 4).bind fun t243 => (zax.j0 k a1 (!t243) l0_0 l0_1)) else (zax.j0 k a1 true l0_0 l0_1))) = some (r1, r2, r3) := h
 clear h
 have HC3 := ax H
 clear H
 go_enter Try.func21, Try.ntmps21
 go_upto_region 1 with (first | ((with_reducible refine zaG (N := 2) rfl ?_); refine zaK ?hg (N := 2) ?hd (cs := #[.slice A0_0 l0_0.length c0_0, .slice A0_1 l0_1.length c0_1]) (t := 40) ?hr ?_; (case hd => rfl); (case hg => rfl); (case hr => first | (go_simp; done) | (go_simp; rfl)); intro gb240 hg w4 hbox hb; have BK240 := ax (hbox); have GW240 := ax ((by rw [hg]; exact (zaf (xb HB.out)) : w.heap.size ≤ gb240)); have GE240 := ax ((by rw [hg]; exact (zaf (xb HB.out)) : w.heap.size ≤ gb240)); replace HB := yB HB hb; clear hb hbox hg) | ((with_reducible refine zaG (N := 4) rfl ?_); refine zaK ?hg (N := 4) ?hd (cs := #[.int .i64 0, .slice none 0 0]) (t := 28) ?hr ?_; (case hd => rfl); (case hg => rfl); (case hr => first | (go_simp; done) | (go_simp; rfl)); intro gb241 hg w5 hbox hb; have BK241 := ax (hbox); have GW241 := ax ((by rw [hg]; exact (zaf (xs HB.out GE240.out)) : w.heap.size ≤ gb241)); have GE241 := ax ((by rw [hg]; exact (zaf (xs HB.out GE240.out)) : w.heap.size ≤ gb241)); replace HB := ax (zat (xs HB.out GE240.out) hb); have NB240_241 := ax (bn hg BK240.out); have NB241_240 := ax (bm hg BK240.out); replace BK240 := ax (bb BK240.out hb); clear hb hbox hg))
 (try simp only [Act.put, List.setIfInBounds_toArray, List.set_cons_zero, List.set_cons_succ])
 go_cut [17] (fun v17 wc => ∃ (kq : Nat) (x17_2 : Bool), v17 = .bool x17_2 ∧ zao (zax.j0 kq a1 x17_2 l0_0 l0_1 = some (r1, r2, r3)) ∧ zao (kq ≤ k) ∧ zao (wc.heap[gb240]? = some (.cells #[(.slice A0_0 l0_0.length c0_0), (.slice A0_1 l0_1.length c0_1)] 40 (0, 0))) ∧ zao (wc.heap[gb241]? = some (.cells #[.int .i64 0, (.slice none 0 0)] 28 (0, 0))) ∧ zao (Below w.heap.size w wc))
 case first =>
  have H := HC3.out
  clear HC3
  obtain ⟨t242, A6, H⟩ := xI H
  by_cases c7 : t242 = true
  ·subst c7
   rw [if_pos rfl] at H
   obtain ⟨t243, A8, H⟩ := xI H
   have H' := ax H
   clear H
   have hnb9 := NB240_241.out
   have hnc9 := NB241_240.out
   have hcz10_0 := bc0 BK240.out
   have hcz10_1 := bc1 BK240.out
   have hfz10_0 := zae BK240.out 0
   have hfz10_1 := zae BK240.out 1
   go_wp2_with (first | ((with_reducible refine zan (f := 37) rfl ?_); refine zaM (some 11) rfl rfl Try.func37 (by kernel_rfl) rfl #[.agg #[.slice A0_0 l0_0.length c0_0, .slice A0_1 l0_1.length c0_1]] rfl xm ?_; (with_reducible refine (za9.calls k _ _ l0_0 _ _ l0_1 true _ ?side1 ?side2 ?side3 ?side4 A6.out).mono ?_); (case side1 => exact xz HR0_0.out HB.out); (case side2 => exact HC0_0.out); (case side3 => exact xz HR0_1.out HB.out); (case side4 => exact HC0_1.out); rintro e w11 ⟨rfl, hb⟩; refine ⟨_, rfl, ?_⟩; replace BK240 := ax (bb BK240.out hb); replace BK241 := ax (bb BK241.out hb); replace HB := ax (zat (bh HB.out) hb); (try clear hb)) | (go_at_call 38; (with_reducible refine (zch.calls a1 1 4 t243 _ A8.out).mono ?_); rintro e w' ⟨rfl, ⟨nd, rfl⟩⟩))
   go_meet
   case rel => exact ⟨_, (!t243), xr, H', ⟨by first | omega | exact Nat.le_refl _⟩, ⟨xk BK240.out⟩, ⟨xk BK241.out⟩, ⟨bh HB.out⟩⟩
  ·replace c7 := Bool.eq_false_iff.mpr c7
   subst c7
   rw [if_neg (show ¬ (false = true) by decide)] at H
   have H' := ax H
   clear H
   have hnb12 := NB240_241.out
   have hnc12 := NB241_240.out
   have hcz13_0 := bc0 BK240.out
   have hcz13_1 := bc1 BK240.out
   have hfz13_0 := zae BK240.out 0
   have hfz13_1 := zae BK240.out 1
   go_wp2_with (first | ((with_reducible refine zan (f := 37) rfl ?_); refine zaM (some 11) rfl rfl Try.func37 (by kernel_rfl) rfl #[.agg #[.slice A0_0 l0_0.length c0_0, .slice A0_1 l0_1.length c0_1]] rfl xm ?_; (with_reducible refine (za9.calls k _ _ l0_0 _ _ l0_1 false _ ?side1 ?side2 ?side3 ?side4 A6.out).mono ?_); (case side1 => exact xz HR0_0.out HB.out); (case side2 => exact HC0_0.out); (case side3 => exact xz HR0_1.out HB.out); (case side4 => exact HC0_1.out); rintro e w14 ⟨rfl, hb⟩; refine ⟨_, rfl, ?_⟩; replace BK240 := ax (bb BK240.out hb); replace BK241 := ax (bb BK241.out hb); replace HB := ax (zat (bh HB.out) hb); (try clear hb)))
   go_meet
   case rel => exact ⟨_, (true), xr, H', ⟨by first | omega | exact Nat.le_refl _⟩, ⟨xk BK240.out⟩, ⟨xk BK241.out⟩, ⟨bh HB.out⟩⟩
 case rest =>
  clear HC3
  (try clear c7); (try clear hcz10_0); (try clear hcz10_1); (try clear hcz13_0); (try clear hcz13_1); (try clear hfz10_0); (try clear hfz10_1); (try clear hfz13_0); (try clear hfz13_1)
  obtain ⟨kq, x17_2, rfl, HA, HJ2, BK240, BK241, HB⟩ := hcut
  cases kq with
  | zero => exact absurd HA.out (by simp [zax.j0])
  | succ kj2 =>
   have H := HA.out
   clear HA
   simp only [zax.j0] at H
   by_cases c15 : x17_2 = true
   ·subst c15
    rw [if_pos rfl] at H
    simp only [Option.some.injEq, Prod.mk.injEq] at H
    obtain ⟨rfl, rfl, rfl⟩ := H
    have hnb16 := NB241_240.out
    have hnc16 := NB240_241.out
    have hcz17_0 := bc0 BK241.out
    have hcz17_1 := bc1 BK241.out
    have hfz17_0 := zae BK241.out 0
    have hfz17_1 := zae BK241.out 1
    go_wp2
    refine bodyPost_ret (zdR rfl _ _ gb241 28 #[.int .i64 0, .slice none 0 0] (0, 0) _ rfl (by (with_reducible repeat (first | refine zak ?_ _ | refine zal ?_ | refine zai ?_ _)); refine zbz (cs := #[.int .i64 0, .slice none 0 0]) ?_ 1 _ rfl; (with_reducible repeat (first | refine zak ?_ _ | refine zal ?_ | refine zai ?_ _)); refine zbz (cs := #[.int .i64 0, .slice none 0 0]) ?_ 0 _ rfl; (with_reducible repeat (first | refine zak ?_ _ | refine zal ?_ | refine zai ?_ _)); exact BK241.out) Try.underlying28 rfl (by kernel_rfl)) rfl ?_
    exact ⟨_, xe, by first | exact Kd.zgM _ _ _ _ _ | exact Kd.zgs _ _ _ _ _ | exact Kd.zgK _ _ _ _ _ | exact Kd.zgO _ _ _ _ _ | exact Kd.zeJ _ _ _ _ _, bh HB.out⟩
   ·replace c15 := Bool.eq_false_iff.mpr c15
    subst c15
    rw [if_neg (show ¬ (false = true) by decide)] at H
    obtain ⟨t245, A18, H⟩ := xI H
    obtain ⟨t246, A19, H⟩ := xI H
    have H' := ax H
    clear H
    go_wp2_with (first | ((with_reducible refine zaG (N := 6) rfl ?_); refine zaK ?hg (N := 6) ?hd (cs := #[.int .i64 0, .slice none 0 0]) (t := 28) ?hr ?_; (case hd => rfl); (case hg => rfl); (case hr => first | (go_simp; done) | (go_simp; rfl)); intro gb244 hg w20 hbox hb; have BK244 := ax (hbox); have GW244 := ax ((by rw [hg]; exact (zaf (bh HB.out)) : w.heap.size ≤ gb244)); have GE244 := ax ((by rw [hg]; exact (zaf (bh HB.out)) : w.heap.size ≤ gb244)); replace HB := ax (zat (bh HB.out) hb); have NB240_244 := ax (bn hg BK240.out); have NB244_240 := ax (bm hg BK240.out); replace BK240 := ax (bb BK240.out hb); have NB241_244 := ax (bn hg BK241.out); have NB244_241 := ax (bm hg BK241.out); replace BK241 := ax (bb BK241.out hb); clear hb hbox hg; have hnb21 := NB244_240.out; have hnc21 := NB240_244.out; have hnb22 := NB244_241.out; have hnc22 := NB241_244.out; have hcz23_0 := bc0 BK244.out; have hcz23_1 := bc1 BK244.out; have hfz23_0 := zae BK244.out 0; have hfz23_1 := zae BK244.out 1; have hnb24 := NB240_241.out; have hnc24 := NB241_240.out; have hcz25_0 := bc0 BK240.out; have hcz25_1 := bc1 BK240.out; have hfz25_0 := zae BK240.out 0; have hfz25_1 := zae BK240.out 1) | ((with_reducible refine zan (f := 47) rfl ?_); refine zaM (some 23) rfl rfl Try.func47 (by kernel_rfl) rfl #[.agg #[.slice A0_0 l0_0.length c0_0, .slice A0_1 l0_1.length c0_1]] rfl xm ?_; (with_reducible refine (zbF.calls kj2 _ _ l0_0 _ _ l0_1 t245 _ ?side1 ?side2 ?side3 ?side4 A18.out).mono ?_); (case side1 => exact Kd.za8 HR0_0.out (bh HB.out)); (case side2 => exact HC0_0.out); (case side3 => exact Kd.za8 HR0_1.out (bh HB.out)); (case side4 => exact HC0_1.out); rintro e w26 ⟨rfl, hb⟩; refine ⟨_, rfl, ?_⟩; replace BK240 := ax (zbt (g := gb240) (o := .cells #[.slice A0_0 l0_0.length c0_0, .slice A0_1 l0_1.length c0_1] 40 (0, 0)) (by (with_reducible repeat (first | refine zak ?_ _ | refine zal ?_ | refine zai ?_ _)); refine zbb ?_ NB240_244.out _; (with_reducible repeat (first | refine zak ?_ _ | refine zal ?_ | refine zai ?_ _)); refine zbb ?_ NB240_244.out _; (with_reducible repeat (first | refine zak ?_ _ | refine zal ?_ | refine zai ?_ _)); exact BK240.out) hb); replace BK241 := ax (zbt (g := gb241) (o := .cells #[.int .i64 0, .slice none 0 0] 28 (0, 0)) (by (with_reducible repeat (first | refine zak ?_ _ | refine zal ?_ | refine zai ?_ _)); refine zbb ?_ NB241_244.out _; (with_reducible repeat (first | refine zak ?_ _ | refine zal ?_ | refine zai ?_ _)); refine zbb ?_ NB241_244.out _; (with_reducible repeat (first | refine zak ?_ _ | refine zal ?_ | refine zai ?_ _)); exact BK241.out) hb); replace BK244 := ax (zbt (g := gb244) (o := .cells #[.int .i64 a1, .slice none 0 0] 28 (0, 0)) (by (with_reducible repeat (first | refine zak ?_ _ | refine zal ?_ | refine zai ?_ _)); refine zbz (cs := #[.int .i64 a1, .slice none 0 0]) ?_ 1 _ rfl; (with_reducible repeat (first | refine zak ?_ _ | refine zal ?_ | refine zai ?_ _)); refine zbz (cs := #[.int .i64 0, .slice none 0 0]) ?_ 0 _ rfl; (with_reducible repeat (first | refine zak ?_ _ | refine zal ?_ | refine zai ?_ _)); exact BK244.out) hb); replace HB := ax (zat (bh HB.out) hb); (try clear hb)) | ((with_reducible refine zan (f := 46) rfl ?_); refine zaM (some 24) rfl rfl Try.func46 (by kernel_rfl) rfl #[.int .i64 a1, .int .i64 t245] rfl xm ?_; (with_reducible refine (zaD.calls kj2 a1 t245 t246 _ A19.out).mono ?_); rintro e w27 ⟨v247, rfl, ho0, hb⟩; refine ⟨_, rfl, ?_⟩; have HO248 := ax (Kd.zjC (Kd.S_R (Kd.zcZ (Kd.zbr (ok' := fun k_ => (w.heap.size ≤ k_) ∧ k_ ≠ gb240 ∧ k_ ≠ gb241 ∧ k_ ≠ gb244) (Kd.zdh ho0) (fun k_ hk_ => ⟨(Nat.le_trans (zaf (bh HB.out)) hk_.2.1), (Kd.zb9 (g := gb240) (o := .cells #[.slice A0_0 l0_0.length c0_0, .slice A0_1 l0_1.length c0_1] 40 (0, 0)) (xk BK240.out) k_ hk_.2.1), (Kd.zb9 (g := gb241) (o := .cells #[.int .i64 0, .slice none 0 0] 28 (0, 0)) (xk BK241.out) k_ hk_.2.1), (Kd.zb9 (g := gb244) (o := .cells #[.int .i64 a1, .slice none 0 0] 28 (0, 0)) (xk BK244.out) k_ hk_.2.1)⟩)) (zaf (bh HB.out))))); replace BK240 := ax (bb BK240.out hb); replace BK241 := ax (bb BK241.out hb); replace BK244 := ax (bb BK244.out hb); replace HB := ax (zat (bh HB.out) hb); (try clear hb); (try clear ho0)))
    go_loopg [8] kj2 (fun kq v8 w' => ∃ (x8_2 : Int) (x1000_2 : List (S48)) (u1000 : Value), v8 = .int .i64 x8_2 ∧ zao (zax.l0 kq t246 x8_2 l0_0 l0_1 a1 x1000_2 = some (r1, r2, r3)) ∧ zao (kq ≤ kj2) ∧ zao (Kd.N (Kd.zcs w.heap.size (Kd.slice 3 (Kd.int .i64))) 35 w' w.heap.size (fun k_ => (w.heap.size ≤ k_) ∧ some k_ ≠ (u1000 : Value).ownBlock ∧ k_ ≠ gb240 ∧ k_ ≠ gb241 ∧ k_ ≠ gb244) v247 t246) ∧ zao (Kd.N (Kd.zcs w.heap.size k48) 48 w' w.heap.size (fun k_ => (w.heap.size ≤ k_) ∧ some k_ ≠ (v247 : Value).ownBlock ∧ k_ ≠ gb240 ∧ k_ ≠ gb241 ∧ k_ ≠ gb244) u1000 x1000_2) ∧ zao (w'.heap[gb240]? = some (.cells #[(.slice A0_0 l0_0.length c0_0), (.slice A0_1 l0_1.length c0_1)] 40 (0, 0))) ∧ zao (w'.heap[gb241]? = some (.cells #[.int .i64 0, (.slice none 0 0)] 28 (0, 0))) ∧ zao (w'.heap[gb244]? = some (.cells #[.int .i64 a1, u1000] 28 (0, 0))) ∧ zao (Below w.heap.size w w'))
    case atStart => exact ⟨(0), (([] : List (S48))), (.slice none 0 0), xr, H', ⟨Nat.le_refl _⟩, ⟨by (with_reducible repeat (first | apply Kd.za4 | apply Kd.za3 | apply Kd.zaY)); exact Kd.zaQ HO248.out (fun _ hk => ⟨hk.1, ⟨(by simp [Value.ownBlock]), ⟨hk.2.1, ⟨hk.2.2.1, hk.2.2.2⟩⟩⟩⟩)⟩, ⟨by first | exact Kd.zgM _ _ _ _ _ | exact Kd.zgs _ _ _ _ _ | exact Kd.zgK _ _ _ _ _ | exact Kd.zgO _ _ _ _ _ | exact Kd.zeJ _ _ _ _ _⟩, ⟨xk BK240.out⟩, ⟨xk BK241.out⟩, ⟨xk BK244.out⟩, ⟨bh HB.out⟩⟩
    case round =>
     clear H'
     (try clear c7); (try clear c15); (try clear hcz10_0); (try clear hcz10_1); (try clear hcz13_0); (try clear hcz13_1); (try clear hcz17_0); (try clear hcz17_1); (try clear hcz23_0); (try clear hcz23_1); (try clear hcz25_0); (try clear hcz25_1); (try clear hfz10_0); (try clear hfz10_1); (try clear hfz13_0); (try clear hfz13_1); (try clear hfz17_0); (try clear hfz17_1); (try clear hfz23_0); (try clear hfz23_1); (try clear hfz25_0); (try clear hfz25_1)
     obtain ⟨x8_2, x1000_2, u1000, rfl, HA, HK2, HO_7, HO_1000, BK240, BK241, BK244, HB⟩ := hrel
     cases gk with
     | zero => exact absurd HA.out (by simp [zax.l0])
     | succ k2 =>
      have H := HA.out
      clear HA
      simp only [zax.l0] at H
      by_cases c28 : x8_2 < (t246.length : Int)
      ·rw [if_pos c28] at H
       have c28b0 := decide_eq_true c28
       clear c28
       obtain ⟨c29b0, H⟩ := xq H
       obtain ⟨t250, A30, H⟩ := xI H
       by_cases c31 : t250 > 0
       ·rw [if_pos c31] at H
        have c31b0 : decide (0 < t250) = true := decide_eq_true c31
        clear c31
        obtain ⟨c32, H⟩ := xp H
        have LMc32 := ax c32
        clear c32
        obtain ⟨y252, hy252⟩ : ∃ y_ : List (S48), y_ = (x1000_2 ++ [(⟨zbX t246 x8_2, t250⟩ : S48)]) := ⟨_, rfl⟩
        replace H : (zax.l0 k2 t246 (wrap64 (x8_2 + 1)) l0_0 l0_1 a1 y252) = some (r1, r2, r3) := xv hy252 H
        have Ny252 := ax hy252
        clear hy252
        have H' := ax H
        clear H
        obtain ⟨Ao33, co33, eo33⟩ := Kd.zbx HO_7.out
        subst eo33
        try go_wp2
        replace HO_7 := ax (Kd.zaY HO_7.out); replace HO_1000 := ax (Kd.zaY HO_1000.out); replace BK240 := ax (zal BK240.out); replace BK241 := ax (zal BK241.out); replace BK244 := ax (zal BK244.out); replace HB := ax (zba HB.out)
        have p249 : 0 ≤ (x8_2 : Int) := xd
        have q249 : x8_2 < (t246.length : Int) := xd
        obtain ⟨ad249, A249_0, c249_0, e249, hx249_0, hl249_0, hi249_0⟩ := zfa (Kd.zay (Kd.zcC HO_7.out)).2.2 x8_2 p249 q249
        cases e249
        obtain ⟨ce249, hce249, hMe249, hcc249⟩ := Kd.zcl HO_7.out [] x8_2 p249 (by first | exact q249 | exact xd | (have e_ := (Kd.zay HO_7.out).1; omega))
        obtain ⟨ua249_0, uc249_0, rfl, ul249_0, ge249_0⟩ := Kd.zcg (Kd.zcb hMe249)
        have hv249_0 := hcc249 0 _ rfl
        rw [Nat.add_zero, show ((Kd.zcs w.heap.size (Kd.slice 3 (Kd.int .i64)))).sz = 1 from rfl, Nat.mul_one] at hv249_0
        replace hv249_0 := Option.some.inj (hv249_0.symm.trans hx249_0)
        injection hv249_0 with hva_ hvn_ hvc_
        rw [hva_] at ge249_0
        rw [hvc_] at ul249_0
        have HL249_0 := ax (show Kd.V (Kd.int .i64) 3 _ w.heap.size _ _ (zbX t246 x8_2) from Kd.V_mk ul249_0 ge249_0)
        clear hva_ hvn_ hvc_ ge249_0 ul249_0 hcc249 hce249
        have HR249_0 := ax hi249_0
        have HC249_0 := ax hl249_0
        clear hi249_0 hl249_0
        replace p249 := eq_true p249
        replace q249 := eq_true q249
        refine zcj (n := 7) (S := fun w' => w'.cell? ⟨gb240, 0, none⟩ = some (.slice A0_0 l0_0.length c0_0) ∧ w'.cell? ⟨gb240, 1, none⟩ = some (.slice A0_1 l0_1.length c0_1) ∧ w'.cell? (ad249.add (x8_2).toNat) = some (.slice A249_0 (zbX t246 x8_2).length c249_0)) (ds := []) (xB 7 0) (by kernel_rfl) rfl (by kernel_rfl) ⟨(zaC BK240.out 0).trans rfl, (zaC BK240.out 1).trans rfl, hx249_0⟩ (fun hHeld => ?_)
        generalize wr.drew = w34 at HO_7 HO_1000 BK240 BK241 BK244 HB HL249_0 HR249_0 hx249_0 hHeld ⊢
        refine zeF (i := 1) (N := some 32) (v := ?_) (a' := ?_) (xB 7 2) rfl rfl (by kernel_rfl) (fun _ _ _ h => h) (Or.inl ⟨by rfl, ?_⟩) ?_ ?_
        rotate_left
        ·intro w'
         go_simp
         with_reducible rfl
        rotate_left
        ·simp only [Act.put, List.setIfInBounds_toArray, List.set_cons_zero, List.set_cons_succ, zcd, zcw]
         rfl
        refine zeF (i := 2) (N := some 33) (v := ?_) (a' := ?_) (xB 7 6) rfl rfl (by kernel_rfl) (fun _ _ _ h => h) (Or.inl ⟨by rfl, ?_⟩) ?_ ?_
        rotate_left
        ·intro w'
         go_simp
         with_reducible rfl
        rotate_left
        ·simp only [Act.put, List.setIfInBounds_toArray, List.set_cons_zero, List.set_cons_succ, zcd, zcw]
         rfl
        refine zeF (i := 3) (N := some 34) (v := ?_) (a' := ?_) (xB 7 14) rfl rfl (by kernel_rfl) (fun _ _ _ h => h) (Or.inl ⟨by rfl, ?_⟩) ?_ ?_
        rotate_left
        ·intro w'
         go_simp
         with_reducible rfl
        rotate_left
        ·simp only [Act.put, List.setIfInBounds_toArray, List.set_cons_zero, List.set_cons_succ, zcd, zcw]
         rfl
        refine zeC (i := 0) (N := some 31) (v := ?_) (a' := ?_) (xB 7 15) rfl rfl (by kernel_rfl) (fun _ _ _ h => h) (Or.inl ⟨by rfl, ?_⟩) hHeld ?_ ?_
        rotate_left
        ·rintro w' ⟨s0, s1, s2⟩
         go_simp
         with_reducible rfl
        rotate_left
        ·simp only [Act.put, List.setIfInBounds_toArray, List.set_cons_zero, List.set_cons_succ, zcd, zcw]
         rfl
        refine zeC (i := 4) (N := some 35) (v := ?_) (a' := ?_) (xB 7 31) rfl rfl (by kernel_rfl) (fun _ _ _ h => h) (Or.inl ⟨by rfl, ?_⟩) hHeld ?_ ?_
        rotate_left
        ·rintro w' ⟨s0, s1, s2⟩
         go_simp
         with_reducible rfl
        rotate_left
        ·simp only [Act.put, List.setIfInBounds_toArray, List.set_cons_zero, List.set_cons_succ, zcd, zcw]
         rfl
        refine one_ (i := 5) (N := some 36) (xB 7 63) rfl rfl (by kernel_rfl) (by decide) (fun K hK => ?_)
        refine zc6 Try.func48 (by kernel_rfl) rfl #[.agg #[.slice A0_0 l0_0.length c0_0, .slice A0_1 l0_1.length c0_1], .slice A249_0 (zbX t246 x8_2).length c249_0] (by rfl) rfl rfl xm ?_
        with_reducible refine (zbm.calls k2 _ _ l0_0 _ _ l0_1 _ _ (zbX t246 x8_2) t250 _ ?side1 ?side2 ?side3 ?side4 ?side5 ?side6 A30.out).mono ?_
        (case side1 => exact xz HR0_0.out HB.out)
        (case side2 => exact HC0_0.out)
        (case side3 => exact xz HR0_1.out HB.out)
        (case side4 => exact HC0_1.out)
        (case side5 => exact xw HR249_0.out)
        (case side6 => exact HC249_0.out)
        rintro e w35 ⟨rfl, hb⟩
        have HS2_ := (hb.cell (World.block_lt_of_cell? _ _ (hHeld.2.2))).trans (hHeld.2.2)
        refine ⟨_, rfl, ?_⟩
        replace HO_7 := ax (Kd.zbH (xN HO_7.out) hb); replace HO_1000 := ax (Kd.zbH (xN HO_1000.out) hb); replace HL249_0 := yV HL249_0 hb; replace BK240 := ax (bb BK240.out hb); replace BK241 := ax (bb BK241.out hb); replace BK244 := ax (bb BK244.out hb); replace HR249_0 := ax (Kd.za8 (xw HR249_0.out) hb); replace HB := ax (zat (bh HB.out) hb)
        (try clear hb)
        (try clear hk)
        refine hK.out _ _ ⟨(zaC BK240.out 0).trans rfl, (zaC BK240.out 1).trans rfl, HS2_⟩ (fun hHeld => ?_)
        clear hK K
        refine nm ?_
        refine zeF (i := 6) (N := some 9) (v := ?_) (a' := ?_) (xB 7 127) rfl rfl (by kernel_rfl) (fun _ _ _ h => h) (Or.inl ⟨by rfl, ?_⟩) ?_ ?_
        rotate_left
        ·intro w'
         go_simp
         with_reducible rfl
        rotate_left
        ·simp only [Act.put, List.setIfInBounds_toArray, List.set_cons_zero, List.set_cons_succ, zcd, zcw]
         rfl
        refine zcR (by kernel_rfl) ?_
        try go_wp2
        replace HO_7 := ax (Kd.zaY HO_7.out); replace HO_1000 := ax (Kd.zaY HO_1000.out); replace HL249_0 := ax (Kd.zbV HL249_0.out); replace BK240 := ax (zal BK240.out); replace BK241 := ax (zal BK241.out); replace BK244 := ax (zal BK244.out); replace HR249_0 := ax (Kd.zb2 HR249_0.out); replace HB := ax (zba HB.out)
        have p251 : 0 ≤ (x8_2 : Int) := xd
        have q251 : x8_2 < (t246.length : Int) := xd
        obtain ⟨ad251, A251_0, c251_0, e251, hx251_0, hl251_0, hi251_0⟩ := zfa (Kd.zay (Kd.zcC HO_7.out)).2.2 x8_2 p251 q251
        obtain rfl : ad249 = ad251 := (by injection e251)
        obtain ⟨ce251, hce251, hMe251, hcc251⟩ := Kd.zcl HO_7.out [] x8_2 p251 (by first | exact q251 | exact xd | (have e_ := (Kd.zay HO_7.out).1; omega))
        obtain ⟨ua251_0, uc251_0, rfl, ul251_0, ge251_0⟩ := Kd.zcg (Kd.zcb hMe251)
        have hv251_0 := hcc251 0 _ rfl
        rw [Nat.add_zero, show ((Kd.zcs w.heap.size (Kd.slice 3 (Kd.int .i64)))).sz = 1 from rfl, Nat.mul_one] at hv251_0
        replace hv251_0 := Option.some.inj (hv251_0.symm.trans hx251_0)
        injection hv251_0 with hva_ hvn_ hvc_
        rw [hva_] at ge251_0
        rw [hvc_] at ul251_0
        have HL251_0 := ax (show Kd.V (Kd.int .i64) 3 _ w.heap.size _ _ (zbX t246 x8_2) from Kd.V_mk ul251_0 ge251_0)
        clear hva_ hvn_ hvc_ ge251_0 ul251_0 hcc251 hce251
        have HR251_0 := ax hi251_0
        have HC251_0 := ax hl251_0
        clear hi251_0 hl251_0
        replace p251 := eq_true p251
        replace q251 := eq_true q251
        refine zcj (n := 12) (S := fun w' => w'.cell? ⟨gb244, 0, none⟩ = some (.int .i64 a1) ∧ w'.cell? ⟨gb244, 1, none⟩ = some (u1000) ∧ w'.cell? (ad249.add (x8_2).toNat) = some (.slice A251_0 (zbX t246 x8_2).length c251_0)) (ds := [11]) (xB 12 0) (by kernel_rfl) rfl (by kernel_rfl) ⟨(zaC BK244.out 0).trans rfl, (zaC BK244.out 1).trans rfl, hx251_0⟩ (fun hHeld => ?_); refine zbD zax.zi6 zax.zg7 (fun HT_ HW_ => ?_)
        generalize w35.drew = w36 at HO_7 HO_1000 HL249_0 BK240 BK241 BK244 HR249_0 HB HL251_0 HR251_0 hx251_0 hHeld ⊢
        refine pu (i := 0) (N := some 39) (xB 12 1) HT_.out ?_
        refine pu (i := 2) (N := some 41) (xB 12 5) HT_.out ?_
        refine pu (i := 3) (N := some 42) (xB 12 13) HT_.out ?_
        refine pu (i := 4) (N := some 43) (xB 12 29) HT_.out ?_
        refine pu (i := 6) (N := some 45) (xB 12 93) HT_.out ?_
        refine tk (i := 1) (N := some 40) (xB 12 95) HT_.out HW_.out hHeld ?_
        refine tk (i := 5) (N := some 44) (xB 12 127) HT_.out HW_.out hHeld ?_
        refine pu (i := 7) (N := some 46) (xB 12 255) HT_.out ?_
        refine one_ (i := 8) (N := some 47) (xB 12 511) rfl rfl (zbU HT_.out (by kernel_rfl)) (by decide) (fun K hK => ?_)
        refine zhB (w1 := ?_) (v := ?_) (by rfl) rfl ?_ ?_
        rotate_left 2
        ·go_simp
         constructor
         ·rfl
         ·rfl
        refine hK.out _ _ ⟨(zaC (zai BK244.out _) 0).trans rfl, (zaC (zai BK244.out _) 1).trans rfl, (World.cell?_alloc_lt _ _ _ (World.block_lt_of_cell? _ _ (hHeld.2.2))).trans (hHeld.2.2)⟩ (fun hHeld => ?_)
        clear hK K
        refine nm ?_
        refine one_ (i := 9) (N := some 48) (xB 12 1023) rfl rfl (zbU HT_.out (by kernel_rfl)) (by decide) (fun K hK => ?_)
        refine Kd.zdH (Kd.zcs w.heap.size k48) (w0 := w) w.heap.size (by rfl) (.tmp 40) (.tmp 47) 26 48 (.agg #[(.slice none 0 0), (.int .i64 0)]) 32 rfl Try.underlying26 zey rfl (Nat.zero_lt_succ 1) (by omega) u1000 x1000_2 (⟨zbX t246 x8_2, t250⟩ : S48) [.slice A251_0 (zbX t246 x8_2).length c251_0, .int .i64 t250] (fun k_ => (w.heap.size ≤ k_) ∧ some k_ ≠ (.slice (some ad249) t246.length co33 : Value).ownBlock ∧ k_ ≠ gb240 ∧ k_ ≠ gb241 ∧ k_ ≠ gb244) (fun k_ => ((fun k_ => (w.heap.size ≤ k_) ∧ some k_ ≠ (.slice (some ad249) t246.length co33 : Value).ownBlock ∧ k_ ≠ gb240 ∧ k_ ≠ gb241 ∧ k_ ≠ gb244)) k_ ∧ some k_ ≠ (u1000 : Value).ownBlock) rfl rfl ?aP (fun _ hk => hk) ?aF ?aO ?aB ?aS ?aL ?_
        (case aP => obtain ⟨c_, hl_, hF_, hcc_⟩ := Kd.zcl HO_7.out ([] : List Int) x8_2 (of_eq_true p251) (by first | exact of_eq_true q251 | (have e_ := (Kd.zay HO_7.out).1; have := of_eq_true q251; omega)); obtain ⟨u_, a_, e_, _, _⟩ := Kd.zcg (Kd.zcb hF_); subst e_; have h1_ := hcc_ 0 _ rfl; rw [Nat.add_zero, show ((Kd.zcs w.heap.size (Kd.slice 3 (Kd.int .i64)))).sz = 1 from rfl, Nat.mul_one] at h1_; have h2_ := zeB (hHeld.2.2) (by rw [zde]; exact Kd.N_lt (xN HO_7.out) _ rfl); have h3_ := Option.some.inj (h1_.symm.trans h2_); rw [h3_] at hF_; exact Kd.zdk (zjo hF_ t250) (fun k_ hk => ⟨⟨hk.1.1, hk.2, hk.1.2.2.1, hk.1.2.2.2.1, hk.1.2.2.2.2⟩, hk.1.2.1⟩))
        (case aB => exact (bh HB.out))
        (case aF => exact (fun k_ hk => ⟨(Nat.le_trans (zaf (bh HB.out)) hk), Kd.fresh' (Kd.N_lt (xN HO_7.out)) k_ hk, Kd.zb9 (g := gb240) (o := .cells #[.slice A0_0 l0_0.length c0_0, .slice A0_1 l0_1.length c0_1] 40 (0, 0)) (xk BK240.out) k_ hk, Kd.zb9 (g := gb241) (o := .cells #[.int .i64 0, .slice none 0 0] 28 (0, 0)) (xk BK241.out) k_ hk, Kd.zb9 (g := gb244) (o := .cells #[.int .i64 a1, u1000] 28 (0, 0)) (xk BK244.out) k_ hk⟩))
        (case aO => exact (xN HO_1000.out))
        (case aS => exact (zaf (bh HB.out)))
        (case aL => have := LMc32.out; omega)
        intro v253 w37 ho hb hg hat
        have HS2_ := zhr hg (by first | exact hHeld.2.2 | exact zeB (hHeld.2.2) (by rw [zde]; exact Kd.N_lt (xN HO_7.out) _ rfl)) (by first | (rw [zde]; exact (fun e_ => by obtain ⟨cs_, hc_⟩ := Kd.zcy HO_7.out _ rfl; exact Kd.N_ne HO_1000.out hc_ (by decide) e_)) | (show some (Addr.add _ _).block ≠ _; rw [zde]; exact (fun e_ => by obtain ⟨cs_, hc_⟩ := Kd.zcy HO_7.out _ rfl; exact Kd.N_ne HO_1000.out hc_ (by decide) e_)) | exact (fun e_ => by obtain ⟨cs_, hc_⟩ := Kd.zcy HO_7.out _ rfl; exact Kd.N_ne HO_1000.out hc_ (by decide) e_))
        rw [← Ny252.out] at ho
        have n0_ := ax (Kd.zcJ (ok := (fun k_ => (w.heap.size ≤ k_) ∧ k_ ≠ gb240 ∧ k_ ≠ gb241 ∧ k_ ≠ gb244)) (by (with_reducible repeat (first | apply Kd.za4 | apply Kd.za3 | apply Kd.zaY)); exact Kd.zaQ HO_7.out (fun _ hk => ⟨⟨hk.1, ⟨hk.2.2.1, ⟨hk.2.2.2.1, hk.2.2.2.2⟩⟩⟩, hk.2.1⟩)) hg hat)
        have n1_ := ax (zce (g := gb240) (o := .cells #[.slice A0_0 l0_0.length c0_0, .slice A0_1 l0_1.length c0_1] 40 (0, 0)) (xk BK240.out) hg (Kd.N_ne HO_1000.out BK240.out (by decide)))
        have n2_ := ax (zce (g := gb241) (o := .cells #[.int .i64 0, .slice none 0 0] 28 (0, 0)) (xk BK241.out) hg (Kd.N_ne HO_1000.out BK241.out (by decide)))
        have n3_ := ax (zce (g := gb244) (o := .cells #[.int .i64 a1, u1000] 28 (0, 0)) (xk BK244.out) hg (Kd.N_ne HO_1000.out BK244.out (by decide)))
        have n4_ := ax (Kd.zcN (ok := (fun k_ => (w.heap.size ≤ k_) ∧ some k_ ≠ (.slice (some ad249) t246.length co33 : Value).ownBlock ∧ k_ ≠ gb240 ∧ k_ ≠ gb241 ∧ k_ ≠ gb244)) (by (with_reducible repeat (first | apply Kd.zb1 | apply Kd.zb0 | apply Kd.zbV)); exact Kd.zbA HL249_0.out (fun _ hk => ⟨⟨hk.1.1, ⟨hk.2, ⟨hk.1.2.2.1, ⟨hk.1.2.2.2.1, hk.1.2.2.2.2⟩⟩⟩⟩, hk.1.2.1⟩)) hg hat)
        have n5_ := ax (Kd.zcN (ok := (fun k_ => (w.heap.size ≤ k_) ∧ some k_ ≠ (.slice (some ad249) t246.length co33 : Value).ownBlock ∧ k_ ≠ gb240 ∧ k_ ≠ gb241 ∧ k_ ≠ gb244)) (by (with_reducible repeat (first | apply Kd.zb1 | apply Kd.zb0 | apply Kd.zbV)); exact Kd.zbA HL251_0.out (fun _ hk => ⟨⟨hk.1.1, ⟨hk.2, ⟨hk.1.2.2.1, ⟨hk.1.2.2.2.1, hk.1.2.2.2.2⟩⟩⟩⟩, hk.1.2.1⟩)) hg hat)
        have n6_ := ax (hb)
        have n7_ := ax (ho)
        clear HO_7 BK240 BK241 BK244 HL249_0 HL251_0 HB HO_1000
        have HO_7 := n0_
        have BK240 := n1_
        have BK241 := n2_
        have BK244 := n3_
        have HL249_0 := n4_
        have HL251_0 := n5_
        have HB := n6_
        have HO254 := n7_
        clear n0_ n1_ n2_ n3_ n4_ n5_ n6_ n7_ ho hb hg hat
        obtain ⟨Ao38, co38, eo38⟩ := Kd.zbx HO254.out
        (first | subst eo38 | (injection eo38 with f1_ f2_ f3_; have f4_ := f1_.symm; have f5_ := f3_.symm; clear f1_ f2_ f3_; subst f4_; subst f5_))
        refine hK.out _ _ ⟨(zaC BK244.out 0).trans rfl, (zaC BK244.out 1).trans rfl, HS2_⟩ (fun hHeld => ?_)
        clear hK K
        refine nm ?_
        refine pu (i := 10) (N := some 49) (xB 12 2047) HT_.out ?_
        refine zeG (i := 11) (N := none) (xB 12 4095) rfl rfl (zbU HT_.out (by kernel_rfl)) (by decide) (fun K hK => ?_)
        have hs39 : w37.cell? ⟨gb244, 1, none⟩ = some (u1000) := (zaC BK244.out 1).trans rfl
        have hfs39 := zae BK244.out 1
        have hns39_0 := NB240_244.out
        have hns39_1 := NB241_244.out
        have hms39_0 := NB244_240.out
        have hms39_1 := NB244_241.out
        refine zeD (w1 := ?_) (by rfl) rfl ?_ ?_
        rotate_left
        ·go_simp
         rfl
        refine hK.out _ _ ?_
        clear hK K
        refine zcR (zb6 HT_.out (by kernel_rfl)) ?_
        try go_wp2
        go_roundg k2
        case measure => have := HJ2.out; have := HK2.out; omega
        case rel => exact ⟨(wrap64 (x8_2 + 1)), (y252), (.slice Ao38 y252.length co38), xr, H', ⟨by have := HJ2.out; have := HK2.out; omega⟩, ⟨by (with_reducible repeat (first | apply Kd.za4 | apply Kd.za3 | apply Kd.zaY)); exact Kd.zaQ (Kd.zcz (p := ⟨gb244, 1, none⟩) (Kd.zaQ HO_7.out (fun k_ hk => (⟨hk, hk.1.2.2.2⟩ : _ ∧ k_ ≠ gb244))) (fun _ hk => hk.2) (.slice Ao38 y252.length co38)) (fun _ hk => ⟨hk.1.1.1, ⟨hk.1.2, ⟨hk.1.1.2.1, ⟨hk.1.1.2.2.1, hk.1.1.2.2.2⟩⟩⟩⟩)⟩, ⟨by (with_reducible repeat (first | apply Kd.za4 | apply Kd.za3 | apply Kd.zaY)); exact Kd.zaQ (Kd.zcz (p := ⟨gb244, 1, none⟩) (Kd.zaQ HO254.out (fun k_ hk => (⟨hk, hk.2.2.2.2⟩ : _ ∧ k_ ≠ gb244))) (fun _ hk => hk.2) (.slice Ao38 y252.length co38)) (fun _ hk => ⟨hk.1.1, ⟨hk.1.2.1, ⟨hk.1.2.2.1, ⟨hk.1.2.2.2.1, hk.1.2.2.2.2⟩⟩⟩⟩)⟩, ⟨by (with_reducible repeat (first | refine zak ?_ _ | refine zal ?_ | refine zai ?_ _)); refine zbb ?_ NB240_244.out _; (with_reducible repeat (first | refine zak ?_ _ | refine zal ?_ | refine zai ?_ _)); exact BK240.out⟩, ⟨by (with_reducible repeat (first | refine zak ?_ _ | refine zal ?_ | refine zai ?_ _)); refine zbb ?_ NB241_244.out _; (with_reducible repeat (first | refine zak ?_ _ | refine zal ?_ | refine zai ?_ _)); exact BK241.out⟩, ⟨by (with_reducible repeat (first | refine zak ?_ _ | refine zal ?_ | refine zai ?_ _)); refine zbz (cs := #[.int .i64 a1, u1000]) ?_ 1 _ rfl; (with_reducible repeat (first | refine zak ?_ _ | refine zal ?_ | refine zai ?_ _)); exact BK244.out⟩, ⟨bh HB.out⟩⟩
       ·rw [if_neg c31] at H
        have c31b0 : decide (0 < t250) = false := decide_eq_false c31
        clear c31
        have H' := ax H
        clear H
        obtain ⟨Ao40, co40, eo40⟩ := Kd.zbx HO_7.out
        subst eo40
        try go_wp2
        replace HO_7 := ax (Kd.zaY HO_7.out); replace HO_1000 := ax (Kd.zaY HO_1000.out); replace BK240 := ax (zal BK240.out); replace BK241 := ax (zal BK241.out); replace BK244 := ax (zal BK244.out); replace HB := ax (zba HB.out)
        have p249 : 0 ≤ (x8_2 : Int) := xd
        have q249 : x8_2 < (t246.length : Int) := xd
        obtain ⟨ad249, A249_0, c249_0, e249, hx249_0, hl249_0, hi249_0⟩ := zfa (Kd.zay (Kd.zcC HO_7.out)).2.2 x8_2 p249 q249
        cases e249
        obtain ⟨ce249, hce249, hMe249, hcc249⟩ := Kd.zcl HO_7.out [] x8_2 p249 (by first | exact q249 | exact xd | (have e_ := (Kd.zay HO_7.out).1; omega))
        obtain ⟨ua249_0, uc249_0, rfl, ul249_0, ge249_0⟩ := Kd.zcg (Kd.zcb hMe249)
        have hv249_0 := hcc249 0 _ rfl
        rw [Nat.add_zero, show ((Kd.zcs w.heap.size (Kd.slice 3 (Kd.int .i64)))).sz = 1 from rfl, Nat.mul_one] at hv249_0
        replace hv249_0 := Option.some.inj (hv249_0.symm.trans hx249_0)
        injection hv249_0 with hva_ hvn_ hvc_
        rw [hva_] at ge249_0
        rw [hvc_] at ul249_0
        have HL249_0 := ax (show Kd.V (Kd.int .i64) 3 _ w.heap.size _ _ (zbX t246 x8_2) from Kd.V_mk ul249_0 ge249_0)
        clear hva_ hvn_ hvc_ ge249_0 ul249_0 hcc249 hce249
        have HR249_0 := ax hi249_0
        have HC249_0 := ax hl249_0
        clear hi249_0 hl249_0
        replace p249 := eq_true p249
        replace q249 := eq_true q249
        refine zcj (n := 7) (S := fun w' => w'.cell? ⟨gb240, 0, none⟩ = some (.slice A0_0 l0_0.length c0_0) ∧ w'.cell? ⟨gb240, 1, none⟩ = some (.slice A0_1 l0_1.length c0_1) ∧ w'.cell? (ad249.add (x8_2).toNat) = some (.slice A249_0 (zbX t246 x8_2).length c249_0)) (ds := []) (xB 7 0) (by kernel_rfl) rfl (by kernel_rfl) ⟨(zaC BK240.out 0).trans rfl, (zaC BK240.out 1).trans rfl, hx249_0⟩ (fun hHeld => ?_)
        generalize wr.drew = w41 at HO_7 HO_1000 BK240 BK241 BK244 HB HL249_0 HR249_0 hx249_0 hHeld ⊢
        refine zeF (i := 1) (N := some 32) (v := ?_) (a' := ?_) (xB 7 2) rfl rfl (by kernel_rfl) (fun _ _ _ h => h) (Or.inl ⟨by rfl, ?_⟩) ?_ ?_
        rotate_left
        ·intro w'
         go_simp
         with_reducible rfl
        rotate_left
        ·simp only [Act.put, List.setIfInBounds_toArray, List.set_cons_zero, List.set_cons_succ, zcd, zcw]
         rfl
        refine zeF (i := 2) (N := some 33) (v := ?_) (a' := ?_) (xB 7 6) rfl rfl (by kernel_rfl) (fun _ _ _ h => h) (Or.inl ⟨by rfl, ?_⟩) ?_ ?_
        rotate_left
        ·intro w'
         go_simp
         with_reducible rfl
        rotate_left
        ·simp only [Act.put, List.setIfInBounds_toArray, List.set_cons_zero, List.set_cons_succ, zcd, zcw]
         rfl
        refine zeF (i := 3) (N := some 34) (v := ?_) (a' := ?_) (xB 7 14) rfl rfl (by kernel_rfl) (fun _ _ _ h => h) (Or.inl ⟨by rfl, ?_⟩) ?_ ?_
        rotate_left
        ·intro w'
         go_simp
         with_reducible rfl
        rotate_left
        ·simp only [Act.put, List.setIfInBounds_toArray, List.set_cons_zero, List.set_cons_succ, zcd, zcw]
         rfl
        refine zeC (i := 0) (N := some 31) (v := ?_) (a' := ?_) (xB 7 15) rfl rfl (by kernel_rfl) (fun _ _ _ h => h) (Or.inl ⟨by rfl, ?_⟩) hHeld ?_ ?_
        rotate_left
        ·rintro w' ⟨s0, s1, s2⟩
         go_simp
         with_reducible rfl
        rotate_left
        ·simp only [Act.put, List.setIfInBounds_toArray, List.set_cons_zero, List.set_cons_succ, zcd, zcw]
         rfl
        refine zeC (i := 4) (N := some 35) (v := ?_) (a' := ?_) (xB 7 31) rfl rfl (by kernel_rfl) (fun _ _ _ h => h) (Or.inl ⟨by rfl, ?_⟩) hHeld ?_ ?_
        rotate_left
        ·rintro w' ⟨s0, s1, s2⟩
         go_simp
         with_reducible rfl
        rotate_left
        ·simp only [Act.put, List.setIfInBounds_toArray, List.set_cons_zero, List.set_cons_succ, zcd, zcw]
         rfl
        refine one_ (i := 5) (N := some 36) (xB 7 63) rfl rfl (by kernel_rfl) (by decide) (fun K hK => ?_)
        refine zc6 Try.func48 (by kernel_rfl) rfl #[.agg #[.slice A0_0 l0_0.length c0_0, .slice A0_1 l0_1.length c0_1], .slice A249_0 (zbX t246 x8_2).length c249_0] (by rfl) rfl rfl xm ?_
        with_reducible refine (zbm.calls k2 _ _ l0_0 _ _ l0_1 _ _ (zbX t246 x8_2) t250 _ ?side1 ?side2 ?side3 ?side4 ?side5 ?side6 A30.out).mono ?_
        (case side1 => exact xz HR0_0.out HB.out)
        (case side2 => exact HC0_0.out)
        (case side3 => exact xz HR0_1.out HB.out)
        (case side4 => exact HC0_1.out)
        (case side5 => exact xw HR249_0.out)
        (case side6 => exact HC249_0.out)
        rintro e w42 ⟨rfl, hb⟩
        have HS2_ := (hb.cell (World.block_lt_of_cell? _ _ (hHeld.2.2))).trans (hHeld.2.2)
        refine ⟨_, rfl, ?_⟩
        replace HO_7 := ax (Kd.zbH (xN HO_7.out) hb); replace HO_1000 := ax (Kd.zbH (xN HO_1000.out) hb); replace HL249_0 := yV HL249_0 hb; replace BK240 := ax (bb BK240.out hb); replace BK241 := ax (bb BK241.out hb); replace BK244 := ax (bb BK244.out hb); replace HR249_0 := ax (Kd.za8 (xw HR249_0.out) hb); replace HB := ax (zat (bh HB.out) hb)
        (try clear hb)
        (try clear hk)
        refine hK.out _ _ ⟨(zaC BK240.out 0).trans rfl, (zaC BK240.out 1).trans rfl, HS2_⟩ (fun hHeld => ?_)
        clear hK K
        refine nm ?_
        refine zeF (i := 6) (N := some 9) (v := ?_) (a' := ?_) (xB 7 127) rfl rfl (by kernel_rfl) (fun _ _ _ h => h) (Or.inl ⟨by rfl, ?_⟩) ?_ ?_
        rotate_left
        ·intro w'
         go_simp
         with_reducible rfl
        rotate_left
        ·simp only [Act.put, List.setIfInBounds_toArray, List.set_cons_zero, List.set_cons_succ, zcd, zcw]
         rfl
        refine zcR (by kernel_rfl) ?_
        try go_wp2
        go_roundg k2
        case measure => have := HJ2.out; have := HK2.out; omega
        case rel => exact ⟨(wrap64 (x8_2 + 1)), (x1000_2), (u1000), xr, H', ⟨by have := HJ2.out; have := HK2.out; omega⟩, ⟨xN HO_7.out⟩, ⟨xN HO_1000.out⟩, ⟨xk BK240.out⟩, ⟨xk BK241.out⟩, ⟨xk BK244.out⟩, ⟨bh HB.out⟩⟩
      ·rw [if_neg c28] at H
       have c28b0 := decide_eq_false c28
       clear c28
       obtain ⟨hD_, H⟩ := xp H
       have HD_ := ax hD_
       clear hD_
       simp only [Option.some.injEq, Prod.mk.injEq] at H
       obtain ⟨rfl, rfl, rfl⟩ := H
       obtain ⟨Ao43, co43, eo43⟩ := Kd.zbx HO_7.out
       subst eo43
       have hnb44 := NB244_240.out
       have hnc44 := NB240_244.out
       have hnb45 := NB244_241.out
       have hnc45 := NB241_244.out
       have hcz46_0 := bc0 BK244.out
       have hcz46_1 := bc1 BK244.out
       have hfz46_0 := zae BK244.out 0
       have hfz46_1 := zae BK244.out 1
       have hnb47 := NB241_240.out
       have hnc47 := NB240_241.out
       have hcz48_0 := bc0 BK241.out
       have hcz48_1 := bc1 BK241.out
       have hfz48_0 := zae BK241.out 0
       have hfz48_1 := zae BK241.out 1
       obtain ⟨Ao49, co49, eo49⟩ := Kd.zbx HO_1000.out
       subst eo49
       go_wp2
       refine bodyPost_ret (zdR rfl _ _ gb241 28 #[.int .i64 a1, .slice Ao49 x1000_2.length co49] (0, 0) _ rfl (by (with_reducible repeat (first | refine zak ?_ _ | refine zal ?_ | refine zai ?_ _)); refine zbz (cs := #[.int .i64 a1, .slice none 0 0]) ?_ 1 _ rfl; (with_reducible repeat (first | refine zak ?_ _ | refine zal ?_ | refine zai ?_ _)); refine zbz (cs := #[.int .i64 0, .slice none 0 0]) ?_ 0 _ rfl; (with_reducible repeat (first | refine zak ?_ _ | refine zal ?_ | refine zai ?_ _)); exact BK241.out) Try.underlying28 rfl (by kernel_rfl)) rfl ?_
       exact ⟨_, xe, Kd.zbr (zfx (show Kd.N (Kd.zcs w.heap.size k48) 48 _ w.heap.size (fun k_ => (w.heap.size ≤ k_)) _ x1000_2 from by (with_reducible repeat (first | apply Kd.za4 | apply Kd.za3 | apply Kd.zaY)); exact Kd.zaQ (Kd.zcz (p := ⟨gb241, 1, none⟩) (Kd.zcz (p := ⟨gb241, 0, none⟩) (Kd.zaQ HO_1000.out (fun k_ hk => (⟨hk, hk.2.2.2.1⟩ : _ ∧ k_ ≠ gb241))) (fun _ hk => hk.2) (.int .i64 a1)) (fun _ hk => hk.2) (.slice Ao49 x1000_2.length co49)) (fun _ hk => hk.1.1)) HD_.out) (fun _ h_ => h_), bh HB.out⟩

/-! ### za6: function 30 -/
def za6.f (l0 : List Int) : Option (List Int) := (some (([] : List Int) : List Int)).bind fun y255 => (if y255.length + l0.length < 17592186044416 then (some (y255 ++ l0)) else (none))
theorem za6.calls (A0 : Option Addr) (c0 : Nat) (l0 : List Int) (r : List Int) (w : World) (hr0 : Kd.C (Kd.int .i64) w A0 l0.length l0) (hc0 : l0.length ≤ c0) (h : za6.f l0 = some r) :
  Calls Try.prog 30 #[.slice A0 l0.length c0] w fun e w' => ∃ v0_ : Value, e = .returned (v0_) ∧ Kd.R (Kd.int .i64) 3 w' w.heap.size (fun _ => True) v0_ r ∧ Below w.heap.size w w' := by
 cases hA : A0.isNone with
 | true =>
  have e0 : l0 = [] := by
   obtain ⟨h1, h2, h3⟩ := hr0
   cases l0 with
   | nil => rfl
   | cons x xs =>
    exfalso
    obtain ⟨ad, e, _⟩ := h3 (by simp)
    subst e
    simp at hA
  subst e0
  have er : r = [] := by simpa [za6.f] using h.symm
  subst er
  have he_ : ∀ W : World, (binOp .eql 35 (.slice A0 0 c0) (.slice none 0 0)).run Try.prog W = .ok (.bool true) W := fun W => by rw [Lib.run_eql_slice_nil W 35 3 A0 0 c0 0 0 Try.underlying35, hA]
  show Calls Try.prog 30 #[.slice A0 0 c0] w _
  clear h hr0 hA
  go_enter Try.func30, Try.ntmps30
  go_wp2
  go_ret
  exact ⟨_, rfl, Kd.zeJ _ _ _ _ _, Below.refl _ _⟩
 | false =>
 have he_ : ∀ W : World, (binOp .eql 35 (.slice A0 l0.length c0) (.slice none 0 0)).run Try.prog W = .ok (.bool false) W := fun W => by rw [Lib.run_eql_slice_nil W 35 3 A0 l0.length c0 0 0 Try.underlying35, hA]
 clear hA
 have HR0 := ax hr0
 have HC0 := ax hc0
 clear hr0 hc0
 have HB := ax (Below.refl w.heap.size w)
 have H : ((some (([] : List Int) : List Int)).bind fun y255 => (if y255.length + l0.length < 17592186044416 then (some (y255 ++ l0)) else (none))) = some r := h
 clear h
 obtain ⟨y255, Ny255, H⟩ := xg H
 obtain ⟨c2, H⟩ := xp H
 have LMc2 := ax c2
 clear c2
 obtain ⟨y258, hy258⟩ : ∃ y_ : List Int, y_ = (y255 ++ l0) := ⟨_, rfl⟩
 replace H : (some y258) = some r := xv hy258 H
 have Ny258 := ax hy258
 clear hy258
 obtain rfl := Option.some.inj H
 go_enter Try.func30, Try.ntmps30
 go_wp2_with (first | ((with_reducible refine zaG (N := 5) rfl ?_); refine Kd.zes (Kd.int .i64) _ 3 ?hg (N := 5) ?hd (xs := ([] : List Int)) (inner := []) (ok := fun _ => True) (okp := fun _ => True) ?hr ?hp (fun _ hk => hk) trivial (Below.refl _ _) (Nat.le_refl _) (by simp) ?_; (case hd => rfl); (case hg => rfl); (case hr => first | (go_simp; done) | (go_simp; rfl)); (case hp => exact (Reps.none _ _)); intro v256 w3 ho4 hb hg_ hnew_; clear hg_ hnew_; (first | rw [← Ny255.out] at ho4 | (simp only [Int.reduceToNat] at ho4; rw [← Ny255.out] at ho4)); have HO257 := ax (Kd.zbL ho4 (zaf (xb HB.out))); replace HB := yB HB hb; clear hb ho4) | ((with_reducible refine zbN (b := .append) (xs := #[.tmp 5, .tmp 6]) rfl ?_); at_builtin; refine Kd.zcu (Kd.int .i64) (w0 := w) w.heap.size rfl (.tmp 5) (.tmp 6) 35 3 (.int .i64 0) 8 rfl Try.underlying35 zfj rfl (by decide) (by omega) v256 y255 l0 _ _ _ (fun _ => True) (fun _ => False) rfl rfl ?aO ?aR (fun _ _ h => h) (fun _ h => h.elim) ?aF ?aB ?aS ?aL ?_; (case aR => exact xc (Kd.za8 HR0.out HB.out)); (case aB => exact (xb HB.out)); (case aF => exact (fun _ _ => trivial)); (case aO => exact (by (with_reducible repeat (first | apply Kd.zbd | apply Kd.zbc | apply Kd.zbq)); exact HO257.out)); (case aS => exact (zaf (xb HB.out))); (case aL => have := LMc2.out; omega); intro v259 w5 ho hb hg hat; rw [← Ny258.out] at ho; have n0_ := ax (hb); have n1_ := ax (ho); clear HB; clear HO257; have HB := n0_; have HO260 := n1_; clear n0_ n1_; clear ho hb hg hat))
 go_ret
 exact ⟨_, xe, by (with_reducible repeat (first | apply Kd.zbd | apply Kd.zbc | apply Kd.zbq)); exact HO260.out, xb HB.out⟩

end Go.Proofs.Ytneipehcmmigeaa.PFnExactSchurPoly
