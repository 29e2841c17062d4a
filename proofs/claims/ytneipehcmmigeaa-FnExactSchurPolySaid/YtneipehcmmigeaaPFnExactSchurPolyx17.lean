import Derived.Test.YtneipehcmmigeaaPFnExactSchurPolyx16
namespace Go.Proofs.Ytneipehcmmigeaa.PFnExactSchurPoly
open Go.RowKit Go.Proofs.YtneipehcmmigeaaW.PrintWords Go.Proofs.YtneipehcmmigeaaW.PrintLast Go.Proofs.YtneipehcmmigeaaW.PrintMore
set_option linter.unusedVariables false
set_option linter.unusedSimpArgs false
set_option maxHeartbeats 8000000
set_option maxRecDepth 100000
/-! ### zaN: function 22 -/
def zaN.j0 : Nat → Int → Bool → List Int → List Int → Option (Int × (List (S48)) × Bool)
 | 0, _, _, _, _ => none
 | k + 1, x1, x13, x1000, x1001 => if x13 = true then (some (0, ([] : List (S48)), false)) else ((zar.f k x1000 x1001 x1).bind fun t399 => ((zav.f k x1 t399).bind fun bt402 => (some (bt402.1, bt402.2, true))))
def zaN.f (k : Nat) (l0_0 : List Int) (l0_1 : List Int) (a1 : Int) : Option (Int × (List (S48)) × Bool) := (za1.f k l0_0 l0_1).bind fun t397 => (if t397 = true then ((zbv.f a1 1 4).bind fun t398 => (zaN.j0 k a1 (!t398) l0_0 l0_1)) else (zaN.j0 k a1 true l0_0 l0_1))
theorem zaN.zaZ : ∀ k, (∀ y0 y1 y2 y3, LeO (zaN.j0 k y0 y1 y2 y3) (zaN.j0 (k + 1) y0 y1 y2 y3))
 | 0 => fun _ _ _ _ r h => by simp [zaN.j0] at h
 | k + 1 => by
  have ih0 := zaN.zaZ k
  ·intro y0 y1 y2 y3
   unfold zaN.j0
   repeat' with_reducible first | exact ih0 _ _ _ _ | exact za1.mono _ _ _ | exact zav.mono _ _ _ | exact zar.mono _ _ _ _ | exact xl | refine LeO.ite ?_ ?_ | refine LeO.bind ?_ fun _ => ?_
theorem zaN.mono : ∀ a0 a1 a2 k, LeO (zaN.f k a0 a1 a2) (zaN.f (k + 1) a0 a1 a2) := by
 intro a0 a1 a2 k
 have ih0 := zaN.zaZ k
 unfold zaN.f
 repeat' with_reducible first | exact ih0 _ _ _ _ | exact za1.mono _ _ _ | exact zav.mono _ _ _ | exact zar.mono _ _ _ _ | exact xl | refine LeO.ite ?_ ?_ | refine LeO.bind ?_ fun _ => ?_
theorem zaN.calls (k : Nat) (A0_0 : Option Addr) (c0_0 : Nat) (l0_0 : List Int) (A0_1 : Option Addr) (c0_1 : Nat) (l0_1 : List Int) (a1 : Int) (r1 : Int) (r2 : List (S48)) (r3 : Bool) (w : World) (hr0_0 : Kd.C (Kd.int .i64) w A0_0 l0_0.length l0_0) (hc0_0 : l0_0.length ≤ c0_0) (hr0_1 : Kd.C (Kd.int .i64) w A0_1 l0_1.length l0_1) (hc0_1 : l0_1.length ≤ c0_1) (h : zaN.f k l0_0 l0_1 a1 = some (r1, r2, r3)) :
  Calls Try.prog 22 #[.agg #[.slice A0_0 l0_0.length c0_0, .slice A0_1 l0_1.length c0_1], .int .i64 a1] w fun e w' => ∃ v1_ : Value, e = .returned (.tuple #[.agg #[.int .i64 r1, v1_], .bool r3]) ∧ Kd.S k48 48 w' w.heap.size (fun _ => True) v1_ r2 ∧ Below w.heap.size w w' := by
 have hu40 := Try.underlying40
 have hu28 := Try.underlying28
 have HR0_0 := ax hr0_0
 have HC0_0 := ax hc0_0
 clear hr0_0 hc0_0
 have HR0_1 := ax hr0_1
 have HC0_1 := ax hc0_1
 clear hr0_1 hc0_1
 have HB := ax (Below.refl w.heap.size w)
 have H : ((za1.f k l0_0 l0_1).bind fun t397 => (if t397 = true then ((zbv.f a1 1 4).bind fun t398 => (zaN.j0 k a1 (!t398) l0_0 l0_1)) else (zaN.j0 k a1 true l0_0 l0_1))) = some (r1, r2, r3) := h
 clear h
 have HC3 := ax H
 clear H
 go_enter Try.func22, Try.ntmps22
 go_upto_region 1 with (first | ((with_reducible refine zaG (N := 2) rfl ?_); refine zaK ?hg (N := 2) ?hd (cs := #[.slice A0_0 l0_0.length c0_0, .slice A0_1 l0_1.length c0_1]) (t := 40) ?hr ?_; (case hd => rfl); (case hg => rfl); (case hr => first | (go_simp; done) | (go_simp; rfl)); intro gb395 hg w4 hbox hb; have BK395 := ax (hbox); have GW395 := ax ((by rw [hg]; exact (zaf (xb HB.out)) : w.heap.size ≤ gb395)); have GE395 := ax ((by rw [hg]; exact (zaf (xb HB.out)) : w.heap.size ≤ gb395)); replace HB := yB HB hb; clear hb hbox hg) | ((with_reducible refine zaG (N := 4) rfl ?_); refine zaK ?hg (N := 4) ?hd (cs := #[.int .i64 0, .slice none 0 0]) (t := 28) ?hr ?_; (case hd => rfl); (case hg => rfl); (case hr => first | (go_simp; done) | (go_simp; rfl)); intro gb396 hg w5 hbox hb; have BK396 := ax (hbox); have GW396 := ax ((by rw [hg]; exact (zaf (xs HB.out GE395.out)) : w.heap.size ≤ gb396)); have GE396 := ax ((by rw [hg]; exact (zaf (xs HB.out GE395.out)) : w.heap.size ≤ gb396)); replace HB := ax (zat (xs HB.out GE395.out) hb); have NB395_396 := ax (bn hg BK395.out); have NB396_395 := ax (bm hg BK395.out); replace BK395 := ax (bb BK395.out hb); clear hb hbox hg))
 (try simp only [Act.put, List.setIfInBounds_toArray, List.set_cons_zero, List.set_cons_succ])
 go_cut [13] (fun v13 wc => ∃ (kq : Nat) (x13_2 : Bool), v13 = .bool x13_2 ∧ zao (zaN.j0 kq a1 x13_2 l0_0 l0_1 = some (r1, r2, r3)) ∧ zao (kq ≤ k) ∧ zao (wc.heap[gb395]? = some (.cells #[(.slice A0_0 l0_0.length c0_0), (.slice A0_1 l0_1.length c0_1)] 40 (0, 0))) ∧ zao (wc.heap[gb396]? = some (.cells #[.int .i64 0, (.slice none 0 0)] 28 (0, 0))) ∧ zao (Below w.heap.size w wc))
 case first =>
  have H := HC3.out
  clear HC3
  obtain ⟨t397, A6, H⟩ := xI H
  by_cases c7 : t397 = true
  ·subst c7
   rw [if_pos rfl] at H
   obtain ⟨t398, A8, H⟩ := xI H
   have H' := ax H
   clear H
   have hnb9 := NB395_396.out
   have hnc9 := NB396_395.out
   have hcz10_0 := bc0 BK395.out
   have hcz10_1 := bc1 BK395.out
   have hfz10_0 := zae BK395.out 0
   have hfz10_1 := zae BK395.out 1
   go_wp2_with (first | ((with_reducible refine zan (f := 41) rfl ?_); refine zaM (some 7) rfl rfl Try.func41 (by kernel_rfl) rfl #[.agg #[.slice A0_0 l0_0.length c0_0, .slice A0_1 l0_1.length c0_1]] rfl xm ?_; (with_reducible refine (za1.calls k _ _ l0_0 _ _ l0_1 true _ ?side1 ?side2 ?side3 ?side4 A6.out).mono ?_); (case side1 => exact xz HR0_0.out HB.out); (case side2 => exact HC0_0.out); (case side3 => exact xz HR0_1.out HB.out); (case side4 => exact HC0_1.out); rintro e w11 ⟨rfl, hb⟩; refine ⟨_, rfl, ?_⟩; replace BK395 := ax (bb BK395.out hb); replace BK396 := ax (bb BK396.out hb); replace HB := ax (zat (bh HB.out) hb); (try clear hb)) | (go_at_call 42; (with_reducible refine (zbv.calls a1 1 4 t398 _ A8.out).mono ?_); rintro e w' ⟨rfl, ⟨nd, rfl⟩⟩))
   go_meet
   case rel => exact ⟨_, (!t398), xr, H', ⟨by first | omega | exact Nat.le_refl _⟩, ⟨xk BK395.out⟩, ⟨xk BK396.out⟩, ⟨bh HB.out⟩⟩
  ·replace c7 := Bool.eq_false_iff.mpr c7
   subst c7
   rw [if_neg (show ¬ (false = true) by decide)] at H
   have H' := ax H
   clear H
   have hnb12 := NB395_396.out
   have hnc12 := NB396_395.out
   have hcz13_0 := bc0 BK395.out
   have hcz13_1 := bc1 BK395.out
   have hfz13_0 := zae BK395.out 0
   have hfz13_1 := zae BK395.out 1
   go_wp2_with (first | ((with_reducible refine zan (f := 41) rfl ?_); refine zaM (some 7) rfl rfl Try.func41 (by kernel_rfl) rfl #[.agg #[.slice A0_0 l0_0.length c0_0, .slice A0_1 l0_1.length c0_1]] rfl xm ?_; (with_reducible refine (za1.calls k _ _ l0_0 _ _ l0_1 false _ ?side1 ?side2 ?side3 ?side4 A6.out).mono ?_); (case side1 => exact xz HR0_0.out HB.out); (case side2 => exact HC0_0.out); (case side3 => exact xz HR0_1.out HB.out); (case side4 => exact HC0_1.out); rintro e w14 ⟨rfl, hb⟩; refine ⟨_, rfl, ?_⟩; replace BK395 := ax (bb BK395.out hb); replace BK396 := ax (bb BK396.out hb); replace HB := ax (zat (bh HB.out) hb); (try clear hb)))
   go_meet
   case rel => exact ⟨_, (true), xr, H', ⟨by first | omega | exact Nat.le_refl _⟩, ⟨xk BK395.out⟩, ⟨xk BK396.out⟩, ⟨bh HB.out⟩⟩
 case rest =>
  clear HC3
  (try clear c7); (try clear hcz10_0); (try clear hcz10_1); (try clear hcz13_0); (try clear hcz13_1); (try clear hfz10_0); (try clear hfz10_1); (try clear hfz13_0); (try clear hfz13_1)
  obtain ⟨kq, x13_2, rfl, HA, HJ2, BK395, BK396, HB⟩ := hcut
  cases kq with
  | zero => exact absurd HA.out (by simp [zaN.j0])
  | succ kj2 =>
   have H := HA.out
   clear HA
   simp only [zaN.j0] at H
   by_cases c15 : x13_2 = true
   ·subst c15
    rw [if_pos rfl] at H
    simp only [Option.some.injEq, Prod.mk.injEq] at H
    obtain ⟨rfl, rfl, rfl⟩ := H
    have hnb16 := NB396_395.out
    have hnc16 := NB395_396.out
    have hcz17_0 := bc0 BK396.out
    have hcz17_1 := bc1 BK396.out
    have hfz17_0 := zae BK396.out 0
    have hfz17_1 := zae BK396.out 1
    go_wp2
    refine bodyPost_ret (zdR rfl _ _ gb396 28 #[.int .i64 0, .slice none 0 0] (0, 0) _ rfl (by (with_reducible repeat (first | refine zak ?_ _ | refine zal ?_ | refine zai ?_ _)); refine zbz (cs := #[.int .i64 0, .slice none 0 0]) ?_ 1 _ rfl; (with_reducible repeat (first | refine zak ?_ _ | refine zal ?_ | refine zai ?_ _)); refine zbz (cs := #[.int .i64 0, .slice none 0 0]) ?_ 0 _ rfl; (with_reducible repeat (first | refine zak ?_ _ | refine zal ?_ | refine zai ?_ _)); exact BK396.out) Try.underlying28 rfl (by kernel_rfl)) rfl ?_
    exact ⟨_, xe, by first | exact Kd.zgM _ _ _ _ _ | exact Kd.zgs _ _ _ _ _ | exact Kd.zgK _ _ _ _ _ | exact Kd.zgO _ _ _ _ _ | exact Kd.zeJ _ _ _ _ _, bh HB.out⟩
   ·replace c15 := Bool.eq_false_iff.mpr c15
    subst c15
    rw [if_neg (show ¬ (false = true) by decide)] at H
    obtain ⟨t399, A18, H⟩ := xI H
    obtain ⟨⟨t402, t403⟩, A19, H⟩ := xI H
    dsimp only at H
    simp only [Option.some.injEq, Prod.mk.injEq] at H
    obtain ⟨rfl, rfl, rfl⟩ := H
    have hnb20 := NB395_396.out
    have hnc20 := NB396_395.out
    have hcz21_0 := bc0 BK395.out
    have hcz21_1 := bc1 BK395.out
    have hfz21_0 := zae BK395.out 0
    have hfz21_1 := zae BK395.out 1
    go_wp2_with (first | ((with_reducible refine zan (f := 43) rfl ?_); refine zaM (some 18) rfl rfl Try.func43 (by kernel_rfl) rfl #[.agg #[.slice A0_0 l0_0.length c0_0, .slice A0_1 l0_1.length c0_1], .int .i64 a1] rfl xm ?_; (with_reducible refine (zar.calls kj2 _ _ l0_0 _ _ l0_1 a1 t399 _ ?side1 ?side2 ?side3 ?side4 A18.out).mono ?_); (case side1 => exact xz HR0_0.out HB.out); (case side2 => exact HC0_0.out); (case side3 => exact xz HR0_1.out HB.out); (case side4 => exact HC0_1.out); rintro e w22 ⟨v400, rfl, ho0, hb⟩; refine ⟨_, rfl, ?_⟩; have HO401 := ax (Kd.zcD (Kd.zaQ (ok' := fun k_ => (w.heap.size ≤ k_) ∧ k_ ≠ gb395 ∧ k_ ≠ gb396) ho0 (fun k_ hk_ => ⟨(Nat.le_trans (zaf (bh HB.out)) hk_), (Kd.zb9 (g := gb395) (o := .cells #[.slice A0_0 l0_0.length c0_0, .slice A0_1 l0_1.length c0_1] 40 (0, 0)) (xk BK395.out) k_ hk_), (Kd.zb9 (g := gb396) (o := .cells #[.int .i64 0, .slice none 0 0] 28 (0, 0)) (xk BK396.out) k_ hk_)⟩)) (zaf (bh HB.out))); replace BK395 := ax (bb BK395.out hb); replace BK396 := ax (bb BK396.out hb); replace HB := ax (zat (bh HB.out) hb); (try clear hb); (try clear ho0); obtain ⟨Ao23, co23, eo23⟩ := Kd.zbx HO401.out; subst eo23) | ((with_reducible refine zan (f := 32) rfl ?_); refine zaM (some 19) rfl rfl Try.func32 (by kernel_rfl) rfl #[.int .i64 a1, .slice Ao23 t399.length co23] rfl xm ?_; (with_reducible refine (zav.calls kj2 a1 _ _ t399 t402 t403 _ ?side1 ?side2 A19.out).mono ?_); (case side1 => exact xc (Kd.zay HO401.out).2.2); (case side2 => exact (Kd.zay HO401.out).2.1); rintro e w24 ⟨v404, rfl, ho0, hb⟩; refine ⟨_, rfl, ?_⟩; have HO405 := ax (Kd.zcZ (Kd.zbr (ok' := fun k_ => (w.heap.size ≤ k_) ∧ some k_ ≠ (.slice Ao23 t399.length co23 : Value).ownBlock ∧ k_ ≠ gb395 ∧ k_ ≠ gb396) (Kd.zdh ho0) (fun k_ hk_ => ⟨(Nat.le_trans (zaf (bh HB.out)) hk_.2.1), (Kd.fresh' (Kd.N_lt (xN HO401.out)) k_ hk_.2.1), (Kd.zb9 (g := gb395) (o := .cells #[.slice A0_0 l0_0.length c0_0, .slice A0_1 l0_1.length c0_1] 40 (0, 0)) (xk BK395.out) k_ hk_.2.1), (Kd.zb9 (g := gb396) (o := .cells #[.int .i64 0, .slice none 0 0] 28 (0, 0)) (xk BK396.out) k_ hk_.2.1)⟩)) (zaf (bh HB.out))); replace HO401 := ax (Kd.zbI (xN HO401.out) (by first | exact Kd.zdu ho0 | exact Kd.zcT ho0 | exact Kd.zbh ho0) hb); replace BK395 := ax (bb BK395.out hb); replace BK396 := ax (bb BK396.out hb); replace HB := ax (zat (bh HB.out) hb); (try clear hb); (try clear ho0); have hcz25_0 := bc0 BK396.out; have hcz25_1 := bc1 BK396.out; have hfz25_0 := zae BK396.out 0; have hfz25_1 := zae BK396.out 1; obtain ⟨Ao26, co26, eo26⟩ := Kd.zcY HO405.out; subst eo26))
    refine bodyPost_ret (zdR rfl _ _ gb396 28 #[.int .i64 t402, .slice Ao26 t403.length co26] (0, 0) _ rfl (by (with_reducible repeat (first | refine zak ?_ _ | refine zal ?_ | refine zai ?_ _)); refine zbz (cs := #[.int .i64 t402, .slice none 0 0]) ?_ 1 _ rfl; (with_reducible repeat (first | refine zak ?_ _ | refine zal ?_ | refine zai ?_ _)); refine zbz (cs := #[.int .i64 0, .slice none 0 0]) ?_ 0 _ rfl; (with_reducible repeat (first | refine zak ?_ _ | refine zal ?_ | refine zai ?_ _)); exact BK396.out) Try.underlying28 rfl (by kernel_rfl)) rfl ?_
    exact ⟨_, xe, by (with_reducible repeat (first | apply Kd.zbk | apply Kd.zbf | apply Kd.zbw)); exact Kd.zbr (Kd.zjz (p := ⟨gb396, 1, none⟩) (Kd.zjz (p := ⟨gb396, 0, none⟩) (Kd.zbr HO405.out (fun k_ hk => (⟨hk, hk.2.2.2⟩ : _ ∧ k_ ≠ gb396))) (fun _ hk => hk.2) (.int .i64 t402)) (fun _ hk => hk.2) (.slice Ao26 t403.length co26)) (fun _ _ => trivial), bh HB.out⟩

/-! ### zbG: function 23 -/
def zbG.f (k : Nat) (l0_0 : List Int) (l0_1 : List Int) (a1 : Int) : Option (Int × List Int × List Int) := (zaO.f k l0_0 a1).bind fun bt407 => ((zaO.f k l0_1 bt407.1).bind fun bt409 => (some (bt409.1, bt407.2, bt409.2)))
theorem zbG.mono : ∀ a0 a1 a2 k, LeO (zbG.f k a0 a1 a2) (zbG.f (k + 1) a0 a1 a2) := by
 intro a0 a1 a2 k
 unfold zbG.f
 repeat' with_reducible first | exact zaO.mono _ _ _ | exact xl | refine LeO.ite ?_ ?_ | refine LeO.bind ?_ fun _ => ?_
theorem zbG.calls (k : Nat) (P0_0_ : Nat → Prop) (u9000_ : Value) (l0_0 : List Int) (P0_1_ : Nat → Prop) (u9001_ : Value) (l0_1 : List Int) (a1 : Int) (r1 : Int) (r2 : List Int) (r3 : List Int) (w0 w : World) (hB : Below w0.heap.size w0 w) (ho0_0 : Kd.R (Kd.int .i64) 3 w w0.heap.size P0_0_ u9000_ l0_0) (hp0_0_0_1 : ∀ k_, P0_0_ k_ → ¬ P0_1_ k_) (ho0_1 : Kd.R (Kd.int .i64) 3 w w0.heap.size P0_1_ u9001_ l0_1) (hp0_1_0_0 : ∀ k_, P0_1_ k_ → ¬ P0_0_ k_) (h : zbG.f k l0_0 l0_1 a1 = some (r1, r2, r3)) :
  Calls Try.prog 23 #[.agg #[u9000_, u9001_], .int .i64 a1] w fun e w' => e = .returned (.int .i64 r1) ∧ Kd.R (Kd.int .i64) 3 w' w0.heap.size (fun k_ => ((P0_0_ k_ ∨ P0_1_ k_) ∨ w.heap.size ≤ k_)) u9000_ r2 ∧ Kd.R (Kd.int .i64) 3 w' w0.heap.size (fun k_ => ((P0_0_ k_ ∨ P0_1_ k_) ∨ w.heap.size ≤ k_)) u9001_ r3 ∧ Below w0.heap.size w0 w' ∧ Kept w w' (fun k_ => P0_0_ k_ ∨ P0_1_ k_) := by
 have hu40 := Try.underlying40
 have HO0_0 := ax (show Kd.R (Kd.int .i64) 3 w w0.heap.size (fun k_ => ((P0_0_ k_ ∨ P0_1_ k_) ∨ w.heap.size ≤ k_) ∧ some k_ ≠ (u9001_ : Value).ownBlock) u9000_ l0_0 from Kd.za7 ho0_0 (fun k_ hk => ⟨(.inl (.inl hk)), fun e_ => hp0_0_0_1 k_ hk (ho0_1.1 k_ e_.symm)⟩))
 have HO0_1 := ax (show Kd.R (Kd.int .i64) 3 w w0.heap.size (fun k_ => ((P0_0_ k_ ∨ P0_1_ k_) ∨ w.heap.size ≤ k_) ∧ some k_ ≠ (u9000_ : Value).ownBlock) u9001_ l0_1 from Kd.za7 ho0_1 (fun k_ hk => ⟨(.inl (.inr hk)), fun e_ => hp0_1_0_0 k_ hk (ho0_0.1 k_ e_.symm)⟩))
 have HK := ax (Kept.refl w (fun k_ => P0_0_ k_ ∨ P0_1_ k_))
 have HW0 := ax hB.size
 have HB := ax hB
 clear hB
 have H : ((zaO.f k l0_0 a1).bind fun bt407 => ((zaO.f k l0_1 bt407.1).bind fun bt409 => (some (bt409.1, bt407.2, bt409.2)))) = some (r1, r2, r3) := h
 clear h
 obtain ⟨⟨t407, t408⟩, A3, H⟩ := xI H
 dsimp only at H
 obtain ⟨⟨t409, t410⟩, A4, H⟩ := xI H
 dsimp only at H
 simp only [Option.some.injEq, Prod.mk.injEq] at H
 obtain ⟨rfl, rfl, rfl⟩ := H
 obtain ⟨Ao5, co5, eo5⟩ := Kd.zbT HO0_0.out
 subst eo5
 obtain ⟨Ao6, co6, eo6⟩ := Kd.zbT HO0_1.out
 subst eo6
 go_enter Try.func23, Try.ntmps23
 go_wp2_with (first | ((with_reducible refine zaG (N := 2) rfl ?_); refine zaK ?hg (N := 2) ?hd (cs := #[.slice Ao5 l0_0.length co5, .slice Ao6 l0_1.length co6]) (t := 40) ?hr ?_; (case hd => rfl); (case hg => rfl); (case hr => first | (go_simp; done) | (go_simp; rfl)); intro gb406 hg w7 hbox hb; replace HO0_0 := yR HO0_0 hb; replace HO0_1 := yR HO0_1 hb; have BK406 := ax (hbox); have GW406 := ax ((by rw [hg]; exact (by first | exact HK.out.1 | exact (show Kept w _ (fun k_ => P0_0_ k_ ∨ P0_1_ k_) from by repeat (first | (with_reducible first | exact HK.out | apply Kept.alloc | apply Kept.drewN | apply Kept.drew) | exact HK.out)).1) : w.heap.size ≤ gb406)); replace HK := ax (Kept.below (S := (fun k_ => P0_0_ k_ ∨ P0_1_ k_)) (by repeat (first | (with_reducible first | exact HK.out | apply Kept.alloc | apply Kept.drewN | apply Kept.drew) | exact HK.out)) hb); have GE406 := ax ((by rw [hg]; exact (zaf (xb HB.out)) : w0.heap.size ≤ gb406)); replace HB := yB HB hb; clear hb hbox hg; have hcz8_0 := bc0 BK406.out; have hcz8_1 := bc1 BK406.out; have hfz8_0 := zae BK406.out 0; have hfz8_1 := zae BK406.out 1) | ((with_reducible refine zan (f := 49) rfl ?_); refine zaM (some 8) rfl rfl Try.func49 (by kernel_rfl) rfl #[.slice Ao5 l0_0.length co5, .int .i64 a1] rfl xm ?_; (with_reducible refine (zaO.calls k (fun k_ => some k_ = (.slice Ao5 l0_0.length co5 : Value).ownBlock) (.slice Ao5 l0_0.length co5) l0_0 a1 t407 t408 w0 _ ?side1 ?side2 A3.out).mono ?_); (case side1 => exact xs HB.out GE406.out); (case side2 => exact Kd.zdi rfl HO0_0.out); rintro e w9 ⟨rfl, hy0, hb, hkp⟩; refine ⟨_, rfl, ?_⟩; replace HO0_1 := ax (Kd.za7 (ok' := fun k_ => ((P0_0_ k_ ∨ P0_1_ k_) ∨ w.heap.size ≤ k_) ∧ some k_ ≠ (.slice Ao5 l0_0.length co5 : Value).ownBlock) (Kd.zdx (HO0_1.out) hkp (fun k_ hk_ hs_ => (hk_.2) hs_)) (fun k_ hk_ => ⟨hk_.1.1, hk_.1.2⟩)); replace BK406 := ax (zb5 (xk BK406.out) hkp (fun hs_ => (fun e_ => (Kd.R_ne HO0_0.out BK406.out (by decide)) e_) hs_)); replace HK := ax (Kept.zdv (S := (fun k_ => P0_0_ k_ ∨ P0_1_ k_)) (by repeat (first | (with_reducible first | exact HK.out | apply Kept.alloc | apply Kept.drewN | apply Kept.drew | refine Kept.setCell ?_ (.inr GW406.out) _) | exact HK.out)) hkp (fun k_ hs_ => (fun e_ => (HO0_0.out.1 k_ e_.symm).1) hs_)); replace HO0_0 := ax (Kd.zfz rfl hy0 (fun k_ e_ => HO0_0.out.1 k_ e_)); replace HB := ax (hb); (try clear hb); (try clear hkp); (try clear hy0); have hcz10_0 := bc0 BK406.out; have hcz10_1 := bc1 BK406.out; have hfz10_0 := zae BK406.out 0; have hfz10_1 := zae BK406.out 1) | ((with_reducible refine zan (f := 49) rfl ?_); refine zaM (some 12) rfl rfl Try.func49 (by kernel_rfl) rfl #[.slice Ao6 l0_1.length co6, .int .i64 t407] rfl xm ?_; (with_reducible refine (zaO.calls k (fun k_ => some k_ = (.slice Ao6 l0_1.length co6 : Value).ownBlock) (.slice Ao6 l0_1.length co6) l0_1 t407 t409 t410 w0 _ ?side1 ?side2 A4.out).mono ?_); (case side1 => exact xs HB.out GE406.out); (case side2 => exact Kd.zdi rfl HO0_1.out); rintro e w11 ⟨rfl, hy0, hb, hkp⟩; refine ⟨_, rfl, ?_⟩; replace HO0_0 := ax (Kd.za7 (ok' := fun k_ => ((P0_0_ k_ ∨ P0_1_ k_) ∨ w.heap.size ≤ k_) ∧ some k_ ≠ (.slice Ao6 l0_1.length co6 : Value).ownBlock) (Kd.zdx (HO0_0.out) hkp (fun k_ hk_ hs_ => (hk_.2) hs_)) (fun k_ hk_ => ⟨hk_.1.1, hk_.1.2⟩)); replace BK406 := ax (zb5 (xk BK406.out) hkp (fun hs_ => (fun e_ => (Kd.R_ne HO0_1.out BK406.out (by decide)) e_) hs_)); replace HK := ax (Kept.zdv (S := (fun k_ => P0_0_ k_ ∨ P0_1_ k_)) (by repeat (first | (with_reducible first | exact HK.out | apply Kept.alloc | apply Kept.drewN | apply Kept.drew | refine Kept.setCell ?_ (.inr GW406.out) _) | exact HK.out)) hkp (fun k_ hs_ => (fun e_ => (HO0_1.out.1 k_ e_.symm).1) hs_)); replace HO0_1 := ax (Kd.zfz rfl hy0 (fun k_ e_ => HO0_1.out.1 k_ e_)); replace HB := ax (hb); (try clear hb); (try clear hkp); (try clear hy0)))
 go_ret
 exact ⟨xe, by (with_reducible repeat (first | apply Kd.zbd | apply Kd.zbc | apply Kd.zbq)); exact Kd.za7 HO0_0.out (fun _ hk => hk.1), by (with_reducible repeat (first | apply Kd.zbd | apply Kd.zbc | apply Kd.zbq)); exact Kd.za7 HO0_1.out (fun _ hk => hk.1), xs HB.out GE406.out, by repeat (first | (with_reducible first | exact HK.out | apply Kept.alloc | apply Kept.drewN | apply Kept.drew | refine Kept.setCell ?_ (.inr GW406.out) _) | exact HK.out)⟩

end Go.Proofs.Ytneipehcmmigeaa.PFnExactSchurPoly
