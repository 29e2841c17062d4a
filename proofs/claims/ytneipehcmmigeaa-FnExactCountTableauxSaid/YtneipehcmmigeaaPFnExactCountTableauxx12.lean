import Derived.Test.YtneipehcmmigeaaPFnExactCountTableauxx11
namespace Go.Proofs.Ytneipehcmmigeaa.PFnExactCountTableaux
open Go.RowKit Go.Proofs.YtneipehcmmigeaaW.PrintWords Go.Proofs.YtneipehcmmigeaaW.PrintLast Go.Proofs.YtneipehcmmigeaaW.PrintMore
set_option linter.unusedVariables false
set_option linter.unusedSimpArgs false
set_option maxHeartbeats 8000000
set_option maxRecDepth 100000
/-! ### impl_removed__impl_IsHorizontalStrip: function 122 -/
def impl_removed__impl_IsHorizontalStrip.j0 : Nat → Int → Bool → List Int → Option ((List (List Int)))
 | 0, _, _, _ => none
 | k + 1, x1, x16, x288000 => if x16 = true then (some ([] : List (List Int))) else ((impl_sum.f k x288000).bind fun t292 => ((impl_chosen__impl_removed_1__impl_IsHorizontalStrip.f k (wrap64 (t292 - x1)) x288000).bind fun t293 => (some t293)))
def impl_removed__impl_IsHorizontalStrip.f (k : Nat) (l0 : List Int) (a1 : Int)  : Option ((List (List Int))) := (impl_IsPartition.f k l0).bind fun t289 => (if t289 = true then ((impl_sum.f k l0).bind fun t290 => ((impl_within.f a1 0 t290).bind fun t291 => (impl_removed__impl_IsHorizontalStrip.j0 k a1 (!t291) l0))) else (impl_removed__impl_IsHorizontalStrip.j0 k a1 true l0))
theorem impl_removed__impl_IsHorizontalStrip.mono_l : ∀ k, (∀ y0 y1 y2, LeO (impl_removed__impl_IsHorizontalStrip.j0 k y0 y1 y2) (impl_removed__impl_IsHorizontalStrip.j0 (k + 1) y0 y1 y2))
 | 0 => fun _ _ _ r h => by simp [impl_removed__impl_IsHorizontalStrip.j0] at h
 | k + 1 => by
  have ih0 := impl_removed__impl_IsHorizontalStrip.mono_l k
  ·intro y0 y1 y2
   unfold impl_removed__impl_IsHorizontalStrip.j0
   repeat' with_reducible first | exact ih0 _ _ _ | exact impl_IsPartition.mono _ _ | exact impl_chosen__impl_removed_1__impl_IsHorizontalStrip.mono _ _ _ | exact impl_sum.mono _ _ | exact xl | refine LeO.ite ?_ ?_ | refine LeO.bind ?_ fun _ => ?_
theorem impl_removed__impl_IsHorizontalStrip.mono : ∀ a0 a1 k, LeO (impl_removed__impl_IsHorizontalStrip.f k a0 a1) (impl_removed__impl_IsHorizontalStrip.f (k + 1) a0 a1) := by
 intro a0 a1 k
 have ih0 := impl_removed__impl_IsHorizontalStrip.mono_l k
 unfold impl_removed__impl_IsHorizontalStrip.f
 repeat' with_reducible first | exact ih0 _ _ _ | exact impl_IsPartition.mono _ _ | exact impl_chosen__impl_removed_1__impl_IsHorizontalStrip.mono _ _ _ | exact impl_sum.mono _ _ | exact xl | refine LeO.ite ?_ ?_ | refine LeO.bind ?_ fun _ => ?_
theorem impl_removed__impl_IsHorizontalStrip.calls (k : Nat) (A0 : Option Addr) (c0 : Nat) (l0 : List Int) (a1 : Int)  (r : List (List Int)) (w : World) (hr0 : Kd.C (Kd.int .i64) w A0 l0.length l0) (hc0 : l0.length ≤ c0) (h : impl_removed__impl_IsHorizontalStrip.f k l0 a1 = some r) :
  Calls Try.prog 87 #[.slice A0 l0.length c0, .int .i64 a1, .func (.func 88) #[] #[]] w fun e w' => ∃ v0_ : Value, e = .returned (v0_) ∧ Kd.N (Kd.slice 3 (Kd.int .i64)) 35 w' w.heap.size (fun k_ => (w.heap.size ≤ k_)) v0_ r ∧ Below w.heap.size w w' := by
 have HR0 := ax hr0
 have HC0 := ax hc0
 clear hr0 hc0
 have HB := ax (Below.refl w.heap.size w)
 have H : ((impl_IsPartition.f k l0).bind fun t289 => (if t289 = true then ((impl_sum.f k l0).bind fun t290 => ((impl_within.f a1 0 t290).bind fun t291 => (impl_removed__impl_IsHorizontalStrip.j0 k a1 (!t291) l0))) else (impl_removed__impl_IsHorizontalStrip.j0 k a1 true l0))) = some r := h
 clear h
 have HC4 := ax H
 clear H
 go_enter Try.func87, Try.ntmps87
 go_upto_region 1 with (first | ((with_reducible refine gate_dst (N := 3) rfl ?_); refine box_event ?hg (N := 3) ?hd (cs := #[.slice A0 l0.length c0]) (t := 35) ?hr ?_; (case hd => rfl); (case hg => rfl); (case hr => first | (go_simp; done) | (go_simp; rfl)); intro gb287 hg w5 hbox hb; have BK287 := ax (hbox); have GW287 := ax ((by rw [hg]; exact (below_size (xb HB.out)) : w.heap.size ≤ gb287)); have GE287 := ax ((by rw [hg]; exact (below_size (xb HB.out)) : w.heap.size ≤ gb287)); replace HB := yB HB hb; clear hb hbox hg) | ((with_reducible refine gate_dst (N := 5) rfl ?_); refine box_event ?hg (N := 5) ?hd (cs := #[.func (.func 88) #[] #[]]) (t := 58) ?hr ?_; (case hd => rfl); (case hg => rfl); (case hr => first | (go_simp; done) | (go_simp; rfl)); intro gb288 hg w6 hbox hb; have BK288 := ax (hbox); have GW288 := ax ((by rw [hg]; exact (below_size (xs HB.out GE287.out)) : w.heap.size ≤ gb288)); have GE288 := ax ((by rw [hg]; exact (below_size (xs HB.out GE287.out)) : w.heap.size ≤ gb288)); replace HB := ax (below_step (xs HB.out GE287.out) hb); have NB287_288 := ax ((by rw [hg]; exact Nat.ne_of_lt (blk_lt (g := gb287) (o := .cells #[.slice A0 l0.length c0] 35 (0, 0)) (xk BK287.out)) : gb287 ≠ gb288)); have NB288_287 := ax ((by rw [hg]; exact Nat.ne_of_gt (blk_lt (g := gb287) (o := .cells #[.slice A0 l0.length c0] 35 (0, 0)) (xk BK287.out)) : gb288 ≠ gb287)); replace BK287 := ax (blk_below (g := gb287) (o := .cells #[.slice A0 l0.length c0] 35 (0, 0)) (xk BK287.out) hb); clear hb hbox hg))
 (try simp only [Act.put, List.setIfInBounds_toArray, List.set_cons_zero, List.set_cons_succ])
 go_cut [16] (fun v16 wc => ∃ (kq : Nat) (x16_3 : Bool), v16 = .bool x16_3 ∧ Aside0 (impl_removed__impl_IsHorizontalStrip.j0 kq a1 x16_3 l0 = some r) ∧ Aside0 (kq ≤ k) ∧ Aside0 (wc.heap[gb287]? = some (.cells #[(.slice A0 l0.length c0)] 35 (0, 0))) ∧ Aside0 (wc.heap[gb288]? = some (.cells #[.func (.func 88) #[] #[]] 58 (0, 0))) ∧ Aside0 (Below w.heap.size w wc))
 case first =>
  have H := HC4.out
  clear HC4
  obtain ⟨t289, A7, H⟩ := xI H
  by_cases c8 : t289 = true
  ·subst c8
   rw [if_pos rfl] at H
   obtain ⟨t290, A9, H⟩ := xI H
   obtain ⟨t291, A10, H⟩ := xI H
   have H' := ax H
   clear H
   have hnb11 := NB287_288.out
   have hnc11 := NB288_287.out
   have hcz12_0 : w6.cell? ⟨gb287, 0, none⟩ = some (.slice A0 l0.length c0) := (blk_cell BK287.out 0).trans rfl
   have hfz12_0 := blk_frozen BK287.out 0
   go_wp2_with (first | ((with_reducible refine gate_callee (f := 84) rfl ?_); refine goesL_ (some 8) rfl rfl Try.func84 (by kernel_rfl) rfl #[.slice A0 l0.length c0] rfl xm ?_; (with_reducible refine (impl_IsPartition.calls k _ _ l0 true _ ?side1 ?side2 A7.out).mono ?_); (case side1 => exact xz HR0.out HB.out); (case side2 => exact HC0.out); rintro e w' ⟨rfl, ⟨nd, rfl⟩⟩; refine ⟨_, rfl, ?_⟩) | (go_at_call 86; (with_reducible refine (impl_sum.calls k _ _ l0 t290 _ ?side1 ?side2 A9.out).mono ?_); (case side1 => repeat (first | exact (Kd.C_below HR0.out (by repeat (first | (with_reducible first | exact HB.out | apply below_alloc | apply pw_below_drewN | apply below_drew1 | refine below_set ?_ GE287.out | refine below_set ?_ GE288.out) | exact HB.out))) | (with_reducible refine Kd.C_alloc ?_ _) | (with_reducible refine Kd.C_drewN ?_ _) | (with_reducible refine Kd.C_drew ?_))); (case side2 => exact HC0.out); rintro e w' ⟨rfl, ⟨nd, rfl⟩⟩) | (go_at_call 42; (with_reducible refine (impl_within.calls a1 0 t290 t291 _ A10.out).mono ?_); rintro e w' ⟨rfl, ⟨nd, rfl⟩⟩))
   go_meet
   case rel => exact ⟨_, (!t291), xr, H', ⟨by first | omega | exact Nat.le_refl _⟩, ⟨xk BK287.out⟩, ⟨xk BK288.out⟩, ⟨by repeat (first | (with_reducible first | exact HB.out | apply below_alloc | apply pw_below_drewN | apply below_drew1 | refine below_set ?_ GE287.out | refine below_set ?_ GE288.out) | exact HB.out)⟩⟩
  ·replace c8 := Bool.eq_false_iff.mpr c8
   subst c8
   rw [if_neg (show ¬ (false = true) by decide)] at H
   have H' := ax H
   clear H
   have hnb13 := NB287_288.out
   have hnc13 := NB288_287.out
   have hcz14_0 : w6.cell? ⟨gb287, 0, none⟩ = some (.slice A0 l0.length c0) := (blk_cell BK287.out 0).trans rfl
   have hfz14_0 := blk_frozen BK287.out 0
   go_wp2_with (first | ((with_reducible refine gate_callee (f := 84) rfl ?_); refine goesL_ (some 8) rfl rfl Try.func84 (by kernel_rfl) rfl #[.slice A0 l0.length c0] rfl xm ?_; (with_reducible refine (impl_IsPartition.calls k _ _ l0 false _ ?side1 ?side2 A7.out).mono ?_); (case side1 => exact xz HR0.out HB.out); (case side2 => exact HC0.out); rintro e w' ⟨rfl, ⟨nd, rfl⟩⟩; refine ⟨_, rfl, ?_⟩))
   go_meet
   case rel => exact ⟨_, (true), xr, H', ⟨by first | omega | exact Nat.le_refl _⟩, ⟨xk BK287.out⟩, ⟨xk BK288.out⟩, ⟨by repeat (first | (with_reducible first | exact HB.out | apply below_alloc | apply pw_below_drewN | apply below_drew1 | refine below_set ?_ GE287.out | refine below_set ?_ GE288.out) | exact HB.out)⟩⟩
 case rest =>
  clear HC4
  (try clear c8); (try clear hcz12_0); (try clear hcz14_0); (try clear hfz12_0); (try clear hfz14_0)
  obtain ⟨kq, x16_3, rfl, HA, HJ3, BK287, BK288, HB⟩ := hcut
  cases kq with
  | zero => exact absurd HA.out (by simp [impl_removed__impl_IsHorizontalStrip.j0])
  | succ kj3 =>
   have H := HA.out
   clear HA
   simp only [impl_removed__impl_IsHorizontalStrip.j0] at H
   by_cases c15 : x16_3 = true
   ·subst c15
    rw [if_pos rfl] at H
    obtain rfl := Option.some.inj H
    go_wp2
    go_ret
    exact ⟨_, xe, by first | exact Kd.S_nil _ _ _ _ _ | exact Kd.N_nil _ _ _ _ _ | exact Kd.V_nil _ _ _ _ _ | exact Kd.Q_nil _ _ _ _ _ | exact Kd.R_nil _ _ _ _ _, by repeat (first | (with_reducible first | exact HB.out | apply below_alloc | apply pw_below_drewN | apply below_drew1 | refine below_set ?_ GE287.out | refine below_set ?_ GE288.out) | exact HB.out)⟩
   ·replace c15 := Bool.eq_false_iff.mpr c15
    subst c15
    rw [if_neg (show ¬ (false = true) by decide)] at H
    obtain ⟨t292, A16, H⟩ := xI H
    obtain ⟨t293, A17, H⟩ := xI H
    obtain rfl := Option.some.inj H
    have hnb18 := NB287_288.out
    have hnc18 := NB288_287.out
    have hcz19_0 : wc.cell? ⟨gb287, 0, none⟩ = some (.slice A0 l0.length c0) := (blk_cell BK287.out 0).trans rfl
    have hfz19_0 := blk_frozen BK287.out 0
    go_wp2_with (first | ((with_reducible refine gate_callee (f := 86) rfl ?_); refine goesL_ (some 18) rfl rfl Try.func86 (by kernel_rfl) rfl #[.slice A0 l0.length c0] rfl xm ?_; (with_reducible refine (impl_sum.calls kj3 _ _ l0 t292 _ ?side1 ?side2 A16.out).mono ?_); (case side1 => exact xz HR0.out HB.out); (case side2 => exact HC0.out); rintro e w' ⟨rfl, ⟨nd, rfl⟩⟩; refine ⟨_, rfl, ?_⟩) | ((with_reducible refine gate_callee (f := 92) rfl ?_); refine goesL_ (some 22) rfl rfl Try.func92 (by kernel_rfl) rfl #[.int .i64 (wrap64 (t292 - a1)), .func (.func 93) #[] #[.pointer (some ⟨gb288, 0, none⟩), .pointer (some ⟨gb287, 0, none⟩)]] rfl xm ?_; (with_reducible refine (impl_chosen__impl_removed_1__impl_IsHorizontalStrip.calls kj3 (wrap64 (t292 - a1)) gb288 gb287 A0 c0 l0 t293 _ ?side1 ?side2 ?side3 ?side4 A17.out).mono ?_); (case side1 => (with_reducible repeat (first | refine blk_drewN ?_ _ | refine blk_drew ?_ | refine blk_alloc ?_ _)); exact BK288.out); (case side2 => (with_reducible repeat (first | refine blk_drewN ?_ _ | refine blk_drew ?_ | refine blk_alloc ?_ _)); exact BK287.out); (case side3 => repeat (first | exact (Kd.C_below HR0.out (by repeat (first | (with_reducible first | exact HB.out | apply below_alloc | apply pw_below_drewN | apply below_drew1 | refine below_set ?_ GE287.out | refine below_set ?_ GE288.out) | exact HB.out))) | (with_reducible refine Kd.C_alloc ?_ _) | (with_reducible refine Kd.C_drewN ?_ _) | (with_reducible refine Kd.C_drew ?_))); (case side4 => exact HC0.out); rintro e w20 ⟨v294, rfl, ho0, hb⟩; refine ⟨_, rfl, ?_⟩; have HO295 := ax (Kd.N_lower (Kd.N_mono (ok' := fun k_ => (w.heap.size ≤ k_) ∧ k_ ≠ gb287 ∧ k_ ≠ gb288) ho0 (fun k_ hk_ => ⟨(Nat.le_trans (below_size (by repeat (first | (with_reducible first | exact HB.out | apply below_alloc | apply pw_below_drewN | apply below_drew1 | refine below_set ?_ GE287.out | refine below_set ?_ GE288.out) | exact HB.out))) hk_), (Kd.freshB (g := gb287) (o := .cells #[.slice A0 l0.length c0] 35 (0, 0)) (xk BK287.out) k_ hk_), (Kd.freshB (g := gb288) (o := .cells #[.func (.func 88) #[] #[]] 58 (0, 0)) (xk BK288.out) k_ hk_)⟩)) (below_size (by repeat (first | (with_reducible first | exact HB.out | apply below_alloc | apply pw_below_drewN | apply below_drew1 | refine below_set ?_ GE287.out | refine below_set ?_ GE288.out) | exact HB.out)))); replace BK287 := ax (blk_below (g := gb287) (o := .cells #[.slice A0 l0.length c0] 35 (0, 0)) (xk BK287.out) hb); replace BK288 := ax (blk_below (g := gb288) (o := .cells #[.func (.func 88) #[] #[]] 58 (0, 0)) (xk BK288.out) hb); replace HB := ax (below_step (by repeat (first | (with_reducible first | exact HB.out | apply below_alloc | apply pw_below_drewN | apply below_drew1 | refine below_set ?_ GE287.out | refine below_set ?_ GE288.out) | exact HB.out)) hb); (try clear hb); (try clear ho0)))
    go_ret
    exact ⟨_, xe, by (with_reducible repeat (first | apply Kd.N_alloc | apply Kd.N_drewN | apply Kd.N_drew)); exact Kd.N_mono HO295.out (fun _ hk => hk.1), by repeat (first | (with_reducible first | exact HB.out | apply below_alloc | apply pw_below_drewN | apply below_drew1 | refine below_set ?_ GE287.out | refine below_set ?_ GE288.out) | exact HB.out)⟩

/-! ### impl_RemoveHorizontal: function 73 -/
def impl_RemoveHorizontal.f (k : Nat) (l0 : List Int) (a1 : Int) : Option ((List (List Int))) := (impl_removed__impl_IsHorizontalStrip.f k l0 a1).bind fun t287 => (some t287)
theorem impl_RemoveHorizontal.mono : ∀ a0 a1 k, LeO (impl_RemoveHorizontal.f k a0 a1) (impl_RemoveHorizontal.f (k + 1) a0 a1) := by
 intro a0 a1 k
 unfold impl_RemoveHorizontal.f
 repeat' with_reducible first | exact impl_removed__impl_IsHorizontalStrip.mono _ _ _ | exact xl | refine LeO.ite ?_ ?_ | refine LeO.bind ?_ fun _ => ?_
theorem impl_RemoveHorizontal.calls (k : Nat) (A0 : Option Addr) (c0 : Nat) (l0 : List Int) (a1 : Int) (r : List (List Int)) (w : World) (hr0 : Kd.C (Kd.int .i64) w A0 l0.length l0) (hc0 : l0.length ≤ c0) (h : impl_RemoveHorizontal.f k l0 a1 = some r) :
  Calls Try.prog 73 #[.slice A0 l0.length c0, .int .i64 a1] w fun e w' => ∃ v0_ : Value, e = .returned (v0_) ∧ Kd.N (Kd.slice 3 (Kd.int .i64)) 35 w' w.heap.size (fun k_ => (w.heap.size ≤ k_)) v0_ r ∧ Below w.heap.size w w' := by
 have HR0 := ax hr0
 have HC0 := ax hc0
 clear hr0 hc0
 have HB := ax (Below.refl w.heap.size w)
 have H : ((impl_removed__impl_IsHorizontalStrip.f k l0 a1).bind fun t287 => (some t287)) = some r := h
 clear h
 obtain ⟨t287, A3, H⟩ := xI H
 obtain rfl := Option.some.inj H
 go_enter Try.func73, Try.ntmps73
 go_wp2_with (first | ((with_reducible refine gate_callee (f := 87) rfl ?_); refine goesL_ (some 7) rfl rfl Try.func87 (by kernel_rfl) rfl #[.slice A0 l0.length c0, .int .i64 a1, .func (.func 88) #[] #[]] rfl xm ?_; (with_reducible refine (impl_removed__impl_IsHorizontalStrip.calls k _ _ l0 a1  t287 _ ?side1 ?side2 A3.out).mono ?_); (case side1 => exact xc HR0.out); (case side2 => exact HC0.out); rintro e w4 ⟨v288, rfl, ho0, hb⟩; refine ⟨_, rfl, ?_⟩; have HO289 := ax (Kd.N_lower (Kd.N_mono (ok' := fun k_ => (w.heap.size ≤ k_)) ho0 (fun k_ hk_ => (Nat.le_trans (below_size (xb HB.out)) hk_))) (below_size (xb HB.out))); replace HB := yB HB hb; (try clear hb); (try clear ho0)))
 go_ret
 exact ⟨_, xe, xN HO289.out, xb HB.out⟩

end Go.Proofs.Ytneipehcmmigeaa.PFnExactCountTableaux
