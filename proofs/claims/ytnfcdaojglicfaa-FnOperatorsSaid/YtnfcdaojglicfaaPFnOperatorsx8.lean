import Derived.Test.YtnfcdaojglicfaaPFnOperatorsx7
namespace Go.Proofs.Ytnfcdaojglicfaa.PFnOperators
open Go.RowKit Go.Proofs.YtnfcdaojglicfaaW.PrintWords Go.Proofs.YtnfcdaojglicfaaW.PrintLast Go.Proofs.YtnfcdaojglicfaaW.PrintMore
set_option linter.unusedVariables false
set_option linter.unusedSimpArgs false
set_option maxHeartbeats 8000000
set_option maxRecDepth 100000
/-! ### spec_l9Insert: function 41 -/
mutual
def spec_l9Insert.l0 : Nat → Int → Int → List Int → List (List Int) → Option (List Int × (List (List Int)) × Int)
 | 0, _, _, _, _ => none
 | k + 1, x1, x7, x444000, x444001 => if x7 < (x444001.length : Int) then (spec_l9Insert.l1 k x1 x7 0 x444000 x444001) else (if x444001.length < 5864062014805 then ((some (x444001 ++ [(([x1] : List Int))] : List (List Int))).bind fun y447 => (some (x444000, y447, wrap64 ((y447.length : Int) - 1)))) else (none))
def spec_l9Insert.l1 : Nat → Int → Int → Int → List Int → List (List Int) → Option (List Int × (List (List Int)) × Int)
 | 0, _, _, _, _, _ => none
 | k + 1, x1, x7, x8, x444000, x444001 => if 0 ≤ x7 then (if x7 < (x444001.length : Int) then (if x8 < ((rd_L2 x444001 x7).length : Int) then (if 0 ≤ x8 then (if (rd (rd_L2 x444001 x7) x8) ≤ x1 then (spec_l9Insert.l1 k x1 x7 (wrap64 (x8 + 1)) x444000 x444001) else (if x8 = ((rd_L2 x444001 x7).length : Int) then (if (rd_L2 x444001 x7).length < 17592186044416 then (some (x444000, (x444001.set (x7 : Int).toNat ((rd_L2 x444001 x7) ++ [x1])), x7)) else (none)) else (spec_l9Insert.l0 k (rd (rd_L2 x444001 x7) x8) (wrap64 (x7 + 1)) x444000 (x444001.set (x7 : Int).toNat ((rd_L2 x444001 x7).set (x8 : Int).toNat x1))))) else (none)) else (if x8 = ((rd_L2 x444001 x7).length : Int) then (if (rd_L2 x444001 x7).length < 17592186044416 then (some (x444000, (x444001.set (x7 : Int).toNat ((rd_L2 x444001 x7) ++ [x1])), x7)) else (none)) else (if 0 ≤ x8 then (none) else (none)))) else (none)) else (none)
end
def spec_l9Insert.f (k : Nat) (l0_0 : List Int) (l0_1 : List (List Int)) (a1 : Int) : Option (List Int × (List (List Int)) × Int) := (spec_l5Copy.f k l0_0 l0_1).bind fun bt437 => (spec_l9Insert.l0 k a1 0 bt437.1 bt437.2)
theorem spec_l9Insert.mono_l : ∀ k, (∀ y0 y1 y2 y3, LeO (spec_l9Insert.l0 k y0 y1 y2 y3) (spec_l9Insert.l0 (k + 1) y0 y1 y2 y3)) ∧ (∀ y0 y1 y2 y3 y4, LeO (spec_l9Insert.l1 k y0 y1 y2 y3 y4) (spec_l9Insert.l1 (k + 1) y0 y1 y2 y3 y4))
 | 0 => ⟨fun _ _ _ _ r h => by simp [spec_l9Insert.l0] at h, fun _ _ _ _ _ r h => by simp [spec_l9Insert.l1] at h⟩
 | k + 1 => by
  obtain ⟨ih0, ih1⟩ := spec_l9Insert.mono_l k
  refine ⟨?_, ?_⟩
  ·intro y0 y1 y2 y3
   unfold spec_l9Insert.l0
   repeat' with_reducible first | exact ih0 _ _ _ _ | exact ih1 _ _ _ _ _ | exact spec_l5Copy.mono _ _ _ | exact xl | refine LeO.ite ?_ ?_ | refine LeO.bind ?_ fun _ => ?_
  ·intro y0 y1 y2 y3 y4
   unfold spec_l9Insert.l1
   repeat' with_reducible first | exact ih0 _ _ _ _ | exact ih1 _ _ _ _ _ | exact spec_l5Copy.mono _ _ _ | exact xl | refine LeO.ite ?_ ?_ | refine LeO.bind ?_ fun _ => ?_
theorem spec_l9Insert.mono : ∀ a0 a1 a2 k, LeO (spec_l9Insert.f k a0 a1 a2) (spec_l9Insert.f (k + 1) a0 a1 a2) := by
 intro a0 a1 a2 k
 obtain ⟨ih0, ih1⟩ := spec_l9Insert.mono_l k
 unfold spec_l9Insert.f
 repeat' with_reducible first | exact ih0 _ _ _ _ | exact ih1 _ _ _ _ _ | exact spec_l5Copy.mono _ _ _ | exact xl | refine LeO.ite ?_ ?_ | refine LeO.bind ?_ fun _ => ?_
def spec_l9Insert.T9 : Bool × List (List Nat × List Nat) := (true, [([], []), ([0], [0]), ([], []), ([], []), ([3], [3]), ([], []), ([4, 5], [4, 5]), ([6], [6]), ([], []), ([8], [8]), ([7, 9], [7, 9]), ([1, 2, 0, 1, 2, 3, 4, 5, 6, 7, 8, 9, 10], [1, 2]), ([11, 10, 10, 0, 1, 2, 3, 4, 5, 6, 7, 8, 9, 10], [10, 11])])
def spec_l9Insert.B9 : List Nat := [0, 1, 0, 0, 8, 0, 56, 120, 0, 256, 1016, 2047, 4095]
theorem spec_l9Insert.tab9 : rtab .any (opsOf Try.f41 9) = spec_l9Insert.T9 := by kernel_rfl
theorem spec_l9Insert.bits9 : waitsOk spec_l9Insert.T9.2 spec_l9Insert.B9 = true := by kernel_rfl
theorem spec_l9Insert.calls (k : Nat) (A0_0 : Option Addr) (c0_0 : Nat) (l0_0 : List Int) (A0_1 : Option Addr) (c0_1 : Nat) (l0_1 : List (List Int)) (a1 : Int) (r1 : List Int) (r2 : List (List Int)) (r3 : Int) (w : World) (hr0_0 : Kd.C (Kd.int .i64) w A0_0 l0_0.length l0_0) (hc0_0 : l0_0.length ≤ c0_0) (hr0_1 : Kd.C (Kd.slice 3 (Kd.int .i64)) w A0_1 l0_1.length l0_1) (hc0_1 : l0_1.length ≤ c0_1) (h : spec_l9Insert.f k l0_0 l0_1 a1 = some (r1, r2, r3)) :
  Calls Try.prog 41 #[.agg #[.slice A0_0 l0_0.length c0_0, .slice A0_1 l0_1.length c0_1], .int .i64 a1] w fun e w' => ∃ v0_ v1_ : Value, e = .returned (.tuple #[.agg #[v0_, v1_], .int .i64 r3]) ∧ Kd.R (Kd.int .i64) 3 w' w.heap.size (fun _ => True) v0_ r1 ∧ Kd.S (Kd.slice 3 (Kd.int .i64)) 24 w' w.heap.size (fun k_ => some k_ ≠ (v0_ : Value).ownBlock) v1_ r2 ∧ Below w.heap.size w w' := by
 have hu36 := Try.underlying36
 have HR0_0 := ax hr0_0
 have HC0_0 := ax hc0_0
 clear hr0_0 hc0_0
 have HR0_1 := ax hr0_1
 have HC0_1 := ax hc0_1
 clear hr0_1 hc0_1
 have HB := ax (Below.refl w.heap.size w)
 have H : ((spec_l5Copy.f k l0_0 l0_1).bind fun bt437 => (spec_l9Insert.l0 k a1 0 bt437.1 bt437.2)) = some (r1, r2, r3) := h
 clear h
 obtain ⟨⟨t437, t440⟩, A3, H⟩ := xI H
 dsimp only at H
 have H' := ax H
 clear H
 go_enter Try.func41, Try.ntmps41
 go_wp2_with (first | ((with_reducible refine gate_dst (N := 2) rfl ?_); refine box_event ?hg (N := 2) ?hd (cs := #[.slice A0_0 l0_0.length c0_0, .slice A0_1 l0_1.length c0_1]) (t := 36) ?hr ?_; (case hd => rfl); (case hg => rfl); (case hr => first | (go_simp; done) | (go_simp; rfl)); intro gb435 hg w4 hbox hb; have BK435 := ax (hbox); have GW435 := ax ((by rw [hg]; exact (below_size (xb HB.out)) : w.heap.size ≤ gb435)); have GE435 := ax ((by rw [hg]; exact (below_size (xb HB.out)) : w.heap.size ≤ gb435)); replace HB := yB HB hb; clear hb hbox hg) | ((with_reducible refine gate_dst (N := 4) rfl ?_); refine box_event ?hg (N := 4) ?hd (cs := #[.slice none 0 0, .slice none 0 0]) (t := 36) ?hr ?_; (case hd => rfl); (case hg => rfl); (case hr => first | (go_simp; done) | (go_simp; rfl)); intro gb436 hg w5 hbox hb; have BK436 := ax (hbox); have GW436 := ax ((by rw [hg]; exact (below_size (xs HB.out GE435.out)) : w.heap.size ≤ gb436)); have GE436 := ax ((by rw [hg]; exact (below_size (xs HB.out GE435.out)) : w.heap.size ≤ gb436)); replace HB := ax (below_step (xs HB.out GE435.out) hb); have NB435_436 := ax ((by rw [hg]; exact Nat.ne_of_lt (blk_lt (g := gb435) (o := .cells #[.slice A0_0 l0_0.length c0_0, .slice A0_1 l0_1.length c0_1] 36 (0, 0)) (xk BK435.out)) : gb435 ≠ gb436)); have NB436_435 := ax ((by rw [hg]; exact Nat.ne_of_gt (blk_lt (g := gb435) (o := .cells #[.slice A0_0 l0_0.length c0_0, .slice A0_1 l0_1.length c0_1] 36 (0, 0)) (xk BK435.out)) : gb436 ≠ gb435)); replace BK435 := ax (blk_below (g := gb435) (o := .cells #[.slice A0_0 l0_0.length c0_0, .slice A0_1 l0_1.length c0_1] 36 (0, 0)) (xk BK435.out) hb); clear hb hbox hg; have hnb6 := NB435_436.out; have hnc6 := NB436_435.out; have hcz7_0 : w5.cell? ⟨gb435, 0, none⟩ = some (.slice A0_0 l0_0.length c0_0) := (blk_cell BK435.out 0).trans rfl; have hcz7_1 : w5.cell? ⟨gb435, 1, none⟩ = some (.slice A0_1 l0_1.length c0_1) := (blk_cell BK435.out 1).trans rfl; have hfz7_0 := blk_frozen BK435.out 0; have hfz7_1 := blk_frozen BK435.out 1) | ((with_reducible refine gate_callee (f := 47) rfl ?_); refine goesL_ (some 11) rfl rfl Try.func47 (by kernel_rfl) rfl #[.agg #[.slice A0_0 l0_0.length c0_0, .slice A0_1 l0_1.length c0_1]] rfl xm ?_; (with_reducible refine (spec_l5Copy.calls k _ _ l0_0 _ _ l0_1 t437 t440 _ ?side1 ?side2 ?side3 ?side4 A3.out).mono ?_); (case side1 => exact xz HR0_0.out HB.out); (case side2 => exact HC0_0.out); (case side3 => exact xz HR0_1.out HB.out); (case side4 => exact HC0_1.out); rintro e w8 ⟨v438, v441, rfl, ho0, ho1, hb⟩; refine ⟨_, rfl, ?_⟩; have HO439 := ax (Kd.R_lower ho0 (below_size (by repeat (first | (with_reducible first | exact HB.out | apply below_alloc | apply pw_below_drewN | apply below_drew1 | refine below_set ?_ GE435.out | refine below_set ?_ GE436.out) | exact HB.out)))); have HO442 := ax (Kd.S_lower ho1 (below_size (by repeat (first | (with_reducible first | exact HB.out | apply below_alloc | apply pw_below_drewN | apply below_drew1 | refine below_set ?_ GE435.out | refine below_set ?_ GE436.out) | exact HB.out)))); replace BK435 := ax (blk_below (g := gb435) (o := .cells #[.slice A0_0 l0_0.length c0_0, .slice A0_1 l0_1.length c0_1] 36 (0, 0)) (xk BK435.out) hb); replace BK436 := ax (blk_below (g := gb436) (o := .cells #[.slice none 0 0, .slice none 0 0] 36 (0, 0)) (xk BK436.out) hb); replace HB := ax (below_step (by repeat (first | (with_reducible first | exact HB.out | apply below_alloc | apply pw_below_drewN | apply below_drew1 | refine below_set ?_ GE435.out | refine below_set ?_ GE436.out) | exact HB.out)) hb); (try clear hb); (try clear ho0); (try clear ho1)) | ((with_reducible refine gate_dst (N := 6) rfl ?_); refine box_event ?hg (N := 6) ?hd (cs := #[.slice none 0 0, .slice none 0 0]) (t := 36) ?hr ?_; (case hd => rfl); (case hg => rfl); (case hr => first | (go_simp; done) | (go_simp; rfl)); intro gb443 hg w9 hbox hb; replace HO439 := yR HO439 hb; replace HO442 := ax (Kd.S_below (xS HO442.out) hb); have BK443 := ax (hbox); have GW443 := ax ((by rw [hg]; exact (below_size (by repeat (first | (with_reducible first | exact HB.out | apply below_alloc | apply pw_below_drewN | apply below_drew1 | refine below_set ?_ GE435.out | refine below_set ?_ GE436.out) | exact HB.out))) : w.heap.size ≤ gb443)); have GE443 := ax ((by rw [hg]; exact (below_size (by repeat (first | (with_reducible first | exact HB.out | apply below_alloc | apply pw_below_drewN | apply below_drew1 | refine below_set ?_ GE435.out | refine below_set ?_ GE436.out) | exact HB.out))) : w.heap.size ≤ gb443)); replace HB := ax (below_step (by repeat (first | (with_reducible first | exact HB.out | apply below_alloc | apply pw_below_drewN | apply below_drew1 | refine below_set ?_ GE435.out | refine below_set ?_ GE436.out) | exact HB.out)) hb); have NB435_443 := ax ((by rw [hg]; exact Nat.ne_of_lt (blk_lt (g := gb435) (o := .cells #[.slice A0_0 l0_0.length c0_0, .slice A0_1 l0_1.length c0_1] 36 (0, 0)) (xk BK435.out)) : gb435 ≠ gb443)); have NB443_435 := ax ((by rw [hg]; exact Nat.ne_of_gt (blk_lt (g := gb435) (o := .cells #[.slice A0_0 l0_0.length c0_0, .slice A0_1 l0_1.length c0_1] 36 (0, 0)) (xk BK435.out)) : gb443 ≠ gb435)); replace BK435 := ax (blk_below (g := gb435) (o := .cells #[.slice A0_0 l0_0.length c0_0, .slice A0_1 l0_1.length c0_1] 36 (0, 0)) (xk BK435.out) hb); have NB436_443 := ax ((by rw [hg]; exact Nat.ne_of_lt (blk_lt (g := gb436) (o := .cells #[.slice none 0 0, .slice none 0 0] 36 (0, 0)) (xk BK436.out)) : gb436 ≠ gb443)); have NB443_436 := ax ((by rw [hg]; exact Nat.ne_of_gt (blk_lt (g := gb436) (o := .cells #[.slice none 0 0, .slice none 0 0] 36 (0, 0)) (xk BK436.out)) : gb443 ≠ gb436)); replace BK436 := ax (blk_below (g := gb436) (o := .cells #[.slice none 0 0, .slice none 0 0] 36 (0, 0)) (xk BK436.out) hb); clear hb hbox hg; obtain ⟨Ao10, co10, eo10⟩ := Kd.R_slice HO439.out; subst eo10; have hnb11 := NB443_435.out; have hnc11 := NB435_443.out; have hnb12 := NB443_436.out; have hnc12 := NB436_443.out; have hcz13_0 : w9.cell? ⟨gb443, 0, none⟩ = some (.slice none 0 0) := (blk_cell BK443.out 0).trans rfl; have hcz13_1 : w9.cell? ⟨gb443, 1, none⟩ = some (.slice none 0 0) := (blk_cell BK443.out 1).trans rfl; have hfz13_0 := blk_frozen BK443.out 0; have hfz13_1 := blk_frozen BK443.out 1; obtain ⟨Ao14, co14, eo14⟩ := Kd.S_slice HO442.out; subst eo14))
 go_loopg [1, 7] k (fun kq v1 v7 w' => ∃ (x1_1 : Int) (x7_1 : Int) (x444000_1 : List Int) (x444001_1 : List (List Int)) (u444000 : Value) (u444001 : Value), v1 = .int .i64 x1_1 ∧ v7 = .int .i64 x7_1 ∧ Aside0 (spec_l9Insert.l0 kq x1_1 x7_1 x444000_1 x444001_1 = some (r1, r2, r3)) ∧ Aside0 (kq ≤ k) ∧ Aside0 (Kd.R (Kd.int .i64) 3 w' w.heap.size (fun _ => True) u444000 x444000_1) ∧ Aside0 (Kd.S (Kd.slice 3 (Kd.int .i64)) 24 w' w.heap.size (fun k_ => some k_ ≠ (u444000 : Value).ownBlock) u444001 x444001_1) ∧ Aside0 (w'.heap[gb435]? = some (.cells #[(.slice A0_0 l0_0.length c0_0), (.slice A0_1 l0_1.length c0_1)] 36 (0, 0))) ∧ Aside0 (w'.heap[gb436]? = some (.cells #[(.slice none 0 0), (.slice none 0 0)] 36 (0, 0))) ∧ Aside0 (w'.heap[gb443]? = some (.cells #[u444000, u444001] 36 (0, 0))) ∧ Aside0 (Below w.heap.size w w'))
 case atStart => exact ⟨(a1), (0), (t437), (t440), (.slice Ao10 t437.length co10), (.slice Ao14 t440.length co14), xr, xr, H', ⟨Nat.le_refl _⟩, ⟨by (with_reducible repeat (first | apply Kd.R_alloc | apply Kd.R_drewN | apply Kd.R_drew)); exact Kd.R_mono (Kd.R_far (p := ⟨gb443, 1, none⟩) (Kd.R_far (p := ⟨gb443, 0, none⟩) (Kd.R_types HO439.out BK443.out (by decide)) (fun _ hk => hk.2) (.slice Ao10 t437.length co10)) (fun _ hk => hk.2) (.slice Ao14 t440.length co14)) (fun _ hk => trivial)⟩, ⟨by (with_reducible repeat (first | apply Kd.S_alloc | apply Kd.S_drewN | apply Kd.S_drew)); exact Kd.S_mono (Kd.S_far (p := ⟨gb443, 1, none⟩) (Kd.S_far (p := ⟨gb443, 0, none⟩) (Kd.S_types HO442.out BK443.out (by decide)) (fun _ hk => hk.2) (.slice Ao10 t437.length co10)) (fun _ hk => hk.2) (.slice Ao14 t440.length co14)) (fun _ hk => hk.1)⟩, ⟨by (with_reducible repeat (first | refine blk_drewN ?_ _ | refine blk_drew ?_ | refine blk_alloc ?_ _)); refine blk_far ?_ NB435_443.out _; (with_reducible repeat (first | refine blk_drewN ?_ _ | refine blk_drew ?_ | refine blk_alloc ?_ _)); refine blk_far ?_ NB435_443.out _; (with_reducible repeat (first | refine blk_drewN ?_ _ | refine blk_drew ?_ | refine blk_alloc ?_ _)); exact BK435.out⟩, ⟨by (with_reducible repeat (first | refine blk_drewN ?_ _ | refine blk_drew ?_ | refine blk_alloc ?_ _)); refine blk_far ?_ NB436_443.out _; (with_reducible repeat (first | refine blk_drewN ?_ _ | refine blk_drew ?_ | refine blk_alloc ?_ _)); refine blk_far ?_ NB436_443.out _; (with_reducible repeat (first | refine blk_drewN ?_ _ | refine blk_drew ?_ | refine blk_alloc ?_ _)); exact BK436.out⟩, ⟨by (with_reducible repeat (first | refine blk_drewN ?_ _ | refine blk_drew ?_ | refine blk_alloc ?_ _)); refine blk_put (cs := #[.slice Ao10 t437.length co10, .slice none 0 0]) ?_ 1 _ rfl; (with_reducible repeat (first | refine blk_drewN ?_ _ | refine blk_drew ?_ | refine blk_alloc ?_ _)); refine blk_put (cs := #[.slice none 0 0, .slice none 0 0]) ?_ 0 _ rfl; (with_reducible repeat (first | refine blk_drewN ?_ _ | refine blk_drew ?_ | refine blk_alloc ?_ _)); exact BK443.out⟩, ⟨by repeat (first | (with_reducible first | exact HB.out | apply below_alloc | apply pw_below_drewN | apply below_drew1 | refine below_set ?_ GE435.out | refine below_set ?_ GE436.out | refine below_set ?_ GE443.out) | exact HB.out)⟩⟩
 case round =>
  clear H'
  (try clear hcz13_0); (try clear hcz13_1); (try clear hcz7_0); (try clear hcz7_1); (try clear hfz13_0); (try clear hfz13_1); (try clear hfz7_0); (try clear hfz7_1)
  obtain ⟨x1_1, x7_1, x444000_1, x444001_1, u444000, u444001, rfl, rfl, HA, HK1, HO_444000, HO_444001, BK435, BK436, BK443, HB⟩ := hrel
  cases gk with
  | zero => exact absurd HA.out (by simp [spec_l9Insert.l0])
  | succ k1 =>
   have H := HA.out
   clear HA
   simp only [spec_l9Insert.l0] at H
   by_cases c15 : x7_1 < (x444001_1.length : Int)
   ·rw [if_pos c15] at H
    have c15b0 := decide_eq_true c15
    clear c15
    have H' := ax H
    clear H
    have hnb16 := NB443_435.out
    have hnc16 := NB435_443.out
    have hnb17 := NB443_436.out
    have hnc17 := NB436_443.out
    have hcz18_0 : wr.cell? ⟨gb443, 0, none⟩ = some (u444000) := (blk_cell BK443.out 0).trans rfl
    have hcz18_1 : wr.cell? ⟨gb443, 1, none⟩ = some (u444001) := (blk_cell BK443.out 1).trans rfl
    have hfz18_0 := blk_frozen BK443.out 0
    have hfz18_1 := blk_frozen BK443.out 1
    obtain ⟨Ao19, co19, eo19⟩ := Kd.S_slice HO_444001.out
    subst eo19
    go_wp2
    go_loopg [8] k1 (fun kq v8 w' => ∃ (x8_2 : Int), v8 = .int .i64 x8_2 ∧ Aside0 (spec_l9Insert.l1 kq x1_1 x7_1 x8_2 x444000_1 x444001_1 = some (r1, r2, r3)) ∧ Aside0 (kq ≤ k1) ∧ Aside0 (Kd.R (Kd.int .i64) 3 w' w.heap.size (fun _ => True) u444000 x444000_1) ∧ Aside0 (Kd.S (Kd.slice 3 (Kd.int .i64)) 24 w' w.heap.size (fun k_ => some k_ ≠ (u444000 : Value).ownBlock) (.slice Ao19 x444001_1.length co19) x444001_1) ∧ Aside0 (w'.heap[gb435]? = some (.cells #[(.slice A0_0 l0_0.length c0_0), (.slice A0_1 l0_1.length c0_1)] 36 (0, 0))) ∧ Aside0 (w'.heap[gb436]? = some (.cells #[(.slice none 0 0), (.slice none 0 0)] 36 (0, 0))) ∧ Aside0 (w'.heap[gb443]? = some (.cells #[u444000, (.slice Ao19 x444001_1.length co19)] 36 (0, 0))) ∧ Aside0 (Below w.heap.size w w'))
    case atStart => exact ⟨(0), xr, H', ⟨Nat.le_refl _⟩, ⟨xR HO_444000.out⟩, ⟨xS HO_444001.out⟩, ⟨xk BK435.out⟩, ⟨xk BK436.out⟩, ⟨xk BK443.out⟩, ⟨by repeat (first | (with_reducible first | exact HB.out | apply below_alloc | apply pw_below_drewN | apply below_drew1 | refine below_set ?_ GE435.out | refine below_set ?_ GE436.out | refine below_set ?_ GE443.out) | exact HB.out)⟩⟩
    case round =>
     clear H'
     (try clear c15); (try clear c15b0); (try clear hcz13_0); (try clear hcz13_1); (try clear hcz18_0); (try clear hcz18_1); (try clear hcz7_0); (try clear hcz7_1); (try clear hfz13_0); (try clear hfz13_1); (try clear hfz18_0); (try clear hfz18_1); (try clear hfz7_0); (try clear hfz7_1)
     obtain ⟨x8_2, rfl, HA, HK2, HO_444000, HO_444001, BK435, BK436, BK443, HB⟩ := hrel
     cases gk with
     | zero => exact absurd HA.out (by simp [spec_l9Insert.l1])
     | succ k2 =>
      have H := HA.out
      clear HA
      simp only [spec_l9Insert.l1] at H
      obtain ⟨c20b0, H⟩ := xq H
      obtain ⟨c21b0, H⟩ := xq H
      by_cases c22 : x8_2 < ((rd_L2 x444001_1 x7_1).length : Int)
      ·rw [if_pos c22] at H
       have c22b0 := decide_eq_true c22
       clear c22
       obtain ⟨c23b0, H⟩ := xq H
       by_cases c24 : (rd (rd_L2 x444001_1 x7_1) x8_2) ≤ x1_1
       ·rw [if_pos c24] at H
        have c24b0 := decide_eq_true c24
        clear c24
        have H' := ax H
        clear H
        have hnb25 := NB443_435.out
        have hnc25 := NB435_443.out
        have hnb26 := NB443_436.out
        have hnc26 := NB436_443.out
        have hcz27_0 : wr.cell? ⟨gb443, 0, none⟩ = some (u444000) := (blk_cell BK443.out 0).trans rfl
        have hcz27_1 : wr.cell? ⟨gb443, 1, none⟩ = some (.slice Ao19 x444001_1.length co19) := (blk_cell BK443.out 1).trans rfl
        have hfz27_0 := blk_frozen BK443.out 0
        have hfz27_1 := blk_frozen BK443.out 1
        have p450 : 0 ≤ (x7_1 : Int) := xd
        have q450 : x7_1 < (x444001_1.length : Int) := xd
        obtain ⟨ad450, A450_0, c450_0, e450, hx450_0, hl450_0, hi450_0⟩ := at_L2 (Kd.S_reads' HO_444001.out).2.2 x7_1 p450 q450
        cases e450
        obtain ⟨ce450, hce450, hMe450, hcc450⟩ := Kd.S_get HO_444001.out [] x7_1 p450 (by first | exact q450 | exact xd | (have e_ := (Kd.S_reads' HO_444001.out).1; omega))
        obtain ⟨ve450_0, rfl, ge450_0⟩ := hMe450
        have hv450_0 := hcc450 0 _ rfl
        rw [Nat.add_zero, show ((Kd.slice 3 (Kd.int .i64))).sz = 1 from rfl, Nat.mul_one] at hv450_0
        replace hv450_0 := Option.some.inj (hv450_0.symm.trans hx450_0)
        rw [hv450_0] at ge450_0
        have HL450_0 := ax (show Kd.R (Kd.int .i64) 3 _ _ _ _ (rd_L2 x444001_1 x7_1) from ge450_0)
        clear hv450_0 ge450_0
        have HX450_0 := ax hx450_0
        clear hcc450 hce450
        have HR450_0 := ax hi450_0
        have HC450_0 := ax hl450_0
        clear hi450_0 hl450_0
        replace p450 := eq_true p450
        replace q450 := eq_true q450
        have p451 : 0 ≤ (x7_1 : Int) := xd
        have q451 : x7_1 < (x444001_1.length : Int) := xd
        obtain ⟨ad451, A451_0, c451_0, e451, hx451_0, hl451_0, hi451_0⟩ := at_L2 (Kd.S_reads' HO_444001.out).2.2 x7_1 p451 q451
        obtain rfl : ad450 = ad451 := (by injection e451)
        obtain ⟨ce451, hce451, hMe451, hcc451⟩ := Kd.S_get HO_444001.out [] x7_1 p451 (by first | exact q451 | exact xd | (have e_ := (Kd.S_reads' HO_444001.out).1; omega))
        obtain ⟨ve451_0, rfl, ge451_0⟩ := hMe451
        have hv451_0 := hcc451 0 _ rfl
        rw [Nat.add_zero, show ((Kd.slice 3 (Kd.int .i64))).sz = 1 from rfl, Nat.mul_one] at hv451_0
        replace hv451_0 := Option.some.inj (hv451_0.symm.trans hx451_0)
        rw [hv451_0] at ge451_0
        have HL451_0 := ax (show Kd.R (Kd.int .i64) 3 _ _ _ _ (rd_L2 x444001_1 x7_1) from ge451_0)
        clear hv451_0 ge451_0
        have HX451_0 := ax hx451_0
        clear hcc451 hce451
        have HR451_0 := ax hi451_0
        have HC451_0 := ax hl451_0
        clear hi451_0 hl451_0
        replace p451 := eq_true p451
        replace q451 := eq_true q451
        have ea_ := Option.some.inj (hx450_0.symm.trans hx451_0)
        injection ea_ with ea_ en_ ec_
        subst ea_
        subst ec_
        clear en_
        have p452 : 0 ≤ (x8_2 : Int) := xd
        have q452 : x8_2 < ((rd_L2 x444001_1 x7_1).length : Int) := xd
        obtain ⟨ad452, e452, hx452_0⟩ := Kd.at_int (xw HR451_0.out) x8_2 p452 q452
        cases e452
        replace p452 := eq_true p452
        replace q452 := eq_true q452
        go_wp2
        go_roundg k2
        case measure => have := HK1.out; have := HK2.out; omega
        case rel => exact ⟨(wrap64 (x8_2 + 1)), xr, H', ⟨by have := HK1.out; have := HK2.out; omega⟩, ⟨xR HO_444000.out⟩, ⟨xS HO_444001.out⟩, ⟨xk BK435.out⟩, ⟨xk BK436.out⟩, ⟨xk BK443.out⟩, ⟨by repeat (first | (with_reducible first | exact HB.out | apply below_alloc | apply pw_below_drewN | apply below_drew1 | refine below_set ?_ GE435.out | refine below_set ?_ GE436.out | refine below_set ?_ GE443.out) | exact HB.out)⟩⟩
       ·rw [if_neg c24] at H
        have c24b0 := decide_eq_false c24
        clear c24
        by_cases c28 : x8_2 = ((rd_L2 x444001_1 x7_1).length : Int)
        ·rw [if_pos c28] at H
         have c28b0 : (x8_2 == ((rd_L2 x444001_1 x7_1).length : Int)) = true := beq_iff_eq.mpr c28
         have c28b1 : (x8_2 != ((rd_L2 x444001_1 x7_1).length : Int)) = false := bne_eq_false_iff_eq.mpr c28
         clear c28
         obtain ⟨c29, H⟩ := xp H
         have LMc29 := ax c29
         clear c29
         obtain ⟨y455, hy455⟩ : ∃ y_ : List Int, y_ = ((rd_L2 x444001_1 x7_1) ++ [x1_1]) := ⟨_, rfl⟩
         replace H : (some (x444000_1, (x444001_1.set (x7_1 : Int).toNat y455), x7_1)) = some (r1, r2, r3) := xv hy455 H
         have Ny455 := ax hy455
         clear hy455
         obtain ⟨y458, hy458⟩ : ∃ y_ : List (List Int), y_ = (x444001_1.set (x7_1 : Int).toNat y455) := ⟨_, rfl⟩
         replace H : (some (x444000_1, y458, x7_1)) = some (r1, r2, r3) := xv hy458 H
         have Ny458 := ax hy458
         clear hy458
         simp only [Option.some.injEq, Prod.mk.injEq] at H
         obtain ⟨rfl, rfl, rfl⟩ := H
         have hnb31 := NB443_435.out
         have hnc31 := NB435_443.out
         have hnb32 := NB443_436.out
         have hnc32 := NB436_443.out
         have hcz33_0 : wr.cell? ⟨gb443, 0, none⟩ = some (u444000) := (blk_cell BK443.out 0).trans rfl
         have hcz33_1 : wr.cell? ⟨gb443, 1, none⟩ = some (.slice Ao19 x444001_1.length co19) := (blk_cell BK443.out 1).trans rfl
         have hfz33_0 := blk_frozen BK443.out 0
         have hfz33_1 := blk_frozen BK443.out 1
         have p450 : 0 ≤ (x7_1 : Int) := xd
         have q450 : x7_1 < (x444001_1.length : Int) := xd
         obtain ⟨ad450, A450_0, c450_0, e450, hx450_0, hl450_0, hi450_0⟩ := at_L2 (Kd.S_reads' HO_444001.out).2.2 x7_1 p450 q450
         cases e450
         obtain ⟨ce450, hce450, hMe450, hcc450⟩ := Kd.S_get HO_444001.out [] x7_1 p450 (by first | exact q450 | exact xd | (have e_ := (Kd.S_reads' HO_444001.out).1; omega))
         obtain ⟨ve450_0, rfl, ge450_0⟩ := hMe450
         have hv450_0 := hcc450 0 _ rfl
         rw [Nat.add_zero, show ((Kd.slice 3 (Kd.int .i64))).sz = 1 from rfl, Nat.mul_one] at hv450_0
         replace hv450_0 := Option.some.inj (hv450_0.symm.trans hx450_0)
         rw [hv450_0] at ge450_0
         have HL450_0 := ax (show Kd.R (Kd.int .i64) 3 _ _ _ _ (rd_L2 x444001_1 x7_1) from ge450_0)
         clear hv450_0 ge450_0
         have HX450_0 := ax hx450_0
         clear hcc450 hce450
         have HR450_0 := ax hi450_0
         have HC450_0 := ax hl450_0
         clear hi450_0 hl450_0
         replace p450 := eq_true p450
         replace q450 := eq_true q450
         have p451 : 0 ≤ (x7_1 : Int) := xd
         have q451 : x7_1 < (x444001_1.length : Int) := xd
         obtain ⟨ad451, A451_0, c451_0, e451, hx451_0, hl451_0, hi451_0⟩ := at_L2 (Kd.S_reads' HO_444001.out).2.2 x7_1 p451 q451
         obtain rfl : ad450 = ad451 := (by injection e451)
         obtain ⟨ce451, hce451, hMe451, hcc451⟩ := Kd.S_get HO_444001.out [] x7_1 p451 (by first | exact q451 | exact xd | (have e_ := (Kd.S_reads' HO_444001.out).1; omega))
         obtain ⟨ve451_0, rfl, ge451_0⟩ := hMe451
         have hv451_0 := hcc451 0 _ rfl
         rw [Nat.add_zero, show ((Kd.slice 3 (Kd.int .i64))).sz = 1 from rfl, Nat.mul_one] at hv451_0
         replace hv451_0 := Option.some.inj (hv451_0.symm.trans hx451_0)
         rw [hv451_0] at ge451_0
         have HL451_0 := ax (show Kd.R (Kd.int .i64) 3 _ _ _ _ (rd_L2 x444001_1 x7_1) from ge451_0)
         clear hv451_0 ge451_0
         have HX451_0 := ax hx451_0
         clear hcc451 hce451
         have HR451_0 := ax hi451_0
         have HC451_0 := ax hl451_0
         clear hi451_0 hl451_0
         replace p451 := eq_true p451
         replace q451 := eq_true q451
         have ea_ := Option.some.inj (hx450_0.symm.trans hx451_0)
         injection ea_ with ea_ en_ ec_
         subst ea_
         subst ec_
         clear en_
         have p452 : 0 ≤ (x8_2 : Int) := xd
         have q452 : x8_2 < ((rd_L2 x444001_1 x7_1).length : Int) := xd
         obtain ⟨ad452, e452, hx452_0⟩ := Kd.at_int (xw HR451_0.out) x8_2 p452 q452
         cases e452
         replace p452 := eq_true p452
         replace q452 := eq_true q452
         have p453 : 0 ≤ (x7_1 : Int) := xd
         have q453 : x7_1 < (x444001_1.length : Int) := xd
         obtain ⟨ad453, A453_0, c453_0, e453, hx453_0, hl453_0, hi453_0⟩ := at_L2 (Kd.S_reads' HO_444001.out).2.2 x7_1 p453 q453
         obtain rfl : ad450 = ad453 := (by injection e453)
         obtain ⟨ce453, hce453, hMe453, hcc453⟩ := Kd.S_get HO_444001.out [] x7_1 p453 (by first | exact q453 | exact xd | (have e_ := (Kd.S_reads' HO_444001.out).1; omega))
         obtain ⟨ve453_0, rfl, ge453_0⟩ := hMe453
         have hv453_0 := hcc453 0 _ rfl
         rw [Nat.add_zero, show ((Kd.slice 3 (Kd.int .i64))).sz = 1 from rfl, Nat.mul_one] at hv453_0
         replace hv453_0 := Option.some.inj (hv453_0.symm.trans hx453_0)
         rw [hv453_0] at ge453_0
         have HL453_0 := ax (show Kd.R (Kd.int .i64) 3 _ _ _ _ (rd_L2 x444001_1 x7_1) from ge453_0)
         clear hv453_0 ge453_0
         have HX453_0 := ax hx453_0
         clear hcc453 hce453
         have HR453_0 := ax hi453_0
         have HC453_0 := ax hl453_0
         clear hi453_0 hl453_0
         replace p453 := eq_true p453
         replace q453 := eq_true q453
         have ea_ := Option.some.inj (hx450_0.symm.trans hx453_0)
         injection ea_ with ea_ en_ ec_
         subst ea_
         subst ec_
         clear en_
         try go_wp2
         replace HO_444000 := ax (Kd.R_drew HO_444000.out); replace HO_444001 := ax (Kd.S_drew HO_444001.out); replace HL450_0 := ax (Kd.R_drew HL450_0.out); replace HL451_0 := ax (Kd.R_drew HL451_0.out); replace HL453_0 := ax (Kd.R_drew HL453_0.out); replace BK435 := ax (blk_drew BK435.out); replace BK436 := ax (blk_drew BK436.out); replace BK443 := ax (blk_drew BK443.out); replace HR450_0 := ax (Kd.C_drew HR450_0.out); replace HR451_0 := ax (Kd.C_drew HR451_0.out); replace HR453_0 := ax (Kd.C_drew HR453_0.out); replace HB := ax (below_drew1 HB.out)
         have p454 : 0 ≤ (x7_1 : Int) := xd
         have q454 : x7_1 < (x444001_1.length : Int) := xd
         obtain ⟨ad454, A454_0, c454_0, e454, hx454_0, hl454_0, hi454_0⟩ := at_L2 (Kd.S_reads' HO_444001.out).2.2 x7_1 p454 q454
         obtain rfl : ad450 = ad454 := (by injection e454)
         obtain ⟨ce454, hce454, hMe454, hcc454⟩ := Kd.S_get HO_444001.out [] x7_1 p454 (by first | exact q454 | exact xd | (have e_ := (Kd.S_reads' HO_444001.out).1; omega))
         obtain ⟨ve454_0, rfl, ge454_0⟩ := hMe454
         have hv454_0 := hcc454 0 _ rfl
         rw [Nat.add_zero, show ((Kd.slice 3 (Kd.int .i64))).sz = 1 from rfl, Nat.mul_one] at hv454_0
         replace hv454_0 := Option.some.inj (hv454_0.symm.trans hx454_0)
         rw [hv454_0] at ge454_0
         have HL454_0 := ax (show Kd.R (Kd.int .i64) 3 _ _ _ _ (rd_L2 x444001_1 x7_1) from ge454_0)
         clear hv454_0 ge454_0
         have HX454_0 := ax hx454_0
         clear hcc454 hce454
         have HR454_0 := ax hi454_0
         have HC454_0 := ax hl454_0
         clear hi454_0 hl454_0
         replace p454 := eq_true p454
         replace q454 := eq_true q454
         obtain ⟨go35, co35, eo35, gb35, gl35, cl35, HG35⟩ := Kd.S_form HO_444001.out (by have h_ : (x7_1 : Int) < ((x444001_1.length : Int) : Int) := xd; have h2_ : 0 ≤ (x7_1 : Int) := (xd); omega)
         (first | cases eo35 | (injection eo35 with ea_ en_ ec_; (first | subst ea_ | (injection ea_ with ea_; subst ea_)); subst ec_; clear en_))
         have GB35 := ax gb35
         have GG35 := ax HG35
         clear gb35 gl35 HG35
         (first | simp only [add_plain] at hx450_0 | skip)
         (first | simp only [add_plain] at hx451_0 | skip)
         (first | simp only [add_plain] at hx453_0 | skip)
         (first | simp only [add_plain] at hx454_0 | skip)
         obtain ⟨oki35, ce35, hcl35, hM35, hcc35, _, _, hH35⟩ := Kd.S_elem HO_444001.out [] (x7_1 : Int) (xd) (by have h_ : (x7_1 : Int) < ((x444001_1.length : Int) : Int) := xd; first | exact h_ | (have e_ := (Kd.S_reads' HO_444001.out).1; omega) | simpa using h_)
         obtain ⟨ve35_0, rfl, ge35_0⟩ := hM35
         have hv35 := hcc35 0 _ rfl
         have hX35 := HX454_0.out
         (try simp only [add_plain] at hX35)
         (try simp only [Nat.add_zero] at hv35)
         (try rw [show ((Kd.slice 3 (Kd.int .i64))).sz = 1 from rfl, Nat.mul_one] at hv35)
         replace hv35 := Option.some.inj (hv35.symm.trans hX35)
         subst hv35
         clear hX35 hcc35 hcl35
         have UU35 := ax (show Kd.R (Kd.int .i64) 3 _ w.heap.size oki35 (.slice A454_0 (rd_L2 x444001_1 x7_1).length c454_0) (rd_L2 x444001_1 x7_1) from ge35_0)
         have HH35 := ax hH35
         have HN35 := ax (Kd.S_reads' HO_444001.out).1
         clear hH35 ge35_0
         refine start_ (n := 13) (S := fun w' => w'.cell? ⟨gb443, 0, none⟩ = some (u444000) ∧ w'.cell? ⟨gb443, 1, none⟩ = some (.slice (some ⟨go35, 0, none⟩) x444001_1.length co19) ∧ w'.cell? ⟨go35, (x7_1).toNat, none⟩ = some (.slice A454_0 (rd_L2 x444001_1 x7_1).length c454_0)) (ds := [12]) (xB 13 0) (by kernel_rfl) rfl (by kernel_rfl) ⟨(blk_cell BK443.out 0).trans rfl, (blk_cell BK443.out 1).trans rfl, hx454_0⟩ (fun hHeld => ?_); refine with_tabW spec_l9Insert.tab9 spec_l9Insert.bits9 (fun HT_ HW_ => ?_)
         generalize wr.drew = w34 at HO_444000 HO_444001 HL450_0 HL451_0 HL453_0 BK435 BK436 BK443 HR450_0 HR451_0 HR453_0 HB GG35 HH35 HL454_0 HR454_0 HX454_0 UU35 hx450_0 hx451_0 hx453_0 hx454_0 hHeld ⊢
         refine pu (i := 0) (N := some 49) (xB 13 1) HT_.out ?_
         refine pu (i := 2) (N := some 51) (xB 13 5) HT_.out ?_
         refine pu (i := 3) (N := some 52) (xB 13 13) HT_.out ?_
         refine pu (i := 5) (N := some 54) (xB 13 45) HT_.out ?_
         refine pu (i := 8) (N := some 57) (xB 13 301) HT_.out ?_
         refine tk (i := 1) (N := some 50) (xB 13 303) HT_.out HW_.out hHeld ?_
         refine tk (i := 4) (N := some 53) (xB 13 319) HT_.out HW_.out hHeld ?_
         refine pu (i := 6) (N := some 55) (xB 13 383) HT_.out ?_
         refine tk (i := 7) (N := some 56) (xB 13 511) HT_.out HW_.out hHeld ?_
         refine one_ (i := 9) (N := some 58) (xB 13 1023) rfl rfl (one_of HT_.out (by kernel_rfl)) (by decide) (fun K hK => ?_)
         refine value_ (w1 := ?_) (v := ?_) (by rfl) rfl ?_ ?_
         rotate_left 2
         ·go_simp
          constructor
          ·rfl
          ·rfl
         refine hK.out _ _ ⟨(blk_cell (blk_alloc BK443.out _) 0).trans rfl, (blk_cell (blk_alloc BK443.out _) 1).trans rfl, (World.cell?_alloc_lt _ _ _ (World.block_lt_of_cell? _ _ (hHeld.2.2))).trans (hHeld.2.2)⟩ (fun hHeld => ?_)
         clear hK K
         refine nm ?_
         refine one_ (i := 10) (N := some 59) (xB 13 2047) rfl rfl (one_of HT_.out (by kernel_rfl)) (by decide) (fun K hK => ?_)
         refine Kd.R_append_step (Kd.int .i64) (w0 := w) w.heap.size (by rfl) (.tmp 56) (.tmp 58) 24 3 (.int .i64 0) 8 rfl Try.underlying24 info3 rfl (by decide) (by omega) (.slice A454_0 (rd_L2 x444001_1 x7_1).length c454_0) (rd_L2 x444001_1 x7_1) x1_1 [.int .i64 x1_1] (fun k_ => oki35 k_ ∨ ((fun k_ => some k_ ≠ (u444000 : Value).ownBlock)) k_ ∧ w34.heap.size ≤ k_) (fun _ => False) rfl rfl ?aP (fun _ hk => hk.elim) ?aF ?aO ?aB ?aS ?aL ?_
         (case aP => exact rfl)
         (case aB => exact (by repeat (first | (with_reducible first | exact HB.out | apply below_alloc | apply pw_below_drewN | apply below_drew1 | refine below_set ?_ GE435.out | refine below_set ?_ GE436.out | refine below_set ?_ GE443.out) | exact HB.out)))
         (case aF => exact (fun k_ hk => .inr ⟨Kd.fresh' (Kd.R_lt (xR HO_444000.out)) k_ hk, hk⟩))
         (case aO => exact (by (with_reducible repeat (first | apply Kd.R_alloc | apply Kd.R_drewN | apply Kd.R_drew)); exact Kd.R_mono UU35.out (fun _ hk => .inl hk)))
         (case aS => exact (below_size (by repeat (first | (with_reducible first | exact HB.out | apply below_alloc | apply pw_below_drewN | apply below_drew1 | refine below_set ?_ GE435.out | refine below_set ?_ GE436.out | refine below_set ?_ GE443.out) | exact HB.out))))
         (case aL => have := LMc29.out; omega)
         intro v456 w36 ho hb hg hat
         (first | have HS2_ := cell_grown hg (hHeld.2.2) (by first | (rw [add_block]; exact (fun e_ => ((HL454_0.out.1 _ e_.symm).2) rfl)) | (show some (Addr.add _ _).block ≠ _; rw [add_block]; exact (fun e_ => ((HL454_0.out.1 _ e_.symm).2) rfl)) | exact (fun e_ => ((HL454_0.out.1 _ e_.symm).2) rfl)) | have HS2_ := cell_grown hg (cell_unalloc (hHeld.2.2) (by first | (rw [add_block]; exact Kd.S_lt HO_444001.out _ rfl) | (show (Addr.add _ _).block < _; rw [add_block]; exact Kd.S_lt HO_444001.out _ rfl) | exact Kd.S_lt HO_444001.out _ rfl)) (by first | (rw [add_block]; exact (fun e_ => ((HL454_0.out.1 _ e_.symm).2) rfl)) | (show some (Addr.add _ _).block ≠ _; rw [add_block]; exact (fun e_ => ((HL454_0.out.1 _ e_.symm).2) rfl)) | exact (fun e_ => ((HL454_0.out.1 _ e_.symm).2) rfl)))
         rw [← Ny455.out] at ho
         have n0_ := ax (Kd.R_grown2 (xR HO_444000.out) rfl hg (fun k_ e_ => (HL454_0.out.1 k_ e_).1))
         have n1_ := ax (blk_grown (g := gb435) (o := .cells #[.slice A0_0 l0_0.length c0_0, .slice A0_1 l0_1.length c0_1] 36 (0, 0)) (xk BK435.out) hg (Kd.R_ne HL454_0.out BK435.out (by decide)))
         have n2_ := ax (blk_grown (g := gb436) (o := .cells #[.slice none 0 0, .slice none 0 0] 36 (0, 0)) (xk BK436.out) hg (Kd.R_ne HL454_0.out BK436.out (by decide)))
         have n3_ := ax (blk_grown (g := gb443) (o := .cells #[u444000, .slice (some ⟨go35, 0, none⟩) x444001_1.length co19] 36 (0, 0)) (xk BK443.out) hg (Kd.R_ne HL454_0.out BK443.out (by decide)))
         have n4_ := ax (hb)
         have n5_ := ax (Kd.H_grown (Kd.H_widen (by repeat (first | exact HH35.out | refine Kd.H_alloc ?_ _ | refine Kd.H_drewN ?_ _ | refine Kd.H_drew ?_))) hg (fun k_ e_ => .inl (UU35.out.1 k_ e_)))
         have n6_ := ax (ho)
         clear HO_444000 BK435 BK436 BK443 HB HH35 HO_444001 UU35 HL450_0 HL451_0 HL453_0 HL454_0
         have HO_444000 := n0_
         have BK435 := n1_
         have BK436 := n2_
         have BK443 := n3_
         have HB := n4_
         have HH35 := n5_
         have HO457 := n6_
         clear n0_ n1_ n2_ n3_ n4_ n5_ n6_ ho hb hg hat
         have p30 : 0 ≤ (x7_1 : Int) := xd
         have q30 : (x7_1 : Int) < ((x444001_1.length : Int) : Int) := xd
         replace p30 := eq_true p30
         replace q30 := eq_true q30
         obtain ⟨Ao39, co39, eo39⟩ := Kd.R_slice HO457.out
         (first | subst eo39 | (injection eo39 with f1_ f2_ f3_; have f4_ := f1_.symm; have f5_ := f3_.symm; clear f1_ f2_ f3_; subst f4_; subst f5_))
         obtain ⟨_, _, hraw37, _, _, hcc37, _⟩ := Kd.H_raw HH35.out (xd) (by have h_ : (x7_1 : Int) < ((x444001_1.length : Int) : Int) := xd; first | exact h_ | (have e_ := (HN35.out); omega) | simpa using h_)
         obtain ⟨_, hfr37⟩ := Kd.H_at HH35.out (xd) (by have h_ : (x7_1 : Int) < ((x444001_1.length : Int) : Int) := xd; first | exact h_ | (have e_ := (HN35.out); omega) | simpa using h_)
         have hx37_0 := hcc37 0 _ rfl
         have hf37_0 := hfr37 0
         (try simp only [Nat.add_zero] at hx37_0 hf37_0)
         (try rw [show ((Kd.slice 3 (Kd.int .i64))).sz = 1 from rfl, Nat.mul_one] at hx37_0)
         (try rw [show ((Kd.slice 3 (Kd.int .i64))).sz = 1 from rfl, Nat.mul_one] at hf37_0)
         have HP37 := Kd.S_seg0 HH35.out (xd) (by have h_ : (x7_1 : Int) < ((x444001_1.length : Int) : Int) := xd; first | exact h_ | (have e_ := (HN35.out); omega) | simpa using h_) (seg := [.slice Ao39 y455.length co39]) (j := 0) (show 1 ≤ 1 from by decide) (x' := y455) (Kd.M_row HO457.out) (fun _ hk => hk)
         (try simp only [show ((Kd.slice 3 (Kd.int .i64))).sz = 1 from rfl, Nat.mul_one, Nat.add_zero] at HP37)
         clear hcc37 hfr37
         have HNB435_go35 := ax (show gb435 ≠ go35 from by have h_ := Kd.R_ne hraw37 BK435.out (by decide); intro e_; exact h_ (by rw [e_]; rfl))
         have HNB436_go35 := ax (show gb436 ≠ go35 from by have h_ := Kd.R_ne hraw37 BK436.out (by decide); intro e_; exact h_ (by rw [e_]; rfl))
         have HNB443_go35 := ax (show gb443 ≠ go35 from by have h_ := Kd.R_ne hraw37 BK443.out (by decide); intro e_; exact h_ (by rw [e_]; rfl))
         have HS37 := HP37.1
         rw [← Ny458.out] at HS37
         have HQ37 := ax HS37
         obtain ⟨_, hgg37⟩ := Kd.R_typed hraw37 go35 rfl
         have GG37_ := ax hgg37
         clear HP37 HS37 hgg37
         refine hK.out _ _ ⟨(blk_cell BK443.out 0).trans rfl, (blk_cell BK443.out 1).trans rfl, HS2_⟩ (fun hHeld => ?_)
         clear hK K
         refine nm ?_
         refine pu (i := 11) (N := some 60) (xB 13 4095) HT_.out ?_
         refine last_ (i := 12) (N := none) (xB 13 8191) rfl rfl (one_of HT_.out (by kernel_rfl)) (by decide) (fun K hK => ?_)
         refine skip_ (w1 := ?_) (by rfl) rfl ?_ ?_
         rotate_left
         ·go_simp
          rfl
         refine hK.out _ _ ?_
         clear hK K
         refine done_ (done_of HT_.out (by kernel_rfl)) ?_
         have n0_ : Aside0 (Kd.R (Kd.int .i64) 3 (w36.setCell ⟨go35, (x7_1 : Int).toNat, none⟩ (.slice Ao39 y455.length co39)) w.heap.size (fun _ => True) u444000 x444000_1) := ⟨by (with_reducible repeat (first | apply Kd.R_alloc | apply Kd.R_drewN | apply Kd.R_drew)); exact Kd.R_mono (Kd.R_far (p := ⟨go35, (x7_1 : Int).toNat, none⟩) (Kd.R_types HO_444000.out GG37_.out (by decide)) (fun _ hk => hk.2) (.slice Ao39 y455.length co39)) (fun _ hk => trivial)⟩
         have n1_ : Aside0 (Kd.S (Kd.slice 3 (Kd.int .i64)) 24 (w36.setCell ⟨go35, (x7_1 : Int).toNat, none⟩ (.slice Ao39 y455.length co39)) w.heap.size (fun k_ => some k_ ≠ (u444000 : Value).ownBlock) (.slice (some ⟨go35, 0, none⟩) x444001_1.length co19) y458) := ⟨by (with_reducible repeat (first | apply Kd.S_alloc | apply Kd.S_drewN | apply Kd.S_drew)); exact HQ37.out⟩
         have n2_ : Aside0 ((w36.setCell ⟨go35, (x7_1 : Int).toNat, none⟩ (.slice Ao39 y455.length co39)).heap[gb435]? = some (.cells #[.slice A0_0 l0_0.length c0_0, .slice A0_1 l0_1.length c0_1] 36 (0, 0))) := ⟨by (with_reducible repeat (first | refine blk_drewN ?_ _ | refine blk_drew ?_ | refine blk_alloc ?_ _)); refine blk_far ?_ HNB435_go35.out _; (with_reducible repeat (first | refine blk_drewN ?_ _ | refine blk_drew ?_ | refine blk_alloc ?_ _)); exact BK435.out⟩
         have n3_ : Aside0 ((w36.setCell ⟨go35, (x7_1 : Int).toNat, none⟩ (.slice Ao39 y455.length co39)).heap[gb436]? = some (.cells #[.slice none 0 0, .slice none 0 0] 36 (0, 0))) := ⟨by (with_reducible repeat (first | refine blk_drewN ?_ _ | refine blk_drew ?_ | refine blk_alloc ?_ _)); refine blk_far ?_ HNB436_go35.out _; (with_reducible repeat (first | refine blk_drewN ?_ _ | refine blk_drew ?_ | refine blk_alloc ?_ _)); exact BK436.out⟩
         have n4_ : Aside0 ((w36.setCell ⟨go35, (x7_1 : Int).toNat, none⟩ (.slice Ao39 y455.length co39)).heap[gb443]? = some (.cells #[u444000, .slice (some ⟨go35, 0, none⟩) x444001_1.length co19] 36 (0, 0))) := ⟨by (with_reducible repeat (first | refine blk_drewN ?_ _ | refine blk_drew ?_ | refine blk_alloc ?_ _)); refine blk_far ?_ HNB443_go35.out _; (with_reducible repeat (first | refine blk_drewN ?_ _ | refine blk_drew ?_ | refine blk_alloc ?_ _)); exact BK443.out⟩
         have n5_ : Aside0 (Below w.heap.size w (w36.setCell ⟨go35, (x7_1 : Int).toNat, none⟩ (.slice Ao39 y455.length co39))) := ⟨by repeat (first | (with_reducible first | exact HB.out | apply below_alloc | apply pw_below_drewN | apply below_drew1 | refine below_set ?_ GB35.out | refine below_set ?_ GE435.out | refine below_set ?_ GE436.out | refine below_set ?_ GE443.out) | exact HB.out)⟩
         (try clear HO_444000)
         (try clear HO_444001)
         (try clear BK435)
         (try clear BK436)
         (try clear BK443)
         (try clear HB)
         generalize (w36.setCell ⟨go35, (x7_1 : Int).toNat, none⟩ (.slice Ao39 y455.length co39)) = w40 at n0_ n1_ n2_ n3_ n4_ n5_ ⊢
         have HO_444000 := n0_
         have HO_444001 := n1_
         have BK435 := n2_
         have BK436 := n3_
         have BK443 := n4_
         have HB := n5_
         clear n0_ n1_ n2_ n3_ n4_ n5_
         have hcz41_0 : w40.cell? ⟨gb443, 0, none⟩ = some (u444000) := (blk_cell BK443.out 0).trans rfl
         have hcz41_1 : w40.cell? ⟨gb443, 1, none⟩ = some (.slice (some ⟨go35, 0, none⟩) x444001_1.length co19) := (blk_cell BK443.out 1).trans rfl
         have hfz41_0 := blk_frozen BK443.out 0
         have hfz41_1 := blk_frozen BK443.out 1
         obtain ⟨Ao42, co42, eo42⟩ := Kd.R_slice HO_444000.out
         subst eo42
         have hnb43 := NB436_435.out
         have hnc43 := NB435_436.out
         have hcz44_0 : w40.cell? ⟨gb436, 0, none⟩ = some (.slice none 0 0) := (blk_cell BK436.out 0).trans rfl
         have hcz44_1 : w40.cell? ⟨gb436, 1, none⟩ = some (.slice none 0 0) := (blk_cell BK436.out 1).trans rfl
         have hfz44_0 := blk_frozen BK436.out 0
         have hfz44_1 := blk_frozen BK436.out 1
         try go_wp2
         refine bodyPost_ret (results_ct rfl _ _ gb436 36 #[.slice Ao42 x444000_1.length co42, .slice (some ⟨go35, 0, none⟩) x444001_1.length co19] (0, 0) _ rfl (by (with_reducible repeat (first | refine blk_drewN ?_ _ | refine blk_drew ?_ | refine blk_alloc ?_ _)); refine blk_put (cs := #[.slice Ao42 x444000_1.length co42, .slice none 0 0]) ?_ 1 _ rfl; (with_reducible repeat (first | refine blk_drewN ?_ _ | refine blk_drew ?_ | refine blk_alloc ?_ _)); refine blk_put (cs := #[.slice none 0 0, .slice none 0 0]) ?_ 0 _ rfl; (with_reducible repeat (first | refine blk_drewN ?_ _ | refine blk_drew ?_ | refine blk_alloc ?_ _)); exact BK436.out) Try.underlying36 rfl (by kernel_rfl)) rfl ?_
         exact ⟨_, _, xe, by (with_reducible repeat (first | apply Kd.R_alloc | apply Kd.R_drewN | apply Kd.R_drew)); exact Kd.R_mono (Kd.R_far (p := ⟨gb436, 1, none⟩) (Kd.R_far (p := ⟨gb436, 0, none⟩) (Kd.R_types HO_444000.out BK436.out (by decide)) (fun _ hk => hk.2) (.slice Ao42 x444000_1.length co42)) (fun _ hk => hk.2) (.slice (some ⟨go35, 0, none⟩) x444001_1.length co19)) (fun _ hk => trivial), by (with_reducible repeat (first | apply Kd.S_alloc | apply Kd.S_drewN | apply Kd.S_drew)); exact Kd.S_mono (Kd.S_far (p := ⟨gb436, 1, none⟩) (Kd.S_far (p := ⟨gb436, 0, none⟩) (Kd.S_types HO_444001.out BK436.out (by decide)) (fun _ hk => hk.2) (.slice Ao42 x444000_1.length co42)) (fun _ hk => hk.2) (.slice (some ⟨go35, 0, none⟩) x444001_1.length co19)) (fun _ hk => hk.1), by repeat (first | (with_reducible first | exact HB.out | apply below_alloc | apply pw_below_drewN | apply below_drew1 | refine below_set ?_ GE435.out | refine below_set ?_ GE436.out | refine below_set ?_ GE443.out) | exact HB.out)⟩
        ·rw [if_neg c28] at H
         have c28b0 : (x8_2 == ((rd_L2 x444001_1 x7_1).length : Int)) = false := beq_eq_false_iff_ne.mpr c28
         have c28b1 : (x8_2 != ((rd_L2 x444001_1 x7_1).length : Int)) = true := bne_iff_ne.mpr c28
         obtain ⟨y462, hy462⟩ : ∃ y_ : List Int, y_ = ((rd_L2 x444001_1 x7_1).set (x8_2 : Int).toNat x1_1) := ⟨_, rfl⟩
         replace H : (spec_l9Insert.l0 k2 (rd (rd_L2 x444001_1 x7_1) x8_2) (wrap64 (x7_1 + 1)) x444000_1 (x444001_1.set (x7_1 : Int).toNat y462)) = some (r1, r2, r3) := xv hy462 H
         have Ny462 := ax hy462
         clear hy462
         obtain ⟨y464, hy464⟩ : ∃ y_ : List (List Int), y_ = (x444001_1.set (x7_1 : Int).toNat y462) := ⟨_, rfl⟩
         replace H : (spec_l9Insert.l0 k2 (rd (rd_L2 x444001_1 x7_1) x8_2) (wrap64 (x7_1 + 1)) x444000_1 y464) = some (r1, r2, r3) := xv hy464 H
         have Ny464 := ax hy464
         clear hy464
         have H' := ax H
         clear H
         have hnb46 := NB443_435.out
         have hnc46 := NB435_443.out
         have hnb47 := NB443_436.out
         have hnc47 := NB436_443.out
         have hcz48_0 : wr.cell? ⟨gb443, 0, none⟩ = some (u444000) := (blk_cell BK443.out 0).trans rfl
         have hcz48_1 : wr.cell? ⟨gb443, 1, none⟩ = some (.slice Ao19 x444001_1.length co19) := (blk_cell BK443.out 1).trans rfl
         have hfz48_0 := blk_frozen BK443.out 0
         have hfz48_1 := blk_frozen BK443.out 1
         have p450 : 0 ≤ (x7_1 : Int) := xd
         have q450 : x7_1 < (x444001_1.length : Int) := xd
         obtain ⟨ad450, A450_0, c450_0, e450, hx450_0, hl450_0, hi450_0⟩ := at_L2 (Kd.S_reads' HO_444001.out).2.2 x7_1 p450 q450
         cases e450
         obtain ⟨ce450, hce450, hMe450, hcc450⟩ := Kd.S_get HO_444001.out [] x7_1 p450 (by first | exact q450 | exact xd | (have e_ := (Kd.S_reads' HO_444001.out).1; omega))
         obtain ⟨ve450_0, rfl, ge450_0⟩ := hMe450
         have hv450_0 := hcc450 0 _ rfl
         rw [Nat.add_zero, show ((Kd.slice 3 (Kd.int .i64))).sz = 1 from rfl, Nat.mul_one] at hv450_0
         replace hv450_0 := Option.some.inj (hv450_0.symm.trans hx450_0)
         rw [hv450_0] at ge450_0
         have HL450_0 := ax (show Kd.R (Kd.int .i64) 3 _ _ _ _ (rd_L2 x444001_1 x7_1) from ge450_0)
         clear hv450_0 ge450_0
         have HX450_0 := ax hx450_0
         clear hcc450 hce450
         have HR450_0 := ax hi450_0
         have HC450_0 := ax hl450_0
         clear hi450_0 hl450_0
         replace p450 := eq_true p450
         replace q450 := eq_true q450
         have p451 : 0 ≤ (x7_1 : Int) := xd
         have q451 : x7_1 < (x444001_1.length : Int) := xd
         obtain ⟨ad451, A451_0, c451_0, e451, hx451_0, hl451_0, hi451_0⟩ := at_L2 (Kd.S_reads' HO_444001.out).2.2 x7_1 p451 q451
         obtain rfl : ad450 = ad451 := (by injection e451)
         obtain ⟨ce451, hce451, hMe451, hcc451⟩ := Kd.S_get HO_444001.out [] x7_1 p451 (by first | exact q451 | exact xd | (have e_ := (Kd.S_reads' HO_444001.out).1; omega))
         obtain ⟨ve451_0, rfl, ge451_0⟩ := hMe451
         have hv451_0 := hcc451 0 _ rfl
         rw [Nat.add_zero, show ((Kd.slice 3 (Kd.int .i64))).sz = 1 from rfl, Nat.mul_one] at hv451_0
         replace hv451_0 := Option.some.inj (hv451_0.symm.trans hx451_0)
         rw [hv451_0] at ge451_0
         have HL451_0 := ax (show Kd.R (Kd.int .i64) 3 _ _ _ _ (rd_L2 x444001_1 x7_1) from ge451_0)
         clear hv451_0 ge451_0
         have HX451_0 := ax hx451_0
         clear hcc451 hce451
         have HR451_0 := ax hi451_0
         have HC451_0 := ax hl451_0
         clear hi451_0 hl451_0
         replace p451 := eq_true p451
         replace q451 := eq_true q451
         have ea_ := Option.some.inj (hx450_0.symm.trans hx451_0)
         injection ea_ with ea_ en_ ec_
         subst ea_
         subst ec_
         clear en_
         have p452 : 0 ≤ (x8_2 : Int) := xd
         have q452 : x8_2 < ((rd_L2 x444001_1 x7_1).length : Int) := xd
         obtain ⟨ad452, e452, hx452_0⟩ := Kd.at_int (xw HR451_0.out) x8_2 p452 q452
         cases e452
         replace p452 := eq_true p452
         replace q452 := eq_true q452
         have p453 : 0 ≤ (x7_1 : Int) := xd
         have q453 : x7_1 < (x444001_1.length : Int) := xd
         obtain ⟨ad453, A453_0, c453_0, e453, hx453_0, hl453_0, hi453_0⟩ := at_L2 (Kd.S_reads' HO_444001.out).2.2 x7_1 p453 q453
         obtain rfl : ad450 = ad453 := (by injection e453)
         obtain ⟨ce453, hce453, hMe453, hcc453⟩ := Kd.S_get HO_444001.out [] x7_1 p453 (by first | exact q453 | exact xd | (have e_ := (Kd.S_reads' HO_444001.out).1; omega))
         obtain ⟨ve453_0, rfl, ge453_0⟩ := hMe453
         have hv453_0 := hcc453 0 _ rfl
         rw [Nat.add_zero, show ((Kd.slice 3 (Kd.int .i64))).sz = 1 from rfl, Nat.mul_one] at hv453_0
         replace hv453_0 := Option.some.inj (hv453_0.symm.trans hx453_0)
         rw [hv453_0] at ge453_0
         have HL453_0 := ax (show Kd.R (Kd.int .i64) 3 _ _ _ _ (rd_L2 x444001_1 x7_1) from ge453_0)
         clear hv453_0 ge453_0
         have HX453_0 := ax hx453_0
         clear hcc453 hce453
         have HR453_0 := ax hi453_0
         have HC453_0 := ax hl453_0
         clear hi453_0 hl453_0
         replace p453 := eq_true p453
         replace q453 := eq_true q453
         have ea_ := Option.some.inj (hx450_0.symm.trans hx453_0)
         injection ea_ with ea_ en_ ec_
         subst ea_
         subst ec_
         clear en_
         have p459 : 0 ≤ (x7_1 : Int) := xd
         have q459 : x7_1 < (x444001_1.length : Int) := xd
         obtain ⟨ad459, A459_0, c459_0, e459, hx459_0, hl459_0, hi459_0⟩ := at_L2 (Kd.S_reads' HO_444001.out).2.2 x7_1 p459 q459
         obtain rfl : ad450 = ad459 := (by injection e459)
         obtain ⟨ce459, hce459, hMe459, hcc459⟩ := Kd.S_get HO_444001.out [] x7_1 p459 (by first | exact q459 | exact xd | (have e_ := (Kd.S_reads' HO_444001.out).1; omega))
         obtain ⟨ve459_0, rfl, ge459_0⟩ := hMe459
         have hv459_0 := hcc459 0 _ rfl
         rw [Nat.add_zero, show ((Kd.slice 3 (Kd.int .i64))).sz = 1 from rfl, Nat.mul_one] at hv459_0
         replace hv459_0 := Option.some.inj (hv459_0.symm.trans hx459_0)
         rw [hv459_0] at ge459_0
         have HL459_0 := ax (show Kd.R (Kd.int .i64) 3 _ _ _ _ (rd_L2 x444001_1 x7_1) from ge459_0)
         clear hv459_0 ge459_0
         have HX459_0 := ax hx459_0
         clear hcc459 hce459
         have HR459_0 := ax hi459_0
         have HC459_0 := ax hl459_0
         clear hi459_0 hl459_0
         replace p459 := eq_true p459
         replace q459 := eq_true q459
         have ea_ := Option.some.inj (hx450_0.symm.trans hx459_0)
         injection ea_ with ea_ en_ ec_
         subst ea_
         subst ec_
         clear en_
         have p460 : 0 ≤ (x8_2 : Int) := xd
         have q460 : x8_2 < ((rd_L2 x444001_1 x7_1).length : Int) := xd
         obtain ⟨ad460, e460, hx460_0⟩ := Kd.at_int (xw HR459_0.out) x8_2 p460 q460
         cases e460
         replace p460 := eq_true p460
         replace q460 := eq_true q460
         have p461 : 0 ≤ (x7_1 : Int) := xd
         have q461 : x7_1 < (x444001_1.length : Int) := xd
         obtain ⟨ad461, A461_0, c461_0, e461, hx461_0, hl461_0, hi461_0⟩ := at_L2 (Kd.S_reads' HO_444001.out).2.2 x7_1 p461 q461
         obtain rfl : ad450 = ad461 := (by injection e461)
         obtain ⟨ce461, hce461, hMe461, hcc461⟩ := Kd.S_get HO_444001.out [] x7_1 p461 (by first | exact q461 | exact xd | (have e_ := (Kd.S_reads' HO_444001.out).1; omega))
         obtain ⟨ve461_0, rfl, ge461_0⟩ := hMe461
         have hv461_0 := hcc461 0 _ rfl
         rw [Nat.add_zero, show ((Kd.slice 3 (Kd.int .i64))).sz = 1 from rfl, Nat.mul_one] at hv461_0
         replace hv461_0 := Option.some.inj (hv461_0.symm.trans hx461_0)
         rw [hv461_0] at ge461_0
         have HL461_0 := ax (show Kd.R (Kd.int .i64) 3 _ _ _ _ (rd_L2 x444001_1 x7_1) from ge461_0)
         clear hv461_0 ge461_0
         have HX461_0 := ax hx461_0
         clear hcc461 hce461
         have HR461_0 := ax hi461_0
         have HC461_0 := ax hl461_0
         clear hi461_0 hl461_0
         replace p461 := eq_true p461
         replace q461 := eq_true q461
         have ea_ := Option.some.inj (hx450_0.symm.trans hx461_0)
         injection ea_ with ea_ en_ ec_
         subst ea_
         subst ec_
         clear en_
         have p45 : 0 ≤ (x8_2 : Int) := xd
         have q45 : (x8_2 : Int) < (((rd_L2 x444001_1 x7_1).length : Int) : Int) := xd
         obtain ⟨go45, co45, eo45, gb45, gl45, cl45, HG45⟩ := Kd.R_form HL461_0.out (by omega)
         (first | cases eo45 | (injection eo45 with ea_ en_ ec_; (first | subst ea_ | (injection ea_ with ea_; subst ea_)); subst ec_; clear en_))
         have GB45 := ax gb45
         have GG45 := ax HG45
         clear gb45 gl45 HG45
         (first | simp only [add_plain] at hx460_0 | skip)
         obtain ⟨hx45_0, hf45_0⟩ := Kd.R_celln 0 HL461_0.out (x8_2 : Int) p45 q45
         replace p45 := eq_true p45
         replace q45 := eq_true q45
         have hq49 : (x7_1 : Int) < (x444001_1.length : Int) := (by have h_ : (x7_1 : Int) < ((x444001_1.length : Int) : Int) := xd; first | exact h_ | (have e_ := (Kd.S_reads' HO_444001.out).1; omega) | simpa only [List.length_set, List.length_set] using h_)
         obtain ⟨oki49, ce49, hcl49, hM49, hcc49, hok49, hbk49⟩ := Kd.S_borrow HO_444001.out [] (x7_1 : Int) (xd) hq49
         obtain ⟨ve49_0, rfl, ge49_0⟩ := hM49
         have hv49 := hcc49 0 _ rfl
         rw [Nat.add_zero, show ((Kd.slice 3 (Kd.int .i64))).sz = 1 from rfl, Nat.mul_one] at hv49
         replace hv49 := Option.some.inj (hv49.symm.trans HX461_0.out)
         subst hv49
         clear hcc49 hcl49
         replace ge49_0 := (show Kd.R (Kd.int .i64) 3 _ _ _ _ (rd_L2 x444001_1 x7_1) from ge49_0)
         have HP49 := Kd.R_putg ge49_0 (x8_2 : Int) x1_1
         go_wp2_with (first | ((with_reducible refine gate_store (t := 3) (p := 78) rfl ?_); refine store_event (t := 3) (p := 78) (v := ?vo_w50) (w1 := (wr.setCell ⟨go45, (x8_2 : Int).toNat, none⟩ (.int .i64 x1_1))) ?hg ?ho ?hn ?hr ?_; (case ho => rfl); (case hg => rfl); (case hn => rfl); (case hr => first | (go_simp; done) | (go_simp; rfl)); intro w50 hw; have hg : wr.grownBy w50 (some go45) := (by rw [hw]; exact HP49.2); have hz_ : Kd.R (Kd.int .i64) 3 w50 w.heap.size oki49 (.slice (some ⟨go45, 0, none⟩) (rd_L2 x444001_1 x7_1).length c450_0) y462 := (by rw [hw, Ny462.out]; exact HP49.1); have hp_ : Kd.S (Kd.slice 3 (Kd.int .i64)) 24 w50 w.heap.size (fun k_ => some k_ ≠ (u444000 : Value).ownBlock) (.slice (some ad450) x444001_1.length co19) y464 := (by rw [Ny464.out]; exact hbk49 hg (fun k_ e_ => by injection e_ with e_; subst e_; exact ge49_0.1 _ rfl) (Kd.M_row hz_)); have hm_ := Kd.R_mono hz_ hok49; clear HP49 hbk49; have n0_ := ax (Kd.R_grown1 (xR HO_444000.out) rfl hg ((HL461_0.out.1 _ rfl).1)); have n1_ := ax (hp_); have n2_ := ax (blk_grown (g := gb435) (o := .cells #[.slice A0_0 l0_0.length c0_0, .slice A0_1 l0_1.length c0_1] 36 (0, 0)) (xk BK435.out) hg (Kd.R_ne HL461_0.out BK435.out (by decide))); have n3_ := ax (blk_grown (g := gb436) (o := .cells #[.slice none 0 0, .slice none 0 0] 36 (0, 0)) (xk BK436.out) hg (Kd.R_ne HL461_0.out BK436.out (by decide))); have n4_ := ax (blk_grown (g := gb443) (o := .cells #[u444000, .slice (some ad450) x444001_1.length co19] 36 (0, 0)) (xk BK443.out) hg (Kd.R_ne HL461_0.out BK443.out (by decide))); have n5_ := ax ((by rw [hw]; exact below_set (HB.out) GB45.out : Below w.heap.size w w50)); have n6_ := ax (hm_); have n7_ := ax ((Kd.R_reads' hm_).2.1); clear HO_444000; clear HO_444001; clear BK435; clear BK436; clear BK443; clear HB; clear HL450_0; clear HL451_0; clear HL453_0; clear HL459_0; clear HL461_0; have HO_444000 := n0_; have HO_444001 := n1_; have BK435 := n2_; have BK436 := n3_; have BK443 := n4_; have HB := n5_; have HL472 := n6_; have HC463 := n7_; clear n0_ n1_ n2_ n3_ n4_ n5_ n6_ n7_; clear hg hw hp_ hz_ hm_ hok49))
         go_roundg k2
         case measure => have := HK1.out; have := HK2.out; omega
         case rel => exact ⟨(rd (rd_L2 x444001_1 x7_1) x8_2), (wrap64 (x7_1 + 1)), (x444000_1), (y464), (u444000), (.slice (some ad450) x444001_1.length co19), xr, xr, H', ⟨by have := HK1.out; have := HK2.out; omega⟩, ⟨xR HO_444000.out⟩, ⟨xS HO_444001.out⟩, ⟨xk BK435.out⟩, ⟨xk BK436.out⟩, ⟨xk BK443.out⟩, ⟨by repeat (first | (with_reducible first | exact HB.out | apply below_alloc | apply pw_below_drewN | apply below_drew1 | refine below_set ?_ GE435.out | refine below_set ?_ GE436.out | refine below_set ?_ GE443.out) | exact HB.out)⟩⟩
      ·rw [if_neg c22] at H
       have c22b0 := decide_eq_false c22
       clear c22
       by_cases c51 : x8_2 = ((rd_L2 x444001_1 x7_1).length : Int)
       ·rw [if_pos c51] at H
        have c51b0 : (x8_2 == ((rd_L2 x444001_1 x7_1).length : Int)) = true := beq_iff_eq.mpr c51
        have c51b1 : (x8_2 != ((rd_L2 x444001_1 x7_1).length : Int)) = false := bne_eq_false_iff_eq.mpr c51
        clear c51
        obtain ⟨c52, H⟩ := xp H
        have LMc52 := ax c52
        clear c52
        obtain ⟨y467, hy467⟩ : ∃ y_ : List Int, y_ = ((rd_L2 x444001_1 x7_1) ++ [x1_1]) := ⟨_, rfl⟩
        replace H : (some (x444000_1, (x444001_1.set (x7_1 : Int).toNat y467), x7_1)) = some (r1, r2, r3) := xv hy467 H
        have Ny467 := ax hy467
        clear hy467
        obtain ⟨y470, hy470⟩ : ∃ y_ : List (List Int), y_ = (x444001_1.set (x7_1 : Int).toNat y467) := ⟨_, rfl⟩
        replace H : (some (x444000_1, y470, x7_1)) = some (r1, r2, r3) := xv hy470 H
        have Ny470 := ax hy470
        clear hy470
        simp only [Option.some.injEq, Prod.mk.injEq] at H
        obtain ⟨rfl, rfl, rfl⟩ := H
        have hnb54 := NB443_435.out
        have hnc54 := NB435_443.out
        have hnb55 := NB443_436.out
        have hnc55 := NB436_443.out
        have hcz56_0 : wr.cell? ⟨gb443, 0, none⟩ = some (u444000) := (blk_cell BK443.out 0).trans rfl
        have hcz56_1 : wr.cell? ⟨gb443, 1, none⟩ = some (.slice Ao19 x444001_1.length co19) := (blk_cell BK443.out 1).trans rfl
        have hfz56_0 := blk_frozen BK443.out 0
        have hfz56_1 := blk_frozen BK443.out 1
        have p450 : 0 ≤ (x7_1 : Int) := xd
        have q450 : x7_1 < (x444001_1.length : Int) := xd
        obtain ⟨ad450, A450_0, c450_0, e450, hx450_0, hl450_0, hi450_0⟩ := at_L2 (Kd.S_reads' HO_444001.out).2.2 x7_1 p450 q450
        cases e450
        obtain ⟨ce450, hce450, hMe450, hcc450⟩ := Kd.S_get HO_444001.out [] x7_1 p450 (by first | exact q450 | exact xd | (have e_ := (Kd.S_reads' HO_444001.out).1; omega))
        obtain ⟨ve450_0, rfl, ge450_0⟩ := hMe450
        have hv450_0 := hcc450 0 _ rfl
        rw [Nat.add_zero, show ((Kd.slice 3 (Kd.int .i64))).sz = 1 from rfl, Nat.mul_one] at hv450_0
        replace hv450_0 := Option.some.inj (hv450_0.symm.trans hx450_0)
        rw [hv450_0] at ge450_0
        have HL450_0 := ax (show Kd.R (Kd.int .i64) 3 _ _ _ _ (rd_L2 x444001_1 x7_1) from ge450_0)
        clear hv450_0 ge450_0
        have HX450_0 := ax hx450_0
        clear hcc450 hce450
        have HR450_0 := ax hi450_0
        have HC450_0 := ax hl450_0
        clear hi450_0 hl450_0
        replace p450 := eq_true p450
        replace q450 := eq_true q450
        have p465 : 0 ≤ (x7_1 : Int) := xd
        have q465 : x7_1 < (x444001_1.length : Int) := xd
        obtain ⟨ad465, A465_0, c465_0, e465, hx465_0, hl465_0, hi465_0⟩ := at_L2 (Kd.S_reads' HO_444001.out).2.2 x7_1 p465 q465
        obtain rfl : ad450 = ad465 := (by injection e465)
        obtain ⟨ce465, hce465, hMe465, hcc465⟩ := Kd.S_get HO_444001.out [] x7_1 p465 (by first | exact q465 | exact xd | (have e_ := (Kd.S_reads' HO_444001.out).1; omega))
        obtain ⟨ve465_0, rfl, ge465_0⟩ := hMe465
        have hv465_0 := hcc465 0 _ rfl
        rw [Nat.add_zero, show ((Kd.slice 3 (Kd.int .i64))).sz = 1 from rfl, Nat.mul_one] at hv465_0
        replace hv465_0 := Option.some.inj (hv465_0.symm.trans hx465_0)
        rw [hv465_0] at ge465_0
        have HL465_0 := ax (show Kd.R (Kd.int .i64) 3 _ _ _ _ (rd_L2 x444001_1 x7_1) from ge465_0)
        clear hv465_0 ge465_0
        have HX465_0 := ax hx465_0
        clear hcc465 hce465
        have HR465_0 := ax hi465_0
        have HC465_0 := ax hl465_0
        clear hi465_0 hl465_0
        replace p465 := eq_true p465
        replace q465 := eq_true q465
        have ea_ := Option.some.inj (hx450_0.symm.trans hx465_0)
        injection ea_ with ea_ en_ ec_
        subst ea_
        subst ec_
        clear en_
        try go_wp2
        replace HO_444000 := ax (Kd.R_drew HO_444000.out); replace HO_444001 := ax (Kd.S_drew HO_444001.out); replace HL450_0 := ax (Kd.R_drew HL450_0.out); replace HL465_0 := ax (Kd.R_drew HL465_0.out); replace BK435 := ax (blk_drew BK435.out); replace BK436 := ax (blk_drew BK436.out); replace BK443 := ax (blk_drew BK443.out); replace HR450_0 := ax (Kd.C_drew HR450_0.out); replace HR465_0 := ax (Kd.C_drew HR465_0.out); replace HB := ax (below_drew1 HB.out)
        have p466 : 0 ≤ (x7_1 : Int) := xd
        have q466 : x7_1 < (x444001_1.length : Int) := xd
        obtain ⟨ad466, A466_0, c466_0, e466, hx466_0, hl466_0, hi466_0⟩ := at_L2 (Kd.S_reads' HO_444001.out).2.2 x7_1 p466 q466
        obtain rfl : ad450 = ad466 := (by injection e466)
        obtain ⟨ce466, hce466, hMe466, hcc466⟩ := Kd.S_get HO_444001.out [] x7_1 p466 (by first | exact q466 | exact xd | (have e_ := (Kd.S_reads' HO_444001.out).1; omega))
        obtain ⟨ve466_0, rfl, ge466_0⟩ := hMe466
        have hv466_0 := hcc466 0 _ rfl
        rw [Nat.add_zero, show ((Kd.slice 3 (Kd.int .i64))).sz = 1 from rfl, Nat.mul_one] at hv466_0
        replace hv466_0 := Option.some.inj (hv466_0.symm.trans hx466_0)
        rw [hv466_0] at ge466_0
        have HL466_0 := ax (show Kd.R (Kd.int .i64) 3 _ _ _ _ (rd_L2 x444001_1 x7_1) from ge466_0)
        clear hv466_0 ge466_0
        have HX466_0 := ax hx466_0
        clear hcc466 hce466
        have HR466_0 := ax hi466_0
        have HC466_0 := ax hl466_0
        clear hi466_0 hl466_0
        replace p466 := eq_true p466
        replace q466 := eq_true q466
        obtain ⟨go58, co58, eo58, gb58, gl58, cl58, HG58⟩ := Kd.S_form HO_444001.out (by have h_ : (x7_1 : Int) < ((x444001_1.length : Int) : Int) := xd; have h2_ : 0 ≤ (x7_1 : Int) := (xd); omega)
        (first | cases eo58 | (injection eo58 with ea_ en_ ec_; (first | subst ea_ | (injection ea_ with ea_; subst ea_)); subst ec_; clear en_))
        have GB58 := ax gb58
        have GG58 := ax HG58
        clear gb58 gl58 HG58
        (first | simp only [add_plain] at hx450_0 | skip)
        (first | simp only [add_plain] at hx451_0 | skip)
        (first | simp only [add_plain] at hx453_0 | skip)
        (first | simp only [add_plain] at hx459_0 | skip)
        (first | simp only [add_plain] at hx461_0 | skip)
        (first | simp only [add_plain] at hx465_0 | skip)
        (first | simp only [add_plain] at hx466_0 | skip)
        obtain ⟨oki58, ce58, hcl58, hM58, hcc58, _, _, hH58⟩ := Kd.S_elem HO_444001.out [] (x7_1 : Int) (xd) (by have h_ : (x7_1 : Int) < ((x444001_1.length : Int) : Int) := xd; first | exact h_ | (have e_ := (Kd.S_reads' HO_444001.out).1; omega) | simpa using h_)
        obtain ⟨ve58_0, rfl, ge58_0⟩ := hM58
        have hv58 := hcc58 0 _ rfl
        have hX58 := HX466_0.out
        (try simp only [add_plain] at hX58)
        (try simp only [Nat.add_zero] at hv58)
        (try rw [show ((Kd.slice 3 (Kd.int .i64))).sz = 1 from rfl, Nat.mul_one] at hv58)
        replace hv58 := Option.some.inj (hv58.symm.trans hX58)
        subst hv58
        clear hX58 hcc58 hcl58
        have UU58 := ax (show Kd.R (Kd.int .i64) 3 _ w.heap.size oki58 (.slice A466_0 (rd_L2 x444001_1 x7_1).length c466_0) (rd_L2 x444001_1 x7_1) from ge58_0)
        have HH58 := ax hH58
        have HN58 := ax (Kd.S_reads' HO_444001.out).1
        clear hH58 ge58_0
        refine start_ (n := 13) (S := fun w' => w'.cell? ⟨gb443, 0, none⟩ = some (u444000) ∧ w'.cell? ⟨gb443, 1, none⟩ = some (.slice (some ⟨go58, 0, none⟩) x444001_1.length co19) ∧ w'.cell? ⟨go58, (x7_1).toNat, none⟩ = some (.slice A466_0 (rd_L2 x444001_1 x7_1).length c466_0)) (ds := [12]) (xB 13 0) (by kernel_rfl) rfl (by kernel_rfl) ⟨(blk_cell BK443.out 0).trans rfl, (blk_cell BK443.out 1).trans rfl, hx466_0⟩ (fun hHeld => ?_); refine with_tabW spec_l9Insert.tab9 spec_l9Insert.bits9 (fun HT_ HW_ => ?_)
        generalize wr.drew = w57 at HO_444000 HO_444001 HL450_0 HL465_0 BK435 BK436 BK443 HR450_0 HR465_0 HB GG58 HH58 HL466_0 HR466_0 HX466_0 UU58 hx450_0 hx465_0 hx466_0 hHeld ⊢
        refine pu (i := 0) (N := some 49) (xB 13 1) HT_.out ?_
        refine pu (i := 2) (N := some 51) (xB 13 5) HT_.out ?_
        refine pu (i := 3) (N := some 52) (xB 13 13) HT_.out ?_
        refine pu (i := 5) (N := some 54) (xB 13 45) HT_.out ?_
        refine pu (i := 8) (N := some 57) (xB 13 301) HT_.out ?_
        refine tk (i := 1) (N := some 50) (xB 13 303) HT_.out HW_.out hHeld ?_
        refine tk (i := 4) (N := some 53) (xB 13 319) HT_.out HW_.out hHeld ?_
        refine pu (i := 6) (N := some 55) (xB 13 383) HT_.out ?_
        refine tk (i := 7) (N := some 56) (xB 13 511) HT_.out HW_.out hHeld ?_
        refine one_ (i := 9) (N := some 58) (xB 13 1023) rfl rfl (one_of HT_.out (by kernel_rfl)) (by decide) (fun K hK => ?_)
        refine value_ (w1 := ?_) (v := ?_) (by rfl) rfl ?_ ?_
        rotate_left 2
        ·go_simp
         constructor
         ·rfl
         ·rfl
        refine hK.out _ _ ⟨(blk_cell (blk_alloc BK443.out _) 0).trans rfl, (blk_cell (blk_alloc BK443.out _) 1).trans rfl, (World.cell?_alloc_lt _ _ _ (World.block_lt_of_cell? _ _ (hHeld.2.2))).trans (hHeld.2.2)⟩ (fun hHeld => ?_)
        clear hK K
        refine nm ?_
        refine one_ (i := 10) (N := some 59) (xB 13 2047) rfl rfl (one_of HT_.out (by kernel_rfl)) (by decide) (fun K hK => ?_)
        refine Kd.R_append_step (Kd.int .i64) (w0 := w) w.heap.size (by rfl) (.tmp 56) (.tmp 58) 24 3 (.int .i64 0) 8 rfl Try.underlying24 info3 rfl (by decide) (by omega) (.slice A466_0 (rd_L2 x444001_1 x7_1).length c466_0) (rd_L2 x444001_1 x7_1) x1_1 [.int .i64 x1_1] (fun k_ => oki58 k_ ∨ ((fun k_ => some k_ ≠ (u444000 : Value).ownBlock)) k_ ∧ w57.heap.size ≤ k_) (fun _ => False) rfl rfl ?aP (fun _ hk => hk.elim) ?aF ?aO ?aB ?aS ?aL ?_
        (case aP => exact rfl)
        (case aB => exact (by repeat (first | (with_reducible first | exact HB.out | apply below_alloc | apply pw_below_drewN | apply below_drew1 | refine below_set ?_ GE435.out | refine below_set ?_ GE436.out | refine below_set ?_ GE443.out) | exact HB.out)))
        (case aF => exact (fun k_ hk => .inr ⟨Kd.fresh' (Kd.R_lt (xR HO_444000.out)) k_ hk, hk⟩))
        (case aO => exact (by (with_reducible repeat (first | apply Kd.R_alloc | apply Kd.R_drewN | apply Kd.R_drew)); exact Kd.R_mono UU58.out (fun _ hk => .inl hk)))
        (case aS => exact (below_size (by repeat (first | (with_reducible first | exact HB.out | apply below_alloc | apply pw_below_drewN | apply below_drew1 | refine below_set ?_ GE435.out | refine below_set ?_ GE436.out | refine below_set ?_ GE443.out) | exact HB.out))))
        (case aL => have := LMc52.out; omega)
        intro v468 w59 ho hb hg hat
        (first | have HS2_ := cell_grown hg (hHeld.2.2) (by first | (rw [add_block]; exact (fun e_ => ((HL466_0.out.1 _ e_.symm).2) rfl)) | (show some (Addr.add _ _).block ≠ _; rw [add_block]; exact (fun e_ => ((HL466_0.out.1 _ e_.symm).2) rfl)) | exact (fun e_ => ((HL466_0.out.1 _ e_.symm).2) rfl)) | have HS2_ := cell_grown hg (cell_unalloc (hHeld.2.2) (by first | (rw [add_block]; exact Kd.S_lt HO_444001.out _ rfl) | (show (Addr.add _ _).block < _; rw [add_block]; exact Kd.S_lt HO_444001.out _ rfl) | exact Kd.S_lt HO_444001.out _ rfl)) (by first | (rw [add_block]; exact (fun e_ => ((HL466_0.out.1 _ e_.symm).2) rfl)) | (show some (Addr.add _ _).block ≠ _; rw [add_block]; exact (fun e_ => ((HL466_0.out.1 _ e_.symm).2) rfl)) | exact (fun e_ => ((HL466_0.out.1 _ e_.symm).2) rfl)))
        rw [← Ny467.out] at ho
        have n0_ := ax (Kd.R_grown2 (xR HO_444000.out) rfl hg (fun k_ e_ => (HL466_0.out.1 k_ e_).1))
        have n1_ := ax (blk_grown (g := gb435) (o := .cells #[.slice A0_0 l0_0.length c0_0, .slice A0_1 l0_1.length c0_1] 36 (0, 0)) (xk BK435.out) hg (Kd.R_ne HL466_0.out BK435.out (by decide)))
        have n2_ := ax (blk_grown (g := gb436) (o := .cells #[.slice none 0 0, .slice none 0 0] 36 (0, 0)) (xk BK436.out) hg (Kd.R_ne HL466_0.out BK436.out (by decide)))
        have n3_ := ax (blk_grown (g := gb443) (o := .cells #[u444000, .slice (some ⟨go58, 0, none⟩) x444001_1.length co19] 36 (0, 0)) (xk BK443.out) hg (Kd.R_ne HL466_0.out BK443.out (by decide)))
        have n4_ := ax (hb)
        have n5_ := ax (Kd.H_grown (Kd.H_widen (by repeat (first | exact HH58.out | refine Kd.H_alloc ?_ _ | refine Kd.H_drewN ?_ _ | refine Kd.H_drew ?_))) hg (fun k_ e_ => .inl (UU58.out.1 k_ e_)))
        have n6_ := ax (ho)
        clear HO_444000 BK435 BK436 BK443 HB HH58 HO_444001 UU58 HL450_0 HL465_0 HL466_0
        have HO_444000 := n0_
        have BK435 := n1_
        have BK436 := n2_
        have BK443 := n3_
        have HB := n4_
        have HH58 := n5_
        have HO469 := n6_
        clear n0_ n1_ n2_ n3_ n4_ n5_ n6_ ho hb hg hat
        have p53 : 0 ≤ (x7_1 : Int) := xd
        have q53 : (x7_1 : Int) < ((x444001_1.length : Int) : Int) := xd
        replace p53 := eq_true p53
        replace q53 := eq_true q53
        obtain ⟨Ao62, co62, eo62⟩ := Kd.R_slice HO469.out
        (first | subst eo62 | (injection eo62 with f1_ f2_ f3_; have f4_ := f1_.symm; have f5_ := f3_.symm; clear f1_ f2_ f3_; subst f4_; subst f5_))
        obtain ⟨_, _, hraw60, _, _, hcc60, _⟩ := Kd.H_raw HH58.out (xd) (by have h_ : (x7_1 : Int) < ((x444001_1.length : Int) : Int) := xd; first | exact h_ | (have e_ := (HN58.out); omega) | simpa using h_)
        obtain ⟨_, hfr60⟩ := Kd.H_at HH58.out (xd) (by have h_ : (x7_1 : Int) < ((x444001_1.length : Int) : Int) := xd; first | exact h_ | (have e_ := (HN58.out); omega) | simpa using h_)
        have hx60_0 := hcc60 0 _ rfl
        have hf60_0 := hfr60 0
        (try simp only [Nat.add_zero] at hx60_0 hf60_0)
        (try rw [show ((Kd.slice 3 (Kd.int .i64))).sz = 1 from rfl, Nat.mul_one] at hx60_0)
        (try rw [show ((Kd.slice 3 (Kd.int .i64))).sz = 1 from rfl, Nat.mul_one] at hf60_0)
        have HP60 := Kd.S_seg0 HH58.out (xd) (by have h_ : (x7_1 : Int) < ((x444001_1.length : Int) : Int) := xd; first | exact h_ | (have e_ := (HN58.out); omega) | simpa using h_) (seg := [.slice Ao62 y467.length co62]) (j := 0) (show 1 ≤ 1 from by decide) (x' := y467) (Kd.M_row HO469.out) (fun _ hk => hk)
        (try simp only [show ((Kd.slice 3 (Kd.int .i64))).sz = 1 from rfl, Nat.mul_one, Nat.add_zero] at HP60)
        clear hcc60 hfr60
        have HNB435_go58 := ax (show gb435 ≠ go58 from by have h_ := Kd.R_ne hraw60 BK435.out (by decide); intro e_; exact h_ (by rw [e_]; rfl))
        have HNB436_go58 := ax (show gb436 ≠ go58 from by have h_ := Kd.R_ne hraw60 BK436.out (by decide); intro e_; exact h_ (by rw [e_]; rfl))
        have HNB443_go58 := ax (show gb443 ≠ go58 from by have h_ := Kd.R_ne hraw60 BK443.out (by decide); intro e_; exact h_ (by rw [e_]; rfl))
        have HS60 := HP60.1
        rw [← Ny470.out] at HS60
        have HQ60 := ax HS60
        obtain ⟨_, hgg60⟩ := Kd.R_typed hraw60 go58 rfl
        have GG60_ := ax hgg60
        clear HP60 HS60 hgg60
        refine hK.out _ _ ⟨(blk_cell BK443.out 0).trans rfl, (blk_cell BK443.out 1).trans rfl, HS2_⟩ (fun hHeld => ?_)
        clear hK K
        refine nm ?_
        refine pu (i := 11) (N := some 60) (xB 13 4095) HT_.out ?_
        refine last_ (i := 12) (N := none) (xB 13 8191) rfl rfl (one_of HT_.out (by kernel_rfl)) (by decide) (fun K hK => ?_)
        refine skip_ (w1 := ?_) (by rfl) rfl ?_ ?_
        rotate_left
        ·go_simp
         rfl
        refine hK.out _ _ ?_
        clear hK K
        refine done_ (done_of HT_.out (by kernel_rfl)) ?_
        have n0_ : Aside0 (Kd.R (Kd.int .i64) 3 (w59.setCell ⟨go58, (x7_1 : Int).toNat, none⟩ (.slice Ao62 y467.length co62)) w.heap.size (fun _ => True) u444000 x444000_1) := ⟨by (with_reducible repeat (first | apply Kd.R_alloc | apply Kd.R_drewN | apply Kd.R_drew)); exact Kd.R_mono (Kd.R_far (p := ⟨go58, (x7_1 : Int).toNat, none⟩) (Kd.R_types HO_444000.out GG60_.out (by decide)) (fun _ hk => hk.2) (.slice Ao62 y467.length co62)) (fun _ hk => trivial)⟩
        have n1_ : Aside0 (Kd.S (Kd.slice 3 (Kd.int .i64)) 24 (w59.setCell ⟨go58, (x7_1 : Int).toNat, none⟩ (.slice Ao62 y467.length co62)) w.heap.size (fun k_ => some k_ ≠ (u444000 : Value).ownBlock) (.slice (some ⟨go58, 0, none⟩) x444001_1.length co19) y470) := ⟨by (with_reducible repeat (first | apply Kd.S_alloc | apply Kd.S_drewN | apply Kd.S_drew)); exact HQ60.out⟩
        have n2_ : Aside0 ((w59.setCell ⟨go58, (x7_1 : Int).toNat, none⟩ (.slice Ao62 y467.length co62)).heap[gb435]? = some (.cells #[.slice A0_0 l0_0.length c0_0, .slice A0_1 l0_1.length c0_1] 36 (0, 0))) := ⟨by (with_reducible repeat (first | refine blk_drewN ?_ _ | refine blk_drew ?_ | refine blk_alloc ?_ _)); refine blk_far ?_ HNB435_go58.out _; (with_reducible repeat (first | refine blk_drewN ?_ _ | refine blk_drew ?_ | refine blk_alloc ?_ _)); exact BK435.out⟩
        have n3_ : Aside0 ((w59.setCell ⟨go58, (x7_1 : Int).toNat, none⟩ (.slice Ao62 y467.length co62)).heap[gb436]? = some (.cells #[.slice none 0 0, .slice none 0 0] 36 (0, 0))) := ⟨by (with_reducible repeat (first | refine blk_drewN ?_ _ | refine blk_drew ?_ | refine blk_alloc ?_ _)); refine blk_far ?_ HNB436_go58.out _; (with_reducible repeat (first | refine blk_drewN ?_ _ | refine blk_drew ?_ | refine blk_alloc ?_ _)); exact BK436.out⟩
        have n4_ : Aside0 ((w59.setCell ⟨go58, (x7_1 : Int).toNat, none⟩ (.slice Ao62 y467.length co62)).heap[gb443]? = some (.cells #[u444000, .slice (some ⟨go58, 0, none⟩) x444001_1.length co19] 36 (0, 0))) := ⟨by (with_reducible repeat (first | refine blk_drewN ?_ _ | refine blk_drew ?_ | refine blk_alloc ?_ _)); refine blk_far ?_ HNB443_go58.out _; (with_reducible repeat (first | refine blk_drewN ?_ _ | refine blk_drew ?_ | refine blk_alloc ?_ _)); exact BK443.out⟩
        have n5_ : Aside0 (Below w.heap.size w (w59.setCell ⟨go58, (x7_1 : Int).toNat, none⟩ (.slice Ao62 y467.length co62))) := ⟨by repeat (first | (with_reducible first | exact HB.out | apply below_alloc | apply pw_below_drewN | apply below_drew1 | refine below_set ?_ GB58.out | refine below_set ?_ GE435.out | refine below_set ?_ GE436.out | refine below_set ?_ GE443.out) | exact HB.out)⟩
        (try clear HO_444000)
        (try clear HO_444001)
        (try clear BK435)
        (try clear BK436)
        (try clear BK443)
        (try clear HB)
        generalize (w59.setCell ⟨go58, (x7_1 : Int).toNat, none⟩ (.slice Ao62 y467.length co62)) = w63 at n0_ n1_ n2_ n3_ n4_ n5_ ⊢
        have HO_444000 := n0_
        have HO_444001 := n1_
        have BK435 := n2_
        have BK436 := n3_
        have BK443 := n4_
        have HB := n5_
        clear n0_ n1_ n2_ n3_ n4_ n5_
        have hcz64_0 : w63.cell? ⟨gb443, 0, none⟩ = some (u444000) := (blk_cell BK443.out 0).trans rfl
        have hcz64_1 : w63.cell? ⟨gb443, 1, none⟩ = some (.slice (some ⟨go58, 0, none⟩) x444001_1.length co19) := (blk_cell BK443.out 1).trans rfl
        have hfz64_0 := blk_frozen BK443.out 0
        have hfz64_1 := blk_frozen BK443.out 1
        obtain ⟨Ao65, co65, eo65⟩ := Kd.R_slice HO_444000.out
        subst eo65
        have hnb66 := NB436_435.out
        have hnc66 := NB435_436.out
        have hcz67_0 : w63.cell? ⟨gb436, 0, none⟩ = some (.slice none 0 0) := (blk_cell BK436.out 0).trans rfl
        have hcz67_1 : w63.cell? ⟨gb436, 1, none⟩ = some (.slice none 0 0) := (blk_cell BK436.out 1).trans rfl
        have hfz67_0 := blk_frozen BK436.out 0
        have hfz67_1 := blk_frozen BK436.out 1
        try go_wp2
        refine bodyPost_ret (results_ct rfl _ _ gb436 36 #[.slice Ao65 x444000_1.length co65, .slice (some ⟨go58, 0, none⟩) x444001_1.length co19] (0, 0) _ rfl (by (with_reducible repeat (first | refine blk_drewN ?_ _ | refine blk_drew ?_ | refine blk_alloc ?_ _)); refine blk_put (cs := #[.slice Ao65 x444000_1.length co65, .slice none 0 0]) ?_ 1 _ rfl; (with_reducible repeat (first | refine blk_drewN ?_ _ | refine blk_drew ?_ | refine blk_alloc ?_ _)); refine blk_put (cs := #[.slice none 0 0, .slice none 0 0]) ?_ 0 _ rfl; (with_reducible repeat (first | refine blk_drewN ?_ _ | refine blk_drew ?_ | refine blk_alloc ?_ _)); exact BK436.out) Try.underlying36 rfl (by kernel_rfl)) rfl ?_
        exact ⟨_, _, xe, by (with_reducible repeat (first | apply Kd.R_alloc | apply Kd.R_drewN | apply Kd.R_drew)); exact Kd.R_mono (Kd.R_far (p := ⟨gb436, 1, none⟩) (Kd.R_far (p := ⟨gb436, 0, none⟩) (Kd.R_types HO_444000.out BK436.out (by decide)) (fun _ hk => hk.2) (.slice Ao65 x444000_1.length co65)) (fun _ hk => hk.2) (.slice (some ⟨go58, 0, none⟩) x444001_1.length co19)) (fun _ hk => trivial), by (with_reducible repeat (first | apply Kd.S_alloc | apply Kd.S_drewN | apply Kd.S_drew)); exact Kd.S_mono (Kd.S_far (p := ⟨gb436, 1, none⟩) (Kd.S_far (p := ⟨gb436, 0, none⟩) (Kd.S_types HO_444001.out BK436.out (by decide)) (fun _ hk => hk.2) (.slice Ao65 x444000_1.length co65)) (fun _ hk => hk.2) (.slice (some ⟨go58, 0, none⟩) x444001_1.length co19)) (fun _ hk => hk.1), by repeat (first | (with_reducible first | exact HB.out | apply below_alloc | apply pw_below_drewN | apply below_drew1 | refine below_set ?_ GE435.out | refine below_set ?_ GE436.out | refine below_set ?_ GE443.out) | exact HB.out)⟩
       ·rw [if_neg c51] at H
        have c51b0 : (x8_2 == ((rd_L2 x444001_1 x7_1).length : Int)) = false := beq_eq_false_iff_ne.mpr c51
        have c51b1 : (x8_2 != ((rd_L2 x444001_1 x7_1).length : Int)) = true := bne_iff_ne.mpr c51
        obtain ⟨c68, H⟩ := xp H
        exact absurd H (by simp)
   ·rw [if_neg c15] at H
    have c15b0 := decide_eq_false c15
    clear c15
    obtain ⟨y444, hy444⟩ : ∃ y_ : List Int, y_ = (([x1_1] : List Int)) := ⟨_, rfl⟩
    replace H : (if x444001_1.length < 5864062014805 then ((some (x444001_1 ++ [y444] : List (List Int))).bind fun y447 => (some (x444000_1, y447, wrap64 ((y447.length : Int) - 1)))) else (none)) = some (r1, r2, r3) := xv hy444 H
    have Ny444 := ax hy444
    clear hy444
    obtain ⟨c69, H⟩ := xp H
    have LMc69 := ax c69
    clear c69
    obtain ⟨y447, Ny447, H⟩ := xg H
    simp only [Option.some.injEq, Prod.mk.injEq] at H
    obtain ⟨rfl, rfl, rfl⟩ := H
    have hnb70 := NB443_435.out
    have hnc70 := NB435_443.out
    have hnb71 := NB443_436.out
    have hnc71 := NB436_443.out
    have hcz72_0 : wr.cell? ⟨gb443, 0, none⟩ = some (u444000) := (blk_cell BK443.out 0).trans rfl
    have hcz72_1 : wr.cell? ⟨gb443, 1, none⟩ = some (u444001) := (blk_cell BK443.out 1).trans rfl
    have hfz72_0 := blk_frozen BK443.out 0
    have hfz72_1 := blk_frozen BK443.out 1
    obtain ⟨Ao73, co73, eo73⟩ := Kd.S_slice HO_444001.out
    subst eo73
    try go_wp2_with (first | ((with_reducible refine gate_dst (N := 83) rfl ?_); refine Kd.R_lit (Kd.int .i64) _ 3 ?hg (N := 83) ?hd (xs := ([x1_1] : List Int)) (inner := [.int .i64 x1_1]) (ok := fun _ => True) (okp := fun _ => True) ?hr ?hp (fun _ hk => hk) trivial (Below.refl _ _) (Nat.le_refl _) (by simp) ?_; (case hd => rfl); (case hg => rfl); (case hr => first | (go_simp; done) | (go_simp; rfl)); (case hp => exact (Reps.one (show Kd.M (Kd.int .i64) _ _ _ x1_1 [.int .i64 x1_1] from rfl) (Reps.none _ _))); intro v445 w74 ho75 hb hg_ hnew_; clear hg_ hnew_; (first | rw [← Ny444.out] at ho75 | (simp only [Int.reduceToNat] at ho75; rw [← Ny444.out] at ho75)); replace HO_444001 := ax (Kd.S_elder' (xS HO_444001.out) (Kd.R_base ho75) hb); have HO446 := ax (Kd.R_lower (Kd.R_new' ho75 (Kd.R_lt (xR HO_444000.out))) (below_size (by repeat (first | (with_reducible first | exact HB.out | apply below_alloc | apply pw_below_drewN | apply below_drew1 | refine below_set ?_ GE435.out | refine below_set ?_ GE436.out | refine below_set ?_ GE443.out) | exact HB.out)))); replace HO_444000 := ax (Kd.R_elder' (xR HO_444000.out) (Kd.R_base ho75) hb); replace BK435 := ax (blk_below (g := gb435) (o := .cells #[.slice A0_0 l0_0.length c0_0, .slice A0_1 l0_1.length c0_1] 36 (0, 0)) (xk BK435.out) hb); replace BK436 := ax (blk_below (g := gb436) (o := .cells #[.slice none 0 0, .slice none 0 0] 36 (0, 0)) (xk BK436.out) hb); replace BK443 := ax (blk_below (g := gb443) (o := .cells #[u444000, .slice Ao73 x444001_1.length co73] 36 (0, 0)) (xk BK443.out) hb); replace HB := ax (below_step (by repeat (first | (with_reducible first | exact HB.out | apply below_alloc | apply pw_below_drewN | apply below_drew1 | refine below_set ?_ GE435.out | refine below_set ?_ GE436.out | refine below_set ?_ GE443.out) | exact HB.out)) hb); clear hb ho75; obtain ⟨Ao77, co77, eo77⟩ := Kd.R_slice HO446.out; subst eo77) | ((with_reducible refine gate_builtin (b := .append) (xs := #[.tmp 81, .tmp 84]) rfl ?_); at_builtin; refine Kd.S_append (Kd.slice 3 (Kd.int .i64)) (w0 := w) w.heap.size rfl (.tmp 81) (.tmp 84) 34 24 (.slice none 0 0) 24 rfl Try.underlying34 info24 rfl (by decide) (by omega) (.slice Ao73 x444001_1.length co73) x444001_1 y444 [.slice Ao77 y444.length co77] (fun k_ => some k_ ≠ (u444000 : Value).ownBlock) (fun k_ => some k_ = (.slice Ao77 y444.length co77 : Value).ownBlock) rfl rfl ?aP (fun k_ hk_ => ((Kd.R_mono (ok' := fun k_ => ((fun k_ => some k_ ≠ (u444000 : Value).ownBlock)) k_ ∧ some k_ ≠ (.slice Ao73 x444001_1.length co73 : Value).ownBlock) (Kd.R_apart' (HO446.out) (Kd.S_typed HO_444001.out) (by decide)) (fun k_ hk => ⟨hk.1.2, hk.2⟩))).1 k_ hk_.symm) ?aF ?aO ?aB ?aS ?aL ?_; (case aP => exact Kd.M_row (Kd.R_mono (Kd.R_tight rfl (Kd.R_mono (ok' := fun k_ => ((fun k_ => some k_ ≠ (u444000 : Value).ownBlock)) k_ ∧ some k_ ≠ (.slice Ao73 x444001_1.length co73 : Value).ownBlock) (Kd.R_apart' (HO446.out) (Kd.S_typed HO_444001.out) (by decide)) (fun k_ hk => ⟨hk.1.2, hk.2⟩))) (fun _ h_ => h_))); (case aB => exact (by repeat (first | (with_reducible first | exact HB.out | apply below_alloc | apply pw_below_drewN | apply below_drew1 | refine below_set ?_ GE435.out | refine below_set ?_ GE436.out | refine below_set ?_ GE443.out) | exact HB.out))); (case aF => exact (fun k_ hk => Kd.fresh' (Kd.R_lt (xR HO_444000.out)) k_ hk)); (case aO => exact (by (with_reducible repeat (first | apply Kd.S_alloc | apply Kd.S_drewN | apply Kd.S_drew)); exact Kd.S_mono HO_444001.out (fun k_ hk => ⟨hk.1, fun e_ => hk.2 e_⟩))); (case aS => exact (below_size (by repeat (first | (with_reducible first | exact HB.out | apply below_alloc | apply pw_below_drewN | apply below_drew1 | refine below_set ?_ GE435.out | refine below_set ?_ GE436.out | refine below_set ?_ GE443.out) | exact HB.out)))); (case aL => have := LMc69.out; omega); intro v448 w76 ho hb hg hat; rw [← Ny447.out] at ho; have n0_ := ax (Kd.R_over' (xR HO_444000.out) (Kd.S_typed (xS HO_444001.out)) (by decide) hg); have n1_ := ax (blk_grown (g := gb435) (o := .cells #[.slice A0_0 l0_0.length c0_0, .slice A0_1 l0_1.length c0_1] 36 (0, 0)) (xk BK435.out) hg (Kd.S_ne HO_444001.out BK435.out (by decide))); have n2_ := ax (blk_grown (g := gb436) (o := .cells #[.slice none 0 0, .slice none 0 0] 36 (0, 0)) (xk BK436.out) hg (Kd.S_ne HO_444001.out BK436.out (by decide))); have n3_ := ax (blk_grown (g := gb443) (o := .cells #[u444000, .slice Ao73 x444001_1.length co73] 36 (0, 0)) (xk BK443.out) hg (Kd.S_ne HO_444001.out BK443.out (by decide))); have n4_ := ax (hb); have n5_ := ax (ho); clear HO_444000; clear BK435; clear BK436; clear BK443; clear HB; clear HO_444001; clear HO446; have HO_444000 := n0_; have BK435 := n1_; have BK436 := n2_; have BK443 := n3_; have HB := n4_; have HO449 := n5_; clear n0_ n1_ n2_ n3_ n4_ n5_; clear ho hb hg hat; obtain ⟨Ao78, co78, eo78⟩ := Kd.S_slice HO449.out; subst eo78; have hcz79_0 : w76.cell? ⟨gb443, 0, none⟩ = some (u444000) := (blk_cell BK443.out 0).trans rfl; have hcz79_1 : w76.cell? ⟨gb443, 1, none⟩ = some (.slice Ao73 x444001_1.length co73) := (blk_cell BK443.out 1).trans rfl; have hfz79_0 := blk_frozen BK443.out 0; have hfz79_1 := blk_frozen BK443.out 1))
    have n0_ : Aside0 (Kd.R (Kd.int .i64) 3 (w76.setCell ⟨gb443, 1, none⟩ (.slice Ao78 y447.length co78)) w.heap.size (fun _ => True) u444000 x444000_1) := ⟨by (with_reducible repeat (first | apply Kd.R_alloc | apply Kd.R_drewN | apply Kd.R_drew)); exact Kd.R_mono (Kd.R_far (p := ⟨gb443, 1, none⟩) (Kd.R_types HO_444000.out BK443.out (by decide)) (fun _ hk => hk.2) (.slice Ao78 y447.length co78)) (fun _ hk => trivial)⟩
    have n1_ : Aside0 (Kd.S (Kd.slice 3 (Kd.int .i64)) 24 (w76.setCell ⟨gb443, 1, none⟩ (.slice Ao78 y447.length co78)) w.heap.size (fun k_ => some k_ ≠ (u444000 : Value).ownBlock) (.slice Ao78 y447.length co78) y447) := ⟨by (with_reducible repeat (first | apply Kd.S_alloc | apply Kd.S_drewN | apply Kd.S_drew)); exact Kd.S_mono (Kd.S_far (p := ⟨gb443, 1, none⟩) (Kd.S_types HO449.out BK443.out (by decide)) (fun _ hk => hk.2) (.slice Ao78 y447.length co78)) (fun _ hk => hk.1)⟩
    have n2_ : Aside0 ((w76.setCell ⟨gb443, 1, none⟩ (.slice Ao78 y447.length co78)).heap[gb435]? = some (.cells #[.slice A0_0 l0_0.length c0_0, .slice A0_1 l0_1.length c0_1] 36 (0, 0))) := ⟨by (with_reducible repeat (first | refine blk_drewN ?_ _ | refine blk_drew ?_ | refine blk_alloc ?_ _)); refine blk_far ?_ NB435_443.out _; (with_reducible repeat (first | refine blk_drewN ?_ _ | refine blk_drew ?_ | refine blk_alloc ?_ _)); exact BK435.out⟩
    have n3_ : Aside0 ((w76.setCell ⟨gb443, 1, none⟩ (.slice Ao78 y447.length co78)).heap[gb436]? = some (.cells #[.slice none 0 0, .slice none 0 0] 36 (0, 0))) := ⟨by (with_reducible repeat (first | refine blk_drewN ?_ _ | refine blk_drew ?_ | refine blk_alloc ?_ _)); refine blk_far ?_ NB436_443.out _; (with_reducible repeat (first | refine blk_drewN ?_ _ | refine blk_drew ?_ | refine blk_alloc ?_ _)); exact BK436.out⟩
    have n4_ : Aside0 ((w76.setCell ⟨gb443, 1, none⟩ (.slice Ao78 y447.length co78)).heap[gb443]? = some (.cells #[u444000, .slice Ao78 y447.length co78] 36 (0, 0))) := ⟨by (with_reducible repeat (first | refine blk_drewN ?_ _ | refine blk_drew ?_ | refine blk_alloc ?_ _)); refine blk_put (cs := #[u444000, .slice Ao73 x444001_1.length co73]) ?_ 1 _ rfl; (with_reducible repeat (first | refine blk_drewN ?_ _ | refine blk_drew ?_ | refine blk_alloc ?_ _)); exact BK443.out⟩
    have n5_ : Aside0 (Below w.heap.size w (w76.setCell ⟨gb443, 1, none⟩ (.slice Ao78 y447.length co78))) := ⟨by repeat (first | (with_reducible first | exact HB.out | apply below_alloc | apply pw_below_drewN | apply below_drew1 | refine below_set ?_ GE435.out | refine below_set ?_ GE436.out | refine below_set ?_ GE443.out) | exact HB.out)⟩
    (try clear HO_444000)
    (try clear HO449)
    (try clear BK435)
    (try clear BK436)
    (try clear BK443)
    (try clear HB)
    generalize (w76.setCell ⟨gb443, 1, none⟩ (.slice Ao78 y447.length co78)) = w80 at n0_ n1_ n2_ n3_ n4_ n5_ ⊢
    have HO_444000 := n0_
    have HO449 := n1_
    have BK435 := n2_
    have BK436 := n3_
    have BK443 := n4_
    have HB := n5_
    clear n0_ n1_ n2_ n3_ n4_ n5_
    replace HO_444000 := ax (Kd.R_drew HO_444000.out); replace HO449 := ax (Kd.S_drew HO449.out); replace BK435 := ax (blk_drew BK435.out); replace BK436 := ax (blk_drew BK436.out); replace BK443 := ax (blk_drew BK443.out); replace HB := ax (below_drew1 HB.out)
    obtain ⟨Ao82, co82, eo82⟩ := Kd.R_slice HO_444000.out
    (first | subst eo82 | (injection eo82 with f1_ f2_ f3_; have f4_ := f1_.symm; have f5_ := f3_.symm; clear f1_ f2_ f3_; subst f4_; subst f5_))
    refine start_ (n := 7) (S := fun w' => w'.cell? ⟨gb443, 0, none⟩ = some (.slice Ao82 x444000_1.length co82) ∧ w'.cell? ⟨gb443, 1, none⟩ = some (.slice Ao78 y447.length co78)) (ds := []) (xB 7 0) (by kernel_rfl) rfl (by kernel_rfl) ⟨(blk_cell BK443.out 0).trans rfl, (blk_cell BK443.out 1).trans rfl⟩ (fun hHeld => ?_)
    generalize w80.drew = w81 at HO_444000 HO449 BK435 BK436 BK443 HB hHeld ⊢
    refine pure_ (i := 1) (N := some 88) (v := ?_) (a' := ?_) (xB 7 2) rfl rfl (by kernel_rfl) (fun _ _ _ h => h) (Or.inl ⟨by rfl, ?_⟩) ?_ ?_
    rotate_left
    ·intro w'
     go_simp
     with_reducible rfl
    rotate_left
    ·simp only [Act.put, List.setIfInBounds_toArray, List.set_cons_zero, List.set_cons_succ, i64_w, i32_w]
     rfl
    refine take_ (i := 0) (N := some 87) (v := ?_) (a' := ?_) (xB 7 3) rfl rfl (by kernel_rfl) (fun _ _ _ h => h) (Or.inl ⟨by rfl, ?_⟩) hHeld ?_ ?_
    rotate_left
    ·rintro w' ⟨s0, s1⟩
     go_simp
     with_reducible rfl
    rotate_left
    ·simp only [Act.put, List.setIfInBounds_toArray, List.set_cons_zero, List.set_cons_succ, i64_w, i32_w]
     rfl
    refine take_ (i := 2) (N := some 89) (v := ?_) (a' := ?_) (xB 7 7) rfl rfl (by kernel_rfl) (fun _ _ _ h => h) (Or.inl ⟨by rfl, ?_⟩) hHeld ?_ ?_
    rotate_left
    ·rintro w' ⟨s0, s1⟩
     go_simp
     with_reducible rfl
    rotate_left
    ·simp only [Act.put, List.setIfInBounds_toArray, List.set_cons_zero, List.set_cons_succ, i64_w, i32_w]
     rfl
    refine pure_ (i := 3) (N := some 90) (v := ?_) (a' := ?_) (xB 7 15) rfl rfl (by kernel_rfl) (fun _ _ _ h => h) (Or.inl ⟨by rfl, ?_⟩) ?_ ?_
    rotate_left
    ·intro w'
     go_simp
     with_reducible rfl
    rotate_left
    ·simp only [Act.put, List.setIfInBounds_toArray, List.set_cons_zero, List.set_cons_succ, i64_w, i32_w]
     rfl
    refine pure_ (i := 4) (N := some 91) (v := ?_) (a' := ?_) (xB 7 31) rfl rfl (by kernel_rfl) (fun _ _ _ h => h) (Or.inl ⟨by rfl, ?_⟩) ?_ ?_
    rotate_left
    ·intro w'
     go_simp
     with_reducible rfl
    rotate_left
    ·simp only [Act.put, List.setIfInBounds_toArray, List.set_cons_zero, List.set_cons_succ, i64_w, i32_w]
     rfl
    refine one_ (i := 5) (N := none) (xB 7 63) rfl rfl (by kernel_rfl) (by decide) (fun K hK => ?_)
    have hs83 : w81.cell? ⟨gb436, 0, none⟩ = some (.slice none 0 0) := (blk_cell BK436.out 0).trans rfl
    have hfs83 := blk_frozen BK436.out 0
    have hns83_0 := NB435_436.out
    have hns83_2 := NB443_436.out
    have hms83_0 := NB436_435.out
    have hms83_2 := NB436_443.out
    have hs84 : w81.cell? ⟨gb436, 1, none⟩ = some (.slice none 0 0) := (blk_cell BK436.out 1).trans rfl
    have hfs84 := blk_frozen BK436.out 1
    have hns84_0 := NB435_436.out
    have hns84_2 := NB443_436.out
    have hms84_0 := NB436_435.out
    have hms84_2 := NB436_443.out
    refine skip_ (w1 := ?_) (by rfl) rfl ?_ ?_
    rotate_left
    ·go_simp
     rfl
    refine hK.out _ _ ⟨((cell_far (p := ⟨gb436, _, none⟩) NB443_436.out _).trans (((cell_far (p := ⟨gb436, _, none⟩) NB443_436.out _).trans (hHeld.1)))), ((cell_far (p := ⟨gb436, _, none⟩) NB443_436.out _).trans (((cell_far (p := ⟨gb436, _, none⟩) NB443_436.out _).trans (hHeld.2))))⟩ (fun hHeld => ?_)
    clear hK K
    refine pure_ (i := 6) (N := some 5) (v := ?_) (a' := ?_) (xB 7 127) rfl rfl (by kernel_rfl) (fun _ _ _ h => h) (Or.inl ⟨by rfl, ?_⟩) ?_ ?_
    rotate_left
    ·intro w'
     go_simp
     with_reducible rfl
    rotate_left
    ·simp only [Act.put, List.setIfInBounds_toArray, List.set_cons_zero, List.set_cons_succ, i64_w, i32_w]
     rfl
    refine done_ (by kernel_rfl) ?_
    try go_wp2
    refine bodyPost_ret (results_ct rfl _ _ gb436 36 #[.slice Ao82 x444000_1.length co82, .slice Ao78 y447.length co78] (0, 0) _ rfl (by (with_reducible repeat (first | refine blk_drewN ?_ _ | refine blk_drew ?_ | refine blk_alloc ?_ _)); refine blk_put (cs := #[.slice Ao82 x444000_1.length co82, .slice none 0 0]) ?_ 1 _ rfl; (with_reducible repeat (first | refine blk_drewN ?_ _ | refine blk_drew ?_ | refine blk_alloc ?_ _)); refine blk_put (cs := #[.slice none 0 0, .slice none 0 0]) ?_ 0 _ rfl; (with_reducible repeat (first | refine blk_drewN ?_ _ | refine blk_drew ?_ | refine blk_alloc ?_ _)); exact BK436.out) Try.underlying36 rfl (by kernel_rfl)) rfl ?_
    exact ⟨_, _, xe, by (with_reducible repeat (first | apply Kd.R_alloc | apply Kd.R_drewN | apply Kd.R_drew)); exact Kd.R_mono (Kd.R_far (p := ⟨gb436, 1, none⟩) (Kd.R_far (p := ⟨gb436, 0, none⟩) (Kd.R_types HO_444000.out BK436.out (by decide)) (fun _ hk => hk.2) (.slice Ao82 x444000_1.length co82)) (fun _ hk => hk.2) (.slice Ao78 y447.length co78)) (fun _ hk => trivial), by (with_reducible repeat (first | apply Kd.S_alloc | apply Kd.S_drewN | apply Kd.S_drew)); exact Kd.S_mono (Kd.S_far (p := ⟨gb436, 1, none⟩) (Kd.S_far (p := ⟨gb436, 0, none⟩) (Kd.S_types HO449.out BK436.out (by decide)) (fun _ hk => hk.2) (.slice Ao82 x444000_1.length co82)) (fun _ hk => hk.2) (.slice Ao78 y447.length co78)) (fun _ hk => hk.1), by repeat (first | (with_reducible first | exact HB.out | apply below_alloc | apply pw_below_drewN | apply below_drew1 | refine below_set ?_ GE435.out | refine below_set ?_ GE436.out | refine below_set ?_ GE443.out) | exact HB.out)⟩

end Go.Proofs.Ytnfcdaojglicfaa.PFnOperators
