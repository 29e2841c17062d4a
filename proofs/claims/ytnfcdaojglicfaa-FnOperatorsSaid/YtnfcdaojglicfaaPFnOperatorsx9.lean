import Derived.Test.YtnfcdaojglicfaaPFnOperatorsx8
namespace Go.Proofs.Ytnfcdaojglicfaa.PFnOperators
open Go.RowKit Go.Proofs.YtnfcdaojglicfaaW.PrintWords Go.Proofs.YtnfcdaojglicfaaW.PrintLast Go.Proofs.YtnfcdaojglicfaaW.PrintMore
set_option linter.unusedVariables false
set_option linter.unusedSimpArgs false
set_option maxHeartbeats 8000000
set_option maxRecDepth 100000
/-! ### spec_l9Both: function 32 -/
def spec_l9Both.l0 : Nat → List Int → Int → List Int → List (List Int) → List (List Int) → Option (List Int × (List (List Int)) × List Int × (List (List Int)))
 | 0, _, _, _, _, _ => none
 | k + 1, x0, x6, x476000, x476001, x477001 => if x6 < (x0.length : Int) then (if 0 ≤ x6 then ((spec_l9Insert.f k x476000 x476001 (rd x0 x6)).bind fun bt478 => (if bt478.2.2 = (x477001.length : Int) then (if x477001.length < 5864062014805 then ((some (x477001 ++ [(([] : List Int))] : List (List Int))).bind fun y489 => (if 0 ≤ bt478.2.2 then (if bt478.2.2 < (y489.length : Int) then (if (rd_L2 y489 bt478.2.2).length < 17592186044416 then (spec_l9Both.l0 k x0 (wrap64 (x6 + 1)) bt478.1 bt478.2.1 (y489.set (bt478.2.2 : Int).toNat ((rd_L2 y489 bt478.2.2) ++ [wrap64 (x6 + 1)]))) else (none)) else (none)) else (none))) else (none)) else (if 0 ≤ bt478.2.2 then (if bt478.2.2 < (x477001.length : Int) then (if (rd_L2 x477001 bt478.2.2).length < 17592186044416 then (spec_l9Both.l0 k x0 (wrap64 (x6 + 1)) bt478.1 bt478.2.1 (x477001.set (bt478.2.2 : Int).toNat ((rd_L2 x477001 bt478.2.2) ++ [wrap64 (x6 + 1)]))) else (none)) else (none)) else (none)))) else (none)) else (some (x476000, x476001, ([] : List Int), x477001))
def spec_l9Both.f (k : Nat) (l0 : List Int) : Option (List Int × (List (List Int)) × List Int × (List (List Int))) := spec_l9Both.l0 k l0 0 ([] : List Int) ([] : List (List Int)) ([] : List (List Int))
theorem spec_l9Both.mono_l : ∀ k, (∀ y0 y1 y2 y3 y4, LeO (spec_l9Both.l0 k y0 y1 y2 y3 y4) (spec_l9Both.l0 (k + 1) y0 y1 y2 y3 y4))
 | 0 => fun _ _ _ _ _ r h => by simp [spec_l9Both.l0] at h
 | k + 1 => by
  have ih0 := spec_l9Both.mono_l k
  ·intro y0 y1 y2 y3 y4
   unfold spec_l9Both.l0
   repeat' with_reducible first | exact ih0 _ _ _ _ _ | exact spec_l9Insert.mono _ _ _ _ | exact xl | refine LeO.ite ?_ ?_ | refine LeO.bind ?_ fun _ => ?_
theorem spec_l9Both.mono : ∀ a0 k, LeO (spec_l9Both.f k a0) (spec_l9Both.f (k + 1) a0) := by
 intro a0 k
 have ih0 := spec_l9Both.mono_l k
 unfold spec_l9Both.f
 repeat' with_reducible first | exact ih0 _ _ _ _ _ | exact spec_l9Insert.mono _ _ _ _ | exact xl | refine LeO.ite ?_ ?_ | refine LeO.bind ?_ fun _ => ?_
def spec_l9Both.T6 : Bool × List (List Nat × List Nat) := (true, [([], []), ([], []), ([], []), ([1, 2], [1, 2]), ([3], [3]), ([0, 4], [0, 4]), ([5], [5]), ([6], [6]), ([6], [6]), ([], []), ([9, 7, 5, 0, 1, 2, 3, 4, 5, 6, 7, 9], [7, 9]), ([8, 10, 0, 1, 2, 3, 4, 5, 6, 7, 8, 9, 10], [8])])
def spec_l9Both.B6 : List Nat := [0, 0, 0, 6, 14, 31, 63, 127, 127, 0, 767, 2047]
theorem spec_l9Both.tab6 : rtab .any (opsOf Try.f32 6) = spec_l9Both.T6 := by kernel_rfl
theorem spec_l9Both.bits6 : waitsOk spec_l9Both.T6.2 spec_l9Both.B6 = true := by kernel_rfl
def spec_l9Both.T10 : Bool × List (List Nat × List Nat) := (true, [([], []), ([0], [0]), ([], []), ([], []), ([3], [3]), ([], []), ([4, 5], [4, 5]), ([6], [6]), ([], []), ([8], [8]), ([9], [9]), ([7, 10], [7, 10]), ([1, 2, 0, 1, 2, 3, 4, 5, 6, 7, 8, 9, 10, 11], [1, 2]), ([12, 11, 11, 0, 1, 2, 3, 4, 5, 6, 7, 8, 9, 10, 11], [11, 12])])
def spec_l9Both.B10 : List Nat := [0, 1, 0, 0, 8, 0, 56, 120, 0, 256, 768, 2040, 4095, 8191]
theorem spec_l9Both.tab10 : rtab .any (opsOf Try.f32 10) = spec_l9Both.T10 := by kernel_rfl
theorem spec_l9Both.bits10 : waitsOk spec_l9Both.T10.2 spec_l9Both.B10 = true := by kernel_rfl
/-! ### Two rows of rows, of which one was made whole between two heap sizes: told apart in depth. -/
def dmP (N : Nat × Nat) (k : Nat) : Nat := if N.1 ≤ k ∧ k < N.2 then k + 1 else k
def dmQ (N : Nat × Nat) (k : Nat) : Nat := if N.1 ≤ k ∧ k < N.2 then k else k + 1
theorem dmPQ {N : Nat × Nat} {k : Nat} (h1 : k ≠ dmP N k) (h2 : k ≠ dmQ N k) : False := by
 unfold dmP at h1
 unfold dmQ at h2
 by_cases h : N.1 ≤ k ∧ k < N.2
 ·rw [if_pos h] at h2; exact h2 rfl
 ·rw [if_neg h] at h1; exact h1 rfl
theorem dmQ_hi {N : Nat × Nat} {k : Nat} (h : N.2 ≤ k) : k ≠ dmQ N k := by unfold dmQ; rw [if_neg (by omega)]; omega
section
variable {α : Type} {d : Kd α} {e base : Nat} {ok : Nat → Prop} {W w1 : World} {v : Value} {xs : List α}
theorem Kd.deepP (h : Kd.S d e w1 W.heap.size ok v xs) : ∃ N : Nat × Nat, Kd.S d e w1 W.heap.size (fun k => ok k ∧ k ≠ dmP N k) v xs ∧ N.1 = W.heap.size ∧ N.2 = w1.heap.size :=
 ⟨(W.heap.size, w1.heap.size), Kd.S_mono (Kd.S_bound h) (fun k hk => ⟨hk.1, by unfold dmP; rw [if_pos ⟨hk.2.1, hk.2.2.1⟩]; omega⟩), rfl, rfl⟩
theorem Kd.S_toldD {N : Nat × Nat} {n : Nat} (h : Kd.S d e w1 base (fun k => ok k ∧ k < n) v xs) (hN : N.1 = n) : Kd.S d e w1 base (fun k => ok k ∧ k ≠ dmQ N k) v xs :=
 Kd.S_mono h (fun k hk => ⟨hk.1, by unfold dmQ; rw [if_neg (by rw [hN]; have := hk.2; omega)]; omega⟩)
end
theorem spec_l9Both.calls (k : Nat) (A0 : Option Addr) (c0 : Nat) (l0 : List Int) (r1 : List Int) (r2 : List (List Int)) (r3 : List Int) (r4 : List (List Int)) (w : World) (hr0 : Kd.C (Kd.int .i64) w A0 l0.length l0) (hc0 : l0.length ≤ c0) (h : spec_l9Both.f k l0 = some (r1, r2, r3, r4)) :
  Calls Try.prog 32 #[.slice A0 l0.length c0] w fun e w' => ∃ v0_ v1_ v2_ v3_ : Value, e = .returned (.tuple #[.agg #[v0_, v1_], .agg #[v2_, v3_]]) ∧ Kd.R (Kd.int .i64) 3 w' w.heap.size (fun k_ => some k_ ≠ (v2_ : Value).ownBlock) v0_ r1 ∧ Kd.S (Kd.slice 3 (Kd.int .i64)) 24 w' w.heap.size (fun k_ => some k_ ≠ (v0_ : Value).ownBlock ∧ some k_ ≠ (v2_ : Value).ownBlock ∧ some k_ ≠ (v3_ : Value).ownBlock) v1_ r2 ∧ Kd.R (Kd.int .i64) 3 w' w.heap.size (fun k_ => some k_ ≠ (v0_ : Value).ownBlock) v2_ r3 ∧ Kd.S (Kd.slice 3 (Kd.int .i64)) 24 w' w.heap.size (fun k_ => some k_ ≠ (v0_ : Value).ownBlock ∧ some k_ ≠ (v1_ : Value).ownBlock ∧ some k_ ≠ (v2_ : Value).ownBlock) v3_ r4 ∧ Below w.heap.size w w' := by
 have hu36 := Try.underlying36
 have HR0 := ax hr0
 have HC0 := ax hc0
 clear hr0 hc0
 have HB := ax (Below.refl w.heap.size w)
 have H : (spec_l9Both.l0 k l0 0 ([] : List Int) ([] : List (List Int)) ([] : List (List Int))) = some (r1, r2, r3, r4) := h
 clear h
 have H' := ax H
 clear H
 go_enter Try.func32, Try.ntmps32
 go_wp2_with (first | ((with_reducible refine gate_dst (N := 2) rfl ?_); refine box_event ?hg (N := 2) ?hd (cs := #[.slice none 0 0, .slice none 0 0]) (t := 36) ?hr ?_; (case hd => rfl); (case hg => rfl); (case hr => first | (go_simp; done) | (go_simp; rfl)); intro gb473 hg w2 hbox hb; have BK473 := ax (hbox); have GW473 := ax ((by rw [hg]; exact (below_size (xb HB.out)) : w.heap.size ≤ gb473)); have GE473 := ax ((by rw [hg]; exact (below_size (xb HB.out)) : w.heap.size ≤ gb473)); replace HB := yB HB hb; clear hb hbox hg) | ((with_reducible refine gate_dst (N := 3) rfl ?_); refine box_event ?hg (N := 3) ?hd (cs := #[.slice none 0 0, .slice none 0 0]) (t := 36) ?hr ?_; (case hd => rfl); (case hg => rfl); (case hr => first | (go_simp; done) | (go_simp; rfl)); intro gb474 hg w3 hbox hb; have BK474 := ax (hbox); have GW474 := ax ((by rw [hg]; exact (below_size (xs HB.out GE473.out)) : w.heap.size ≤ gb474)); have GE474 := ax ((by rw [hg]; exact (below_size (xs HB.out GE473.out)) : w.heap.size ≤ gb474)); replace HB := ax (below_step (xs HB.out GE473.out) hb); have NB473_474 := ax ((by rw [hg]; exact Nat.ne_of_lt (blk_lt (g := gb473) (o := .cells #[.slice none 0 0, .slice none 0 0] 36 (0, 0)) (xk BK473.out)) : gb473 ≠ gb474)); have NB474_473 := ax ((by rw [hg]; exact Nat.ne_of_gt (blk_lt (g := gb473) (o := .cells #[.slice none 0 0, .slice none 0 0] 36 (0, 0)) (xk BK473.out)) : gb474 ≠ gb473)); replace BK473 := ax (blk_below (g := gb473) (o := .cells #[.slice none 0 0, .slice none 0 0] 36 (0, 0)) (xk BK473.out) hb); clear hb hbox hg) | ((with_reducible refine gate_dst (N := 4) rfl ?_); refine box_event ?hg (N := 4) ?hd (cs := #[.slice none 0 0, .slice none 0 0]) (t := 36) ?hr ?_; (case hd => rfl); (case hg => rfl); (case hr => first | (go_simp; done) | (go_simp; rfl)); intro gb475 hg w4 hbox hb; have BK475 := ax (hbox); have GW475 := ax ((by rw [hg]; exact (below_size (by repeat (first | (with_reducible first | exact HB.out | apply below_alloc | apply pw_below_drewN | apply below_drew1 | refine below_set ?_ GE473.out | refine below_set ?_ GE474.out) | exact HB.out))) : w.heap.size ≤ gb475)); have GE475 := ax ((by rw [hg]; exact (below_size (by repeat (first | (with_reducible first | exact HB.out | apply below_alloc | apply pw_below_drewN | apply below_drew1 | refine below_set ?_ GE473.out | refine below_set ?_ GE474.out) | exact HB.out))) : w.heap.size ≤ gb475)); replace HB := ax (below_step (by repeat (first | (with_reducible first | exact HB.out | apply below_alloc | apply pw_below_drewN | apply below_drew1 | refine below_set ?_ GE473.out | refine below_set ?_ GE474.out) | exact HB.out)) hb); have NB473_475 := ax ((by rw [hg]; exact Nat.ne_of_lt (blk_lt (g := gb473) (o := .cells #[.slice none 0 0, .slice none 0 0] 36 (0, 0)) (xk BK473.out)) : gb473 ≠ gb475)); have NB475_473 := ax ((by rw [hg]; exact Nat.ne_of_gt (blk_lt (g := gb473) (o := .cells #[.slice none 0 0, .slice none 0 0] 36 (0, 0)) (xk BK473.out)) : gb475 ≠ gb473)); replace BK473 := ax (blk_below (g := gb473) (o := .cells #[.slice none 0 0, .slice none 0 0] 36 (0, 0)) (xk BK473.out) hb); have NB474_475 := ax ((by rw [hg]; exact Nat.ne_of_lt (blk_lt (g := gb474) (o := .cells #[.slice none 0 0, .slice none 0 0] 36 (0, 0)) (xk BK474.out)) : gb474 ≠ gb475)); have NB475_474 := ax ((by rw [hg]; exact Nat.ne_of_gt (blk_lt (g := gb474) (o := .cells #[.slice none 0 0, .slice none 0 0] 36 (0, 0)) (xk BK474.out)) : gb475 ≠ gb474)); replace BK474 := ax (blk_below (g := gb474) (o := .cells #[.slice none 0 0, .slice none 0 0] 36 (0, 0)) (xk BK474.out) hb); clear hb hbox hg; have hnb5 := NB475_473.out; have hnc5 := NB473_475.out; have hnb6 := NB475_474.out; have hnc6 := NB474_475.out; have hcz7_0 : w4.cell? ⟨gb475, 0, none⟩ = some (.slice none 0 0) := (blk_cell BK475.out 0).trans rfl; have hcz7_1 : w4.cell? ⟨gb475, 1, none⟩ = some (.slice none 0 0) := (blk_cell BK475.out 1).trans rfl; have hfz7_0 := blk_frozen BK475.out 0; have hfz7_1 := blk_frozen BK475.out 1) | ((with_reducible refine gate_dst (N := 5) rfl ?_); refine box_event ?hg (N := 5) ?hd (cs := #[.slice none 0 0, .slice none 0 0]) (t := 36) ?hr ?_; (case hd => rfl); (case hg => rfl); (case hr => first | (go_simp; done) | (go_simp; rfl)); intro gb476 hg w8 hbox hb; have BK476 := ax (hbox); have GW476 := ax ((by rw [hg]; exact (below_size (by repeat (first | (with_reducible first | exact HB.out | apply below_alloc | apply pw_below_drewN | apply below_drew1 | refine below_set ?_ GE473.out | refine below_set ?_ GE474.out | refine below_set ?_ GE475.out) | exact HB.out))) : w.heap.size ≤ gb476)); have GE476 := ax ((by rw [hg]; exact (below_size (by repeat (first | (with_reducible first | exact HB.out | apply below_alloc | apply pw_below_drewN | apply below_drew1 | refine below_set ?_ GE473.out | refine below_set ?_ GE474.out | refine below_set ?_ GE475.out) | exact HB.out))) : w.heap.size ≤ gb476)); replace HB := ax (below_step (by repeat (first | (with_reducible first | exact HB.out | apply below_alloc | apply pw_below_drewN | apply below_drew1 | refine below_set ?_ GE473.out | refine below_set ?_ GE474.out | refine below_set ?_ GE475.out) | exact HB.out)) hb); have NB473_476 := ax ((by rw [hg]; exact Nat.ne_of_lt (blk_lt (g := gb473) (o := .cells #[.slice none 0 0, .slice none 0 0] 36 (0, 0)) (by (with_reducible repeat (first | refine blk_drewN ?_ _ | refine blk_drew ?_ | refine blk_alloc ?_ _)); refine blk_far ?_ NB473_475.out _; (with_reducible repeat (first | refine blk_drewN ?_ _ | refine blk_drew ?_ | refine blk_alloc ?_ _)); refine blk_far ?_ NB473_475.out _; (with_reducible repeat (first | refine blk_drewN ?_ _ | refine blk_drew ?_ | refine blk_alloc ?_ _)); exact BK473.out)) : gb473 ≠ gb476)); have NB476_473 := ax ((by rw [hg]; exact Nat.ne_of_gt (blk_lt (g := gb473) (o := .cells #[.slice none 0 0, .slice none 0 0] 36 (0, 0)) (by (with_reducible repeat (first | refine blk_drewN ?_ _ | refine blk_drew ?_ | refine blk_alloc ?_ _)); refine blk_far ?_ NB473_475.out _; (with_reducible repeat (first | refine blk_drewN ?_ _ | refine blk_drew ?_ | refine blk_alloc ?_ _)); refine blk_far ?_ NB473_475.out _; (with_reducible repeat (first | refine blk_drewN ?_ _ | refine blk_drew ?_ | refine blk_alloc ?_ _)); exact BK473.out)) : gb476 ≠ gb473)); replace BK473 := ax (blk_below (g := gb473) (o := .cells #[.slice none 0 0, .slice none 0 0] 36 (0, 0)) (by (with_reducible repeat (first | refine blk_drewN ?_ _ | refine blk_drew ?_ | refine blk_alloc ?_ _)); refine blk_far ?_ NB473_475.out _; (with_reducible repeat (first | refine blk_drewN ?_ _ | refine blk_drew ?_ | refine blk_alloc ?_ _)); refine blk_far ?_ NB473_475.out _; (with_reducible repeat (first | refine blk_drewN ?_ _ | refine blk_drew ?_ | refine blk_alloc ?_ _)); exact BK473.out) hb); have NB474_476 := ax ((by rw [hg]; exact Nat.ne_of_lt (blk_lt (g := gb474) (o := .cells #[.slice none 0 0, .slice none 0 0] 36 (0, 0)) (by (with_reducible repeat (first | refine blk_drewN ?_ _ | refine blk_drew ?_ | refine blk_alloc ?_ _)); refine blk_far ?_ NB474_475.out _; (with_reducible repeat (first | refine blk_drewN ?_ _ | refine blk_drew ?_ | refine blk_alloc ?_ _)); refine blk_far ?_ NB474_475.out _; (with_reducible repeat (first | refine blk_drewN ?_ _ | refine blk_drew ?_ | refine blk_alloc ?_ _)); exact BK474.out)) : gb474 ≠ gb476)); have NB476_474 := ax ((by rw [hg]; exact Nat.ne_of_gt (blk_lt (g := gb474) (o := .cells #[.slice none 0 0, .slice none 0 0] 36 (0, 0)) (by (with_reducible repeat (first | refine blk_drewN ?_ _ | refine blk_drew ?_ | refine blk_alloc ?_ _)); refine blk_far ?_ NB474_475.out _; (with_reducible repeat (first | refine blk_drewN ?_ _ | refine blk_drew ?_ | refine blk_alloc ?_ _)); refine blk_far ?_ NB474_475.out _; (with_reducible repeat (first | refine blk_drewN ?_ _ | refine blk_drew ?_ | refine blk_alloc ?_ _)); exact BK474.out)) : gb476 ≠ gb474)); replace BK474 := ax (blk_below (g := gb474) (o := .cells #[.slice none 0 0, .slice none 0 0] 36 (0, 0)) (by (with_reducible repeat (first | refine blk_drewN ?_ _ | refine blk_drew ?_ | refine blk_alloc ?_ _)); refine blk_far ?_ NB474_475.out _; (with_reducible repeat (first | refine blk_drewN ?_ _ | refine blk_drew ?_ | refine blk_alloc ?_ _)); refine blk_far ?_ NB474_475.out _; (with_reducible repeat (first | refine blk_drewN ?_ _ | refine blk_drew ?_ | refine blk_alloc ?_ _)); exact BK474.out) hb); have NB475_476 := ax ((by rw [hg]; exact Nat.ne_of_lt (blk_lt (g := gb475) (o := .cells #[.slice none 0 0, .slice none 0 0] 36 (0, 0)) (by (with_reducible repeat (first | refine blk_drewN ?_ _ | refine blk_drew ?_ | refine blk_alloc ?_ _)); refine blk_put (cs := #[.slice none 0 0, .slice none 0 0]) ?_ 1 _ rfl; (with_reducible repeat (first | refine blk_drewN ?_ _ | refine blk_drew ?_ | refine blk_alloc ?_ _)); refine blk_put (cs := #[.slice none 0 0, .slice none 0 0]) ?_ 0 _ rfl; (with_reducible repeat (first | refine blk_drewN ?_ _ | refine blk_drew ?_ | refine blk_alloc ?_ _)); exact BK475.out)) : gb475 ≠ gb476)); have NB476_475 := ax ((by rw [hg]; exact Nat.ne_of_gt (blk_lt (g := gb475) (o := .cells #[.slice none 0 0, .slice none 0 0] 36 (0, 0)) (by (with_reducible repeat (first | refine blk_drewN ?_ _ | refine blk_drew ?_ | refine blk_alloc ?_ _)); refine blk_put (cs := #[.slice none 0 0, .slice none 0 0]) ?_ 1 _ rfl; (with_reducible repeat (first | refine blk_drewN ?_ _ | refine blk_drew ?_ | refine blk_alloc ?_ _)); refine blk_put (cs := #[.slice none 0 0, .slice none 0 0]) ?_ 0 _ rfl; (with_reducible repeat (first | refine blk_drewN ?_ _ | refine blk_drew ?_ | refine blk_alloc ?_ _)); exact BK475.out)) : gb476 ≠ gb475)); replace BK475 := ax (blk_below (g := gb475) (o := .cells #[.slice none 0 0, .slice none 0 0] 36 (0, 0)) (by (with_reducible repeat (first | refine blk_drewN ?_ _ | refine blk_drew ?_ | refine blk_alloc ?_ _)); refine blk_put (cs := #[.slice none 0 0, .slice none 0 0]) ?_ 1 _ rfl; (with_reducible repeat (first | refine blk_drewN ?_ _ | refine blk_drew ?_ | refine blk_alloc ?_ _)); refine blk_put (cs := #[.slice none 0 0, .slice none 0 0]) ?_ 0 _ rfl; (with_reducible repeat (first | refine blk_drewN ?_ _ | refine blk_drew ?_ | refine blk_alloc ?_ _)); exact BK475.out) hb); clear hb hbox hg; have hnb9 := NB476_473.out; have hnc9 := NB473_476.out; have hnb10 := NB476_474.out; have hnc10 := NB474_476.out; have hnb11 := NB476_475.out; have hnc11 := NB475_476.out; have hcz12_0 : w8.cell? ⟨gb476, 0, none⟩ = some (.slice none 0 0) := (blk_cell BK476.out 0).trans rfl; have hcz12_1 : w8.cell? ⟨gb476, 1, none⟩ = some (.slice none 0 0) := (blk_cell BK476.out 1).trans rfl; have hfz12_0 := blk_frozen BK476.out 0; have hfz12_1 := blk_frozen BK476.out 1))
 go_loopg [6] k (fun kq v6 w' => ∃ (x6_1 : Int) (x476000_1 : List Int) (x476001_1 : List (List Int)) (x477001_1 : List (List Int)) (u476000 : Value) (u476001 : Value) (u477001 : Value), v6 = .int .i64 x6_1 ∧ Aside0 (spec_l9Both.l0 kq l0 x6_1 x476000_1 x476001_1 x477001_1 = some (r1, r2, r3, r4)) ∧ Aside0 (kq ≤ k) ∧ Aside0 (Kd.R (Kd.int .i64) 3 w' w.heap.size (fun _ => True) u476000 x476000_1) ∧ Aside0 (Kd.S (Kd.slice 3 (Kd.int .i64)) 24 w' w.heap.size (fun k_ => some k_ ≠ (u476000 : Value).ownBlock ∧ some k_ ≠ (u477001 : Value).ownBlock) u476001 x476001_1) ∧ Aside0 (Kd.S (Kd.slice 3 (Kd.int .i64)) 24 w' w.heap.size (fun k_ => some k_ ≠ (u476000 : Value).ownBlock ∧ some k_ ≠ (u476001 : Value).ownBlock) u477001 x477001_1) ∧ Aside0 (w'.heap[gb473]? = some (.cells #[(.slice none 0 0), (.slice none 0 0)] 36 (0, 0))) ∧ Aside0 (w'.heap[gb474]? = some (.cells #[(.slice none 0 0), (.slice none 0 0)] 36 (0, 0))) ∧ Aside0 (w'.heap[gb475]? = some (.cells #[u476000, u476001] 36 (0, 0))) ∧ Aside0 (w'.heap[gb476]? = some (.cells #[(.slice none 0 0), u477001] 36 (0, 0))) ∧ Aside0 (Below w.heap.size w w'))
 case atStart => exact ⟨(0), (([] : List Int)), (([] : List (List Int))), (([] : List (List Int))), (.slice none 0 0), (.slice none 0 0), (.slice none 0 0), xr, H', ⟨Nat.le_refl _⟩, ⟨by first | exact Kd.R_nil _ _ _ _ _ | exact Kd.N_nil _ _ _ _ _ | exact Kd.V_nil _ _ _ _ _ | exact Kd.Q_nil _ _ _ _ _ | exact Kd.S_nil _ _ _ _ _⟩, ⟨by first | exact Kd.S_nil _ _ _ _ _ | exact Kd.N_nil _ _ _ _ _ | exact Kd.V_nil _ _ _ _ _ | exact Kd.Q_nil _ _ _ _ _ | exact Kd.R_nil _ _ _ _ _⟩, ⟨by first | exact Kd.S_nil _ _ _ _ _ | exact Kd.N_nil _ _ _ _ _ | exact Kd.V_nil _ _ _ _ _ | exact Kd.Q_nil _ _ _ _ _ | exact Kd.R_nil _ _ _ _ _⟩, ⟨by (with_reducible repeat (first | refine blk_drewN ?_ _ | refine blk_drew ?_ | refine blk_alloc ?_ _)); refine blk_far ?_ NB473_476.out _; (with_reducible repeat (first | refine blk_drewN ?_ _ | refine blk_drew ?_ | refine blk_alloc ?_ _)); refine blk_far ?_ NB473_476.out _; (with_reducible repeat (first | refine blk_drewN ?_ _ | refine blk_drew ?_ | refine blk_alloc ?_ _)); exact BK473.out⟩, ⟨by (with_reducible repeat (first | refine blk_drewN ?_ _ | refine blk_drew ?_ | refine blk_alloc ?_ _)); refine blk_far ?_ NB474_476.out _; (with_reducible repeat (first | refine blk_drewN ?_ _ | refine blk_drew ?_ | refine blk_alloc ?_ _)); refine blk_far ?_ NB474_476.out _; (with_reducible repeat (first | refine blk_drewN ?_ _ | refine blk_drew ?_ | refine blk_alloc ?_ _)); exact BK474.out⟩, ⟨by (with_reducible repeat (first | refine blk_drewN ?_ _ | refine blk_drew ?_ | refine blk_alloc ?_ _)); refine blk_far ?_ NB475_476.out _; (with_reducible repeat (first | refine blk_drewN ?_ _ | refine blk_drew ?_ | refine blk_alloc ?_ _)); refine blk_far ?_ NB475_476.out _; (with_reducible repeat (first | refine blk_drewN ?_ _ | refine blk_drew ?_ | refine blk_alloc ?_ _)); exact BK475.out⟩, ⟨by (with_reducible repeat (first | refine blk_drewN ?_ _ | refine blk_drew ?_ | refine blk_alloc ?_ _)); refine blk_put (cs := #[.slice none 0 0, .slice none 0 0]) ?_ 1 _ rfl; (with_reducible repeat (first | refine blk_drewN ?_ _ | refine blk_drew ?_ | refine blk_alloc ?_ _)); refine blk_put (cs := #[.slice none 0 0, .slice none 0 0]) ?_ 0 _ rfl; (with_reducible repeat (first | refine blk_drewN ?_ _ | refine blk_drew ?_ | refine blk_alloc ?_ _)); exact BK476.out⟩, ⟨by repeat (first | (with_reducible first | exact HB.out | apply below_alloc | apply pw_below_drewN | apply below_drew1 | refine below_set ?_ GE473.out | refine below_set ?_ GE474.out | refine below_set ?_ GE475.out | refine below_set ?_ GE476.out) | exact HB.out)⟩⟩
 case round =>
  clear H'
  (try clear hcz12_0); (try clear hcz12_1); (try clear hcz7_0); (try clear hcz7_1); (try clear hfz12_0); (try clear hfz12_1); (try clear hfz7_0); (try clear hfz7_1)
  obtain ⟨x6_1, x476000_1, x476001_1, x477001_1, u476000, u476001, u477001, rfl, HA, HK1, HO_476000, HO_476001, HO_477001, BK473, BK474, BK475, BK476, HB⟩ := hrel
  cases gk with
  | zero => exact absurd HA.out (by simp [spec_l9Both.l0])
  | succ k1 =>
   have H := HA.out
   clear HA
   simp only [spec_l9Both.l0] at H
   by_cases c13 : x6_1 < (l0.length : Int)
   ·rw [if_pos c13] at H
    have c13b0 := decide_eq_true c13
    clear c13
    by_cases c14 : 0 ≤ x6_1
    case neg => (rw [if_neg c14] at H; exact absurd H (by simp))
    rw [if_pos c14] at H
    have c14b0 := decide_eq_true c14
    clear c14
    obtain ⟨⟨t478, t481, t484⟩, A15, H⟩ := xI H
    dsimp only at H
    by_cases c16 : t484 = (x477001_1.length : Int)
    ·rw [if_pos c16] at H
     have c16b0 : (t484 == (x477001_1.length : Int)) = true := beq_iff_eq.mpr c16
     have c16b1 : (t484 != (x477001_1.length : Int)) = false := bne_eq_false_iff_eq.mpr c16
     clear c16
     obtain ⟨y486, hy486⟩ : ∃ y_ : List Int, y_ = (([] : List Int)) := ⟨_, rfl⟩
     replace H : (if x477001_1.length < 5864062014805 then ((some (x477001_1 ++ [y486] : List (List Int))).bind fun y489 => (if 0 ≤ t484 then (if t484 < (y489.length : Int) then (if (rd_L2 y489 t484).length < 17592186044416 then (spec_l9Both.l0 k1 l0 (wrap64 (x6_1 + 1)) t478 t481 (y489.set (t484 : Int).toNat ((rd_L2 y489 t484) ++ [wrap64 (x6_1 + 1)]))) else (none)) else (none)) else (none))) else (none)) = some (r1, r2, r3, r4) := xv hy486 H
     have Ny486 := ax hy486
     clear hy486
     by_cases c17 : x477001_1.length < 5864062014805
     case neg => (rw [if_neg c17] at H; exact absurd H (by simp))
     rw [if_pos c17] at H
     have LMc17 := ax c17
     clear c17
     obtain ⟨y489, hy489⟩ : ∃ y_ : List (List Int), y_ = (x477001_1 ++ [y486]) := ⟨_, rfl⟩
     replace H : (if 0 ≤ t484 then (if t484 < (y489.length : Int) then (if (rd_L2 y489 t484).length < 17592186044416 then (spec_l9Both.l0 k1 l0 (wrap64 (x6_1 + 1)) t478 t481 (y489.set (t484 : Int).toNat ((rd_L2 y489 t484) ++ [wrap64 (x6_1 + 1)]))) else (none)) else (none)) else (none)) = some (r1, r2, r3, r4) := xv hy489 H
     have Ny489 := ax hy489
     clear hy489
     by_cases c18 : 0 ≤ t484
     case neg => (rw [if_neg c18] at H; exact absurd H (by simp))
     rw [if_pos c18] at H
     have c18b0 := decide_eq_true c18
     clear c18
     by_cases c19 : t484 < (y489.length : Int)
     case neg => (rw [if_neg c19] at H; exact absurd H (by simp))
     rw [if_pos c19] at H
     have c19b0 := decide_eq_true c19
     clear c19
     by_cases c20 : (rd_L2 y489 t484).length < 17592186044416
     case neg => (rw [if_neg c20] at H; exact absurd H (by simp))
     rw [if_pos c20] at H
     have LMc20 := ax c20
     clear c20
     obtain ⟨y493, hy493⟩ : ∃ y_ : List Int, y_ = ((rd_L2 y489 t484) ++ [wrap64 (x6_1 + 1)]) := ⟨_, rfl⟩
     replace H : (spec_l9Both.l0 k1 l0 (wrap64 (x6_1 + 1)) t478 t481 (y489.set (t484 : Int).toNat y493)) = some (r1, r2, r3, r4) := xv hy493 H
     have Ny493 := ax hy493
     clear hy493
     obtain ⟨y496, hy496⟩ : ∃ y_ : List (List Int), y_ = (y489.set (t484 : Int).toNat y493) := ⟨_, rfl⟩
     replace H : (spec_l9Both.l0 k1 l0 (wrap64 (x6_1 + 1)) t478 t481 y496) = some (r1, r2, r3, r4) := xv hy496 H
     have Ny496 := ax hy496
     clear hy496
     have H' := ax H
     clear H
     obtain ⟨Ao22, co22, eo22⟩ := Kd.R_slice HO_476000.out
     subst eo22
     obtain ⟨Ao23, co23, eo23⟩ := Kd.S_slice HO_476001.out
     subst eo23
     try go_wp2
     replace HO_476000 := ax (Kd.R_drew HO_476000.out); replace HO_476001 := ax (Kd.S_drew HO_476001.out); replace HO_477001 := ax (Kd.S_drew HO_477001.out); replace BK473 := ax (blk_drew BK473.out); replace BK474 := ax (blk_drew BK474.out); replace BK475 := ax (blk_drew BK475.out); replace BK476 := ax (blk_drew BK476.out); replace HB := ax (below_drew1 HB.out)
     have p477 : 0 ≤ (x6_1 : Int) := xd
     have q477 : x6_1 < (l0.length : Int) := xd
     obtain ⟨ad477, e477, hx477_0⟩ := Kd.at_int HR0.out x6_1 p477 q477
     have hw477_0 := hx477_0
     cases e477
     (try replace hx477_0 := (HB.out.cell (World.block_lt_of_cell? w _ hx477_0)).trans hx477_0)
     replace p477 := eq_true p477
     replace q477 := eq_true q477
     refine start_ (n := 12) (S := fun w' => w'.cell? ⟨gb475, 0, none⟩ = some (.slice Ao22 x476000_1.length co22) ∧ w'.cell? ⟨gb475, 1, none⟩ = some (.slice Ao23 x476001_1.length co23) ∧ w'.cell? (ad477.add (x6_1).toNat) = some (.int .i64 (rd l0 x6_1))) (ds := []) (xB 12 0) (by kernel_rfl) rfl (by kernel_rfl) ⟨(blk_cell BK475.out 0).trans rfl, (blk_cell BK475.out 1).trans rfl, ((HB.out.cell (World.block_lt_of_cell? w _ hw477_0)).trans hw477_0)⟩ (fun hHeld => ?_); refine with_tabW spec_l9Both.tab6 spec_l9Both.bits6 (fun HT_ HW_ => ?_)
     generalize wr.drew = w24 at HO_476000 HO_476001 HO_477001 BK473 BK474 BK475 BK476 HB hx477_0 hHeld ⊢
     refine pu (i := 1) (N := some 19) (xB 12 2) HT_.out ?_
     refine pu (i := 2) (N := some 20) (xB 12 6) HT_.out ?_
     refine pu (i := 3) (N := some 21) (xB 12 14) HT_.out ?_
     refine tk (i := 0) (N := some 18) (xB 12 15) HT_.out HW_.out hHeld ?_
     refine tk (i := 4) (N := some 22) (xB 12 31) HT_.out HW_.out hHeld ?_
     refine join_ (σ := Value × Value × Nat × (Nat × Nat)) 2 (xB 12 1023) (fun s_ => [(23, .tuple #[.agg #[s_.1, s_.2.1], .int .i64 t484]), (7, .pointer (some ⟨s_.2.2.1, 0, none⟩)), (17, .tuple #[.agg #[s_.1, s_.2.1], .int .i64 t484]), (24, .agg #[s_.1, s_.2.1]), (25, .int .i64 t484)]) (fun s_ w' => (w'.cell? ⟨gb475, 0, none⟩ = some (.slice Ao22 x476000_1.length co22) ∧ w'.cell? ⟨gb475, 1, none⟩ = some (.slice Ao23 x476001_1.length co23) ∧ w'.cell? (ad477.add (x6_1).toNat) = some (.int .i64 (rd l0 x6_1))) ∧ (Kd.R (Kd.int .i64) 3 w' w.heap.size (fun k_ => some k_ ≠ (.slice Ao22 x476000_1.length co22 : Value).ownBlock) s_.1 t478) ∧ (Kd.S (Kd.slice 3 (Kd.int .i64)) 24 w' w.heap.size (fun k_ => some k_ ≠ (s_.1 : Value).ownBlock ∧ some k_ ≠ (.slice Ao22 x476000_1.length co22 : Value).ownBlock ∧ some k_ ≠ (.slice Ao23 x476001_1.length co23 : Value).ownBlock ∧ some k_ ≠ (u477001 : Value).ownBlock ∧ k_ ≠ dmP s_.2.2.2 k_) s_.2.1 t481) ∧ (Kd.R (Kd.int .i64) 3 w' w.heap.size (fun k_ => some k_ ≠ (s_.1 : Value).ownBlock) (.slice Ao22 x476000_1.length co22) x476000_1) ∧ (Kd.S (Kd.slice 3 (Kd.int .i64)) 24 w' w.heap.size (fun k_ => some k_ ≠ (s_.1 : Value).ownBlock ∧ some k_ ≠ (s_.2.1 : Value).ownBlock ∧ some k_ ≠ (.slice Ao22 x476000_1.length co22 : Value).ownBlock ∧ some k_ ≠ (u477001 : Value).ownBlock) (.slice Ao23 x476001_1.length co23) x476001_1) ∧ (Kd.S (Kd.slice 3 (Kd.int .i64)) 24 w' w.heap.size (fun k_ => some k_ ≠ (s_.1 : Value).ownBlock ∧ some k_ ≠ (s_.2.1 : Value).ownBlock ∧ some k_ ≠ (.slice Ao22 x476000_1.length co22 : Value).ownBlock ∧ some k_ ≠ (.slice Ao23 x476001_1.length co23 : Value).ownBlock ∧ k_ ≠ dmQ s_.2.2.2 k_) u477001 x477001_1) ∧ (w'.heap[gb473]? = some (.cells #[.slice none 0 0, .slice none 0 0] 36 (0, 0))) ∧ (w'.heap[gb474]? = some (.cells #[.slice none 0 0, .slice none 0 0] 36 (0, 0))) ∧ (w'.heap[gb475]? = some (.cells #[.slice Ao22 x476000_1.length co22, .slice Ao23 x476001_1.length co23] 36 (0, 0))) ∧ (w'.heap[gb476]? = some (.cells #[.slice none 0 0, u477001] 36 (0, 0))) ∧ (w'.heap[s_.2.2.1]? = some (.cells #[.slice none 0 0, .slice none 0 0] 36 (0, 0))) ∧ (w.heap.size ≤ s_.2.2.1) ∧ (w.heap.size ≤ s_.2.2.1) ∧ (gb473 ≠ s_.2.2.1) ∧ (s_.2.2.1 ≠ gb473) ∧ (gb474 ≠ s_.2.2.1) ∧ (s_.2.2.1 ≠ gb474) ∧ (gb475 ≠ s_.2.2.1) ∧ (s_.2.2.1 ≠ gb475) ∧ (gb476 ≠ s_.2.2.1) ∧ (s_.2.2.1 ≠ gb476) ∧ (Below w.heap.size w w') ∧ (s_.2.2.2.2 ≤ w'.heap.size)) ?_ ?_
     rotate_left
     ·intro hCont
      refine two_ (i := 5) (j := 9) (Ni := some 23) (Nj := some 7) (xB 12 63) (xB 12 543) rfl rfl rfl rfl (two_of HT_.out (by kernel_rfl)) (by decide) (by decide) (fun K hK => ?_) (fun K hK => ?_)
      ·skip
       refine goes_ Try.func41 (by kernel_rfl) rfl #[.agg #[.slice Ao22 x476000_1.length co22, .slice Ao23 x476001_1.length co23], .int .i64 (rd l0 x6_1)] (by rfl) rfl rfl xm ?_
       with_reducible refine (spec_l9Insert.calls k1 _ _ x476000_1 _ _ x476001_1 (rd l0 x6_1) t478 t481 t484 _ ?side1 ?side2 ?side3 ?side4 A15.out).mono ?_
       (case side1 => exact xc (Kd.R_reads' HO_476000.out).2.2)
       (case side2 => exact (Kd.R_reads' HO_476000.out).2.1)
       (case side3 => exact xc (Kd.S_reads' HO_476001.out).2.2)
       (case side4 => exact (Kd.S_reads' HO_476001.out).2.1)
       rintro e w25 ⟨v479, v482, rfl, ho0, ho1, hb⟩
       refine ⟨_, rfl, ?_⟩
       replace ho1 := Kd.deepP ho1
       obtain ⟨N502_, ho1, hN502_⟩ := ho1
       have HNN := ax (Nat.le_of_eq hN502_.2)
       have HO480 := ax (Kd.R_lower (Kd.R_new' ho0 (Kd.R_lt (xR HO_476000.out))) (below_size (by repeat (first | (with_reducible first | exact HB.out | apply below_alloc | apply pw_below_drewN | apply below_drew1 | refine below_set ?_ GE473.out | refine below_set ?_ GE474.out | refine below_set ?_ GE475.out | refine below_set ?_ GE476.out) | exact HB.out)))); have HO483 := ax (Kd.S_lower (Kd.S_new' (Kd.S_new' (Kd.S_new' ho1 (Kd.R_lt (xR HO_476000.out))) (Kd.S_lt (xS HO_476001.out))) (Kd.S_lt (xS HO_477001.out))) (below_size (by repeat (first | (with_reducible first | exact HB.out | apply below_alloc | apply pw_below_drewN | apply below_drew1 | refine below_set ?_ GE473.out | refine below_set ?_ GE474.out | refine below_set ?_ GE475.out | refine below_set ?_ GE476.out) | exact HB.out)))); replace HO_476000 := ax (Kd.R_elder' (xR HO_476000.out) (Kd.R_base ho0) hb); replace HO_476001 := ax (Kd.S_mono (Kd.S_told (Kd.S_told (Kd.S_old (xS HO_476001.out) hb) (Kd.R_base ho0)) (Kd.S_base ho1)) (fun _ h_ => h_.1)); replace HO_477001 := ax (Kd.S_toldD (Kd.S_told (Kd.S_told (Kd.S_old (xS HO_477001.out) hb) (Kd.R_base ho0)) (Kd.S_base ho1)) hN502_.1); replace BK473 := ax (blk_below (g := gb473) (o := .cells #[.slice none 0 0, .slice none 0 0] 36 (0, 0)) (xk BK473.out) hb); replace BK474 := ax (blk_below (g := gb474) (o := .cells #[.slice none 0 0, .slice none 0 0] 36 (0, 0)) (xk BK474.out) hb); replace BK475 := ax (blk_below (g := gb475) (o := .cells #[.slice Ao22 x476000_1.length co22, .slice Ao23 x476001_1.length co23] 36 (0, 0)) (xk BK475.out) hb); replace BK476 := ax (blk_below (g := gb476) (o := .cells #[.slice none 0 0, u477001] 36 (0, 0)) (xk BK476.out) hb); replace HB := ax (below_step (by repeat (first | (with_reducible first | exact HB.out | apply below_alloc | apply pw_below_drewN | apply below_drew1 | refine below_set ?_ GE473.out | refine below_set ?_ GE474.out | refine below_set ?_ GE475.out | refine below_set ?_ GE476.out) | exact HB.out)) hb)
       (try clear hb)
       (try clear hk)
       (try clear ho0)
       (try clear ho1)
       (try clear hN502_)
       refine hK.out _ _ ⟨(blk_cell BK475.out 0).trans rfl, (blk_cell BK475.out 1).trans rfl, ((HB.out.cell (World.block_lt_of_cell? w _ hw477_0)).trans hw477_0)⟩ (fun hHeld => ?_)
       clear hK K
       refine nm ?_
       refine pu (i := 6) (N := some 17) (xB 12 127) HT_.out ?_
       refine pu (i := 7) (N := some 24) (xB 12 255) HT_.out ?_
       refine pu (i := 8) (N := some 25) (xB 12 511) HT_.out ?_
       refine one_ (i := 9) (N := some 7) (xB 12 1023) rfl rfl (one_of HT_.out (by kernel_rfl)) (by decide) (fun K hK => ?_)
       refine box_step ?hg (N := 7) ?hd (cs := #[.slice none 0 0, .slice none 0 0]) (t := 36) ?hr ?_; (case hd => rfl); (case hg => rfl); (case hr => first | (go_simp; done) | (go_simp; rfl))
       intro gb485 hg w26 hbox hb
       (try replace HNN := ax (Nat.le_trans HNN.out (below_size hb)))
       replace HO_476000 := yR HO_476000 hb; replace HO_476001 := ax (Kd.S_below (xS HO_476001.out) hb); replace HO_477001 := ax (Kd.S_below (xS HO_477001.out) hb); replace HO480 := yR HO480 hb; replace HO483 := ax (Kd.S_below (xS HO483.out) hb); have BK485 := ax (hbox); have GW485 := ax ((by rw [hg]; exact (below_size (by repeat (first | (with_reducible first | exact HB.out | apply below_alloc | apply pw_below_drewN | apply below_drew1 | refine below_set ?_ GE473.out | refine below_set ?_ GE474.out | refine below_set ?_ GE475.out | refine below_set ?_ GE476.out) | exact HB.out))) : w.heap.size ≤ gb485)); have GE485 := ax ((by rw [hg]; exact (below_size (by repeat (first | (with_reducible first | exact HB.out | apply below_alloc | apply pw_below_drewN | apply below_drew1 | refine below_set ?_ GE473.out | refine below_set ?_ GE474.out | refine below_set ?_ GE475.out | refine below_set ?_ GE476.out) | exact HB.out))) : w.heap.size ≤ gb485)); replace HB := ax (below_step (by repeat (first | (with_reducible first | exact HB.out | apply below_alloc | apply pw_below_drewN | apply below_drew1 | refine below_set ?_ GE473.out | refine below_set ?_ GE474.out | refine below_set ?_ GE475.out | refine below_set ?_ GE476.out) | exact HB.out)) hb); have NB473_485 := ax ((by rw [hg]; exact Nat.ne_of_lt (blk_lt (g := gb473) (o := .cells #[.slice none 0 0, .slice none 0 0] 36 (0, 0)) (xk BK473.out)) : gb473 ≠ gb485)); have NB485_473 := ax ((by rw [hg]; exact Nat.ne_of_gt (blk_lt (g := gb473) (o := .cells #[.slice none 0 0, .slice none 0 0] 36 (0, 0)) (xk BK473.out)) : gb485 ≠ gb473)); replace BK473 := ax (blk_below (g := gb473) (o := .cells #[.slice none 0 0, .slice none 0 0] 36 (0, 0)) (xk BK473.out) hb); have NB474_485 := ax ((by rw [hg]; exact Nat.ne_of_lt (blk_lt (g := gb474) (o := .cells #[.slice none 0 0, .slice none 0 0] 36 (0, 0)) (xk BK474.out)) : gb474 ≠ gb485)); have NB485_474 := ax ((by rw [hg]; exact Nat.ne_of_gt (blk_lt (g := gb474) (o := .cells #[.slice none 0 0, .slice none 0 0] 36 (0, 0)) (xk BK474.out)) : gb485 ≠ gb474)); replace BK474 := ax (blk_below (g := gb474) (o := .cells #[.slice none 0 0, .slice none 0 0] 36 (0, 0)) (xk BK474.out) hb); have NB475_485 := ax ((by rw [hg]; exact Nat.ne_of_lt (blk_lt (g := gb475) (o := .cells #[.slice Ao22 x476000_1.length co22, .slice Ao23 x476001_1.length co23] 36 (0, 0)) (xk BK475.out)) : gb475 ≠ gb485)); have NB485_475 := ax ((by rw [hg]; exact Nat.ne_of_gt (blk_lt (g := gb475) (o := .cells #[.slice Ao22 x476000_1.length co22, .slice Ao23 x476001_1.length co23] 36 (0, 0)) (xk BK475.out)) : gb485 ≠ gb475)); replace BK475 := ax (blk_below (g := gb475) (o := .cells #[.slice Ao22 x476000_1.length co22, .slice Ao23 x476001_1.length co23] 36 (0, 0)) (xk BK475.out) hb); have NB476_485 := ax ((by rw [hg]; exact Nat.ne_of_lt (blk_lt (g := gb476) (o := .cells #[.slice none 0 0, u477001] 36 (0, 0)) (xk BK476.out)) : gb476 ≠ gb485)); have NB485_476 := ax ((by rw [hg]; exact Nat.ne_of_gt (blk_lt (g := gb476) (o := .cells #[.slice none 0 0, u477001] 36 (0, 0)) (xk BK476.out)) : gb485 ≠ gb476)); replace BK476 := ax (blk_below (g := gb476) (o := .cells #[.slice none 0 0, u477001] 36 (0, 0)) (xk BK476.out) hb); clear hb hbox hg
       refine hK.out _ _ ⟨(blk_cell BK475.out 0).trans rfl, (blk_cell BK475.out 1).trans rfl, ((HB.out.cell (World.block_lt_of_cell? w _ hw477_0)).trans hw477_0)⟩ (fun hHeld => ?_)
       clear hK K
       refine nm ?_
       exact norm_ (by simp only [putAll, Act.put, List.setIfInBounds_toArray, List.set_cons_zero, List.set_cons_succ]) (hCont (v479, v482, gb485, N502_) _ ⟨hHeld, (by (with_reducible repeat (first | apply Kd.R_alloc | apply Kd.R_drewN | apply Kd.R_drew)); exact Kd.R_mono HO480.out (fun _ hk => hk.2)), (by (with_reducible repeat (first | apply Kd.S_alloc | apply Kd.S_drewN | apply Kd.S_drew)); exact Kd.S_mono HO483.out (fun _ hk => ⟨hk.1.1.1.1, ⟨hk.1.1.2, ⟨hk.1.2, ⟨hk.2, hk.1.1.1.2⟩⟩⟩⟩)), (by (with_reducible repeat (first | apply Kd.R_alloc | apply Kd.R_drewN | apply Kd.R_drew)); exact Kd.R_mono HO_476000.out (fun _ hk => hk.2)), (by (with_reducible repeat (first | apply Kd.S_alloc | apply Kd.S_drewN | apply Kd.S_drew)); exact Kd.S_mono HO_476001.out (fun _ hk => ⟨hk.1.2, ⟨hk.2, ⟨hk.1.1.1, hk.1.1.2⟩⟩⟩)), (by (with_reducible repeat (first | apply Kd.S_alloc | apply Kd.S_drewN | apply Kd.S_drew)); exact Kd.S_mono HO_477001.out (fun _ hk => ⟨hk.1.1.2, ⟨hk.1.2, ⟨hk.1.1.1.1, ⟨hk.1.1.1.2, hk.2⟩⟩⟩⟩)), (xk BK473.out), (xk BK474.out), (xk BK475.out), (xk BK476.out), (xk BK485.out), GW485.out, GE485.out, NB473_485.out, NB485_473.out, NB474_485.out, NB485_474.out, NB475_485.out, NB485_475.out, NB476_485.out, NB485_476.out, (by repeat (first | (with_reducible first | exact HB.out | apply below_alloc | apply pw_below_drewN | apply below_drew1 | refine below_set ?_ GE473.out | refine below_set ?_ GE474.out | refine below_set ?_ GE475.out | refine below_set ?_ GE476.out | refine below_set ?_ GE485.out) | exact HB.out)), HNN.out⟩)
      ·skip
       refine box_step ?hg (N := 7) ?hd (cs := #[.slice none 0 0, .slice none 0 0]) (t := 36) ?hr ?_; (case hd => rfl); (case hg => rfl); (case hr => first | (go_simp; done) | (go_simp; rfl))
       intro gb485 hg w25 hbox hb
       (try replace HNN := ax (Nat.le_trans HNN.out (below_size hb)))
       replace HO_476000 := yR HO_476000 hb; replace HO_476001 := ax (Kd.S_below (xS HO_476001.out) hb); replace HO_477001 := ax (Kd.S_below (xS HO_477001.out) hb); have BK485 := ax (hbox); have GW485 := ax ((by rw [hg]; exact (below_size (by repeat (first | (with_reducible first | exact HB.out | apply below_alloc | apply pw_below_drewN | apply below_drew1 | refine below_set ?_ GE473.out | refine below_set ?_ GE474.out | refine below_set ?_ GE475.out | refine below_set ?_ GE476.out) | exact HB.out))) : w.heap.size ≤ gb485)); have GE485 := ax ((by rw [hg]; exact (below_size (by repeat (first | (with_reducible first | exact HB.out | apply below_alloc | apply pw_below_drewN | apply below_drew1 | refine below_set ?_ GE473.out | refine below_set ?_ GE474.out | refine below_set ?_ GE475.out | refine below_set ?_ GE476.out) | exact HB.out))) : w.heap.size ≤ gb485)); replace HB := ax (below_step (by repeat (first | (with_reducible first | exact HB.out | apply below_alloc | apply pw_below_drewN | apply below_drew1 | refine below_set ?_ GE473.out | refine below_set ?_ GE474.out | refine below_set ?_ GE475.out | refine below_set ?_ GE476.out) | exact HB.out)) hb); have NB473_485 := ax ((by rw [hg]; exact Nat.ne_of_lt (blk_lt (g := gb473) (o := .cells #[.slice none 0 0, .slice none 0 0] 36 (0, 0)) (xk BK473.out)) : gb473 ≠ gb485)); have NB485_473 := ax ((by rw [hg]; exact Nat.ne_of_gt (blk_lt (g := gb473) (o := .cells #[.slice none 0 0, .slice none 0 0] 36 (0, 0)) (xk BK473.out)) : gb485 ≠ gb473)); replace BK473 := ax (blk_below (g := gb473) (o := .cells #[.slice none 0 0, .slice none 0 0] 36 (0, 0)) (xk BK473.out) hb); have NB474_485 := ax ((by rw [hg]; exact Nat.ne_of_lt (blk_lt (g := gb474) (o := .cells #[.slice none 0 0, .slice none 0 0] 36 (0, 0)) (xk BK474.out)) : gb474 ≠ gb485)); have NB485_474 := ax ((by rw [hg]; exact Nat.ne_of_gt (blk_lt (g := gb474) (o := .cells #[.slice none 0 0, .slice none 0 0] 36 (0, 0)) (xk BK474.out)) : gb485 ≠ gb474)); replace BK474 := ax (blk_below (g := gb474) (o := .cells #[.slice none 0 0, .slice none 0 0] 36 (0, 0)) (xk BK474.out) hb); have NB475_485 := ax ((by rw [hg]; exact Nat.ne_of_lt (blk_lt (g := gb475) (o := .cells #[.slice Ao22 x476000_1.length co22, .slice Ao23 x476001_1.length co23] 36 (0, 0)) (xk BK475.out)) : gb475 ≠ gb485)); have NB485_475 := ax ((by rw [hg]; exact Nat.ne_of_gt (blk_lt (g := gb475) (o := .cells #[.slice Ao22 x476000_1.length co22, .slice Ao23 x476001_1.length co23] 36 (0, 0)) (xk BK475.out)) : gb485 ≠ gb475)); replace BK475 := ax (blk_below (g := gb475) (o := .cells #[.slice Ao22 x476000_1.length co22, .slice Ao23 x476001_1.length co23] 36 (0, 0)) (xk BK475.out) hb); have NB476_485 := ax ((by rw [hg]; exact Nat.ne_of_lt (blk_lt (g := gb476) (o := .cells #[.slice none 0 0, u477001] 36 (0, 0)) (xk BK476.out)) : gb476 ≠ gb485)); have NB485_476 := ax ((by rw [hg]; exact Nat.ne_of_gt (blk_lt (g := gb476) (o := .cells #[.slice none 0 0, u477001] 36 (0, 0)) (xk BK476.out)) : gb485 ≠ gb476)); replace BK476 := ax (blk_below (g := gb476) (o := .cells #[.slice none 0 0, u477001] 36 (0, 0)) (xk BK476.out) hb); clear hb hbox hg
       refine hK.out _ _ ⟨(blk_cell BK475.out 0).trans rfl, (blk_cell BK475.out 1).trans rfl, ((HB.out.cell (World.block_lt_of_cell? w _ hw477_0)).trans hw477_0)⟩ (fun hHeld => ?_)
       clear hK K
       refine nm ?_
       refine one_ (i := 5) (N := some 23) (xB 12 575) rfl rfl (one_of HT_.out (by kernel_rfl)) (by decide) (fun K hK => ?_)
       refine goes_ Try.func41 (by kernel_rfl) rfl #[.agg #[.slice Ao22 x476000_1.length co22, .slice Ao23 x476001_1.length co23], .int .i64 (rd l0 x6_1)] (by rfl) rfl rfl xm ?_
       with_reducible refine (spec_l9Insert.calls k1 _ _ x476000_1 _ _ x476001_1 (rd l0 x6_1) t478 t481 t484 _ ?side1 ?side2 ?side3 ?side4 A15.out).mono ?_
       (case side1 => exact xc (Kd.R_reads' HO_476000.out).2.2)
       (case side2 => exact (Kd.R_reads' HO_476000.out).2.1)
       (case side3 => exact xc (Kd.S_reads' HO_476001.out).2.2)
       (case side4 => exact (Kd.S_reads' HO_476001.out).2.1)
       rintro e w26 ⟨v479, v482, rfl, ho0, ho1, hb⟩
       refine ⟨_, rfl, ?_⟩
       replace ho1 := Kd.deepP ho1
       obtain ⟨N504_, ho1, hN504_⟩ := ho1
       have HNN := ax (Nat.le_of_eq hN504_.2)
       have HO480 := ax (Kd.R_lower (Kd.R_new' ho0 (Kd.R_lt (xR HO_476000.out))) (below_size (by repeat (first | (with_reducible first | exact HB.out | apply below_alloc | apply pw_below_drewN | apply below_drew1 | refine below_set ?_ GE473.out | refine below_set ?_ GE474.out | refine below_set ?_ GE475.out | refine below_set ?_ GE476.out | refine below_set ?_ GE485.out) | exact HB.out)))); have HO483 := ax (Kd.S_lower (Kd.S_new' (Kd.S_new' (Kd.S_new' ho1 (Kd.R_lt (xR HO_476000.out))) (Kd.S_lt (xS HO_476001.out))) (Kd.S_lt (xS HO_477001.out))) (below_size (by repeat (first | (with_reducible first | exact HB.out | apply below_alloc | apply pw_below_drewN | apply below_drew1 | refine below_set ?_ GE473.out | refine below_set ?_ GE474.out | refine below_set ?_ GE475.out | refine below_set ?_ GE476.out | refine below_set ?_ GE485.out) | exact HB.out)))); replace HO_476000 := ax (Kd.R_elder' (xR HO_476000.out) (Kd.R_base ho0) hb); replace HO_476001 := ax (Kd.S_mono (Kd.S_told (Kd.S_told (Kd.S_old (xS HO_476001.out) hb) (Kd.R_base ho0)) (Kd.S_base ho1)) (fun _ h_ => h_.1)); replace HO_477001 := ax (Kd.S_toldD (Kd.S_told (Kd.S_told (Kd.S_old (xS HO_477001.out) hb) (Kd.R_base ho0)) (Kd.S_base ho1)) hN504_.1); replace BK473 := ax (blk_below (g := gb473) (o := .cells #[.slice none 0 0, .slice none 0 0] 36 (0, 0)) (xk BK473.out) hb); replace BK474 := ax (blk_below (g := gb474) (o := .cells #[.slice none 0 0, .slice none 0 0] 36 (0, 0)) (xk BK474.out) hb); replace BK475 := ax (blk_below (g := gb475) (o := .cells #[.slice Ao22 x476000_1.length co22, .slice Ao23 x476001_1.length co23] 36 (0, 0)) (xk BK475.out) hb); replace BK476 := ax (blk_below (g := gb476) (o := .cells #[.slice none 0 0, u477001] 36 (0, 0)) (xk BK476.out) hb); replace BK485 := ax (blk_below (g := gb485) (o := .cells #[.slice none 0 0, .slice none 0 0] 36 (0, 0)) (xk BK485.out) hb); replace HB := ax (below_step (by repeat (first | (with_reducible first | exact HB.out | apply below_alloc | apply pw_below_drewN | apply below_drew1 | refine below_set ?_ GE473.out | refine below_set ?_ GE474.out | refine below_set ?_ GE475.out | refine below_set ?_ GE476.out | refine below_set ?_ GE485.out) | exact HB.out)) hb)
       (try clear hb)
       (try clear hk)
       (try clear ho0)
       (try clear ho1)
       (try clear hN504_)
       refine hK.out _ _ ⟨(blk_cell BK475.out 0).trans rfl, (blk_cell BK475.out 1).trans rfl, ((HB.out.cell (World.block_lt_of_cell? w _ hw477_0)).trans hw477_0)⟩ (fun hHeld => ?_)
       clear hK K
       refine nm ?_
       refine pu (i := 6) (N := some 17) (xB 12 639) HT_.out ?_
       refine pu (i := 7) (N := some 24) (xB 12 767) HT_.out ?_
       refine pu (i := 8) (N := some 25) (xB 12 1023) HT_.out ?_
       exact norm_ (by simp only [putAll, Act.put, List.setIfInBounds_toArray, List.set_cons_zero, List.set_cons_succ]) (hCont (v479, v482, gb485, N504_) _ ⟨hHeld, (by (with_reducible repeat (first | apply Kd.R_alloc | apply Kd.R_drewN | apply Kd.R_drew)); exact Kd.R_mono HO480.out (fun _ hk => hk.2)), (by (with_reducible repeat (first | apply Kd.S_alloc | apply Kd.S_drewN | apply Kd.S_drew)); exact Kd.S_mono HO483.out (fun _ hk => ⟨hk.1.1.1.1, ⟨hk.1.1.2, ⟨hk.1.2, ⟨hk.2, hk.1.1.1.2⟩⟩⟩⟩)), (by (with_reducible repeat (first | apply Kd.R_alloc | apply Kd.R_drewN | apply Kd.R_drew)); exact Kd.R_mono HO_476000.out (fun _ hk => hk.2)), (by (with_reducible repeat (first | apply Kd.S_alloc | apply Kd.S_drewN | apply Kd.S_drew)); exact Kd.S_mono HO_476001.out (fun _ hk => ⟨hk.1.2, ⟨hk.2, ⟨hk.1.1.1, hk.1.1.2⟩⟩⟩)), (by (with_reducible repeat (first | apply Kd.S_alloc | apply Kd.S_drewN | apply Kd.S_drew)); exact Kd.S_mono HO_477001.out (fun _ hk => ⟨hk.1.1.2, ⟨hk.1.2, ⟨hk.1.1.1.1, ⟨hk.1.1.1.2, hk.2⟩⟩⟩⟩)), (xk BK473.out), (xk BK474.out), (xk BK475.out), (xk BK476.out), (xk BK485.out), GW485.out, GE485.out, NB473_485.out, NB485_473.out, NB474_485.out, NB485_474.out, NB475_485.out, NB485_475.out, NB476_485.out, NB485_476.out, (by repeat (first | (with_reducible first | exact HB.out | apply below_alloc | apply pw_below_drewN | apply below_drew1 | refine below_set ?_ GE473.out | refine below_set ?_ GE474.out | refine below_set ?_ GE475.out | refine below_set ?_ GE476.out | refine below_set ?_ GE485.out) | exact HB.out)), HNN.out⟩)
     rintro ⟨v479, v482, gb485, N506_⟩ w27 ⟨hS_, h0_, h1_, h2_, h3_, h4_, h5_, h6_, h7_, h8_, h9_, h10_, h11_, h12_, h13_, h14_, h15_, h16_, h17_, h18_, h19_, h20_, h21_⟩
     have HNN := ax h21_
     clear h21_
     have n0_ : Aside0 (Kd.R (Kd.int .i64) 3 w27 w.heap.size (fun k_ => some k_ ≠ (.slice Ao22 x476000_1.length co22 : Value).ownBlock) v479 t478) := ⟨h0_⟩
     have n1_ : Aside0 (Kd.S (Kd.slice 3 (Kd.int .i64)) 24 w27 w.heap.size (fun k_ => some k_ ≠ (v479 : Value).ownBlock ∧ some k_ ≠ (.slice Ao22 x476000_1.length co22 : Value).ownBlock ∧ some k_ ≠ (.slice Ao23 x476001_1.length co23 : Value).ownBlock ∧ some k_ ≠ (u477001 : Value).ownBlock ∧ k_ ≠ dmP N506_ k_) v482 t481) := ⟨h1_⟩
     have n2_ : Aside0 (Kd.R (Kd.int .i64) 3 w27 w.heap.size (fun k_ => some k_ ≠ (v479 : Value).ownBlock) (.slice Ao22 x476000_1.length co22) x476000_1) := ⟨h2_⟩
     have n3_ : Aside0 (Kd.S (Kd.slice 3 (Kd.int .i64)) 24 w27 w.heap.size (fun k_ => some k_ ≠ (v479 : Value).ownBlock ∧ some k_ ≠ (v482 : Value).ownBlock ∧ some k_ ≠ (.slice Ao22 x476000_1.length co22 : Value).ownBlock ∧ some k_ ≠ (u477001 : Value).ownBlock) (.slice Ao23 x476001_1.length co23) x476001_1) := ⟨h3_⟩
     have n4_ : Aside0 (Kd.S (Kd.slice 3 (Kd.int .i64)) 24 w27 w.heap.size (fun k_ => some k_ ≠ (v479 : Value).ownBlock ∧ some k_ ≠ (v482 : Value).ownBlock ∧ some k_ ≠ (.slice Ao22 x476000_1.length co22 : Value).ownBlock ∧ some k_ ≠ (.slice Ao23 x476001_1.length co23 : Value).ownBlock ∧ k_ ≠ dmQ N506_ k_) u477001 x477001_1) := ⟨h4_⟩
     have n5_ : Aside0 (w27.heap[gb473]? = some (.cells #[.slice none 0 0, .slice none 0 0] 36 (0, 0))) := ⟨h5_⟩
     have n6_ : Aside0 (w27.heap[gb474]? = some (.cells #[.slice none 0 0, .slice none 0 0] 36 (0, 0))) := ⟨h6_⟩
     have n7_ : Aside0 (w27.heap[gb475]? = some (.cells #[.slice Ao22 x476000_1.length co22, .slice Ao23 x476001_1.length co23] 36 (0, 0))) := ⟨h7_⟩
     have n8_ : Aside0 (w27.heap[gb476]? = some (.cells #[.slice none 0 0, u477001] 36 (0, 0))) := ⟨h8_⟩
     have n9_ : Aside0 (w27.heap[gb485]? = some (.cells #[.slice none 0 0, .slice none 0 0] 36 (0, 0))) := ⟨h9_⟩
     have n10_ : Aside0 (w.heap.size ≤ gb485) := ⟨h10_⟩
     have n11_ : Aside0 (w.heap.size ≤ gb485) := ⟨h11_⟩
     have n12_ : Aside0 (gb473 ≠ gb485) := ⟨h12_⟩
     have n13_ : Aside0 (gb485 ≠ gb473) := ⟨h13_⟩
     have n14_ : Aside0 (gb474 ≠ gb485) := ⟨h14_⟩
     have n15_ : Aside0 (gb485 ≠ gb474) := ⟨h15_⟩
     have n16_ : Aside0 (gb475 ≠ gb485) := ⟨h16_⟩
     have n17_ : Aside0 (gb485 ≠ gb475) := ⟨h17_⟩
     have n18_ : Aside0 (gb476 ≠ gb485) := ⟨h18_⟩
     have n19_ : Aside0 (gb485 ≠ gb476) := ⟨h19_⟩
     have n20_ : Aside0 (Below w.heap.size w w27) := ⟨h20_⟩
     clear HO_476000 HO_476001 HO_477001 BK473 BK474 BK475 BK476 HB h0_ h1_ h2_ h3_ h4_ h5_ h6_ h7_ h8_ h9_ h10_ h11_ h12_ h13_ h14_ h15_ h16_ h17_ h18_ h19_ h20_
     have HO480 := n0_
     have HO483 := n1_
     have HO_476000 := n2_
     have HO_476001 := n3_
     have HO_477001 := n4_
     have BK473 := n5_
     have BK474 := n6_
     have BK475 := n7_
     have BK476 := n8_
     have BK485 := n9_
     have GW485 := n10_
     have GE485 := n11_
     have NB473_485 := n12_
     have NB485_473 := n13_
     have NB474_485 := n14_
     have NB485_474 := n15_
     have NB475_485 := n16_
     have NB485_475 := n17_
     have NB476_485 := n18_
     have NB485_476 := n19_
     have HB := n20_
     clear n0_ n1_ n2_ n3_ n4_ n5_ n6_ n7_ n8_ n9_ n10_ n11_ n12_ n13_ n14_ n15_ n16_ n17_ n18_ n19_ n20_
     have hHeld : w27.cell? ⟨gb475, 0, none⟩ = some (.slice Ao22 x476000_1.length co22) ∧ w27.cell? ⟨gb475, 1, none⟩ = some (.slice Ao23 x476001_1.length co23) ∧ w27.cell? (ad477.add (x6_1).toNat) = some (.int .i64 (rd l0 x6_1)) := hS_
     obtain ⟨Ao28, co28, eo28⟩ := Kd.R_slice HO480.out
     (first | subst eo28 | (injection eo28 with f1_ f2_ f3_; have f4_ := f1_.symm; have f5_ := f3_.symm; clear f1_ f2_ f3_; subst f4_; subst f5_))
     obtain ⟨Ao30, co30, eo30⟩ := Kd.S_slice HO483.out
     (first | subst eo30 | (injection eo30 with f1_ f2_ f3_; have f4_ := f1_.symm; have f5_ := f3_.symm; clear f1_ f2_ f3_; subst f4_; subst f5_))
     refine norm_ (a' := ?_) ?_ ?_
     rotate_left
     ·simp only [putAll, Act.put, List.setIfInBounds_toArray, List.set_cons_zero, List.set_cons_succ]
      rfl
     refine one_ (i := 10) (N := none) (xB 12 2047) rfl rfl (one_of HT_.out (by kernel_rfl)) (by decide) (fun K hK => ?_)
     have hs29 : w27.cell? ⟨gb485, 0, none⟩ = some (.slice none 0 0) := (blk_cell BK485.out 0).trans rfl
     have hfs29 := blk_frozen BK485.out 0
     have hns29_0 := NB473_485.out
     have hns29_1 := NB474_485.out
     have hns29_2 := NB475_485.out
     have hns29_3 := NB476_485.out
     have hms29_0 := NB485_473.out
     have hms29_1 := NB485_474.out
     have hms29_2 := NB485_475.out
     have hms29_3 := NB485_476.out
     have hs31 : w27.cell? ⟨gb485, 1, none⟩ = some (.slice none 0 0) := (blk_cell BK485.out 1).trans rfl
     have hfs31 := blk_frozen BK485.out 1
     have hns31_0 := NB473_485.out
     have hns31_1 := NB474_485.out
     have hns31_2 := NB475_485.out
     have hns31_3 := NB476_485.out
     have hms31_0 := NB485_473.out
     have hms31_1 := NB485_474.out
     have hms31_2 := NB485_475.out
     have hms31_3 := NB485_476.out
     refine skip_ (w1 := ?_) (by rfl) rfl ?_ ?_
     rotate_left
     ·go_simp
      rfl
     refine hK.out _ _ ⟨((cell_far (p := ⟨gb485, _, none⟩) NB475_485.out _).trans (((cell_far (p := ⟨gb485, _, none⟩) NB475_485.out _).trans (hHeld.1)))), ((cell_far (p := ⟨gb485, _, none⟩) NB475_485.out _).trans (((cell_far (p := ⟨gb485, _, none⟩) NB475_485.out _).trans (hHeld.2.1)))), ((cell_far (p := ⟨gb485, _, none⟩) (by first | exact Nat.ne_of_lt (Nat.lt_of_lt_of_le (by have := World.block_lt_of_cell? _ _ hw477_0; first | rwa [add_block] at this | exact this) GW485.out) | (rw [add_block]; exact Nat.ne_of_lt (Nat.lt_of_lt_of_le (by have := World.block_lt_of_cell? _ _ hw477_0; first | rwa [add_block] at this | exact this) GW485.out)) | (show (Addr.add _ _).block ≠ _; rw [add_block]; exact Nat.ne_of_lt (Nat.lt_of_lt_of_le (by have := World.block_lt_of_cell? _ _ hw477_0; first | rwa [add_block] at this | exact this) GW485.out)) | (dsimp only; exact Nat.ne_of_lt (Nat.lt_of_lt_of_le (by have := World.block_lt_of_cell? _ _ hw477_0; first | rwa [add_block] at this | exact this) GW485.out))) _).trans (((cell_far (p := ⟨gb485, _, none⟩) (by first | exact Nat.ne_of_lt (Nat.lt_of_lt_of_le (by have := World.block_lt_of_cell? _ _ hw477_0; first | rwa [add_block] at this | exact this) GW485.out) | (rw [add_block]; exact Nat.ne_of_lt (Nat.lt_of_lt_of_le (by have := World.block_lt_of_cell? _ _ hw477_0; first | rwa [add_block] at this | exact this) GW485.out)) | (show (Addr.add _ _).block ≠ _; rw [add_block]; exact Nat.ne_of_lt (Nat.lt_of_lt_of_le (by have := World.block_lt_of_cell? _ _ hw477_0; first | rwa [add_block] at this | exact this) GW485.out)) | (dsimp only; exact Nat.ne_of_lt (Nat.lt_of_lt_of_le (by have := World.block_lt_of_cell? _ _ hw477_0; first | rwa [add_block] at this | exact this) GW485.out))) _).trans (hHeld.2.2))))⟩ (fun hHeld => ?_)
     clear hK K
     refine pu (i := 11) (N := some 8) (xB 12 4095) HT_.out ?_
     refine done_ (done_of HT_.out (by kernel_rfl)) ?_
     have hnb32 := NB485_473.out
     have hnc32 := NB473_485.out
     have hnb33 := NB485_474.out
     have hnc33 := NB474_485.out
     have hnb34 := NB485_475.out
     have hnc34 := NB475_485.out
     have hnb35 := NB485_476.out
     have hnc35 := NB476_485.out
     have hcz36_0 : w27.cell? ⟨gb485, 0, none⟩ = some (.slice none 0 0) := (blk_cell BK485.out 0).trans rfl
     have hcz36_1 : w27.cell? ⟨gb485, 1, none⟩ = some (.slice none 0 0) := (blk_cell BK485.out 1).trans rfl
     have hfz36_0 := blk_frozen BK485.out 0
     have hfz36_1 := blk_frozen BK485.out 1
     have hnb37 := NB475_473.out
     have hnc37 := NB473_475.out
     have hnb38 := NB475_474.out
     have hnc38 := NB474_475.out
     have hnb39 := NB475_476.out
     have hnc39 := NB476_475.out
     have hcz40_0 : w27.cell? ⟨gb475, 0, none⟩ = some (.slice Ao22 x476000_1.length co22) := (blk_cell BK475.out 0).trans rfl
     have hcz40_1 : w27.cell? ⟨gb475, 1, none⟩ = some (.slice Ao23 x476001_1.length co23) := (blk_cell BK475.out 1).trans rfl
     have hfz40_0 := blk_frozen BK475.out 0
     have hfz40_1 := blk_frozen BK475.out 1
     have hnb41 := NB476_473.out
     have hnc41 := NB473_476.out
     have hnb42 := NB476_474.out
     have hnc42 := NB474_476.out
     have hcz43_0 : w27.cell? ⟨gb476, 0, none⟩ = some (.slice none 0 0) := (blk_cell BK476.out 0).trans rfl
     have hcz43_1 : w27.cell? ⟨gb476, 1, none⟩ = some (u477001) := (blk_cell BK476.out 1).trans rfl
     have hfz43_0 := blk_frozen BK476.out 0
     have hfz43_1 := blk_frozen BK476.out 1
     obtain ⟨Ao44, co44, eo44⟩ := Kd.S_slice HO_477001.out
     subst eo44
     try go_wp2_with (first | ((with_reducible refine gate_dst (N := 34) rfl ?_); refine Kd.R_lit (Kd.int .i64) _ 3 ?hg (N := 34) ?hd (xs := ([] : List Int)) (inner := []) (ok := fun _ => True) (okp := fun _ => True) ?hr ?hp (fun _ hk => hk) trivial (Below.refl _ _) (Nat.le_refl _) (by simp) ?_; (case hd => rfl); (case hg => rfl); (case hr => first | (go_simp; done) | (go_simp; rfl)); (case hp => exact (Reps.none _ _)); intro v487 w45 ho46 hb hg_ hnew_; clear hg_ hnew_; (first | rw [← Ny486.out] at ho46 | (simp only [Int.reduceToNat] at ho46; rw [← Ny486.out] at ho46)); have hq46 := Kd.R_mono (ok' := fun k_ => k_ ≠ dmQ N506_ k_) (Kd.R_bound ho46) (fun _ hk => dmQ_hi (Nat.le_trans (by first | exact HNN.out | (simp only [nblk_setCell]; exact HNN.out) | simpa [World.setCell] using HNN.out | simpa [World.setCell, World.drew] using HNN.out) hk.2.1)); replace HNN := ax (Nat.le_trans (by first | exact HNN.out | (simp only [nblk_setCell]; exact HNN.out) | simpa [World.setCell] using HNN.out | simpa [World.setCell, World.drew] using HNN.out) (below_size hb)); replace HO_476001 := ax (Kd.S_elder' (by (with_reducible repeat (first | apply Kd.S_alloc | apply Kd.S_drewN | apply Kd.S_drew)); exact (Kd.S_mono (Kd.S_mono (Kd.S_far (p := ⟨gb475, 1, none⟩) (Kd.S_far (p := ⟨gb475, 0, none⟩) (Kd.S_far (p := ⟨gb485, 1, none⟩) (Kd.S_far (p := ⟨gb485, 0, none⟩) (Kd.S_types (Kd.S_types HO_476001.out BK485.out (by decide)) BK475.out (by decide)) (fun _ hk => hk.1.2) (.slice Ao28 t478.length co28)) (fun _ hk => hk.1.2) (.slice Ao30 t481.length co30)) (fun _ hk => hk.2) (.slice Ao28 t478.length co28)) (fun _ hk => hk.2) (.slice Ao30 t481.length co30)) (fun _ h_ => h_.1)) (fun _ h_ => h_.1))) (Kd.R_base ho46) hb); replace HO_477001 := ax (Kd.S_elder' (by (with_reducible repeat (first | apply Kd.S_alloc | apply Kd.S_drewN | apply Kd.S_drew)); exact (Kd.S_mono (Kd.S_mono (Kd.S_far (p := ⟨gb475, 1, none⟩) (Kd.S_far (p := ⟨gb475, 0, none⟩) (Kd.S_far (p := ⟨gb485, 1, none⟩) (Kd.S_far (p := ⟨gb485, 0, none⟩) (Kd.S_types (Kd.S_types HO_477001.out BK485.out (by decide)) BK475.out (by decide)) (fun _ hk => hk.1.2) (.slice Ao28 t478.length co28)) (fun _ hk => hk.1.2) (.slice Ao30 t481.length co30)) (fun _ hk => hk.2) (.slice Ao28 t478.length co28)) (fun _ hk => hk.2) (.slice Ao30 t481.length co30)) (fun _ h_ => h_.1)) (fun _ h_ => h_.1))) (Kd.R_base ho46) hb); replace HO483 := ax (Kd.S_elder' (by (with_reducible repeat (first | apply Kd.S_alloc | apply Kd.S_drewN | apply Kd.S_drew)); exact (Kd.S_mono (Kd.S_mono (Kd.S_far (p := ⟨gb475, 1, none⟩) (Kd.S_far (p := ⟨gb475, 0, none⟩) (Kd.S_far (p := ⟨gb485, 1, none⟩) (Kd.S_far (p := ⟨gb485, 0, none⟩) (Kd.S_types (Kd.S_types HO483.out BK485.out (by decide)) BK475.out (by decide)) (fun _ hk => hk.1.2) (.slice Ao28 t478.length co28)) (fun _ hk => hk.1.2) (.slice Ao30 t481.length co30)) (fun _ hk => hk.2) (.slice Ao28 t478.length co28)) (fun _ hk => hk.2) (.slice Ao30 t481.length co30)) (fun _ h_ => h_.1)) (fun _ h_ => h_.1))) (Kd.R_base ho46) hb); have HO488 := ax (Kd.R_lower (Kd.R_new' (Kd.R_new' hq46 (Kd.R_lt (by (with_reducible repeat (first | apply Kd.R_alloc | apply Kd.R_drewN | apply Kd.R_drew)); exact (Kd.R_mono (Kd.R_mono (Kd.R_far (p := ⟨gb475, 1, none⟩) (Kd.R_far (p := ⟨gb475, 0, none⟩) (Kd.R_far (p := ⟨gb485, 1, none⟩) (Kd.R_far (p := ⟨gb485, 0, none⟩) (Kd.R_types (Kd.R_types HO_476000.out BK485.out (by decide)) BK475.out (by decide)) (fun _ hk => hk.1.2) (.slice Ao28 t478.length co28)) (fun _ hk => hk.1.2) (.slice Ao30 t481.length co30)) (fun _ hk => hk.2) (.slice Ao28 t478.length co28)) (fun _ hk => hk.2) (.slice Ao30 t481.length co30)) (fun _ h_ => h_.1)) (fun _ h_ => h_.1))))) (Kd.R_lt (by (with_reducible repeat (first | apply Kd.R_alloc | apply Kd.R_drewN | apply Kd.R_drew)); exact (Kd.R_mono (Kd.R_mono (Kd.R_far (p := ⟨gb475, 1, none⟩) (Kd.R_far (p := ⟨gb475, 0, none⟩) (Kd.R_far (p := ⟨gb485, 1, none⟩) (Kd.R_far (p := ⟨gb485, 0, none⟩) (Kd.R_types (Kd.R_types HO480.out BK485.out (by decide)) BK475.out (by decide)) (fun _ hk => hk.1.2) (.slice Ao28 t478.length co28)) (fun _ hk => hk.1.2) (.slice Ao30 t481.length co30)) (fun _ hk => hk.2) (.slice Ao28 t478.length co28)) (fun _ hk => hk.2) (.slice Ao30 t481.length co30)) (fun _ h_ => h_.1)) (fun _ h_ => h_.1))))) (below_size (by repeat (first | (with_reducible first | exact HB.out | apply below_alloc | apply pw_below_drewN | apply below_drew1 | refine below_set ?_ GE473.out | refine below_set ?_ GE474.out | refine below_set ?_ GE475.out | refine below_set ?_ GE476.out | refine below_set ?_ GE485.out) | exact HB.out)))); replace HO_476000 := ax (Kd.R_elder' (by (with_reducible repeat (first | apply Kd.R_alloc | apply Kd.R_drewN | apply Kd.R_drew)); exact (Kd.R_mono (Kd.R_mono (Kd.R_far (p := ⟨gb475, 1, none⟩) (Kd.R_far (p := ⟨gb475, 0, none⟩) (Kd.R_far (p := ⟨gb485, 1, none⟩) (Kd.R_far (p := ⟨gb485, 0, none⟩) (Kd.R_types (Kd.R_types HO_476000.out BK485.out (by decide)) BK475.out (by decide)) (fun _ hk => hk.1.2) (.slice Ao28 t478.length co28)) (fun _ hk => hk.1.2) (.slice Ao30 t481.length co30)) (fun _ hk => hk.2) (.slice Ao28 t478.length co28)) (fun _ hk => hk.2) (.slice Ao30 t481.length co30)) (fun _ h_ => h_.1)) (fun _ h_ => h_.1))) (Kd.R_base ho46) hb); replace HO480 := ax (Kd.R_elder' (by (with_reducible repeat (first | apply Kd.R_alloc | apply Kd.R_drewN | apply Kd.R_drew)); exact (Kd.R_mono (Kd.R_mono (Kd.R_far (p := ⟨gb475, 1, none⟩) (Kd.R_far (p := ⟨gb475, 0, none⟩) (Kd.R_far (p := ⟨gb485, 1, none⟩) (Kd.R_far (p := ⟨gb485, 0, none⟩) (Kd.R_types (Kd.R_types HO480.out BK485.out (by decide)) BK475.out (by decide)) (fun _ hk => hk.1.2) (.slice Ao28 t478.length co28)) (fun _ hk => hk.1.2) (.slice Ao30 t481.length co30)) (fun _ hk => hk.2) (.slice Ao28 t478.length co28)) (fun _ hk => hk.2) (.slice Ao30 t481.length co30)) (fun _ h_ => h_.1)) (fun _ h_ => h_.1))) (Kd.R_base ho46) hb); replace BK473 := ax (blk_below (g := gb473) (o := .cells #[.slice none 0 0, .slice none 0 0] 36 (0, 0)) (by (with_reducible repeat (first | refine blk_drewN ?_ _ | refine blk_drew ?_ | refine blk_alloc ?_ _)); refine blk_far ?_ NB473_475.out _; (with_reducible repeat (first | refine blk_drewN ?_ _ | refine blk_drew ?_ | refine blk_alloc ?_ _)); refine blk_far ?_ NB473_475.out _; (with_reducible repeat (first | refine blk_drewN ?_ _ | refine blk_drew ?_ | refine blk_alloc ?_ _)); refine blk_far ?_ NB473_485.out _; (with_reducible repeat (first | refine blk_drewN ?_ _ | refine blk_drew ?_ | refine blk_alloc ?_ _)); refine blk_far ?_ NB473_485.out _; (with_reducible repeat (first | refine blk_drewN ?_ _ | refine blk_drew ?_ | refine blk_alloc ?_ _)); exact BK473.out) hb); replace BK474 := ax (blk_below (g := gb474) (o := .cells #[.slice none 0 0, .slice none 0 0] 36 (0, 0)) (by (with_reducible repeat (first | refine blk_drewN ?_ _ | refine blk_drew ?_ | refine blk_alloc ?_ _)); refine blk_far ?_ NB474_475.out _; (with_reducible repeat (first | refine blk_drewN ?_ _ | refine blk_drew ?_ | refine blk_alloc ?_ _)); refine blk_far ?_ NB474_475.out _; (with_reducible repeat (first | refine blk_drewN ?_ _ | refine blk_drew ?_ | refine blk_alloc ?_ _)); refine blk_far ?_ NB474_485.out _; (with_reducible repeat (first | refine blk_drewN ?_ _ | refine blk_drew ?_ | refine blk_alloc ?_ _)); refine blk_far ?_ NB474_485.out _; (with_reducible repeat (first | refine blk_drewN ?_ _ | refine blk_drew ?_ | refine blk_alloc ?_ _)); exact BK474.out) hb); replace BK475 := ax (blk_below (g := gb475) (o := .cells #[.slice Ao28 t478.length co28, .slice Ao30 t481.length co30] 36 (0, 0)) (by (with_reducible repeat (first | refine blk_drewN ?_ _ | refine blk_drew ?_ | refine blk_alloc ?_ _)); refine blk_put (cs := #[.slice Ao28 t478.length co28, .slice Ao23 x476001_1.length co23]) ?_ 1 _ rfl; (with_reducible repeat (first | refine blk_drewN ?_ _ | refine blk_drew ?_ | refine blk_alloc ?_ _)); refine blk_put (cs := #[.slice Ao22 x476000_1.length co22, .slice Ao23 x476001_1.length co23]) ?_ 0 _ rfl; (with_reducible repeat (first | refine blk_drewN ?_ _ | refine blk_drew ?_ | refine blk_alloc ?_ _)); refine blk_far ?_ NB475_485.out _; (with_reducible repeat (first | refine blk_drewN ?_ _ | refine blk_drew ?_ | refine blk_alloc ?_ _)); refine blk_far ?_ NB475_485.out _; (with_reducible repeat (first | refine blk_drewN ?_ _ | refine blk_drew ?_ | refine blk_alloc ?_ _)); exact BK475.out) hb); replace BK476 := ax (blk_below (g := gb476) (o := .cells #[.slice none 0 0, .slice Ao44 x477001_1.length co44] 36 (0, 0)) (by (with_reducible repeat (first | refine blk_drewN ?_ _ | refine blk_drew ?_ | refine blk_alloc ?_ _)); refine blk_far ?_ NB476_475.out _; (with_reducible repeat (first | refine blk_drewN ?_ _ | refine blk_drew ?_ | refine blk_alloc ?_ _)); refine blk_far ?_ NB476_475.out _; (with_reducible repeat (first | refine blk_drewN ?_ _ | refine blk_drew ?_ | refine blk_alloc ?_ _)); refine blk_far ?_ NB476_485.out _; (with_reducible repeat (first | refine blk_drewN ?_ _ | refine blk_drew ?_ | refine blk_alloc ?_ _)); refine blk_far ?_ NB476_485.out _; (with_reducible repeat (first | refine blk_drewN ?_ _ | refine blk_drew ?_ | refine blk_alloc ?_ _)); exact BK476.out) hb); replace BK485 := ax (blk_below (g := gb485) (o := .cells #[.slice Ao28 t478.length co28, .slice Ao30 t481.length co30] 36 (0, 0)) (by (with_reducible repeat (first | refine blk_drewN ?_ _ | refine blk_drew ?_ | refine blk_alloc ?_ _)); refine blk_far ?_ NB485_475.out _; (with_reducible repeat (first | refine blk_drewN ?_ _ | refine blk_drew ?_ | refine blk_alloc ?_ _)); refine blk_far ?_ NB485_475.out _; (with_reducible repeat (first | refine blk_drewN ?_ _ | refine blk_drew ?_ | refine blk_alloc ?_ _)); refine blk_put (cs := #[.slice Ao28 t478.length co28, .slice none 0 0]) ?_ 1 _ rfl; (with_reducible repeat (first | refine blk_drewN ?_ _ | refine blk_drew ?_ | refine blk_alloc ?_ _)); refine blk_put (cs := #[.slice none 0 0, .slice none 0 0]) ?_ 0 _ rfl; (with_reducible repeat (first | refine blk_drewN ?_ _ | refine blk_drew ?_ | refine blk_alloc ?_ _)); exact BK485.out) hb); replace HB := ax (below_step (by repeat (first | (with_reducible first | exact HB.out | apply below_alloc | apply pw_below_drewN | apply below_drew1 | refine below_set ?_ GE473.out | refine below_set ?_ GE474.out | refine below_set ?_ GE475.out | refine below_set ?_ GE476.out | refine below_set ?_ GE485.out) | exact HB.out)) hb); clear hb ho46; obtain ⟨Ao48, co48, eo48⟩ := Kd.R_slice HO488.out; subst eo48) | ((with_reducible refine gate_builtin (b := .append) (xs := #[.tmp 33, .tmp 35]) rfl ?_); at_builtin; refine Kd.S_append (Kd.slice 3 (Kd.int .i64)) (w0 := w) w.heap.size rfl (.tmp 33) (.tmp 35) 34 24 (.slice none 0 0) 24 rfl Try.underlying34 info24 rfl (by decide) (by omega) (.slice Ao44 x477001_1.length co44) x477001_1 y486 [.slice Ao48 y486.length co48] (fun k_ => some k_ ≠ (.slice Ao22 x476000_1.length co22 : Value).ownBlock ∧ some k_ ≠ (.slice Ao23 x476001_1.length co23 : Value).ownBlock ∧ some k_ ≠ (.slice Ao28 t478.length co28 : Value).ownBlock ∧ some k_ ≠ (.slice Ao30 t481.length co30 : Value).ownBlock ∧ k_ ≠ dmQ N506_ k_) (fun k_ => some k_ = (.slice Ao48 y486.length co48 : Value).ownBlock) rfl rfl ?aP (fun k_ hk_ => ((Kd.R_mono (ok' := fun k_ => ((fun k_ => some k_ ≠ (.slice Ao22 x476000_1.length co22 : Value).ownBlock ∧ some k_ ≠ (.slice Ao23 x476001_1.length co23 : Value).ownBlock ∧ some k_ ≠ (.slice Ao28 t478.length co28 : Value).ownBlock ∧ some k_ ≠ (.slice Ao30 t481.length co30 : Value).ownBlock ∧ k_ ≠ dmQ N506_ k_)) k_ ∧ some k_ ≠ (.slice Ao44 x477001_1.length co44 : Value).ownBlock) (Kd.R_apart' (Kd.R_apart' (Kd.R_apart' (HO488.out) (Kd.S_typed HO_476001.out) (by decide)) (Kd.S_typed HO483.out) (by decide)) (Kd.S_typed HO_477001.out) (by decide)) (fun k_ hk => ⟨⟨hk.1.1.1.1.2, ⟨hk.1.1.2, ⟨hk.1.1.1.2, ⟨hk.1.2, hk.1.1.1.1.1⟩⟩⟩⟩, hk.2⟩))).1 k_ hk_.symm) ?aF ?aO ?aB ?aS ?aL ?_; (case aP => exact Kd.M_row (Kd.R_mono (Kd.R_tight rfl (Kd.R_mono (ok' := fun k_ => ((fun k_ => some k_ ≠ (.slice Ao22 x476000_1.length co22 : Value).ownBlock ∧ some k_ ≠ (.slice Ao23 x476001_1.length co23 : Value).ownBlock ∧ some k_ ≠ (.slice Ao28 t478.length co28 : Value).ownBlock ∧ some k_ ≠ (.slice Ao30 t481.length co30 : Value).ownBlock ∧ k_ ≠ dmQ N506_ k_)) k_ ∧ some k_ ≠ (.slice Ao44 x477001_1.length co44 : Value).ownBlock) (Kd.R_apart' (Kd.R_apart' (Kd.R_apart' (HO488.out) (Kd.S_typed HO_476001.out) (by decide)) (Kd.S_typed HO483.out) (by decide)) (Kd.S_typed HO_477001.out) (by decide)) (fun k_ hk => ⟨⟨hk.1.1.1.1.2, ⟨hk.1.1.2, ⟨hk.1.1.1.2, ⟨hk.1.2, hk.1.1.1.1.1⟩⟩⟩⟩, hk.2⟩))) (fun _ h_ => h_))); (case aB => exact (by repeat (first | (with_reducible first | exact HB.out | apply below_alloc | apply pw_below_drewN | apply below_drew1 | refine below_set ?_ GE473.out | refine below_set ?_ GE474.out | refine below_set ?_ GE475.out | refine below_set ?_ GE476.out | refine below_set ?_ GE485.out) | exact HB.out))); (case aF => exact (fun k_ hk => ⟨Kd.fresh' (Kd.R_lt (xR HO_476000.out)) k_ hk, Kd.fresh' (Kd.S_lt (xS HO_476001.out)) k_ hk, Kd.fresh' (Kd.R_lt (xR HO480.out)) k_ hk, ⟨Kd.fresh' (Kd.S_lt (xS HO483.out)) k_ hk, dmQ_hi (Nat.le_trans (by first | exact HNN.out | (simp only [nblk_setCell]; exact HNN.out) | simpa [World.setCell] using HNN.out | simpa [World.setCell, World.drew] using HNN.out) hk)⟩⟩)); (case aO => exact (by (with_reducible repeat (first | apply Kd.S_alloc | apply Kd.S_drewN | apply Kd.S_drew)); exact Kd.S_mono HO_477001.out (fun k_ hk => ⟨⟨hk.1.2.2.1, ⟨hk.1.2.2.2.1, ⟨hk.1.1, ⟨hk.1.2.1, hk.1.2.2.2.2⟩⟩⟩⟩, fun e_ => hk.2 e_⟩))); (case aS => exact (below_size (by repeat (first | (with_reducible first | exact HB.out | apply below_alloc | apply pw_below_drewN | apply below_drew1 | refine below_set ?_ GE473.out | refine below_set ?_ GE474.out | refine below_set ?_ GE475.out | refine below_set ?_ GE476.out | refine below_set ?_ GE485.out) | exact HB.out)))); (case aL => have := LMc17.out; omega); intro v490 w47 ho hb hg hat; replace HNN := ax (Nat.le_trans (by first | exact HNN.out | (simp only [nblk_setCell]; exact HNN.out) | simpa [World.setCell] using HNN.out | simpa [World.setCell, World.drew] using HNN.out) hg.size); rw [← Ny489.out] at ho; have n0_ := ax (Kd.R_over' (xR HO_476000.out) (Kd.S_typed (xS HO_477001.out)) (by decide) hg); have n1_ := ax (Kd.S_after (ok := (fun k_ => some k_ ≠ (.slice Ao22 x476000_1.length co22 : Value).ownBlock ∧ some k_ ≠ (.slice Ao28 t478.length co28 : Value).ownBlock ∧ some k_ ≠ (.slice Ao30 t481.length co30 : Value).ownBlock ∧ some k_ ≠ (.slice Ao48 y486.length co48 : Value).ownBlock)) (by (with_reducible repeat (first | apply Kd.S_alloc | apply Kd.S_drewN | apply Kd.S_drew)); exact Kd.S_mono HO_476001.out (fun _ hk => ⟨⟨hk.1.2.2.1, ⟨hk.1.1, ⟨hk.1.2.1, hk.2⟩⟩⟩, hk.1.2.2.2⟩)) hg hat); have n2_ := ax (blk_grown (g := gb473) (o := .cells #[.slice none 0 0, .slice none 0 0] 36 (0, 0)) (xk BK473.out) hg (Kd.S_ne HO_477001.out BK473.out (by decide))); have n3_ := ax (blk_grown (g := gb474) (o := .cells #[.slice none 0 0, .slice none 0 0] 36 (0, 0)) (xk BK474.out) hg (Kd.S_ne HO_477001.out BK474.out (by decide))); have n4_ := ax (blk_grown (g := gb475) (o := .cells #[.slice Ao28 t478.length co28, .slice Ao30 t481.length co30] 36 (0, 0)) (xk BK475.out) hg (Kd.S_ne HO_477001.out BK475.out (by decide))); have n5_ := ax (blk_grown (g := gb476) (o := .cells #[.slice none 0 0, .slice Ao44 x477001_1.length co44] 36 (0, 0)) (xk BK476.out) hg (Kd.S_ne HO_477001.out BK476.out (by decide))); have n6_ := ax (Kd.R_over' (xR HO480.out) (Kd.S_typed (xS HO_477001.out)) (by decide) hg); have n7_ := ax (Kd.S_after (ok := (fun k_ => some k_ ≠ (.slice Ao22 x476000_1.length co22 : Value).ownBlock ∧ some k_ ≠ (.slice Ao23 x476001_1.length co23 : Value).ownBlock ∧ some k_ ≠ (.slice Ao28 t478.length co28 : Value).ownBlock ∧ some k_ ≠ (.slice Ao48 y486.length co48 : Value).ownBlock ∧ k_ ≠ dmP N506_ k_)) (by (with_reducible repeat (first | apply Kd.S_alloc | apply Kd.S_drewN | apply Kd.S_drew)); exact Kd.S_mono HO483.out (fun _ hk => ⟨⟨hk.1.2.1, ⟨hk.1.2.2.1, ⟨hk.1.1, ⟨hk.2, hk.1.2.2.2.2⟩⟩⟩⟩, hk.1.2.2.2.1⟩)) hg hat); have n8_ := ax (blk_grown (g := gb485) (o := .cells #[.slice Ao28 t478.length co28, .slice Ao30 t481.length co30] 36 (0, 0)) (xk BK485.out) hg (Kd.S_ne HO_477001.out BK485.out (by decide))); have n9_ := ax (hb); have n10_ := ax (ho); clear HO_476000; clear HO_476001; clear BK473; clear BK474; clear BK475; clear BK476; clear HO480; clear HO483; clear BK485; clear HB; clear HO_477001; clear HO488; have HO_476000 := n0_; have HO_476001 := n1_; have BK473 := n2_; have BK474 := n3_; have BK475 := n4_; have BK476 := n5_; have HO480 := n6_; have HO483 := n7_; have BK485 := n8_; have HB := n9_; have HO491 := n10_; clear n0_ n1_ n2_ n3_ n4_ n5_ n6_ n7_ n8_ n9_ n10_; clear ho hb hg hat; obtain ⟨Ao49, co49, eo49⟩ := Kd.S_slice HO491.out; subst eo49; have hcz50_0 : w47.cell? ⟨gb476, 0, none⟩ = some (.slice none 0 0) := (blk_cell BK476.out 0).trans rfl; have hcz50_1 : w47.cell? ⟨gb476, 1, none⟩ = some (.slice Ao44 x477001_1.length co44) := (blk_cell BK476.out 1).trans rfl; have hfz50_0 := blk_frozen BK476.out 0; have hfz50_1 := blk_frozen BK476.out 1))
     have n0_ : Aside0 (Kd.R (Kd.int .i64) 3 (w47.setCell ⟨gb476, 1, none⟩ (.slice Ao49 y489.length co49)) w.heap.size (fun k_ => some k_ ≠ (.slice Ao28 t478.length co28 : Value).ownBlock) (.slice Ao22 x476000_1.length co22) x476000_1) := ⟨by (with_reducible repeat (first | apply Kd.R_alloc | apply Kd.R_drewN | apply Kd.R_drew)); exact Kd.R_mono (Kd.R_far (p := ⟨gb476, 1, none⟩) (Kd.R_types HO_476000.out BK476.out (by decide)) (fun _ hk => hk.2) (.slice Ao49 y489.length co49)) (fun _ hk => hk.1.1)⟩
     have n1_ : Aside0 (Kd.S (Kd.slice 3 (Kd.int .i64)) 24 (w47.setCell ⟨gb476, 1, none⟩ (.slice Ao49 y489.length co49)) w.heap.size (fun k_ => some k_ ≠ (.slice Ao22 x476000_1.length co22 : Value).ownBlock ∧ some k_ ≠ (.slice Ao28 t478.length co28 : Value).ownBlock ∧ some k_ ≠ (.slice Ao30 t481.length co30 : Value).ownBlock ∧ some k_ ≠ (.slice Ao49 y489.length co49 : Value).ownBlock) (.slice Ao23 x476001_1.length co23) x476001_1) := ⟨by (with_reducible repeat (first | apply Kd.S_alloc | apply Kd.S_drewN | apply Kd.S_drew)); exact Kd.S_mono (Kd.S_far (p := ⟨gb476, 1, none⟩) (Kd.S_types HO_476001.out BK476.out (by decide)) (fun _ hk => hk.2) (.slice Ao49 y489.length co49)) (fun _ hk => ⟨hk.1.1.1, ⟨hk.1.1.2.1, ⟨hk.1.1.2.2.1, hk.1.2⟩⟩⟩)⟩
     have n2_ : Aside0 (Kd.R (Kd.int .i64) 3 (w47.setCell ⟨gb476, 1, none⟩ (.slice Ao49 y489.length co49)) w.heap.size (fun k_ => some k_ ≠ (.slice Ao22 x476000_1.length co22 : Value).ownBlock) (.slice Ao28 t478.length co28) t478) := ⟨by (with_reducible repeat (first | apply Kd.R_alloc | apply Kd.R_drewN | apply Kd.R_drew)); exact Kd.R_mono (Kd.R_far (p := ⟨gb476, 1, none⟩) (Kd.R_types HO480.out BK476.out (by decide)) (fun _ hk => hk.2) (.slice Ao49 y489.length co49)) (fun _ hk => hk.1.1)⟩
     have n3_ : Aside0 (Kd.S (Kd.slice 3 (Kd.int .i64)) 24 (w47.setCell ⟨gb476, 1, none⟩ (.slice Ao49 y489.length co49)) w.heap.size (fun k_ => some k_ ≠ (.slice Ao22 x476000_1.length co22 : Value).ownBlock ∧ some k_ ≠ (.slice Ao23 x476001_1.length co23 : Value).ownBlock ∧ some k_ ≠ (.slice Ao28 t478.length co28 : Value).ownBlock ∧ some k_ ≠ (.slice Ao49 y489.length co49 : Value).ownBlock ∧ k_ ≠ dmP N506_ k_) (.slice Ao30 t481.length co30) t481) := ⟨by (with_reducible repeat (first | apply Kd.S_alloc | apply Kd.S_drewN | apply Kd.S_drew)); exact Kd.S_mono (Kd.S_far (p := ⟨gb476, 1, none⟩) (Kd.S_types HO483.out BK476.out (by decide)) (fun _ hk => hk.2) (.slice Ao49 y489.length co49)) (fun _ hk => ⟨hk.1.1.1, ⟨hk.1.1.2.1, ⟨hk.1.1.2.2.1, ⟨hk.1.2, hk.1.1.2.2.2.2⟩⟩⟩⟩)⟩
     have n4_ : Aside0 (Kd.S (Kd.slice 3 (Kd.int .i64)) 24 (w47.setCell ⟨gb476, 1, none⟩ (.slice Ao49 y489.length co49)) w.heap.size (fun k_ => some k_ ≠ (.slice Ao22 x476000_1.length co22 : Value).ownBlock ∧ some k_ ≠ (.slice Ao23 x476001_1.length co23 : Value).ownBlock ∧ some k_ ≠ (.slice Ao28 t478.length co28 : Value).ownBlock ∧ some k_ ≠ (.slice Ao30 t481.length co30 : Value).ownBlock ∧ k_ ≠ dmQ N506_ k_) (.slice Ao49 y489.length co49) y489) := ⟨by (with_reducible repeat (first | apply Kd.S_alloc | apply Kd.S_drewN | apply Kd.S_drew)); exact Kd.S_mono (Kd.S_far (p := ⟨gb476, 1, none⟩) (Kd.S_types HO491.out BK476.out (by decide)) (fun _ hk => hk.2) (.slice Ao49 y489.length co49)) (fun _ hk => ⟨hk.1.1, ⟨hk.1.2.1, ⟨hk.1.2.2.1, hk.1.2.2.2⟩⟩⟩)⟩
     have n5_ : Aside0 ((w47.setCell ⟨gb476, 1, none⟩ (.slice Ao49 y489.length co49)).heap[gb473]? = some (.cells #[.slice none 0 0, .slice none 0 0] 36 (0, 0))) := ⟨by (with_reducible repeat (first | refine blk_drewN ?_ _ | refine blk_drew ?_ | refine blk_alloc ?_ _)); refine blk_far ?_ NB473_476.out _; (with_reducible repeat (first | refine blk_drewN ?_ _ | refine blk_drew ?_ | refine blk_alloc ?_ _)); exact BK473.out⟩
     have n6_ : Aside0 ((w47.setCell ⟨gb476, 1, none⟩ (.slice Ao49 y489.length co49)).heap[gb474]? = some (.cells #[.slice none 0 0, .slice none 0 0] 36 (0, 0))) := ⟨by (with_reducible repeat (first | refine blk_drewN ?_ _ | refine blk_drew ?_ | refine blk_alloc ?_ _)); refine blk_far ?_ NB474_476.out _; (with_reducible repeat (first | refine blk_drewN ?_ _ | refine blk_drew ?_ | refine blk_alloc ?_ _)); exact BK474.out⟩
     have n7_ : Aside0 ((w47.setCell ⟨gb476, 1, none⟩ (.slice Ao49 y489.length co49)).heap[gb475]? = some (.cells #[.slice Ao28 t478.length co28, .slice Ao30 t481.length co30] 36 (0, 0))) := ⟨by (with_reducible repeat (first | refine blk_drewN ?_ _ | refine blk_drew ?_ | refine blk_alloc ?_ _)); refine blk_far ?_ NB475_476.out _; (with_reducible repeat (first | refine blk_drewN ?_ _ | refine blk_drew ?_ | refine blk_alloc ?_ _)); exact BK475.out⟩
     have n8_ : Aside0 ((w47.setCell ⟨gb476, 1, none⟩ (.slice Ao49 y489.length co49)).heap[gb476]? = some (.cells #[.slice none 0 0, .slice Ao49 y489.length co49] 36 (0, 0))) := ⟨by (with_reducible repeat (first | refine blk_drewN ?_ _ | refine blk_drew ?_ | refine blk_alloc ?_ _)); refine blk_put (cs := #[.slice none 0 0, .slice Ao44 x477001_1.length co44]) ?_ 1 _ rfl; (with_reducible repeat (first | refine blk_drewN ?_ _ | refine blk_drew ?_ | refine blk_alloc ?_ _)); exact BK476.out⟩
     have n9_ : Aside0 ((w47.setCell ⟨gb476, 1, none⟩ (.slice Ao49 y489.length co49)).heap[gb485]? = some (.cells #[.slice Ao28 t478.length co28, .slice Ao30 t481.length co30] 36 (0, 0))) := ⟨by (with_reducible repeat (first | refine blk_drewN ?_ _ | refine blk_drew ?_ | refine blk_alloc ?_ _)); refine blk_far ?_ NB485_476.out _; (with_reducible repeat (first | refine blk_drewN ?_ _ | refine blk_drew ?_ | refine blk_alloc ?_ _)); exact BK485.out⟩
     have n10_ : Aside0 (Below w.heap.size w (w47.setCell ⟨gb476, 1, none⟩ (.slice Ao49 y489.length co49))) := ⟨by repeat (first | (with_reducible first | exact HB.out | apply below_alloc | apply pw_below_drewN | apply below_drew1 | refine below_set ?_ GE473.out | refine below_set ?_ GE474.out | refine below_set ?_ GE475.out | refine below_set ?_ GE476.out | refine below_set ?_ GE485.out) | exact HB.out)⟩
     (try clear HO_476000)
     (try clear HO_476001)
     (try clear HO480)
     (try clear HO483)
     (try clear HO491)
     (try clear BK473)
     (try clear BK474)
     (try clear BK475)
     (try clear BK476)
     (try clear BK485)
     (try clear HB)
     replace HNN := ax (show N506_.2 ≤ ((w47.setCell ⟨gb476, 1, none⟩ (.slice Ao49 y489.length co49))).heap.size from (by first | exact HNN.out | (simp only [nblk_setCell]; exact HNN.out) | simpa [World.setCell] using HNN.out | simpa [World.setCell, World.drew] using HNN.out))
     generalize (w47.setCell ⟨gb476, 1, none⟩ (.slice Ao49 y489.length co49)) = w51 at HNN n0_ n1_ n2_ n3_ n4_ n5_ n6_ n7_ n8_ n9_ n10_ ⊢
     have HO_476000 := n0_
     have HO_476001 := n1_
     have HO480 := n2_
     have HO483 := n3_
     have HO491 := n4_
     have BK473 := n5_
     have BK474 := n6_
     have BK475 := n7_
     have BK476 := n8_
     have BK485 := n9_
     have HB := n10_
     clear n0_ n1_ n2_ n3_ n4_ n5_ n6_ n7_ n8_ n9_ n10_
     replace HO_476000 := ax (Kd.R_drew HO_476000.out); replace HO_476001 := ax (Kd.S_drew HO_476001.out); replace HO480 := ax (Kd.R_drew HO480.out); replace HO483 := ax (Kd.S_drew HO483.out); replace HO491 := ax (Kd.S_drew HO491.out); replace BK473 := ax (blk_drew BK473.out); replace BK474 := ax (blk_drew BK474.out); replace BK475 := ax (blk_drew BK475.out); replace BK476 := ax (blk_drew BK476.out); replace BK485 := ax (blk_drew BK485.out); replace HB := ax (below_drew1 HB.out)
     have p492 : 0 ≤ (t484 : Int) := xd
     have q492 : t484 < (y489.length : Int) := xd
     obtain ⟨ad492, A492_0, c492_0, e492, hx492_0, hl492_0, hi492_0⟩ := at_L2 (Kd.S_reads' HO491.out).2.2 t484 p492 q492
     cases e492
     obtain ⟨ce492, hce492, hMe492, hcc492⟩ := Kd.S_get HO491.out [] t484 p492 (by first | exact q492 | exact xd | (have e_ := (Kd.S_reads' HO491.out).1; omega))
     obtain ⟨ve492_0, rfl, ge492_0⟩ := hMe492
     have hv492_0 := hcc492 0 _ rfl
     rw [Nat.add_zero, show ((Kd.slice 3 (Kd.int .i64))).sz = 1 from rfl, Nat.mul_one] at hv492_0
     replace hv492_0 := Option.some.inj (hv492_0.symm.trans hx492_0)
     rw [hv492_0] at ge492_0
     have HL492_0 := ax (show Kd.R (Kd.int .i64) 3 _ _ _ _ (rd_L2 y489 t484) from ge492_0)
     clear hv492_0 ge492_0
     have HX492_0 := ax hx492_0
     clear hcc492 hce492
     have HR492_0 := ax hi492_0
     have HC492_0 := ax hl492_0
     clear hi492_0 hl492_0
     replace p492 := eq_true p492
     replace q492 := eq_true q492
     obtain ⟨go53, co53, eo53, gb53, gl53, cl53, HG53⟩ := Kd.S_form HO491.out (by have h_ : (t484 : Int) < ((y489.length : Int) : Int) := xd; have h2_ : 0 ≤ (t484 : Int) := (xd); omega)
     (first | cases eo53 | (injection eo53 with ea_ en_ ec_; (first | subst ea_ | (injection ea_ with ea_; subst ea_)); subst ec_; clear en_))
     have GB53 := ax gb53
     have GG53 := ax HG53
     clear gb53 gl53 HG53
     (first | simp only [add_plain] at hx492_0 | skip)
     obtain ⟨oki53, ce53, hcl53, hM53, hcc53, _, _, hH53⟩ := Kd.S_elem HO491.out [] (t484 : Int) (xd) (by have h_ : (t484 : Int) < ((y489.length : Int) : Int) := xd; first | exact h_ | (have e_ := (Kd.S_reads' HO491.out).1; omega) | simpa using h_)
     obtain ⟨ve53_0, rfl, ge53_0⟩ := hM53
     have hv53 := hcc53 0 _ rfl
     have hX53 := HX492_0.out
     (try simp only [add_plain] at hX53)
     (try simp only [Nat.add_zero] at hv53)
     (try rw [show ((Kd.slice 3 (Kd.int .i64))).sz = 1 from rfl, Nat.mul_one] at hv53)
     replace hv53 := Option.some.inj (hv53.symm.trans hX53)
     subst hv53
     clear hX53 hcc53 hcl53
     have UU53 := ax (show Kd.R (Kd.int .i64) 3 _ w.heap.size oki53 (.slice A492_0 (rd_L2 y489 t484).length c492_0) (rd_L2 y489 t484) from ge53_0)
     have HH53 := ax hH53
     have HN53 := ax (Kd.S_reads' HO491.out).1
     clear hH53 ge53_0
     refine start_ (n := 14) (S := fun w' => w'.cell? ⟨gb476, 0, none⟩ = some (.slice none 0 0) ∧ w'.cell? ⟨gb476, 1, none⟩ = some (.slice (some ⟨go53, 0, none⟩) y489.length co49) ∧ w'.cell? ⟨go53, (t484).toNat, none⟩ = some (.slice A492_0 (rd_L2 y489 t484).length c492_0)) (ds := [13]) (xB 14 0) (by kernel_rfl) rfl (by kernel_rfl) ⟨(blk_cell BK476.out 0).trans rfl, (blk_cell BK476.out 1).trans rfl, hx492_0⟩ (fun hHeld => ?_); refine with_tabW spec_l9Both.tab10 spec_l9Both.bits10 (fun HT_ HW_ => ?_)
     replace HNN := ax (show N506_.2 ≤ (w51.drew).heap.size from (by first | exact HNN.out | (simp only [nblk_setCell]; exact HNN.out) | simpa [World.setCell] using HNN.out | simpa [World.setCell, World.drew] using HNN.out))
     generalize w51.drew = w52 at HNN HO_476000 HO_476001 HO480 HO483 HO491 BK473 BK474 BK475 BK476 BK485 HB GG53 HH53 HL492_0 HR492_0 HX492_0 UU53 hx492_0 hHeld ⊢
     refine pu (i := 0) (N := some 38) (xB 14 1) HT_.out ?_
     refine pu (i := 2) (N := some 40) (xB 14 5) HT_.out ?_
     refine pu (i := 3) (N := some 41) (xB 14 13) HT_.out ?_
     refine pu (i := 5) (N := some 43) (xB 14 45) HT_.out ?_
     refine pu (i := 8) (N := some 46) (xB 14 301) HT_.out ?_
     refine pu (i := 9) (N := some 47) (xB 14 813) HT_.out ?_
     refine tk (i := 1) (N := some 39) (xB 14 815) HT_.out HW_.out hHeld ?_
     refine tk (i := 4) (N := some 42) (xB 14 831) HT_.out HW_.out hHeld ?_
     refine pu (i := 6) (N := some 44) (xB 14 895) HT_.out ?_
     refine tk (i := 7) (N := some 45) (xB 14 1023) HT_.out HW_.out hHeld ?_
     refine one_ (i := 10) (N := some 48) (xB 14 2047) rfl rfl (one_of HT_.out (by kernel_rfl)) (by decide) (fun K hK => ?_)
     refine value_ (w1 := ?_) (v := ?_) (by rfl) rfl ?_ ?_
     rotate_left 2
     ·go_simp
      constructor
      ·rfl
      ·rfl
     refine hK.out _ _ ⟨(blk_cell (blk_alloc BK476.out _) 0).trans rfl, (blk_cell (blk_alloc BK476.out _) 1).trans rfl, (World.cell?_alloc_lt _ _ _ (World.block_lt_of_cell? _ _ (hHeld.2.2))).trans (hHeld.2.2)⟩ (fun hHeld => ?_)
     clear hK K
     refine nm ?_
     refine one_ (i := 11) (N := some 49) (xB 14 4095) rfl rfl (one_of HT_.out (by kernel_rfl)) (by decide) (fun K hK => ?_)
     refine Kd.R_append_step (Kd.int .i64) (w0 := w) w.heap.size (by rfl) (.tmp 45) (.tmp 48) 24 3 (.int .i64 0) 8 rfl Try.underlying24 info3 rfl (by decide) (by omega) (.slice A492_0 (rd_L2 y489 t484).length c492_0) (rd_L2 y489 t484) (wrap64 (x6_1 + 1)) [.int .i64 (wrap64 (x6_1 + 1))] (fun k_ => oki53 k_ ∨ ((fun k_ => some k_ ≠ (.slice Ao22 x476000_1.length co22 : Value).ownBlock ∧ some k_ ≠ (.slice Ao23 x476001_1.length co23 : Value).ownBlock ∧ some k_ ≠ (.slice Ao28 t478.length co28 : Value).ownBlock ∧ some k_ ≠ (.slice Ao30 t481.length co30 : Value).ownBlock ∧ k_ ≠ dmQ N506_ k_)) k_ ∧ w52.heap.size ≤ k_) (fun _ => False) rfl rfl ?aP (fun _ hk => hk.elim) ?aF ?aO ?aB ?aS ?aL ?_
     (case aP => exact rfl)
     (case aB => exact (by repeat (first | (with_reducible first | exact HB.out | apply below_alloc | apply pw_below_drewN | apply below_drew1 | refine below_set ?_ GE473.out | refine below_set ?_ GE474.out | refine below_set ?_ GE475.out | refine below_set ?_ GE476.out | refine below_set ?_ GE485.out) | exact HB.out)))
     (case aF => exact (fun k_ hk => .inr ⟨⟨Kd.fresh' (Kd.R_lt (xR HO_476000.out)) k_ hk, Kd.fresh' (Kd.S_lt (xS HO_476001.out)) k_ hk, Kd.fresh' (Kd.R_lt (xR HO480.out)) k_ hk, ⟨Kd.fresh' (Kd.S_lt (xS HO483.out)) k_ hk, dmQ_hi (Nat.le_trans (by first | exact HNN.out | (simp only [nblk_setCell]; exact HNN.out) | simpa [World.setCell] using HNN.out | simpa [World.setCell, World.drew] using HNN.out) hk)⟩⟩, hk⟩))
     (case aO => exact (by (with_reducible repeat (first | apply Kd.R_alloc | apply Kd.R_drewN | apply Kd.R_drew)); exact Kd.R_mono UU53.out (fun _ hk => .inl hk)))
     (case aS => exact (below_size (by repeat (first | (with_reducible first | exact HB.out | apply below_alloc | apply pw_below_drewN | apply below_drew1 | refine below_set ?_ GE473.out | refine below_set ?_ GE474.out | refine below_set ?_ GE475.out | refine below_set ?_ GE476.out | refine below_set ?_ GE485.out) | exact HB.out))))
     (case aL => have := LMc20.out; omega)
     intro v494 w54 ho hb hg hat
     (first | have HS2_ := cell_grown hg (hHeld.2.2) (by first | (rw [add_block]; exact (fun e_ => ((HL492_0.out.1 _ e_.symm).2) rfl)) | (show some (Addr.add _ _).block ≠ _; rw [add_block]; exact (fun e_ => ((HL492_0.out.1 _ e_.symm).2) rfl)) | exact (fun e_ => ((HL492_0.out.1 _ e_.symm).2) rfl)) | have HS2_ := cell_grown hg (cell_unalloc (hHeld.2.2) (by first | (rw [add_block]; exact Kd.S_lt HO491.out _ rfl) | (show (Addr.add _ _).block < _; rw [add_block]; exact Kd.S_lt HO491.out _ rfl) | exact Kd.S_lt HO491.out _ rfl)) (by first | (rw [add_block]; exact (fun e_ => ((HL492_0.out.1 _ e_.symm).2) rfl)) | (show some (Addr.add _ _).block ≠ _; rw [add_block]; exact (fun e_ => ((HL492_0.out.1 _ e_.symm).2) rfl)) | exact (fun e_ => ((HL492_0.out.1 _ e_.symm).2) rfl)))
     rw [← Ny493.out] at ho
     have n0_ := ax (Kd.R_grown2 (xR HO_476000.out) rfl hg (fun k_ e_ => (HL492_0.out.1 k_ e_).1.1))
     have n1_ := True.intro
     have n2_ := ax (blk_grown (g := gb473) (o := .cells #[.slice none 0 0, .slice none 0 0] 36 (0, 0)) (xk BK473.out) hg (Kd.R_ne HL492_0.out BK473.out (by decide)))
     have n3_ := ax (blk_grown (g := gb474) (o := .cells #[.slice none 0 0, .slice none 0 0] 36 (0, 0)) (xk BK474.out) hg (Kd.R_ne HL492_0.out BK474.out (by decide)))
     have n4_ := ax (blk_grown (g := gb475) (o := .cells #[.slice Ao28 t478.length co28, .slice Ao30 t481.length co30] 36 (0, 0)) (xk BK475.out) hg (Kd.R_ne HL492_0.out BK475.out (by decide)))
     have n5_ := ax (blk_grown (g := gb476) (o := .cells #[.slice none 0 0, .slice (some ⟨go53, 0, none⟩) y489.length co49] 36 (0, 0)) (xk BK476.out) hg (Kd.R_ne HL492_0.out BK476.out (by decide)))
     have n6_ := ax (Kd.R_grown2 (xR HO480.out) rfl hg (fun k_ e_ => (HL492_0.out.1 k_ e_).1.2.2.1))
     have n7_ := ax (Kd.S_grown (xS HO483.out) hg (fun k_ (hk_ : (fun k_ => some k_ ≠ (.slice Ao22 x476000_1.length co22 : Value).ownBlock ∧ some k_ ≠ (.slice Ao23 x476001_1.length co23 : Value).ownBlock ∧ some k_ ≠ (.slice Ao28 t478.length co28 : Value).ownBlock ∧ some k_ ≠ (.slice (some ⟨go53, 0, none⟩) y489.length co49 : Value).ownBlock ∧ k_ ≠ dmP N506_ k_) k_) e_ => dmPQ hk_.2.2.2.2 (HL492_0.out.1 k_ e_.symm).1.2.2.2.2))
     have n8_ := ax (blk_grown (g := gb485) (o := .cells #[.slice Ao28 t478.length co28, .slice Ao30 t481.length co30] 36 (0, 0)) (xk BK485.out) hg (Kd.R_ne HL492_0.out BK485.out (by decide)))
     have n9_ := ax (hb)
     have n10_ := ax (Kd.H_grown (Kd.H_widen (by repeat (first | exact HH53.out | refine Kd.H_alloc ?_ _ | refine Kd.H_drewN ?_ _ | refine Kd.H_drew ?_))) hg (fun k_ e_ => .inl (UU53.out.1 k_ e_)))
     have n11_ := ax (ho)
     clear HO_476000 HO_476001 BK473 BK474 BK475 BK476 HO480 HO483 BK485 HB HH53 HO491 UU53 HL492_0
     have HO_476000 := n0_
     have HO_476001 := n1_
     have BK473 := n2_
     have BK474 := n3_
     have BK475 := n4_
     have BK476 := n5_
     have HO480 := n6_
     have HO483 := n7_
     have BK485 := n8_
     have HB := n9_
     have HH53 := n10_
     have HO495 := n11_
     clear n0_ n1_ n2_ n3_ n4_ n5_ n6_ n7_ n8_ n9_ n10_ n11_ ho hb hg hat
     have p21 : 0 ≤ (t484 : Int) := xd
     have q21 : (t484 : Int) < ((y489.length : Int) : Int) := xd
     replace p21 := eq_true p21
     replace q21 := eq_true q21
     obtain ⟨Ao57, co57, eo57⟩ := Kd.R_slice HO495.out
     (first | subst eo57 | (injection eo57 with f1_ f2_ f3_; have f4_ := f1_.symm; have f5_ := f3_.symm; clear f1_ f2_ f3_; subst f4_; subst f5_))
     obtain ⟨_, _, hraw55, _, _, hcc55, _⟩ := Kd.H_raw HH53.out (xd) (by have h_ : (t484 : Int) < ((y489.length : Int) : Int) := xd; first | exact h_ | (have e_ := (HN53.out); omega) | simpa using h_)
     obtain ⟨_, hfr55⟩ := Kd.H_at HH53.out (xd) (by have h_ : (t484 : Int) < ((y489.length : Int) : Int) := xd; first | exact h_ | (have e_ := (HN53.out); omega) | simpa using h_)
     have hx55_0 := hcc55 0 _ rfl
     have hf55_0 := hfr55 0
     (try simp only [Nat.add_zero] at hx55_0 hf55_0)
     (try rw [show ((Kd.slice 3 (Kd.int .i64))).sz = 1 from rfl, Nat.mul_one] at hx55_0)
     (try rw [show ((Kd.slice 3 (Kd.int .i64))).sz = 1 from rfl, Nat.mul_one] at hf55_0)
     have HP55 := Kd.S_seg0 HH53.out (xd) (by have h_ : (t484 : Int) < ((y489.length : Int) : Int) := xd; first | exact h_ | (have e_ := (HN53.out); omega) | simpa using h_) (seg := [.slice Ao57 y493.length co57]) (j := 0) (show 1 ≤ 1 from by decide) (x' := y493) (Kd.M_row HO495.out) (fun _ hk => hk)
     (try simp only [show ((Kd.slice 3 (Kd.int .i64))).sz = 1 from rfl, Nat.mul_one, Nat.add_zero] at HP55)
     clear hcc55 hfr55
     have HNB473_go53 := ax (show gb473 ≠ go53 from by have h_ := Kd.R_ne hraw55 BK473.out (by decide); intro e_; exact h_ (by rw [e_]; rfl))
     have HNB474_go53 := ax (show gb474 ≠ go53 from by have h_ := Kd.R_ne hraw55 BK474.out (by decide); intro e_; exact h_ (by rw [e_]; rfl))
     have HNB475_go53 := ax (show gb475 ≠ go53 from by have h_ := Kd.R_ne hraw55 BK475.out (by decide); intro e_; exact h_ (by rw [e_]; rfl))
     have HNB476_go53 := ax (show gb476 ≠ go53 from by have h_ := Kd.R_ne hraw55 BK476.out (by decide); intro e_; exact h_ (by rw [e_]; rfl))
     have HNB485_go53 := ax (show gb485 ≠ go53 from by have h_ := Kd.R_ne hraw55 BK485.out (by decide); intro e_; exact h_ (by rw [e_]; rfl))
     have HS55 := HP55.1
     rw [← Ny496.out] at HS55
     have HQ55 := ax HS55
     obtain ⟨_, hgg55⟩ := Kd.R_typed hraw55 go53 rfl
     have GG55_ := ax hgg55
     clear HP55 HS55 hgg55
     refine hK.out _ _ ⟨(blk_cell BK476.out 0).trans rfl, (blk_cell BK476.out 1).trans rfl, HS2_⟩ (fun hHeld => ?_)
     clear hK K
     refine nm ?_
     refine pu (i := 12) (N := some 50) (xB 14 8191) HT_.out ?_
     refine last_ (i := 13) (N := none) (xB 14 16383) rfl rfl (one_of HT_.out (by kernel_rfl)) (by decide) (fun K hK => ?_)
     refine skip_ (w1 := ?_) (by rfl) rfl ?_ ?_
     rotate_left
     ·go_simp
      rfl
     refine hK.out _ _ ?_
     clear hK K
     refine done_ (done_of HT_.out (by kernel_rfl)) ?_
     try go_wp2
     go_roundg k1
     case measure => have := HK1.out; omega
     case rel => exact ⟨(wrap64 (x6_1 + 1)), (t478), (t481), (y496), (.slice Ao28 t478.length co28), (.slice Ao30 t481.length co30), (.slice (some ⟨go53, 0, none⟩) y489.length co49), xr, H', ⟨by have := HK1.out; omega⟩, ⟨by (with_reducible repeat (first | apply Kd.R_alloc | apply Kd.R_drewN | apply Kd.R_drew)); exact Kd.R_mono (Kd.R_far (p := ⟨go53, (t484 : Int).toNat, none⟩) (Kd.R_types HO480.out GG55_.out (by decide)) (fun _ hk => hk.2) (.slice Ao57 y493.length co57)) (fun _ hk => trivial)⟩, ⟨by (with_reducible repeat (first | apply Kd.S_alloc | apply Kd.S_drewN | apply Kd.S_drew)); exact Kd.S_mono (Kd.S_far (p := ⟨go53, (t484 : Int).toNat, none⟩) (Kd.S_mono HO483.out (fun k_ hk => (⟨hk, fun e_ => hk.2.2.2.1 (by rw [e_]; rfl)⟩ : _ ∧ k_ ≠ go53))) (fun _ hk => hk.2) (.slice Ao57 y493.length co57)) (fun _ hk => ⟨hk.1.2.2.1, hk.1.2.2.2.1⟩)⟩, ⟨by (with_reducible repeat (first | apply Kd.S_alloc | apply Kd.S_drewN | apply Kd.S_drew)); exact Kd.S_mono HQ55.out (fun _ hk => ⟨hk.2.2.1, hk.2.2.2.1⟩)⟩, ⟨by (with_reducible repeat (first | refine blk_drewN ?_ _ | refine blk_drew ?_ | refine blk_alloc ?_ _)); refine blk_far ?_ HNB473_go53.out _; (with_reducible repeat (first | refine blk_drewN ?_ _ | refine blk_drew ?_ | refine blk_alloc ?_ _)); exact BK473.out⟩, ⟨by (with_reducible repeat (first | refine blk_drewN ?_ _ | refine blk_drew ?_ | refine blk_alloc ?_ _)); refine blk_far ?_ HNB474_go53.out _; (with_reducible repeat (first | refine blk_drewN ?_ _ | refine blk_drew ?_ | refine blk_alloc ?_ _)); exact BK474.out⟩, ⟨by (with_reducible repeat (first | refine blk_drewN ?_ _ | refine blk_drew ?_ | refine blk_alloc ?_ _)); refine blk_far ?_ HNB475_go53.out _; (with_reducible repeat (first | refine blk_drewN ?_ _ | refine blk_drew ?_ | refine blk_alloc ?_ _)); exact BK475.out⟩, ⟨by (with_reducible repeat (first | refine blk_drewN ?_ _ | refine blk_drew ?_ | refine blk_alloc ?_ _)); refine blk_far ?_ HNB476_go53.out _; (with_reducible repeat (first | refine blk_drewN ?_ _ | refine blk_drew ?_ | refine blk_alloc ?_ _)); exact BK476.out⟩, ⟨by repeat (first | (with_reducible first | exact HB.out | apply below_alloc | apply pw_below_drewN | apply below_drew1 | refine below_set ?_ GB53.out | refine below_set ?_ GE473.out | refine below_set ?_ GE474.out | refine below_set ?_ GE475.out | refine below_set ?_ GE476.out | refine below_set ?_ GE485.out) | exact HB.out)⟩⟩
    ·rw [if_neg c16] at H
     have c16b0 : (t484 == (x477001_1.length : Int)) = false := beq_eq_false_iff_ne.mpr c16
     have c16b1 : (t484 != (x477001_1.length : Int)) = true := bne_iff_ne.mpr c16
     by_cases c58 : 0 ≤ t484
     case neg => (rw [if_neg c58] at H; exact absurd H (by simp))
     rw [if_pos c58] at H
     have c58b0 := decide_eq_true c58
     clear c58
     by_cases c59 : t484 < (x477001_1.length : Int)
     case neg => (rw [if_neg c59] at H; exact absurd H (by simp))
     rw [if_pos c59] at H
     have c59b0 := decide_eq_true c59
     clear c59
     by_cases c60 : (rd_L2 x477001_1 t484).length < 17592186044416
     case neg => (rw [if_neg c60] at H; exact absurd H (by simp))
     rw [if_pos c60] at H
     have LMc60 := ax c60
     clear c60
     obtain ⟨y498, hy498⟩ : ∃ y_ : List Int, y_ = ((rd_L2 x477001_1 t484) ++ [wrap64 (x6_1 + 1)]) := ⟨_, rfl⟩
     replace H : (spec_l9Both.l0 k1 l0 (wrap64 (x6_1 + 1)) t478 t481 (x477001_1.set (t484 : Int).toNat y498)) = some (r1, r2, r3, r4) := xv hy498 H
     have Ny498 := ax hy498
     clear hy498
     obtain ⟨y501, hy501⟩ : ∃ y_ : List (List Int), y_ = (x477001_1.set (t484 : Int).toNat y498) := ⟨_, rfl⟩
     replace H : (spec_l9Both.l0 k1 l0 (wrap64 (x6_1 + 1)) t478 t481 y501) = some (r1, r2, r3, r4) := xv hy501 H
     have Ny501 := ax hy501
     clear hy501
     have H' := ax H
     clear H
     obtain ⟨Ao62, co62, eo62⟩ := Kd.R_slice HO_476000.out
     subst eo62
     obtain ⟨Ao63, co63, eo63⟩ := Kd.S_slice HO_476001.out
     subst eo63
     try go_wp2
     replace HO_476000 := ax (Kd.R_drew HO_476000.out); replace HO_476001 := ax (Kd.S_drew HO_476001.out); replace HO_477001 := ax (Kd.S_drew HO_477001.out); replace BK473 := ax (blk_drew BK473.out); replace BK474 := ax (blk_drew BK474.out); replace BK475 := ax (blk_drew BK475.out); replace BK476 := ax (blk_drew BK476.out); replace HB := ax (below_drew1 HB.out)
     have p477 : 0 ≤ (x6_1 : Int) := xd
     have q477 : x6_1 < (l0.length : Int) := xd
     obtain ⟨ad477, e477, hx477_0⟩ := Kd.at_int HR0.out x6_1 p477 q477
     have hw477_0 := hx477_0
     cases e477
     (try replace hx477_0 := (HB.out.cell (World.block_lt_of_cell? w _ hx477_0)).trans hx477_0)
     replace p477 := eq_true p477
     replace q477 := eq_true q477
     refine start_ (n := 12) (S := fun w' => w'.cell? ⟨gb475, 0, none⟩ = some (.slice Ao62 x476000_1.length co62) ∧ w'.cell? ⟨gb475, 1, none⟩ = some (.slice Ao63 x476001_1.length co63) ∧ w'.cell? (ad477.add (x6_1).toNat) = some (.int .i64 (rd l0 x6_1))) (ds := []) (xB 12 0) (by kernel_rfl) rfl (by kernel_rfl) ⟨(blk_cell BK475.out 0).trans rfl, (blk_cell BK475.out 1).trans rfl, ((HB.out.cell (World.block_lt_of_cell? w _ hw477_0)).trans hw477_0)⟩ (fun hHeld => ?_); refine with_tabW spec_l9Both.tab6 spec_l9Both.bits6 (fun HT_ HW_ => ?_)
     generalize wr.drew = w64 at HO_476000 HO_476001 HO_477001 BK473 BK474 BK475 BK476 HB hx477_0 hHeld ⊢
     refine pu (i := 1) (N := some 19) (xB 12 2) HT_.out ?_
     refine pu (i := 2) (N := some 20) (xB 12 6) HT_.out ?_
     refine pu (i := 3) (N := some 21) (xB 12 14) HT_.out ?_
     refine tk (i := 0) (N := some 18) (xB 12 15) HT_.out HW_.out hHeld ?_
     refine tk (i := 4) (N := some 22) (xB 12 31) HT_.out HW_.out hHeld ?_
     refine join_ (σ := Value × Value × Nat × (Nat × Nat)) 2 (xB 12 1023) (fun s_ => [(23, .tuple #[.agg #[s_.1, s_.2.1], .int .i64 t484]), (7, .pointer (some ⟨s_.2.2.1, 0, none⟩)), (17, .tuple #[.agg #[s_.1, s_.2.1], .int .i64 t484]), (24, .agg #[s_.1, s_.2.1]), (25, .int .i64 t484)]) (fun s_ w' => (w'.cell? ⟨gb475, 0, none⟩ = some (.slice Ao62 x476000_1.length co62) ∧ w'.cell? ⟨gb475, 1, none⟩ = some (.slice Ao63 x476001_1.length co63) ∧ w'.cell? (ad477.add (x6_1).toNat) = some (.int .i64 (rd l0 x6_1))) ∧ (Kd.R (Kd.int .i64) 3 w' w.heap.size (fun k_ => some k_ ≠ (.slice Ao62 x476000_1.length co62 : Value).ownBlock) s_.1 t478) ∧ (Kd.S (Kd.slice 3 (Kd.int .i64)) 24 w' w.heap.size (fun k_ => some k_ ≠ (s_.1 : Value).ownBlock ∧ some k_ ≠ (.slice Ao62 x476000_1.length co62 : Value).ownBlock ∧ some k_ ≠ (.slice Ao63 x476001_1.length co63 : Value).ownBlock ∧ some k_ ≠ (u477001 : Value).ownBlock ∧ k_ ≠ dmP s_.2.2.2 k_) s_.2.1 t481) ∧ (Kd.R (Kd.int .i64) 3 w' w.heap.size (fun k_ => some k_ ≠ (s_.1 : Value).ownBlock) (.slice Ao62 x476000_1.length co62) x476000_1) ∧ (Kd.S (Kd.slice 3 (Kd.int .i64)) 24 w' w.heap.size (fun k_ => some k_ ≠ (s_.1 : Value).ownBlock ∧ some k_ ≠ (s_.2.1 : Value).ownBlock ∧ some k_ ≠ (.slice Ao62 x476000_1.length co62 : Value).ownBlock ∧ some k_ ≠ (u477001 : Value).ownBlock) (.slice Ao63 x476001_1.length co63) x476001_1) ∧ (Kd.S (Kd.slice 3 (Kd.int .i64)) 24 w' w.heap.size (fun k_ => some k_ ≠ (s_.1 : Value).ownBlock ∧ some k_ ≠ (s_.2.1 : Value).ownBlock ∧ some k_ ≠ (.slice Ao62 x476000_1.length co62 : Value).ownBlock ∧ some k_ ≠ (.slice Ao63 x476001_1.length co63 : Value).ownBlock ∧ k_ ≠ dmQ s_.2.2.2 k_) u477001 x477001_1) ∧ (w'.heap[gb473]? = some (.cells #[.slice none 0 0, .slice none 0 0] 36 (0, 0))) ∧ (w'.heap[gb474]? = some (.cells #[.slice none 0 0, .slice none 0 0] 36 (0, 0))) ∧ (w'.heap[gb475]? = some (.cells #[.slice Ao62 x476000_1.length co62, .slice Ao63 x476001_1.length co63] 36 (0, 0))) ∧ (w'.heap[gb476]? = some (.cells #[.slice none 0 0, u477001] 36 (0, 0))) ∧ (w'.heap[s_.2.2.1]? = some (.cells #[.slice none 0 0, .slice none 0 0] 36 (0, 0))) ∧ (w.heap.size ≤ s_.2.2.1) ∧ (w.heap.size ≤ s_.2.2.1) ∧ (gb473 ≠ s_.2.2.1) ∧ (s_.2.2.1 ≠ gb473) ∧ (gb474 ≠ s_.2.2.1) ∧ (s_.2.2.1 ≠ gb474) ∧ (gb475 ≠ s_.2.2.1) ∧ (s_.2.2.1 ≠ gb475) ∧ (gb476 ≠ s_.2.2.1) ∧ (s_.2.2.1 ≠ gb476) ∧ (Below w.heap.size w w') ∧ (s_.2.2.2.2 ≤ w'.heap.size)) ?_ ?_
     rotate_left
     ·intro hCont
      refine two_ (i := 5) (j := 9) (Ni := some 23) (Nj := some 7) (xB 12 63) (xB 12 543) rfl rfl rfl rfl (two_of HT_.out (by kernel_rfl)) (by decide) (by decide) (fun K hK => ?_) (fun K hK => ?_)
      ·skip
       refine goes_ Try.func41 (by kernel_rfl) rfl #[.agg #[.slice Ao62 x476000_1.length co62, .slice Ao63 x476001_1.length co63], .int .i64 (rd l0 x6_1)] (by rfl) rfl rfl xm ?_
       with_reducible refine (spec_l9Insert.calls k1 _ _ x476000_1 _ _ x476001_1 (rd l0 x6_1) t478 t481 t484 _ ?side1 ?side2 ?side3 ?side4 A15.out).mono ?_
       (case side1 => exact xc (Kd.R_reads' HO_476000.out).2.2)
       (case side2 => exact (Kd.R_reads' HO_476000.out).2.1)
       (case side3 => exact xc (Kd.S_reads' HO_476001.out).2.2)
       (case side4 => exact (Kd.S_reads' HO_476001.out).2.1)
       rintro e w65 ⟨v479, v482, rfl, ho0, ho1, hb⟩
       refine ⟨_, rfl, ?_⟩
       replace ho1 := Kd.deepP ho1
       obtain ⟨N508_, ho1, hN508_⟩ := ho1
       have HNN := ax (Nat.le_of_eq hN508_.2)
       have HO480 := ax (Kd.R_lower (Kd.R_new' ho0 (Kd.R_lt (xR HO_476000.out))) (below_size (by repeat (first | (with_reducible first | exact HB.out | apply below_alloc | apply pw_below_drewN | apply below_drew1 | refine below_set ?_ GE473.out | refine below_set ?_ GE474.out | refine below_set ?_ GE475.out | refine below_set ?_ GE476.out) | exact HB.out)))); have HO483 := ax (Kd.S_lower (Kd.S_new' (Kd.S_new' (Kd.S_new' ho1 (Kd.R_lt (xR HO_476000.out))) (Kd.S_lt (xS HO_476001.out))) (Kd.S_lt (xS HO_477001.out))) (below_size (by repeat (first | (with_reducible first | exact HB.out | apply below_alloc | apply pw_below_drewN | apply below_drew1 | refine below_set ?_ GE473.out | refine below_set ?_ GE474.out | refine below_set ?_ GE475.out | refine below_set ?_ GE476.out) | exact HB.out)))); replace HO_476000 := ax (Kd.R_elder' (xR HO_476000.out) (Kd.R_base ho0) hb); replace HO_476001 := ax (Kd.S_mono (Kd.S_told (Kd.S_told (Kd.S_old (xS HO_476001.out) hb) (Kd.R_base ho0)) (Kd.S_base ho1)) (fun _ h_ => h_.1)); replace HO_477001 := ax (Kd.S_toldD (Kd.S_told (Kd.S_told (Kd.S_old (xS HO_477001.out) hb) (Kd.R_base ho0)) (Kd.S_base ho1)) hN508_.1); replace BK473 := ax (blk_below (g := gb473) (o := .cells #[.slice none 0 0, .slice none 0 0] 36 (0, 0)) (xk BK473.out) hb); replace BK474 := ax (blk_below (g := gb474) (o := .cells #[.slice none 0 0, .slice none 0 0] 36 (0, 0)) (xk BK474.out) hb); replace BK475 := ax (blk_below (g := gb475) (o := .cells #[.slice Ao62 x476000_1.length co62, .slice Ao63 x476001_1.length co63] 36 (0, 0)) (xk BK475.out) hb); replace BK476 := ax (blk_below (g := gb476) (o := .cells #[.slice none 0 0, u477001] 36 (0, 0)) (xk BK476.out) hb); replace HB := ax (below_step (by repeat (first | (with_reducible first | exact HB.out | apply below_alloc | apply pw_below_drewN | apply below_drew1 | refine below_set ?_ GE473.out | refine below_set ?_ GE474.out | refine below_set ?_ GE475.out | refine below_set ?_ GE476.out) | exact HB.out)) hb)
       (try clear hb)
       (try clear hk)
       (try clear ho0)
       (try clear ho1)
       (try clear hN508_)
       refine hK.out _ _ ⟨(blk_cell BK475.out 0).trans rfl, (blk_cell BK475.out 1).trans rfl, ((HB.out.cell (World.block_lt_of_cell? w _ hw477_0)).trans hw477_0)⟩ (fun hHeld => ?_)
       clear hK K
       refine nm ?_
       refine pu (i := 6) (N := some 17) (xB 12 127) HT_.out ?_
       refine pu (i := 7) (N := some 24) (xB 12 255) HT_.out ?_
       refine pu (i := 8) (N := some 25) (xB 12 511) HT_.out ?_
       refine one_ (i := 9) (N := some 7) (xB 12 1023) rfl rfl (one_of HT_.out (by kernel_rfl)) (by decide) (fun K hK => ?_)
       refine box_step ?hg (N := 7) ?hd (cs := #[.slice none 0 0, .slice none 0 0]) (t := 36) ?hr ?_; (case hd => rfl); (case hg => rfl); (case hr => first | (go_simp; done) | (go_simp; rfl))
       intro gb485 hg w66 hbox hb
       (try replace HNN := ax (Nat.le_trans HNN.out (below_size hb)))
       replace HO_476000 := yR HO_476000 hb; replace HO_476001 := ax (Kd.S_below (xS HO_476001.out) hb); replace HO_477001 := ax (Kd.S_below (xS HO_477001.out) hb); replace HO480 := yR HO480 hb; replace HO483 := ax (Kd.S_below (xS HO483.out) hb); have BK485 := ax (hbox); have GW485 := ax ((by rw [hg]; exact (below_size (by repeat (first | (with_reducible first | exact HB.out | apply below_alloc | apply pw_below_drewN | apply below_drew1 | refine below_set ?_ GE473.out | refine below_set ?_ GE474.out | refine below_set ?_ GE475.out | refine below_set ?_ GE476.out) | exact HB.out))) : w.heap.size ≤ gb485)); have GE485 := ax ((by rw [hg]; exact (below_size (by repeat (first | (with_reducible first | exact HB.out | apply below_alloc | apply pw_below_drewN | apply below_drew1 | refine below_set ?_ GE473.out | refine below_set ?_ GE474.out | refine below_set ?_ GE475.out | refine below_set ?_ GE476.out) | exact HB.out))) : w.heap.size ≤ gb485)); replace HB := ax (below_step (by repeat (first | (with_reducible first | exact HB.out | apply below_alloc | apply pw_below_drewN | apply below_drew1 | refine below_set ?_ GE473.out | refine below_set ?_ GE474.out | refine below_set ?_ GE475.out | refine below_set ?_ GE476.out) | exact HB.out)) hb); have NB473_485 := ax ((by rw [hg]; exact Nat.ne_of_lt (blk_lt (g := gb473) (o := .cells #[.slice none 0 0, .slice none 0 0] 36 (0, 0)) (xk BK473.out)) : gb473 ≠ gb485)); have NB485_473 := ax ((by rw [hg]; exact Nat.ne_of_gt (blk_lt (g := gb473) (o := .cells #[.slice none 0 0, .slice none 0 0] 36 (0, 0)) (xk BK473.out)) : gb485 ≠ gb473)); replace BK473 := ax (blk_below (g := gb473) (o := .cells #[.slice none 0 0, .slice none 0 0] 36 (0, 0)) (xk BK473.out) hb); have NB474_485 := ax ((by rw [hg]; exact Nat.ne_of_lt (blk_lt (g := gb474) (o := .cells #[.slice none 0 0, .slice none 0 0] 36 (0, 0)) (xk BK474.out)) : gb474 ≠ gb485)); have NB485_474 := ax ((by rw [hg]; exact Nat.ne_of_gt (blk_lt (g := gb474) (o := .cells #[.slice none 0 0, .slice none 0 0] 36 (0, 0)) (xk BK474.out)) : gb485 ≠ gb474)); replace BK474 := ax (blk_below (g := gb474) (o := .cells #[.slice none 0 0, .slice none 0 0] 36 (0, 0)) (xk BK474.out) hb); have NB475_485 := ax ((by rw [hg]; exact Nat.ne_of_lt (blk_lt (g := gb475) (o := .cells #[.slice Ao62 x476000_1.length co62, .slice Ao63 x476001_1.length co63] 36 (0, 0)) (xk BK475.out)) : gb475 ≠ gb485)); have NB485_475 := ax ((by rw [hg]; exact Nat.ne_of_gt (blk_lt (g := gb475) (o := .cells #[.slice Ao62 x476000_1.length co62, .slice Ao63 x476001_1.length co63] 36 (0, 0)) (xk BK475.out)) : gb485 ≠ gb475)); replace BK475 := ax (blk_below (g := gb475) (o := .cells #[.slice Ao62 x476000_1.length co62, .slice Ao63 x476001_1.length co63] 36 (0, 0)) (xk BK475.out) hb); have NB476_485 := ax ((by rw [hg]; exact Nat.ne_of_lt (blk_lt (g := gb476) (o := .cells #[.slice none 0 0, u477001] 36 (0, 0)) (xk BK476.out)) : gb476 ≠ gb485)); have NB485_476 := ax ((by rw [hg]; exact Nat.ne_of_gt (blk_lt (g := gb476) (o := .cells #[.slice none 0 0, u477001] 36 (0, 0)) (xk BK476.out)) : gb485 ≠ gb476)); replace BK476 := ax (blk_below (g := gb476) (o := .cells #[.slice none 0 0, u477001] 36 (0, 0)) (xk BK476.out) hb); clear hb hbox hg
       refine hK.out _ _ ⟨(blk_cell BK475.out 0).trans rfl, (blk_cell BK475.out 1).trans rfl, ((HB.out.cell (World.block_lt_of_cell? w _ hw477_0)).trans hw477_0)⟩ (fun hHeld => ?_)
       clear hK K
       refine nm ?_
       exact norm_ (by simp only [putAll, Act.put, List.setIfInBounds_toArray, List.set_cons_zero, List.set_cons_succ]) (hCont (v479, v482, gb485, N508_) _ ⟨hHeld, (by (with_reducible repeat (first | apply Kd.R_alloc | apply Kd.R_drewN | apply Kd.R_drew)); exact Kd.R_mono HO480.out (fun _ hk => hk.2)), (by (with_reducible repeat (first | apply Kd.S_alloc | apply Kd.S_drewN | apply Kd.S_drew)); exact Kd.S_mono HO483.out (fun _ hk => ⟨hk.1.1.1.1, ⟨hk.1.1.2, ⟨hk.1.2, ⟨hk.2, hk.1.1.1.2⟩⟩⟩⟩)), (by (with_reducible repeat (first | apply Kd.R_alloc | apply Kd.R_drewN | apply Kd.R_drew)); exact Kd.R_mono HO_476000.out (fun _ hk => hk.2)), (by (with_reducible repeat (first | apply Kd.S_alloc | apply Kd.S_drewN | apply Kd.S_drew)); exact Kd.S_mono HO_476001.out (fun _ hk => ⟨hk.1.2, ⟨hk.2, ⟨hk.1.1.1, hk.1.1.2⟩⟩⟩)), (by (with_reducible repeat (first | apply Kd.S_alloc | apply Kd.S_drewN | apply Kd.S_drew)); exact Kd.S_mono HO_477001.out (fun _ hk => ⟨hk.1.1.2, ⟨hk.1.2, ⟨hk.1.1.1.1, ⟨hk.1.1.1.2, hk.2⟩⟩⟩⟩)), (xk BK473.out), (xk BK474.out), (xk BK475.out), (xk BK476.out), (xk BK485.out), GW485.out, GE485.out, NB473_485.out, NB485_473.out, NB474_485.out, NB485_474.out, NB475_485.out, NB485_475.out, NB476_485.out, NB485_476.out, (by repeat (first | (with_reducible first | exact HB.out | apply below_alloc | apply pw_below_drewN | apply below_drew1 | refine below_set ?_ GE473.out | refine below_set ?_ GE474.out | refine below_set ?_ GE475.out | refine below_set ?_ GE476.out | refine below_set ?_ GE485.out) | exact HB.out)), HNN.out⟩)
      ·skip
       refine box_step ?hg (N := 7) ?hd (cs := #[.slice none 0 0, .slice none 0 0]) (t := 36) ?hr ?_; (case hd => rfl); (case hg => rfl); (case hr => first | (go_simp; done) | (go_simp; rfl))
       intro gb485 hg w65 hbox hb
       (try replace HNN := ax (Nat.le_trans HNN.out (below_size hb)))
       replace HO_476000 := yR HO_476000 hb; replace HO_476001 := ax (Kd.S_below (xS HO_476001.out) hb); replace HO_477001 := ax (Kd.S_below (xS HO_477001.out) hb); have BK485 := ax (hbox); have GW485 := ax ((by rw [hg]; exact (below_size (by repeat (first | (with_reducible first | exact HB.out | apply below_alloc | apply pw_below_drewN | apply below_drew1 | refine below_set ?_ GE473.out | refine below_set ?_ GE474.out | refine below_set ?_ GE475.out | refine below_set ?_ GE476.out) | exact HB.out))) : w.heap.size ≤ gb485)); have GE485 := ax ((by rw [hg]; exact (below_size (by repeat (first | (with_reducible first | exact HB.out | apply below_alloc | apply pw_below_drewN | apply below_drew1 | refine below_set ?_ GE473.out | refine below_set ?_ GE474.out | refine below_set ?_ GE475.out | refine below_set ?_ GE476.out) | exact HB.out))) : w.heap.size ≤ gb485)); replace HB := ax (below_step (by repeat (first | (with_reducible first | exact HB.out | apply below_alloc | apply pw_below_drewN | apply below_drew1 | refine below_set ?_ GE473.out | refine below_set ?_ GE474.out | refine below_set ?_ GE475.out | refine below_set ?_ GE476.out) | exact HB.out)) hb); have NB473_485 := ax ((by rw [hg]; exact Nat.ne_of_lt (blk_lt (g := gb473) (o := .cells #[.slice none 0 0, .slice none 0 0] 36 (0, 0)) (xk BK473.out)) : gb473 ≠ gb485)); have NB485_473 := ax ((by rw [hg]; exact Nat.ne_of_gt (blk_lt (g := gb473) (o := .cells #[.slice none 0 0, .slice none 0 0] 36 (0, 0)) (xk BK473.out)) : gb485 ≠ gb473)); replace BK473 := ax (blk_below (g := gb473) (o := .cells #[.slice none 0 0, .slice none 0 0] 36 (0, 0)) (xk BK473.out) hb); have NB474_485 := ax ((by rw [hg]; exact Nat.ne_of_lt (blk_lt (g := gb474) (o := .cells #[.slice none 0 0, .slice none 0 0] 36 (0, 0)) (xk BK474.out)) : gb474 ≠ gb485)); have NB485_474 := ax ((by rw [hg]; exact Nat.ne_of_gt (blk_lt (g := gb474) (o := .cells #[.slice none 0 0, .slice none 0 0] 36 (0, 0)) (xk BK474.out)) : gb485 ≠ gb474)); replace BK474 := ax (blk_below (g := gb474) (o := .cells #[.slice none 0 0, .slice none 0 0] 36 (0, 0)) (xk BK474.out) hb); have NB475_485 := ax ((by rw [hg]; exact Nat.ne_of_lt (blk_lt (g := gb475) (o := .cells #[.slice Ao62 x476000_1.length co62, .slice Ao63 x476001_1.length co63] 36 (0, 0)) (xk BK475.out)) : gb475 ≠ gb485)); have NB485_475 := ax ((by rw [hg]; exact Nat.ne_of_gt (blk_lt (g := gb475) (o := .cells #[.slice Ao62 x476000_1.length co62, .slice Ao63 x476001_1.length co63] 36 (0, 0)) (xk BK475.out)) : gb485 ≠ gb475)); replace BK475 := ax (blk_below (g := gb475) (o := .cells #[.slice Ao62 x476000_1.length co62, .slice Ao63 x476001_1.length co63] 36 (0, 0)) (xk BK475.out) hb); have NB476_485 := ax ((by rw [hg]; exact Nat.ne_of_lt (blk_lt (g := gb476) (o := .cells #[.slice none 0 0, u477001] 36 (0, 0)) (xk BK476.out)) : gb476 ≠ gb485)); have NB485_476 := ax ((by rw [hg]; exact Nat.ne_of_gt (blk_lt (g := gb476) (o := .cells #[.slice none 0 0, u477001] 36 (0, 0)) (xk BK476.out)) : gb485 ≠ gb476)); replace BK476 := ax (blk_below (g := gb476) (o := .cells #[.slice none 0 0, u477001] 36 (0, 0)) (xk BK476.out) hb); clear hb hbox hg
       refine hK.out _ _ ⟨(blk_cell BK475.out 0).trans rfl, (blk_cell BK475.out 1).trans rfl, ((HB.out.cell (World.block_lt_of_cell? w _ hw477_0)).trans hw477_0)⟩ (fun hHeld => ?_)
       clear hK K
       refine nm ?_
       refine one_ (i := 5) (N := some 23) (xB 12 575) rfl rfl (one_of HT_.out (by kernel_rfl)) (by decide) (fun K hK => ?_)
       refine goes_ Try.func41 (by kernel_rfl) rfl #[.agg #[.slice Ao62 x476000_1.length co62, .slice Ao63 x476001_1.length co63], .int .i64 (rd l0 x6_1)] (by rfl) rfl rfl xm ?_
       with_reducible refine (spec_l9Insert.calls k1 _ _ x476000_1 _ _ x476001_1 (rd l0 x6_1) t478 t481 t484 _ ?side1 ?side2 ?side3 ?side4 A15.out).mono ?_
       (case side1 => exact xc (Kd.R_reads' HO_476000.out).2.2)
       (case side2 => exact (Kd.R_reads' HO_476000.out).2.1)
       (case side3 => exact xc (Kd.S_reads' HO_476001.out).2.2)
       (case side4 => exact (Kd.S_reads' HO_476001.out).2.1)
       rintro e w66 ⟨v479, v482, rfl, ho0, ho1, hb⟩
       refine ⟨_, rfl, ?_⟩
       replace ho1 := Kd.deepP ho1
       obtain ⟨N510_, ho1, hN510_⟩ := ho1
       have HNN := ax (Nat.le_of_eq hN510_.2)
       have HO480 := ax (Kd.R_lower (Kd.R_new' ho0 (Kd.R_lt (xR HO_476000.out))) (below_size (by repeat (first | (with_reducible first | exact HB.out | apply below_alloc | apply pw_below_drewN | apply below_drew1 | refine below_set ?_ GE473.out | refine below_set ?_ GE474.out | refine below_set ?_ GE475.out | refine below_set ?_ GE476.out | refine below_set ?_ GE485.out) | exact HB.out)))); have HO483 := ax (Kd.S_lower (Kd.S_new' (Kd.S_new' (Kd.S_new' ho1 (Kd.R_lt (xR HO_476000.out))) (Kd.S_lt (xS HO_476001.out))) (Kd.S_lt (xS HO_477001.out))) (below_size (by repeat (first | (with_reducible first | exact HB.out | apply below_alloc | apply pw_below_drewN | apply below_drew1 | refine below_set ?_ GE473.out | refine below_set ?_ GE474.out | refine below_set ?_ GE475.out | refine below_set ?_ GE476.out | refine below_set ?_ GE485.out) | exact HB.out)))); replace HO_476000 := ax (Kd.R_elder' (xR HO_476000.out) (Kd.R_base ho0) hb); replace HO_476001 := ax (Kd.S_mono (Kd.S_told (Kd.S_told (Kd.S_old (xS HO_476001.out) hb) (Kd.R_base ho0)) (Kd.S_base ho1)) (fun _ h_ => h_.1)); replace HO_477001 := ax (Kd.S_toldD (Kd.S_told (Kd.S_told (Kd.S_old (xS HO_477001.out) hb) (Kd.R_base ho0)) (Kd.S_base ho1)) hN510_.1); replace BK473 := ax (blk_below (g := gb473) (o := .cells #[.slice none 0 0, .slice none 0 0] 36 (0, 0)) (xk BK473.out) hb); replace BK474 := ax (blk_below (g := gb474) (o := .cells #[.slice none 0 0, .slice none 0 0] 36 (0, 0)) (xk BK474.out) hb); replace BK475 := ax (blk_below (g := gb475) (o := .cells #[.slice Ao62 x476000_1.length co62, .slice Ao63 x476001_1.length co63] 36 (0, 0)) (xk BK475.out) hb); replace BK476 := ax (blk_below (g := gb476) (o := .cells #[.slice none 0 0, u477001] 36 (0, 0)) (xk BK476.out) hb); replace BK485 := ax (blk_below (g := gb485) (o := .cells #[.slice none 0 0, .slice none 0 0] 36 (0, 0)) (xk BK485.out) hb); replace HB := ax (below_step (by repeat (first | (with_reducible first | exact HB.out | apply below_alloc | apply pw_below_drewN | apply below_drew1 | refine below_set ?_ GE473.out | refine below_set ?_ GE474.out | refine below_set ?_ GE475.out | refine below_set ?_ GE476.out | refine below_set ?_ GE485.out) | exact HB.out)) hb)
       (try clear hb)
       (try clear hk)
       (try clear ho0)
       (try clear ho1)
       (try clear hN510_)
       refine hK.out _ _ ⟨(blk_cell BK475.out 0).trans rfl, (blk_cell BK475.out 1).trans rfl, ((HB.out.cell (World.block_lt_of_cell? w _ hw477_0)).trans hw477_0)⟩ (fun hHeld => ?_)
       clear hK K
       refine nm ?_
       refine pu (i := 6) (N := some 17) (xB 12 639) HT_.out ?_
       refine pu (i := 7) (N := some 24) (xB 12 767) HT_.out ?_
       refine pu (i := 8) (N := some 25) (xB 12 1023) HT_.out ?_
       exact norm_ (by simp only [putAll, Act.put, List.setIfInBounds_toArray, List.set_cons_zero, List.set_cons_succ]) (hCont (v479, v482, gb485, N510_) _ ⟨hHeld, (by (with_reducible repeat (first | apply Kd.R_alloc | apply Kd.R_drewN | apply Kd.R_drew)); exact Kd.R_mono HO480.out (fun _ hk => hk.2)), (by (with_reducible repeat (first | apply Kd.S_alloc | apply Kd.S_drewN | apply Kd.S_drew)); exact Kd.S_mono HO483.out (fun _ hk => ⟨hk.1.1.1.1, ⟨hk.1.1.2, ⟨hk.1.2, ⟨hk.2, hk.1.1.1.2⟩⟩⟩⟩)), (by (with_reducible repeat (first | apply Kd.R_alloc | apply Kd.R_drewN | apply Kd.R_drew)); exact Kd.R_mono HO_476000.out (fun _ hk => hk.2)), (by (with_reducible repeat (first | apply Kd.S_alloc | apply Kd.S_drewN | apply Kd.S_drew)); exact Kd.S_mono HO_476001.out (fun _ hk => ⟨hk.1.2, ⟨hk.2, ⟨hk.1.1.1, hk.1.1.2⟩⟩⟩)), (by (with_reducible repeat (first | apply Kd.S_alloc | apply Kd.S_drewN | apply Kd.S_drew)); exact Kd.S_mono HO_477001.out (fun _ hk => ⟨hk.1.1.2, ⟨hk.1.2, ⟨hk.1.1.1.1, ⟨hk.1.1.1.2, hk.2⟩⟩⟩⟩)), (xk BK473.out), (xk BK474.out), (xk BK475.out), (xk BK476.out), (xk BK485.out), GW485.out, GE485.out, NB473_485.out, NB485_473.out, NB474_485.out, NB485_474.out, NB475_485.out, NB485_475.out, NB476_485.out, NB485_476.out, (by repeat (first | (with_reducible first | exact HB.out | apply below_alloc | apply pw_below_drewN | apply below_drew1 | refine below_set ?_ GE473.out | refine below_set ?_ GE474.out | refine below_set ?_ GE475.out | refine below_set ?_ GE476.out | refine below_set ?_ GE485.out) | exact HB.out)), HNN.out⟩)
     rintro ⟨v479, v482, gb485, N512_⟩ w67 ⟨hS_, h0_, h1_, h2_, h3_, h4_, h5_, h6_, h7_, h8_, h9_, h10_, h11_, h12_, h13_, h14_, h15_, h16_, h17_, h18_, h19_, h20_, h21_⟩
     have HNN := ax h21_
     clear h21_
     have n0_ : Aside0 (Kd.R (Kd.int .i64) 3 w67 w.heap.size (fun k_ => some k_ ≠ (.slice Ao62 x476000_1.length co62 : Value).ownBlock) v479 t478) := ⟨h0_⟩
     have n1_ : Aside0 (Kd.S (Kd.slice 3 (Kd.int .i64)) 24 w67 w.heap.size (fun k_ => some k_ ≠ (v479 : Value).ownBlock ∧ some k_ ≠ (.slice Ao62 x476000_1.length co62 : Value).ownBlock ∧ some k_ ≠ (.slice Ao63 x476001_1.length co63 : Value).ownBlock ∧ some k_ ≠ (u477001 : Value).ownBlock ∧ k_ ≠ dmP N512_ k_) v482 t481) := ⟨h1_⟩
     have n2_ : Aside0 (Kd.R (Kd.int .i64) 3 w67 w.heap.size (fun k_ => some k_ ≠ (v479 : Value).ownBlock) (.slice Ao62 x476000_1.length co62) x476000_1) := ⟨h2_⟩
     have n3_ : Aside0 (Kd.S (Kd.slice 3 (Kd.int .i64)) 24 w67 w.heap.size (fun k_ => some k_ ≠ (v479 : Value).ownBlock ∧ some k_ ≠ (v482 : Value).ownBlock ∧ some k_ ≠ (.slice Ao62 x476000_1.length co62 : Value).ownBlock ∧ some k_ ≠ (u477001 : Value).ownBlock) (.slice Ao63 x476001_1.length co63) x476001_1) := ⟨h3_⟩
     have n4_ : Aside0 (Kd.S (Kd.slice 3 (Kd.int .i64)) 24 w67 w.heap.size (fun k_ => some k_ ≠ (v479 : Value).ownBlock ∧ some k_ ≠ (v482 : Value).ownBlock ∧ some k_ ≠ (.slice Ao62 x476000_1.length co62 : Value).ownBlock ∧ some k_ ≠ (.slice Ao63 x476001_1.length co63 : Value).ownBlock ∧ k_ ≠ dmQ N512_ k_) u477001 x477001_1) := ⟨h4_⟩
     have n5_ : Aside0 (w67.heap[gb473]? = some (.cells #[.slice none 0 0, .slice none 0 0] 36 (0, 0))) := ⟨h5_⟩
     have n6_ : Aside0 (w67.heap[gb474]? = some (.cells #[.slice none 0 0, .slice none 0 0] 36 (0, 0))) := ⟨h6_⟩
     have n7_ : Aside0 (w67.heap[gb475]? = some (.cells #[.slice Ao62 x476000_1.length co62, .slice Ao63 x476001_1.length co63] 36 (0, 0))) := ⟨h7_⟩
     have n8_ : Aside0 (w67.heap[gb476]? = some (.cells #[.slice none 0 0, u477001] 36 (0, 0))) := ⟨h8_⟩
     have n9_ : Aside0 (w67.heap[gb485]? = some (.cells #[.slice none 0 0, .slice none 0 0] 36 (0, 0))) := ⟨h9_⟩
     have n10_ : Aside0 (w.heap.size ≤ gb485) := ⟨h10_⟩
     have n11_ : Aside0 (w.heap.size ≤ gb485) := ⟨h11_⟩
     have n12_ : Aside0 (gb473 ≠ gb485) := ⟨h12_⟩
     have n13_ : Aside0 (gb485 ≠ gb473) := ⟨h13_⟩
     have n14_ : Aside0 (gb474 ≠ gb485) := ⟨h14_⟩
     have n15_ : Aside0 (gb485 ≠ gb474) := ⟨h15_⟩
     have n16_ : Aside0 (gb475 ≠ gb485) := ⟨h16_⟩
     have n17_ : Aside0 (gb485 ≠ gb475) := ⟨h17_⟩
     have n18_ : Aside0 (gb476 ≠ gb485) := ⟨h18_⟩
     have n19_ : Aside0 (gb485 ≠ gb476) := ⟨h19_⟩
     have n20_ : Aside0 (Below w.heap.size w w67) := ⟨h20_⟩
     clear HO_476000 HO_476001 HO_477001 BK473 BK474 BK475 BK476 HB h0_ h1_ h2_ h3_ h4_ h5_ h6_ h7_ h8_ h9_ h10_ h11_ h12_ h13_ h14_ h15_ h16_ h17_ h18_ h19_ h20_
     have HO480 := n0_
     have HO483 := n1_
     have HO_476000 := n2_
     have HO_476001 := n3_
     have HO_477001 := n4_
     have BK473 := n5_
     have BK474 := n6_
     have BK475 := n7_
     have BK476 := n8_
     have BK485 := n9_
     have GW485 := n10_
     have GE485 := n11_
     have NB473_485 := n12_
     have NB485_473 := n13_
     have NB474_485 := n14_
     have NB485_474 := n15_
     have NB475_485 := n16_
     have NB485_475 := n17_
     have NB476_485 := n18_
     have NB485_476 := n19_
     have HB := n20_
     clear n0_ n1_ n2_ n3_ n4_ n5_ n6_ n7_ n8_ n9_ n10_ n11_ n12_ n13_ n14_ n15_ n16_ n17_ n18_ n19_ n20_
     have hHeld : w67.cell? ⟨gb475, 0, none⟩ = some (.slice Ao62 x476000_1.length co62) ∧ w67.cell? ⟨gb475, 1, none⟩ = some (.slice Ao63 x476001_1.length co63) ∧ w67.cell? (ad477.add (x6_1).toNat) = some (.int .i64 (rd l0 x6_1)) := hS_
     obtain ⟨Ao68, co68, eo68⟩ := Kd.R_slice HO480.out
     (first | subst eo68 | (injection eo68 with f1_ f2_ f3_; have f4_ := f1_.symm; have f5_ := f3_.symm; clear f1_ f2_ f3_; subst f4_; subst f5_))
     obtain ⟨Ao70, co70, eo70⟩ := Kd.S_slice HO483.out
     (first | subst eo70 | (injection eo70 with f1_ f2_ f3_; have f4_ := f1_.symm; have f5_ := f3_.symm; clear f1_ f2_ f3_; subst f4_; subst f5_))
     refine norm_ (a' := ?_) ?_ ?_
     rotate_left
     ·simp only [putAll, Act.put, List.setIfInBounds_toArray, List.set_cons_zero, List.set_cons_succ]
      rfl
     refine one_ (i := 10) (N := none) (xB 12 2047) rfl rfl (one_of HT_.out (by kernel_rfl)) (by decide) (fun K hK => ?_)
     have hs69 : w67.cell? ⟨gb485, 0, none⟩ = some (.slice none 0 0) := (blk_cell BK485.out 0).trans rfl
     have hfs69 := blk_frozen BK485.out 0
     have hns69_0 := NB473_485.out
     have hns69_1 := NB474_485.out
     have hns69_2 := NB475_485.out
     have hns69_3 := NB476_485.out
     have hms69_0 := NB485_473.out
     have hms69_1 := NB485_474.out
     have hms69_2 := NB485_475.out
     have hms69_3 := NB485_476.out
     have hs71 : w67.cell? ⟨gb485, 1, none⟩ = some (.slice none 0 0) := (blk_cell BK485.out 1).trans rfl
     have hfs71 := blk_frozen BK485.out 1
     have hns71_0 := NB473_485.out
     have hns71_1 := NB474_485.out
     have hns71_2 := NB475_485.out
     have hns71_3 := NB476_485.out
     have hms71_0 := NB485_473.out
     have hms71_1 := NB485_474.out
     have hms71_2 := NB485_475.out
     have hms71_3 := NB485_476.out
     refine skip_ (w1 := ?_) (by rfl) rfl ?_ ?_
     rotate_left
     ·go_simp
      rfl
     refine hK.out _ _ ⟨((cell_far (p := ⟨gb485, _, none⟩) NB475_485.out _).trans (((cell_far (p := ⟨gb485, _, none⟩) NB475_485.out _).trans (hHeld.1)))), ((cell_far (p := ⟨gb485, _, none⟩) NB475_485.out _).trans (((cell_far (p := ⟨gb485, _, none⟩) NB475_485.out _).trans (hHeld.2.1)))), ((cell_far (p := ⟨gb485, _, none⟩) (by first | exact Nat.ne_of_lt (Nat.lt_of_lt_of_le (by have := World.block_lt_of_cell? _ _ hw477_0; first | rwa [add_block] at this | exact this) GW485.out) | (rw [add_block]; exact Nat.ne_of_lt (Nat.lt_of_lt_of_le (by have := World.block_lt_of_cell? _ _ hw477_0; first | rwa [add_block] at this | exact this) GW485.out)) | (show (Addr.add _ _).block ≠ _; rw [add_block]; exact Nat.ne_of_lt (Nat.lt_of_lt_of_le (by have := World.block_lt_of_cell? _ _ hw477_0; first | rwa [add_block] at this | exact this) GW485.out)) | (dsimp only; exact Nat.ne_of_lt (Nat.lt_of_lt_of_le (by have := World.block_lt_of_cell? _ _ hw477_0; first | rwa [add_block] at this | exact this) GW485.out))) _).trans (((cell_far (p := ⟨gb485, _, none⟩) (by first | exact Nat.ne_of_lt (Nat.lt_of_lt_of_le (by have := World.block_lt_of_cell? _ _ hw477_0; first | rwa [add_block] at this | exact this) GW485.out) | (rw [add_block]; exact Nat.ne_of_lt (Nat.lt_of_lt_of_le (by have := World.block_lt_of_cell? _ _ hw477_0; first | rwa [add_block] at this | exact this) GW485.out)) | (show (Addr.add _ _).block ≠ _; rw [add_block]; exact Nat.ne_of_lt (Nat.lt_of_lt_of_le (by have := World.block_lt_of_cell? _ _ hw477_0; first | rwa [add_block] at this | exact this) GW485.out)) | (dsimp only; exact Nat.ne_of_lt (Nat.lt_of_lt_of_le (by have := World.block_lt_of_cell? _ _ hw477_0; first | rwa [add_block] at this | exact this) GW485.out))) _).trans (hHeld.2.2))))⟩ (fun hHeld => ?_)
     clear hK K
     refine pu (i := 11) (N := some 8) (xB 12 4095) HT_.out ?_
     refine done_ (done_of HT_.out (by kernel_rfl)) ?_
     have hnb72 := NB485_473.out
     have hnc72 := NB473_485.out
     have hnb73 := NB485_474.out
     have hnc73 := NB474_485.out
     have hnb74 := NB485_475.out
     have hnc74 := NB475_485.out
     have hnb75 := NB485_476.out
     have hnc75 := NB476_485.out
     have hcz76_0 : w67.cell? ⟨gb485, 0, none⟩ = some (.slice none 0 0) := (blk_cell BK485.out 0).trans rfl
     have hcz76_1 : w67.cell? ⟨gb485, 1, none⟩ = some (.slice none 0 0) := (blk_cell BK485.out 1).trans rfl
     have hfz76_0 := blk_frozen BK485.out 0
     have hfz76_1 := blk_frozen BK485.out 1
     have hnb77 := NB475_473.out
     have hnc77 := NB473_475.out
     have hnb78 := NB475_474.out
     have hnc78 := NB474_475.out
     have hnb79 := NB475_476.out
     have hnc79 := NB476_475.out
     have hcz80_0 : w67.cell? ⟨gb475, 0, none⟩ = some (.slice Ao62 x476000_1.length co62) := (blk_cell BK475.out 0).trans rfl
     have hcz80_1 : w67.cell? ⟨gb475, 1, none⟩ = some (.slice Ao63 x476001_1.length co63) := (blk_cell BK475.out 1).trans rfl
     have hfz80_0 := blk_frozen BK475.out 0
     have hfz80_1 := blk_frozen BK475.out 1
     have hnb81 := NB476_473.out
     have hnc81 := NB473_476.out
     have hnb82 := NB476_474.out
     have hnc82 := NB474_476.out
     have hcz83_0 : w67.cell? ⟨gb476, 0, none⟩ = some (.slice none 0 0) := (blk_cell BK476.out 0).trans rfl
     have hcz83_1 : w67.cell? ⟨gb476, 1, none⟩ = some (u477001) := (blk_cell BK476.out 1).trans rfl
     have hfz83_0 := blk_frozen BK476.out 0
     have hfz83_1 := blk_frozen BK476.out 1
     obtain ⟨Ao84, co84, eo84⟩ := Kd.S_slice HO_477001.out
     subst eo84
     try go_wp2
     have n0_ : Aside0 (Kd.R (Kd.int .i64) 3 ((((w67.setCell ⟨gb485, 0, none⟩ (.slice Ao68 t478.length co68)).setCell ⟨gb485, 1, none⟩ (.slice Ao70 t481.length co70)).setCell ⟨gb475, 0, none⟩ (.slice Ao68 t478.length co68)).setCell ⟨gb475, 1, none⟩ (.slice Ao70 t481.length co70)) w.heap.size (fun k_ => some k_ ≠ (.slice Ao68 t478.length co68 : Value).ownBlock) (.slice Ao62 x476000_1.length co62) x476000_1) := ⟨by (with_reducible repeat (first | apply Kd.R_alloc | apply Kd.R_drewN | apply Kd.R_drew)); exact Kd.R_mono (Kd.R_far (p := ⟨gb475, 1, none⟩) (Kd.R_far (p := ⟨gb475, 0, none⟩) (Kd.R_far (p := ⟨gb485, 1, none⟩) (Kd.R_far (p := ⟨gb485, 0, none⟩) (Kd.R_types (Kd.R_types HO_476000.out BK485.out (by decide)) BK475.out (by decide)) (fun _ hk => hk.1.2) (.slice Ao68 t478.length co68)) (fun _ hk => hk.1.2) (.slice Ao70 t481.length co70)) (fun _ hk => hk.2) (.slice Ao68 t478.length co68)) (fun _ hk => hk.2) (.slice Ao70 t481.length co70)) (fun _ hk => hk.1.1)⟩
     have n1_ : Aside0 (Kd.S (Kd.slice 3 (Kd.int .i64)) 24 ((((w67.setCell ⟨gb485, 0, none⟩ (.slice Ao68 t478.length co68)).setCell ⟨gb485, 1, none⟩ (.slice Ao70 t481.length co70)).setCell ⟨gb475, 0, none⟩ (.slice Ao68 t478.length co68)).setCell ⟨gb475, 1, none⟩ (.slice Ao70 t481.length co70)) w.heap.size (fun k_ => some k_ ≠ (.slice Ao62 x476000_1.length co62 : Value).ownBlock ∧ some k_ ≠ (.slice Ao84 x477001_1.length co84 : Value).ownBlock ∧ some k_ ≠ (.slice Ao68 t478.length co68 : Value).ownBlock ∧ some k_ ≠ (.slice Ao70 t481.length co70 : Value).ownBlock) (.slice Ao63 x476001_1.length co63) x476001_1) := ⟨by (with_reducible repeat (first | apply Kd.S_alloc | apply Kd.S_drewN | apply Kd.S_drew)); exact Kd.S_mono (Kd.S_far (p := ⟨gb475, 1, none⟩) (Kd.S_far (p := ⟨gb475, 0, none⟩) (Kd.S_far (p := ⟨gb485, 1, none⟩) (Kd.S_far (p := ⟨gb485, 0, none⟩) (Kd.S_types (Kd.S_types HO_476001.out BK485.out (by decide)) BK475.out (by decide)) (fun _ hk => hk.1.2) (.slice Ao68 t478.length co68)) (fun _ hk => hk.1.2) (.slice Ao70 t481.length co70)) (fun _ hk => hk.2) (.slice Ao68 t478.length co68)) (fun _ hk => hk.2) (.slice Ao70 t481.length co70)) (fun _ hk => ⟨hk.1.1.2.2.1, ⟨hk.1.1.2.2.2, ⟨hk.1.1.1, hk.1.1.2.1⟩⟩⟩)⟩
     have n2_ : Aside0 (Kd.S (Kd.slice 3 (Kd.int .i64)) 24 ((((w67.setCell ⟨gb485, 0, none⟩ (.slice Ao68 t478.length co68)).setCell ⟨gb485, 1, none⟩ (.slice Ao70 t481.length co70)).setCell ⟨gb475, 0, none⟩ (.slice Ao68 t478.length co68)).setCell ⟨gb475, 1, none⟩ (.slice Ao70 t481.length co70)) w.heap.size (fun k_ => some k_ ≠ (.slice Ao62 x476000_1.length co62 : Value).ownBlock ∧ some k_ ≠ (.slice Ao63 x476001_1.length co63 : Value).ownBlock ∧ some k_ ≠ (.slice Ao68 t478.length co68 : Value).ownBlock ∧ some k_ ≠ (.slice Ao70 t481.length co70 : Value).ownBlock ∧ k_ ≠ dmQ N512_ k_) (.slice Ao84 x477001_1.length co84) x477001_1) := ⟨by (with_reducible repeat (first | apply Kd.S_alloc | apply Kd.S_drewN | apply Kd.S_drew)); exact Kd.S_mono (Kd.S_far (p := ⟨gb475, 1, none⟩) (Kd.S_far (p := ⟨gb475, 0, none⟩) (Kd.S_far (p := ⟨gb485, 1, none⟩) (Kd.S_far (p := ⟨gb485, 0, none⟩) (Kd.S_types (Kd.S_types HO_477001.out BK485.out (by decide)) BK475.out (by decide)) (fun _ hk => hk.1.2) (.slice Ao68 t478.length co68)) (fun _ hk => hk.1.2) (.slice Ao70 t481.length co70)) (fun _ hk => hk.2) (.slice Ao68 t478.length co68)) (fun _ hk => hk.2) (.slice Ao70 t481.length co70)) (fun _ hk => ⟨hk.1.1.2.2.1, ⟨hk.1.1.2.2.2.1, ⟨hk.1.1.1, ⟨hk.1.1.2.1, hk.1.1.2.2.2.2⟩⟩⟩⟩)⟩
     have n3_ : Aside0 (Kd.R (Kd.int .i64) 3 ((((w67.setCell ⟨gb485, 0, none⟩ (.slice Ao68 t478.length co68)).setCell ⟨gb485, 1, none⟩ (.slice Ao70 t481.length co70)).setCell ⟨gb475, 0, none⟩ (.slice Ao68 t478.length co68)).setCell ⟨gb475, 1, none⟩ (.slice Ao70 t481.length co70)) w.heap.size (fun k_ => some k_ ≠ (.slice Ao62 x476000_1.length co62 : Value).ownBlock) (.slice Ao68 t478.length co68) t478) := ⟨by (with_reducible repeat (first | apply Kd.R_alloc | apply Kd.R_drewN | apply Kd.R_drew)); exact Kd.R_mono (Kd.R_far (p := ⟨gb475, 1, none⟩) (Kd.R_far (p := ⟨gb475, 0, none⟩) (Kd.R_far (p := ⟨gb485, 1, none⟩) (Kd.R_far (p := ⟨gb485, 0, none⟩) (Kd.R_types (Kd.R_types HO480.out BK485.out (by decide)) BK475.out (by decide)) (fun _ hk => hk.1.2) (.slice Ao68 t478.length co68)) (fun _ hk => hk.1.2) (.slice Ao70 t481.length co70)) (fun _ hk => hk.2) (.slice Ao68 t478.length co68)) (fun _ hk => hk.2) (.slice Ao70 t481.length co70)) (fun _ hk => hk.1.1)⟩
     have n4_ : Aside0 (Kd.S (Kd.slice 3 (Kd.int .i64)) 24 ((((w67.setCell ⟨gb485, 0, none⟩ (.slice Ao68 t478.length co68)).setCell ⟨gb485, 1, none⟩ (.slice Ao70 t481.length co70)).setCell ⟨gb475, 0, none⟩ (.slice Ao68 t478.length co68)).setCell ⟨gb475, 1, none⟩ (.slice Ao70 t481.length co70)) w.heap.size (fun k_ => some k_ ≠ (.slice Ao62 x476000_1.length co62 : Value).ownBlock ∧ some k_ ≠ (.slice Ao63 x476001_1.length co63 : Value).ownBlock ∧ some k_ ≠ (.slice Ao84 x477001_1.length co84 : Value).ownBlock ∧ some k_ ≠ (.slice Ao68 t478.length co68 : Value).ownBlock ∧ k_ ≠ dmP N512_ k_) (.slice Ao70 t481.length co70) t481) := ⟨by (with_reducible repeat (first | apply Kd.S_alloc | apply Kd.S_drewN | apply Kd.S_drew)); exact Kd.S_mono (Kd.S_far (p := ⟨gb475, 1, none⟩) (Kd.S_far (p := ⟨gb475, 0, none⟩) (Kd.S_far (p := ⟨gb485, 1, none⟩) (Kd.S_far (p := ⟨gb485, 0, none⟩) (Kd.S_types (Kd.S_types HO483.out BK485.out (by decide)) BK475.out (by decide)) (fun _ hk => hk.1.2) (.slice Ao68 t478.length co68)) (fun _ hk => hk.1.2) (.slice Ao70 t481.length co70)) (fun _ hk => hk.2) (.slice Ao68 t478.length co68)) (fun _ hk => hk.2) (.slice Ao70 t481.length co70)) (fun _ hk => ⟨hk.1.1.2.1, ⟨hk.1.1.2.2.1, ⟨hk.1.1.2.2.2.1, ⟨hk.1.1.1, hk.1.1.2.2.2.2⟩⟩⟩⟩)⟩
     have n5_ : Aside0 (((((w67.setCell ⟨gb485, 0, none⟩ (.slice Ao68 t478.length co68)).setCell ⟨gb485, 1, none⟩ (.slice Ao70 t481.length co70)).setCell ⟨gb475, 0, none⟩ (.slice Ao68 t478.length co68)).setCell ⟨gb475, 1, none⟩ (.slice Ao70 t481.length co70)).heap[gb473]? = some (.cells #[.slice none 0 0, .slice none 0 0] 36 (0, 0))) := ⟨by (with_reducible repeat (first | refine blk_drewN ?_ _ | refine blk_drew ?_ | refine blk_alloc ?_ _)); refine blk_far ?_ NB473_475.out _; (with_reducible repeat (first | refine blk_drewN ?_ _ | refine blk_drew ?_ | refine blk_alloc ?_ _)); refine blk_far ?_ NB473_475.out _; (with_reducible repeat (first | refine blk_drewN ?_ _ | refine blk_drew ?_ | refine blk_alloc ?_ _)); refine blk_far ?_ NB473_485.out _; (with_reducible repeat (first | refine blk_drewN ?_ _ | refine blk_drew ?_ | refine blk_alloc ?_ _)); refine blk_far ?_ NB473_485.out _; (with_reducible repeat (first | refine blk_drewN ?_ _ | refine blk_drew ?_ | refine blk_alloc ?_ _)); exact BK473.out⟩
     have n6_ : Aside0 (((((w67.setCell ⟨gb485, 0, none⟩ (.slice Ao68 t478.length co68)).setCell ⟨gb485, 1, none⟩ (.slice Ao70 t481.length co70)).setCell ⟨gb475, 0, none⟩ (.slice Ao68 t478.length co68)).setCell ⟨gb475, 1, none⟩ (.slice Ao70 t481.length co70)).heap[gb474]? = some (.cells #[.slice none 0 0, .slice none 0 0] 36 (0, 0))) := ⟨by (with_reducible repeat (first | refine blk_drewN ?_ _ | refine blk_drew ?_ | refine blk_alloc ?_ _)); refine blk_far ?_ NB474_475.out _; (with_reducible repeat (first | refine blk_drewN ?_ _ | refine blk_drew ?_ | refine blk_alloc ?_ _)); refine blk_far ?_ NB474_475.out _; (with_reducible repeat (first | refine blk_drewN ?_ _ | refine blk_drew ?_ | refine blk_alloc ?_ _)); refine blk_far ?_ NB474_485.out _; (with_reducible repeat (first | refine blk_drewN ?_ _ | refine blk_drew ?_ | refine blk_alloc ?_ _)); refine blk_far ?_ NB474_485.out _; (with_reducible repeat (first | refine blk_drewN ?_ _ | refine blk_drew ?_ | refine blk_alloc ?_ _)); exact BK474.out⟩
     have n7_ : Aside0 (((((w67.setCell ⟨gb485, 0, none⟩ (.slice Ao68 t478.length co68)).setCell ⟨gb485, 1, none⟩ (.slice Ao70 t481.length co70)).setCell ⟨gb475, 0, none⟩ (.slice Ao68 t478.length co68)).setCell ⟨gb475, 1, none⟩ (.slice Ao70 t481.length co70)).heap[gb475]? = some (.cells #[.slice Ao68 t478.length co68, .slice Ao70 t481.length co70] 36 (0, 0))) := ⟨by (with_reducible repeat (first | refine blk_drewN ?_ _ | refine blk_drew ?_ | refine blk_alloc ?_ _)); refine blk_put (cs := #[.slice Ao68 t478.length co68, .slice Ao63 x476001_1.length co63]) ?_ 1 _ rfl; (with_reducible repeat (first | refine blk_drewN ?_ _ | refine blk_drew ?_ | refine blk_alloc ?_ _)); refine blk_put (cs := #[.slice Ao62 x476000_1.length co62, .slice Ao63 x476001_1.length co63]) ?_ 0 _ rfl; (with_reducible repeat (first | refine blk_drewN ?_ _ | refine blk_drew ?_ | refine blk_alloc ?_ _)); refine blk_far ?_ NB475_485.out _; (with_reducible repeat (first | refine blk_drewN ?_ _ | refine blk_drew ?_ | refine blk_alloc ?_ _)); refine blk_far ?_ NB475_485.out _; (with_reducible repeat (first | refine blk_drewN ?_ _ | refine blk_drew ?_ | refine blk_alloc ?_ _)); exact BK475.out⟩
     have n8_ : Aside0 (((((w67.setCell ⟨gb485, 0, none⟩ (.slice Ao68 t478.length co68)).setCell ⟨gb485, 1, none⟩ (.slice Ao70 t481.length co70)).setCell ⟨gb475, 0, none⟩ (.slice Ao68 t478.length co68)).setCell ⟨gb475, 1, none⟩ (.slice Ao70 t481.length co70)).heap[gb476]? = some (.cells #[.slice none 0 0, .slice Ao84 x477001_1.length co84] 36 (0, 0))) := ⟨by (with_reducible repeat (first | refine blk_drewN ?_ _ | refine blk_drew ?_ | refine blk_alloc ?_ _)); refine blk_far ?_ NB476_475.out _; (with_reducible repeat (first | refine blk_drewN ?_ _ | refine blk_drew ?_ | refine blk_alloc ?_ _)); refine blk_far ?_ NB476_475.out _; (with_reducible repeat (first | refine blk_drewN ?_ _ | refine blk_drew ?_ | refine blk_alloc ?_ _)); refine blk_far ?_ NB476_485.out _; (with_reducible repeat (first | refine blk_drewN ?_ _ | refine blk_drew ?_ | refine blk_alloc ?_ _)); refine blk_far ?_ NB476_485.out _; (with_reducible repeat (first | refine blk_drewN ?_ _ | refine blk_drew ?_ | refine blk_alloc ?_ _)); exact BK476.out⟩
     have n9_ : Aside0 (((((w67.setCell ⟨gb485, 0, none⟩ (.slice Ao68 t478.length co68)).setCell ⟨gb485, 1, none⟩ (.slice Ao70 t481.length co70)).setCell ⟨gb475, 0, none⟩ (.slice Ao68 t478.length co68)).setCell ⟨gb475, 1, none⟩ (.slice Ao70 t481.length co70)).heap[gb485]? = some (.cells #[.slice Ao68 t478.length co68, .slice Ao70 t481.length co70] 36 (0, 0))) := ⟨by (with_reducible repeat (first | refine blk_drewN ?_ _ | refine blk_drew ?_ | refine blk_alloc ?_ _)); refine blk_far ?_ NB485_475.out _; (with_reducible repeat (first | refine blk_drewN ?_ _ | refine blk_drew ?_ | refine blk_alloc ?_ _)); refine blk_far ?_ NB485_475.out _; (with_reducible repeat (first | refine blk_drewN ?_ _ | refine blk_drew ?_ | refine blk_alloc ?_ _)); refine blk_put (cs := #[.slice Ao68 t478.length co68, .slice none 0 0]) ?_ 1 _ rfl; (with_reducible repeat (first | refine blk_drewN ?_ _ | refine blk_drew ?_ | refine blk_alloc ?_ _)); refine blk_put (cs := #[.slice none 0 0, .slice none 0 0]) ?_ 0 _ rfl; (with_reducible repeat (first | refine blk_drewN ?_ _ | refine blk_drew ?_ | refine blk_alloc ?_ _)); exact BK485.out⟩
     have n10_ : Aside0 (Below w.heap.size w ((((w67.setCell ⟨gb485, 0, none⟩ (.slice Ao68 t478.length co68)).setCell ⟨gb485, 1, none⟩ (.slice Ao70 t481.length co70)).setCell ⟨gb475, 0, none⟩ (.slice Ao68 t478.length co68)).setCell ⟨gb475, 1, none⟩ (.slice Ao70 t481.length co70))) := ⟨by repeat (first | (with_reducible first | exact HB.out | apply below_alloc | apply pw_below_drewN | apply below_drew1 | refine below_set ?_ GE473.out | refine below_set ?_ GE474.out | refine below_set ?_ GE475.out | refine below_set ?_ GE476.out | refine below_set ?_ GE485.out) | exact HB.out)⟩
     (try clear HO_476000)
     (try clear HO_476001)
     (try clear HO_477001)
     (try clear HO480)
     (try clear HO483)
     (try clear BK473)
     (try clear BK474)
     (try clear BK475)
     (try clear BK476)
     (try clear BK485)
     (try clear HB)
     replace HNN := ax (show N512_.2 ≤ (((((w67.setCell ⟨gb485, 0, none⟩ (.slice Ao68 t478.length co68)).setCell ⟨gb485, 1, none⟩ (.slice Ao70 t481.length co70)).setCell ⟨gb475, 0, none⟩ (.slice Ao68 t478.length co68)).setCell ⟨gb475, 1, none⟩ (.slice Ao70 t481.length co70))).heap.size from (by first | exact HNN.out | (simp only [nblk_setCell]; exact HNN.out) | simpa [World.setCell] using HNN.out | simpa [World.setCell, World.drew] using HNN.out))
     generalize ((((w67.setCell ⟨gb485, 0, none⟩ (.slice Ao68 t478.length co68)).setCell ⟨gb485, 1, none⟩ (.slice Ao70 t481.length co70)).setCell ⟨gb475, 0, none⟩ (.slice Ao68 t478.length co68)).setCell ⟨gb475, 1, none⟩ (.slice Ao70 t481.length co70)) = w85 at HNN n0_ n1_ n2_ n3_ n4_ n5_ n6_ n7_ n8_ n9_ n10_ ⊢
     have HO_476000 := n0_
     have HO_476001 := n1_
     have HO_477001 := n2_
     have HO480 := n3_
     have HO483 := n4_
     have BK473 := n5_
     have BK474 := n6_
     have BK475 := n7_
     have BK476 := n8_
     have BK485 := n9_
     have HB := n10_
     clear n0_ n1_ n2_ n3_ n4_ n5_ n6_ n7_ n8_ n9_ n10_
     replace HO_476000 := ax (Kd.R_drew HO_476000.out); replace HO_476001 := ax (Kd.S_drew HO_476001.out); replace HO_477001 := ax (Kd.S_drew HO_477001.out); replace HO480 := ax (Kd.R_drew HO480.out); replace HO483 := ax (Kd.S_drew HO483.out); replace BK473 := ax (blk_drew BK473.out); replace BK474 := ax (blk_drew BK474.out); replace BK475 := ax (blk_drew BK475.out); replace BK476 := ax (blk_drew BK476.out); replace BK485 := ax (blk_drew BK485.out); replace HB := ax (below_drew1 HB.out)
     have p497 : 0 ≤ (t484 : Int) := xd
     have q497 : t484 < (x477001_1.length : Int) := xd
     obtain ⟨ad497, A497_0, c497_0, e497, hx497_0, hl497_0, hi497_0⟩ := at_L2 (Kd.S_reads' HO_477001.out).2.2 t484 p497 q497
     cases e497
     obtain ⟨ce497, hce497, hMe497, hcc497⟩ := Kd.S_get HO_477001.out [] t484 p497 (by first | exact q497 | exact xd | (have e_ := (Kd.S_reads' HO_477001.out).1; omega))
     obtain ⟨ve497_0, rfl, ge497_0⟩ := hMe497
     have hv497_0 := hcc497 0 _ rfl
     rw [Nat.add_zero, show ((Kd.slice 3 (Kd.int .i64))).sz = 1 from rfl, Nat.mul_one] at hv497_0
     replace hv497_0 := Option.some.inj (hv497_0.symm.trans hx497_0)
     rw [hv497_0] at ge497_0
     have HL497_0 := ax (show Kd.R (Kd.int .i64) 3 _ _ _ _ (rd_L2 x477001_1 t484) from ge497_0)
     clear hv497_0 ge497_0
     have HX497_0 := ax hx497_0
     clear hcc497 hce497
     have HR497_0 := ax hi497_0
     have HC497_0 := ax hl497_0
     clear hi497_0 hl497_0
     replace p497 := eq_true p497
     replace q497 := eq_true q497
     obtain ⟨go87, co87, eo87, gb87, gl87, cl87, HG87⟩ := Kd.S_form HO_477001.out (by have h_ : (t484 : Int) < ((x477001_1.length : Int) : Int) := xd; have h2_ : 0 ≤ (t484 : Int) := (xd); omega)
     (first | cases eo87 | (injection eo87 with ea_ en_ ec_; (first | subst ea_ | (injection ea_ with ea_; subst ea_)); subst ec_; clear en_))
     have GB87 := ax gb87
     have GG87 := ax HG87
     clear gb87 gl87 HG87
     (first | simp only [add_plain] at hx497_0 | skip)
     obtain ⟨oki87, ce87, hcl87, hM87, hcc87, _, _, hH87⟩ := Kd.S_elem HO_477001.out [] (t484 : Int) (xd) (by have h_ : (t484 : Int) < ((x477001_1.length : Int) : Int) := xd; first | exact h_ | (have e_ := (Kd.S_reads' HO_477001.out).1; omega) | simpa using h_)
     obtain ⟨ve87_0, rfl, ge87_0⟩ := hM87
     have hv87 := hcc87 0 _ rfl
     have hX87 := HX497_0.out
     (try simp only [add_plain] at hX87)
     (try simp only [Nat.add_zero] at hv87)
     (try rw [show ((Kd.slice 3 (Kd.int .i64))).sz = 1 from rfl, Nat.mul_one] at hv87)
     replace hv87 := Option.some.inj (hv87.symm.trans hX87)
     subst hv87
     clear hX87 hcc87 hcl87
     have UU87 := ax (show Kd.R (Kd.int .i64) 3 _ w.heap.size oki87 (.slice A497_0 (rd_L2 x477001_1 t484).length c497_0) (rd_L2 x477001_1 t484) from ge87_0)
     have HH87 := ax hH87
     have HN87 := ax (Kd.S_reads' HO_477001.out).1
     clear hH87 ge87_0
     refine start_ (n := 14) (S := fun w' => w'.cell? ⟨gb476, 0, none⟩ = some (.slice none 0 0) ∧ w'.cell? ⟨gb476, 1, none⟩ = some (.slice (some ⟨go87, 0, none⟩) x477001_1.length co84) ∧ w'.cell? ⟨go87, (t484).toNat, none⟩ = some (.slice A497_0 (rd_L2 x477001_1 t484).length c497_0)) (ds := [13]) (xB 14 0) (by kernel_rfl) rfl (by kernel_rfl) ⟨(blk_cell BK476.out 0).trans rfl, (blk_cell BK476.out 1).trans rfl, hx497_0⟩ (fun hHeld => ?_); refine with_tabW spec_l9Both.tab10 spec_l9Both.bits10 (fun HT_ HW_ => ?_)
     replace HNN := ax (show N512_.2 ≤ (w85.drew).heap.size from (by first | exact HNN.out | (simp only [nblk_setCell]; exact HNN.out) | simpa [World.setCell] using HNN.out | simpa [World.setCell, World.drew] using HNN.out))
     generalize w85.drew = w86 at HNN HO_476000 HO_476001 HO_477001 HO480 HO483 BK473 BK474 BK475 BK476 BK485 HB GG87 HH87 HL497_0 HR497_0 HX497_0 UU87 hx497_0 hHeld ⊢
     refine pu (i := 0) (N := some 38) (xB 14 1) HT_.out ?_
     refine pu (i := 2) (N := some 40) (xB 14 5) HT_.out ?_
     refine pu (i := 3) (N := some 41) (xB 14 13) HT_.out ?_
     refine pu (i := 5) (N := some 43) (xB 14 45) HT_.out ?_
     refine pu (i := 8) (N := some 46) (xB 14 301) HT_.out ?_
     refine pu (i := 9) (N := some 47) (xB 14 813) HT_.out ?_
     refine tk (i := 1) (N := some 39) (xB 14 815) HT_.out HW_.out hHeld ?_
     refine tk (i := 4) (N := some 42) (xB 14 831) HT_.out HW_.out hHeld ?_
     refine pu (i := 6) (N := some 44) (xB 14 895) HT_.out ?_
     refine tk (i := 7) (N := some 45) (xB 14 1023) HT_.out HW_.out hHeld ?_
     refine one_ (i := 10) (N := some 48) (xB 14 2047) rfl rfl (one_of HT_.out (by kernel_rfl)) (by decide) (fun K hK => ?_)
     refine value_ (w1 := ?_) (v := ?_) (by rfl) rfl ?_ ?_
     rotate_left 2
     ·go_simp
      constructor
      ·rfl
      ·rfl
     refine hK.out _ _ ⟨(blk_cell (blk_alloc BK476.out _) 0).trans rfl, (blk_cell (blk_alloc BK476.out _) 1).trans rfl, (World.cell?_alloc_lt _ _ _ (World.block_lt_of_cell? _ _ (hHeld.2.2))).trans (hHeld.2.2)⟩ (fun hHeld => ?_)
     clear hK K
     refine nm ?_
     refine one_ (i := 11) (N := some 49) (xB 14 4095) rfl rfl (one_of HT_.out (by kernel_rfl)) (by decide) (fun K hK => ?_)
     refine Kd.R_append_step (Kd.int .i64) (w0 := w) w.heap.size (by rfl) (.tmp 45) (.tmp 48) 24 3 (.int .i64 0) 8 rfl Try.underlying24 info3 rfl (by decide) (by omega) (.slice A497_0 (rd_L2 x477001_1 t484).length c497_0) (rd_L2 x477001_1 t484) (wrap64 (x6_1 + 1)) [.int .i64 (wrap64 (x6_1 + 1))] (fun k_ => oki87 k_ ∨ ((fun k_ => some k_ ≠ (.slice Ao62 x476000_1.length co62 : Value).ownBlock ∧ some k_ ≠ (.slice Ao63 x476001_1.length co63 : Value).ownBlock ∧ some k_ ≠ (.slice Ao68 t478.length co68 : Value).ownBlock ∧ some k_ ≠ (.slice Ao70 t481.length co70 : Value).ownBlock ∧ k_ ≠ dmQ N512_ k_)) k_ ∧ w86.heap.size ≤ k_) (fun _ => False) rfl rfl ?aP (fun _ hk => hk.elim) ?aF ?aO ?aB ?aS ?aL ?_
     (case aP => exact rfl)
     (case aB => exact (by repeat (first | (with_reducible first | exact HB.out | apply below_alloc | apply pw_below_drewN | apply below_drew1 | refine below_set ?_ GE473.out | refine below_set ?_ GE474.out | refine below_set ?_ GE475.out | refine below_set ?_ GE476.out | refine below_set ?_ GE485.out) | exact HB.out)))
     (case aF => exact (fun k_ hk => .inr ⟨⟨Kd.fresh' (Kd.R_lt (xR HO_476000.out)) k_ hk, Kd.fresh' (Kd.S_lt (xS HO_476001.out)) k_ hk, Kd.fresh' (Kd.R_lt (xR HO480.out)) k_ hk, ⟨Kd.fresh' (Kd.S_lt (xS HO483.out)) k_ hk, dmQ_hi (Nat.le_trans (by first | exact HNN.out | (simp only [nblk_setCell]; exact HNN.out) | simpa [World.setCell] using HNN.out | simpa [World.setCell, World.drew] using HNN.out) hk)⟩⟩, hk⟩))
     (case aO => exact (by (with_reducible repeat (first | apply Kd.R_alloc | apply Kd.R_drewN | apply Kd.R_drew)); exact Kd.R_mono UU87.out (fun _ hk => .inl hk)))
     (case aS => exact (below_size (by repeat (first | (with_reducible first | exact HB.out | apply below_alloc | apply pw_below_drewN | apply below_drew1 | refine below_set ?_ GE473.out | refine below_set ?_ GE474.out | refine below_set ?_ GE475.out | refine below_set ?_ GE476.out | refine below_set ?_ GE485.out) | exact HB.out))))
     (case aL => have := LMc60.out; omega)
     intro v499 w88 ho hb hg hat
     (first | have HS2_ := cell_grown hg (hHeld.2.2) (by first | (rw [add_block]; exact (fun e_ => ((HL497_0.out.1 _ e_.symm).2) rfl)) | (show some (Addr.add _ _).block ≠ _; rw [add_block]; exact (fun e_ => ((HL497_0.out.1 _ e_.symm).2) rfl)) | exact (fun e_ => ((HL497_0.out.1 _ e_.symm).2) rfl)) | have HS2_ := cell_grown hg (cell_unalloc (hHeld.2.2) (by first | (rw [add_block]; exact Kd.S_lt HO_477001.out _ rfl) | (show (Addr.add _ _).block < _; rw [add_block]; exact Kd.S_lt HO_477001.out _ rfl) | exact Kd.S_lt HO_477001.out _ rfl)) (by first | (rw [add_block]; exact (fun e_ => ((HL497_0.out.1 _ e_.symm).2) rfl)) | (show some (Addr.add _ _).block ≠ _; rw [add_block]; exact (fun e_ => ((HL497_0.out.1 _ e_.symm).2) rfl)) | exact (fun e_ => ((HL497_0.out.1 _ e_.symm).2) rfl)))
     rw [← Ny498.out] at ho
     have n0_ := ax (Kd.R_grown2 (xR HO_476000.out) rfl hg (fun k_ e_ => (HL497_0.out.1 k_ e_).1.1))
     have n1_ := True.intro
     have n2_ := ax (blk_grown (g := gb473) (o := .cells #[.slice none 0 0, .slice none 0 0] 36 (0, 0)) (xk BK473.out) hg (Kd.R_ne HL497_0.out BK473.out (by decide)))
     have n3_ := ax (blk_grown (g := gb474) (o := .cells #[.slice none 0 0, .slice none 0 0] 36 (0, 0)) (xk BK474.out) hg (Kd.R_ne HL497_0.out BK474.out (by decide)))
     have n4_ := ax (blk_grown (g := gb475) (o := .cells #[.slice Ao68 t478.length co68, .slice Ao70 t481.length co70] 36 (0, 0)) (xk BK475.out) hg (Kd.R_ne HL497_0.out BK475.out (by decide)))
     have n5_ := ax (blk_grown (g := gb476) (o := .cells #[.slice none 0 0, .slice (some ⟨go87, 0, none⟩) x477001_1.length co84] 36 (0, 0)) (xk BK476.out) hg (Kd.R_ne HL497_0.out BK476.out (by decide)))
     have n6_ := ax (Kd.R_grown2 (xR HO480.out) rfl hg (fun k_ e_ => (HL497_0.out.1 k_ e_).1.2.2.1))
     have n7_ := ax (Kd.S_grown (xS HO483.out) hg (fun k_ (hk_ : (fun k_ => some k_ ≠ (.slice Ao62 x476000_1.length co62 : Value).ownBlock ∧ some k_ ≠ (.slice Ao63 x476001_1.length co63 : Value).ownBlock ∧ some k_ ≠ (.slice (some ⟨go87, 0, none⟩) x477001_1.length co84 : Value).ownBlock ∧ some k_ ≠ (.slice Ao68 t478.length co68 : Value).ownBlock ∧ k_ ≠ dmP N512_ k_) k_) e_ => dmPQ hk_.2.2.2.2 (HL497_0.out.1 k_ e_.symm).1.2.2.2.2))
     have n8_ := ax (blk_grown (g := gb485) (o := .cells #[.slice Ao68 t478.length co68, .slice Ao70 t481.length co70] 36 (0, 0)) (xk BK485.out) hg (Kd.R_ne HL497_0.out BK485.out (by decide)))
     have n9_ := ax (hb)
     have n10_ := ax (Kd.H_grown (Kd.H_widen (by repeat (first | exact HH87.out | refine Kd.H_alloc ?_ _ | refine Kd.H_drewN ?_ _ | refine Kd.H_drew ?_))) hg (fun k_ e_ => .inl (UU87.out.1 k_ e_)))
     have n11_ := ax (ho)
     clear HO_476000 HO_476001 BK473 BK474 BK475 BK476 HO480 HO483 BK485 HB HH87 HO_477001 UU87 HL497_0
     have HO_476000 := n0_
     have HO_476001 := n1_
     have BK473 := n2_
     have BK474 := n3_
     have BK475 := n4_
     have BK476 := n5_
     have HO480 := n6_
     have HO483 := n7_
     have BK485 := n8_
     have HB := n9_
     have HH87 := n10_
     have HO500 := n11_
     clear n0_ n1_ n2_ n3_ n4_ n5_ n6_ n7_ n8_ n9_ n10_ n11_ ho hb hg hat
     have p61 : 0 ≤ (t484 : Int) := xd
     have q61 : (t484 : Int) < ((x477001_1.length : Int) : Int) := xd
     replace p61 := eq_true p61
     replace q61 := eq_true q61
     obtain ⟨Ao91, co91, eo91⟩ := Kd.R_slice HO500.out
     (first | subst eo91 | (injection eo91 with f1_ f2_ f3_; have f4_ := f1_.symm; have f5_ := f3_.symm; clear f1_ f2_ f3_; subst f4_; subst f5_))
     obtain ⟨_, _, hraw89, _, _, hcc89, _⟩ := Kd.H_raw HH87.out (xd) (by have h_ : (t484 : Int) < ((x477001_1.length : Int) : Int) := xd; first | exact h_ | (have e_ := (HN87.out); omega) | simpa using h_)
     obtain ⟨_, hfr89⟩ := Kd.H_at HH87.out (xd) (by have h_ : (t484 : Int) < ((x477001_1.length : Int) : Int) := xd; first | exact h_ | (have e_ := (HN87.out); omega) | simpa using h_)
     have hx89_0 := hcc89 0 _ rfl
     have hf89_0 := hfr89 0
     (try simp only [Nat.add_zero] at hx89_0 hf89_0)
     (try rw [show ((Kd.slice 3 (Kd.int .i64))).sz = 1 from rfl, Nat.mul_one] at hx89_0)
     (try rw [show ((Kd.slice 3 (Kd.int .i64))).sz = 1 from rfl, Nat.mul_one] at hf89_0)
     have HP89 := Kd.S_seg0 HH87.out (xd) (by have h_ : (t484 : Int) < ((x477001_1.length : Int) : Int) := xd; first | exact h_ | (have e_ := (HN87.out); omega) | simpa using h_) (seg := [.slice Ao91 y498.length co91]) (j := 0) (show 1 ≤ 1 from by decide) (x' := y498) (Kd.M_row HO500.out) (fun _ hk => hk)
     (try simp only [show ((Kd.slice 3 (Kd.int .i64))).sz = 1 from rfl, Nat.mul_one, Nat.add_zero] at HP89)
     clear hcc89 hfr89
     have HNB473_go87 := ax (show gb473 ≠ go87 from by have h_ := Kd.R_ne hraw89 BK473.out (by decide); intro e_; exact h_ (by rw [e_]; rfl))
     have HNB474_go87 := ax (show gb474 ≠ go87 from by have h_ := Kd.R_ne hraw89 BK474.out (by decide); intro e_; exact h_ (by rw [e_]; rfl))
     have HNB475_go87 := ax (show gb475 ≠ go87 from by have h_ := Kd.R_ne hraw89 BK475.out (by decide); intro e_; exact h_ (by rw [e_]; rfl))
     have HNB476_go87 := ax (show gb476 ≠ go87 from by have h_ := Kd.R_ne hraw89 BK476.out (by decide); intro e_; exact h_ (by rw [e_]; rfl))
     have HNB485_go87 := ax (show gb485 ≠ go87 from by have h_ := Kd.R_ne hraw89 BK485.out (by decide); intro e_; exact h_ (by rw [e_]; rfl))
     have HS89 := HP89.1
     rw [← Ny501.out] at HS89
     have HQ89 := ax HS89
     obtain ⟨_, hgg89⟩ := Kd.R_typed hraw89 go87 rfl
     have GG89_ := ax hgg89
     clear HP89 HS89 hgg89
     refine hK.out _ _ ⟨(blk_cell BK476.out 0).trans rfl, (blk_cell BK476.out 1).trans rfl, HS2_⟩ (fun hHeld => ?_)
     clear hK K
     refine nm ?_
     refine pu (i := 12) (N := some 50) (xB 14 8191) HT_.out ?_
     refine last_ (i := 13) (N := none) (xB 14 16383) rfl rfl (one_of HT_.out (by kernel_rfl)) (by decide) (fun K hK => ?_)
     refine skip_ (w1 := ?_) (by rfl) rfl ?_ ?_
     rotate_left
     ·go_simp
      rfl
     refine hK.out _ _ ?_
     clear hK K
     refine done_ (done_of HT_.out (by kernel_rfl)) ?_
     try go_wp2
     go_roundg k1
     case measure => have := HK1.out; omega
     case rel => exact ⟨(wrap64 (x6_1 + 1)), (t478), (t481), (y501), (.slice Ao68 t478.length co68), (.slice Ao70 t481.length co70), (.slice (some ⟨go87, 0, none⟩) x477001_1.length co84), xr, H', ⟨by have := HK1.out; omega⟩, ⟨by (with_reducible repeat (first | apply Kd.R_alloc | apply Kd.R_drewN | apply Kd.R_drew)); exact Kd.R_mono (Kd.R_far (p := ⟨go87, (t484 : Int).toNat, none⟩) (Kd.R_types HO480.out GG89_.out (by decide)) (fun _ hk => hk.2) (.slice Ao91 y498.length co91)) (fun _ hk => trivial)⟩, ⟨by (with_reducible repeat (first | apply Kd.S_alloc | apply Kd.S_drewN | apply Kd.S_drew)); exact Kd.S_mono (Kd.S_far (p := ⟨go87, (t484 : Int).toNat, none⟩) (Kd.S_mono HO483.out (fun k_ hk => (⟨hk, fun e_ => hk.2.2.1 (by rw [e_]; rfl)⟩ : _ ∧ k_ ≠ go87))) (fun _ hk => hk.2) (.slice Ao91 y498.length co91)) (fun _ hk => ⟨hk.1.2.2.2.1, hk.1.2.2.1⟩)⟩, ⟨by (with_reducible repeat (first | apply Kd.S_alloc | apply Kd.S_drewN | apply Kd.S_drew)); exact Kd.S_mono HQ89.out (fun _ hk => ⟨hk.2.2.1, hk.2.2.2.1⟩)⟩, ⟨by (with_reducible repeat (first | refine blk_drewN ?_ _ | refine blk_drew ?_ | refine blk_alloc ?_ _)); refine blk_far ?_ HNB473_go87.out _; (with_reducible repeat (first | refine blk_drewN ?_ _ | refine blk_drew ?_ | refine blk_alloc ?_ _)); exact BK473.out⟩, ⟨by (with_reducible repeat (first | refine blk_drewN ?_ _ | refine blk_drew ?_ | refine blk_alloc ?_ _)); refine blk_far ?_ HNB474_go87.out _; (with_reducible repeat (first | refine blk_drewN ?_ _ | refine blk_drew ?_ | refine blk_alloc ?_ _)); exact BK474.out⟩, ⟨by (with_reducible repeat (first | refine blk_drewN ?_ _ | refine blk_drew ?_ | refine blk_alloc ?_ _)); refine blk_far ?_ HNB475_go87.out _; (with_reducible repeat (first | refine blk_drewN ?_ _ | refine blk_drew ?_ | refine blk_alloc ?_ _)); exact BK475.out⟩, ⟨by (with_reducible repeat (first | refine blk_drewN ?_ _ | refine blk_drew ?_ | refine blk_alloc ?_ _)); refine blk_far ?_ HNB476_go87.out _; (with_reducible repeat (first | refine blk_drewN ?_ _ | refine blk_drew ?_ | refine blk_alloc ?_ _)); exact BK476.out⟩, ⟨by repeat (first | (with_reducible first | exact HB.out | apply below_alloc | apply pw_below_drewN | apply below_drew1 | refine below_set ?_ GB87.out | refine below_set ?_ GE473.out | refine below_set ?_ GE474.out | refine below_set ?_ GE475.out | refine below_set ?_ GE476.out | refine below_set ?_ GE485.out) | exact HB.out)⟩⟩
   ·rw [if_neg c13] at H
    have c13b0 := decide_eq_false c13
    clear c13
    simp only [Option.some.injEq, Prod.mk.injEq] at H
    obtain ⟨rfl, rfl, rfl, rfl⟩ := H
    try go_wp2
    replace HO_476000 := ax (Kd.R_drew HO_476000.out); replace HO_476001 := ax (Kd.S_drew HO_476001.out); replace HO_477001 := ax (Kd.S_drew HO_477001.out); replace BK473 := ax (blk_drew BK473.out); replace BK474 := ax (blk_drew BK474.out); replace BK475 := ax (blk_drew BK475.out); replace BK476 := ax (blk_drew BK476.out); replace HB := ax (below_drew1 HB.out)
    obtain ⟨Ao93, co93, eo93⟩ := Kd.R_slice HO_476000.out
    (first | subst eo93 | (injection eo93 with f1_ f2_ f3_; have f4_ := f1_.symm; have f5_ := f3_.symm; clear f1_ f2_ f3_; subst f4_; subst f5_))
    obtain ⟨Ao95, co95, eo95⟩ := Kd.S_slice HO_476001.out
    (first | subst eo95 | (injection eo95 with f1_ f2_ f3_; have f4_ := f1_.symm; have f5_ := f3_.symm; clear f1_ f2_ f3_; subst f4_; subst f5_))
    obtain ⟨Ao98, co98, eo98⟩ := Kd.S_slice HO_477001.out
    (first | subst eo98 | (injection eo98 with f1_ f2_ f3_; have f4_ := f1_.symm; have f5_ := f3_.symm; clear f1_ f2_ f3_; subst f4_; subst f5_))
    refine start_ (n := 4) (S := fun w' => w'.cell? ⟨gb475, 0, none⟩ = some (.slice Ao93 x476000_1.length co93) ∧ w'.cell? ⟨gb475, 1, none⟩ = some (.slice Ao95 x476001_1.length co95) ∧ w'.cell? ⟨gb476, 0, none⟩ = some (.slice none 0 0) ∧ w'.cell? ⟨gb476, 1, none⟩ = some (.slice Ao98 x477001_1.length co98)) (ds := []) (xB 4 0) (by kernel_rfl) rfl (by kernel_rfl) ⟨(blk_cell BK475.out 0).trans rfl, (blk_cell BK475.out 1).trans rfl, (blk_cell BK476.out 0).trans rfl, (blk_cell BK476.out 1).trans rfl⟩ (fun hHeld => ?_)
    generalize wr.drew = w92 at HO_476000 HO_476001 HO_477001 BK473 BK474 BK475 BK476 HB hHeld ⊢
    refine take_ (i := 0) (N := some 51) (v := ?_) (a' := ?_) (xB 4 1) rfl rfl (by kernel_rfl) (fun _ _ _ h => h) (Or.inl ⟨by rfl, ?_⟩) hHeld ?_ ?_
    rotate_left
    ·rintro w' ⟨s0, s1, s2, s3⟩
     go_simp
     with_reducible rfl
    rotate_left
    ·simp only [Act.put, List.setIfInBounds_toArray, List.set_cons_zero, List.set_cons_succ, i64_w, i32_w]
     rfl
    refine take_ (i := 1) (N := some 52) (v := ?_) (a' := ?_) (xB 4 3) rfl rfl (by kernel_rfl) (fun _ _ _ h => h) (Or.inl ⟨by rfl, ?_⟩) hHeld ?_ ?_
    rotate_left
    ·rintro w' ⟨s0, s1, s2, s3⟩
     go_simp
     with_reducible rfl
    rotate_left
    ·simp only [Act.put, List.setIfInBounds_toArray, List.set_cons_zero, List.set_cons_succ, i64_w, i32_w]
     rfl
    refine one_ (i := 2) (N := none) (xB 4 7) rfl rfl (by kernel_rfl) (by decide) (fun K hK => ?_)
    have hs94 : w92.cell? ⟨gb473, 0, none⟩ = some (.slice none 0 0) := (blk_cell BK473.out 0).trans rfl
    have hfs94 := blk_frozen BK473.out 0
    have hns94_1 := NB474_473.out
    have hns94_2 := NB475_473.out
    have hns94_3 := NB476_473.out
    have hms94_1 := NB473_474.out
    have hms94_2 := NB473_475.out
    have hms94_3 := NB473_476.out
    have hs96 : w92.cell? ⟨gb473, 1, none⟩ = some (.slice none 0 0) := (blk_cell BK473.out 1).trans rfl
    have hfs96 := blk_frozen BK473.out 1
    have hns96_1 := NB474_473.out
    have hns96_2 := NB475_473.out
    have hns96_3 := NB476_473.out
    have hms96_1 := NB473_474.out
    have hms96_2 := NB473_475.out
    have hms96_3 := NB473_476.out
    refine skip_ (w1 := ?_) (by rfl) rfl ?_ ?_
    rotate_left
    ·go_simp
     rfl
    refine hK.out _ _ ⟨((cell_far (p := ⟨gb473, _, none⟩) NB475_473.out _).trans (((cell_far (p := ⟨gb473, _, none⟩) NB475_473.out _).trans (hHeld.1)))), ((cell_far (p := ⟨gb473, _, none⟩) NB475_473.out _).trans (((cell_far (p := ⟨gb473, _, none⟩) NB475_473.out _).trans (hHeld.2.1)))), ((cell_far (p := ⟨gb473, _, none⟩) NB476_473.out _).trans (((cell_far (p := ⟨gb473, _, none⟩) NB476_473.out _).trans (hHeld.2.2.1)))), ((cell_far (p := ⟨gb473, _, none⟩) NB476_473.out _).trans (((cell_far (p := ⟨gb473, _, none⟩) NB476_473.out _).trans (hHeld.2.2.2))))⟩ (fun hHeld => ?_)
    clear hK K
    refine one_ (i := 3) (N := none) (xB 4 15) rfl rfl (by kernel_rfl) (by decide) (fun K hK => ?_)
    have hs97 : w92.cell? ⟨gb474, 0, none⟩ = some (.slice none 0 0) := (blk_cell BK474.out 0).trans rfl
    have hfs97 := blk_frozen BK474.out 0
    have hns97_0 := NB473_474.out
    have hns97_2 := NB475_474.out
    have hns97_3 := NB476_474.out
    have hms97_0 := NB474_473.out
    have hms97_2 := NB474_475.out
    have hms97_3 := NB474_476.out
    have hs99 : w92.cell? ⟨gb474, 1, none⟩ = some (.slice none 0 0) := (blk_cell BK474.out 1).trans rfl
    have hfs99 := blk_frozen BK474.out 1
    have hns99_0 := NB473_474.out
    have hns99_2 := NB475_474.out
    have hns99_3 := NB476_474.out
    have hms99_0 := NB474_473.out
    have hms99_2 := NB474_475.out
    have hms99_3 := NB474_476.out
    refine skip_ (w1 := ?_) (by rfl) rfl ?_ ?_
    rotate_left
    ·go_simp
     rfl
    refine hK.out _ _ ⟨((cell_far (p := ⟨gb474, _, none⟩) NB475_474.out _).trans (((cell_far (p := ⟨gb474, _, none⟩) NB475_474.out _).trans (hHeld.1)))), ((cell_far (p := ⟨gb474, _, none⟩) NB475_474.out _).trans (((cell_far (p := ⟨gb474, _, none⟩) NB475_474.out _).trans (hHeld.2.1)))), ((cell_far (p := ⟨gb474, _, none⟩) NB476_474.out _).trans (((cell_far (p := ⟨gb474, _, none⟩) NB476_474.out _).trans (hHeld.2.2.1)))), ((cell_far (p := ⟨gb474, _, none⟩) NB476_474.out _).trans (((cell_far (p := ⟨gb474, _, none⟩) NB476_474.out _).trans (hHeld.2.2.2))))⟩ (fun hHeld => ?_)
    clear hK K
    refine done_ (by kernel_rfl) ?_
    try go_wp2
    refine bodyPost_ret (results_cc rfl _ _ gb473 gb474 36 36 #[.slice Ao93 x476000_1.length co93, .slice Ao95 x476001_1.length co95] #[.slice none 0 0, .slice Ao98 x477001_1.length co98] (0, 0) (0, 0) _ _ rfl (by (with_reducible repeat (first | refine blk_drewN ?_ _ | refine blk_drew ?_ | refine blk_alloc ?_ _)); refine blk_far ?_ NB473_474.out _; (with_reducible repeat (first | refine blk_drewN ?_ _ | refine blk_drew ?_ | refine blk_alloc ?_ _)); refine blk_far ?_ NB473_474.out _; (with_reducible repeat (first | refine blk_drewN ?_ _ | refine blk_drew ?_ | refine blk_alloc ?_ _)); refine blk_put (cs := #[.slice Ao93 x476000_1.length co93, .slice none 0 0]) ?_ 1 _ rfl; (with_reducible repeat (first | refine blk_drewN ?_ _ | refine blk_drew ?_ | refine blk_alloc ?_ _)); refine blk_put (cs := #[.slice none 0 0, .slice none 0 0]) ?_ 0 _ rfl; (with_reducible repeat (first | refine blk_drewN ?_ _ | refine blk_drew ?_ | refine blk_alloc ?_ _)); exact BK473.out) Try.underlying36 rfl (by kernel_rfl) rfl (by (with_reducible repeat (first | refine blk_drewN ?_ _ | refine blk_drew ?_ | refine blk_alloc ?_ _)); refine blk_put (cs := #[.slice none 0 0, .slice none 0 0]) ?_ 1 _ rfl; (with_reducible repeat (first | refine blk_drewN ?_ _ | refine blk_drew ?_ | refine blk_alloc ?_ _)); refine blk_put (cs := #[.slice none 0 0, .slice none 0 0]) ?_ 0 _ rfl; (with_reducible repeat (first | refine blk_drewN ?_ _ | refine blk_drew ?_ | refine blk_alloc ?_ _)); refine blk_far ?_ NB474_473.out _; (with_reducible repeat (first | refine blk_drewN ?_ _ | refine blk_drew ?_ | refine blk_alloc ?_ _)); refine blk_far ?_ NB474_473.out _; (with_reducible repeat (first | refine blk_drewN ?_ _ | refine blk_drew ?_ | refine blk_alloc ?_ _)); exact BK474.out) Try.underlying36 rfl (by kernel_rfl)) rfl ?_
    exact ⟨_, _, _, _, xe, by (with_reducible repeat (first | apply Kd.R_alloc | apply Kd.R_drewN | apply Kd.R_drew)); exact Kd.R_mono (Kd.R_far (p := ⟨gb474, 1, none⟩) (Kd.R_far (p := ⟨gb474, 0, none⟩) (Kd.R_far (p := ⟨gb473, 1, none⟩) (Kd.R_far (p := ⟨gb473, 0, none⟩) (Kd.R_types (Kd.R_types HO_476000.out BK473.out (by decide)) BK474.out (by decide)) (fun _ hk => hk.1.2) (.slice Ao93 x476000_1.length co93)) (fun _ hk => hk.1.2) (.slice Ao95 x476001_1.length co95)) (fun _ hk => hk.2) (.slice none 0 0)) (fun _ hk => hk.2) (.slice Ao98 x477001_1.length co98)) (fun _ hk => (by simp [Value.ownBlock])), by (with_reducible repeat (first | apply Kd.S_alloc | apply Kd.S_drewN | apply Kd.S_drew)); exact Kd.S_mono (Kd.S_far (p := ⟨gb474, 1, none⟩) (Kd.S_far (p := ⟨gb474, 0, none⟩) (Kd.S_far (p := ⟨gb473, 1, none⟩) (Kd.S_far (p := ⟨gb473, 0, none⟩) (Kd.S_types (Kd.S_types HO_476001.out BK473.out (by decide)) BK474.out (by decide)) (fun _ hk => hk.1.2) (.slice Ao93 x476000_1.length co93)) (fun _ hk => hk.1.2) (.slice Ao95 x476001_1.length co95)) (fun _ hk => hk.2) (.slice none 0 0)) (fun _ hk => hk.2) (.slice Ao98 x477001_1.length co98)) (fun _ hk => ⟨hk.1.1.1, ⟨(by simp [Value.ownBlock]), hk.1.1.2⟩⟩), by first | exact Kd.R_nil _ _ _ _ _ | exact Kd.N_nil _ _ _ _ _ | exact Kd.V_nil _ _ _ _ _ | exact Kd.Q_nil _ _ _ _ _ | exact Kd.S_nil _ _ _ _ _, by (with_reducible repeat (first | apply Kd.S_alloc | apply Kd.S_drewN | apply Kd.S_drew)); exact Kd.S_mono (Kd.S_far (p := ⟨gb474, 1, none⟩) (Kd.S_far (p := ⟨gb474, 0, none⟩) (Kd.S_far (p := ⟨gb473, 1, none⟩) (Kd.S_far (p := ⟨gb473, 0, none⟩) (Kd.S_types (Kd.S_types HO_477001.out BK473.out (by decide)) BK474.out (by decide)) (fun _ hk => hk.1.2) (.slice Ao93 x476000_1.length co93)) (fun _ hk => hk.1.2) (.slice Ao95 x476001_1.length co95)) (fun _ hk => hk.2) (.slice none 0 0)) (fun _ hk => hk.2) (.slice Ao98 x477001_1.length co98)) (fun _ hk => ⟨hk.1.1.1, ⟨hk.1.1.2, (by simp [Value.ownBlock])⟩⟩), by repeat (first | (with_reducible first | exact HB.out | apply below_alloc | apply pw_below_drewN | apply below_drew1 | refine below_set ?_ GE473.out | refine below_set ?_ GE474.out | refine below_set ?_ GE475.out | refine below_set ?_ GE476.out) | exact HB.out)⟩

end Go.Proofs.Ytnfcdaojglicfaa.PFnOperators
