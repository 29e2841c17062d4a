import Derived.Test.YtnfcdaojglicfaaPFnOperatorsx0
namespace Go.Proofs.Ytnfcdaojglicfaa.PFnOperators
open Go.RowKit Go.Proofs.YtnfcdaojglicfaaW.PrintWords Go.Proofs.YtnfcdaojglicfaaW.PrintLast Go.Proofs.YtnfcdaojglicfaaW.PrintMore
set_option linter.unusedVariables false
set_option linter.unusedSimpArgs false
set_option maxHeartbeats 8000000
set_option maxRecDepth 100000
/-! ### laws_sameInts: function 17 -/
def laws_sameInts.l0 : Nat → List Int → List Int → Int → Option (Bool)
 | 0, _, _, _ => none
 | k + 1, x0, x1, x5 => if x5 < (x0.length : Int) then (if 0 ≤ x5 then (if x5 < (x1.length : Int) then (if (rd x0 x5) = (rd x1 x5) then (laws_sameInts.l0 k x0 x1 (wrap64 (x5 + 1))) else (some false)) else (none)) else (none)) else (some true)
def laws_sameInts.f (k : Nat) (l0 : List Int) (l1 : List Int) : Option (Bool) := if (l0.length : Int) = (l1.length : Int) then (laws_sameInts.l0 k l0 l1 0) else (some false)
theorem laws_sameInts.mono_l : ∀ k, (∀ y0 y1 y2, LeO (laws_sameInts.l0 k y0 y1 y2) (laws_sameInts.l0 (k + 1) y0 y1 y2))
 | 0 => fun _ _ _ r h => by simp [laws_sameInts.l0] at h
 | k + 1 => by
  have ih0 := laws_sameInts.mono_l k
  ·intro y0 y1 y2
   unfold laws_sameInts.l0
   repeat' with_reducible first | exact ih0 _ _ _ | exact xl | refine LeO.ite ?_ ?_ | refine LeO.bind ?_ fun _ => ?_
theorem laws_sameInts.mono : ∀ a0 a1 k, LeO (laws_sameInts.f k a0 a1) (laws_sameInts.f (k + 1) a0 a1) := by
 intro a0 a1 k
 have ih0 := laws_sameInts.mono_l k
 unfold laws_sameInts.f
 repeat' with_reducible first | exact ih0 _ _ _ | exact xl | refine LeO.ite ?_ ?_ | refine LeO.bind ?_ fun _ => ?_
theorem laws_sameInts.calls (k : Nat) (A0 : Option Addr) (c0 : Nat) (l0 : List Int) (A1 : Option Addr) (c1 : Nat) (l1 : List Int) (r : Bool) (w : World) (hr0 : Kd.C (Kd.int .i64) w A0 l0.length l0) (hc0 : l0.length ≤ c0) (hr1 : Kd.C (Kd.int .i64) w A1 l1.length l1) (hc1 : l1.length ≤ c1) (h : laws_sameInts.f k l0 l1 = some r) :
  Calls Try.prog 17 #[.slice A0 l0.length c0, .slice A1 l1.length c1] w fun e w' => e = .returned (.bool r) ∧ Drawn0 w w' := by
 have HR0 := ax hr0
 have HC0 := ax hc0
 clear hr0 hc0
 have HR1 := ax hr1
 have HC1 := ax hc1
 clear hr1 hc1
 have H : (if (l0.length : Int) = (l1.length : Int) then (laws_sameInts.l0 k l0 l1 0) else (some false)) = some r := h
 clear h
 by_cases c3 : (l0.length : Int) = (l1.length : Int)
 ·rw [if_pos c3] at H
  have c3b0 : ((l0.length : Int) == (l1.length : Int)) = true := beq_iff_eq.mpr c3
  have c3b1 : ((l0.length : Int) != (l1.length : Int)) = false := bne_eq_false_iff_eq.mpr c3
  have c3b2 : (l0.length == l1.length) = true := by first | simpa using c3 | (simp at c3 ⊢; omega)
  clear c3
  have H' := ax H
  clear H
  go_enter Try.func17, Try.ntmps17
  go_wp2
  repeat (go_quiet (fail); try go_wp2)
  go_loopg [5] k (fun kq v5 w' => ∃ (x5_1 : Int), v5 = .int .i64 x5_1 ∧ Aside0 (laws_sameInts.l0 kq l0 l1 x5_1 = some r) ∧ Aside0 (kq ≤ k) ∧ Drawn0 w w')
  case atStart => exact ⟨(0), xr, H', ⟨Nat.le_refl _⟩, by repeat (first | exact Drawn0.refl _ | apply Drawn0.step)⟩
  case round =>
   clear H'
   (try clear c1); (try clear c3); (try clear c3b0); (try clear c3b1); (try clear c3b2)
   obtain ⟨x5_1, rfl, HA, HK1, ⟨m1, rfl⟩⟩ := hrel
   cases gk with
   | zero => exact absurd HA.out (by simp [laws_sameInts.l0])
   | succ k1 =>
    have H := HA.out
    clear HA
    simp only [laws_sameInts.l0] at H
    by_cases c4 : x5_1 < (l0.length : Int)
    ·rw [if_pos c4] at H
     have c4b0 := decide_eq_true c4
     clear c4
     obtain ⟨c5b0, H⟩ := xq H
     obtain ⟨c6b0, H⟩ := xq H
     by_cases c7 : (rd l0 x5_1) = (rd l1 x5_1)
     ·rw [if_pos c7] at H
      have c7b0 : ((rd l0 x5_1) == (rd l1 x5_1)) = true := beq_iff_eq.mpr c7
      have c7b1 : ((rd l0 x5_1) != (rd l1 x5_1)) = false := bne_eq_false_iff_eq.mpr c7
      clear c7
      have H' := ax H
      clear H
      have p414 : 0 ≤ (x5_1 : Int) := xd
      have q414 : x5_1 < (l0.length : Int) := xd
      obtain ⟨ad414, e414, hx414_0⟩ := Kd.at_int HR0.out x5_1 p414 q414
      cases e414
      replace p414 := eq_true p414
      replace q414 := eq_true q414
      have p415 : 0 ≤ (x5_1 : Int) := xd
      have q415 : x5_1 < (l1.length : Int) := xd
      obtain ⟨ad415, e415, hx415_0⟩ := Kd.at_int HR1.out x5_1 p415 q415
      cases e415
      replace p415 := eq_true p415
      replace q415 := eq_true q415
      go_wp2
      repeat (go_quiet (fail); try go_wp2)
      go_roundg k1
      case measure => have := HK1.out; omega
      case rel => exact ⟨(wrap64 (x5_1 + 1)), xr, H', ⟨by have := HK1.out; omega⟩, by repeat (first | exact Drawn0.refl _ | apply Drawn0.step)⟩
     ·rw [if_neg c7] at H
      have c7b0 : ((rd l0 x5_1) == (rd l1 x5_1)) = false := beq_eq_false_iff_ne.mpr c7
      have c7b1 : ((rd l0 x5_1) != (rd l1 x5_1)) = true := bne_iff_ne.mpr c7
      obtain rfl := Option.some.inj H
      have p414 : 0 ≤ (x5_1 : Int) := xd
      have q414 : x5_1 < (l0.length : Int) := xd
      obtain ⟨ad414, e414, hx414_0⟩ := Kd.at_int HR0.out x5_1 p414 q414
      cases e414
      replace p414 := eq_true p414
      replace q414 := eq_true q414
      have p415 : 0 ≤ (x5_1 : Int) := xd
      have q415 : x5_1 < (l1.length : Int) := xd
      obtain ⟨ad415, e415, hx415_0⟩ := Kd.at_int HR1.out x5_1 p415 q415
      cases e415
      replace p415 := eq_true p415
      replace q415 := eq_true q415
      go_wp2
      repeat (go_quiet (fail); try go_wp2)
      go_ret
      exact ⟨by first | rfl | (simp; done) | (simp [*]; done), by repeat (first | exact Drawn0.refl _ | apply Drawn0.step)⟩
    ·rw [if_neg c4] at H
     have c4b0 := decide_eq_false c4
     clear c4
     obtain rfl := Option.some.inj H
     go_wp2
     repeat (go_quiet (fail); try go_wp2)
     go_ret
     exact ⟨by first | rfl | (simp; done) | (simp [*]; done), by repeat (first | exact Drawn0.refl _ | apply Drawn0.step)⟩
 ·rw [if_neg c3] at H
  have c3b0 : ((l0.length : Int) == (l1.length : Int)) = false := beq_eq_false_iff_ne.mpr c3
  have c3b1 : ((l0.length : Int) != (l1.length : Int)) = true := bne_iff_ne.mpr c3
  have c3b2 : (l0.length == l1.length) = false := by first | simpa using c3 | (simp at c3 ⊢; omega)
  obtain rfl := Option.some.inj H
  go_enter Try.func17, Try.ntmps17
  go_wp2
  repeat (go_quiet (fail); try go_wp2)
  go_ret
  exact ⟨by first | rfl | (simp; done) | (simp [*]; done), by repeat (first | exact Drawn0.refl _ | apply Drawn0.step)⟩

/-! ### spec_l5Copy: function 47 -/
def spec_l5Copy.l0 : Nat → Int → List Int → List (List Int) → List Int → List (List Int) → Option (List Int × (List (List Int)))
 | 0, _, _, _, _, _ => none
 | k + 1, x4, x417000, x417001, x425000, x425001 => if x4 < (x417001.length : Int) then ((some (([] : List Int) : List Int)).bind fun y425 => (if 0 ≤ x4 then (if y425.length + (rd_L2 x417001 x4).length < 17592186044416 then (if x425001.length < 5864062014805 then (spec_l5Copy.l0 k (wrap64 (x4 + 1)) x417000 x417001 x425000 (x425001 ++ [(y425 ++ (rd_L2 x417001 x4))])) else (none)) else (none)) else (none))) else (some (x425000, x425001))
def spec_l5Copy.f (k : Nat) (l0_0 : List Int) (l0_1 : List (List Int)) : Option (List Int × (List (List Int))) := (some (([] : List Int) : List Int)).bind fun y418 => (if y418.length + l0_0.length < 17592186044416 then (spec_l5Copy.l0 k 0 l0_0 l0_1 (y418 ++ l0_0) ([] : List (List Int))) else (none))
theorem spec_l5Copy.mono_l : ∀ k, (∀ y0 y1 y2 y3 y4, LeO (spec_l5Copy.l0 k y0 y1 y2 y3 y4) (spec_l5Copy.l0 (k + 1) y0 y1 y2 y3 y4))
 | 0 => fun _ _ _ _ _ r h => by simp [spec_l5Copy.l0] at h
 | k + 1 => by
  have ih0 := spec_l5Copy.mono_l k
  ·intro y0 y1 y2 y3 y4
   unfold spec_l5Copy.l0
   repeat' with_reducible first | exact ih0 _ _ _ _ _ | exact xl | refine LeO.ite ?_ ?_ | refine LeO.bind ?_ fun _ => ?_
theorem spec_l5Copy.mono : ∀ a0 a1 k, LeO (spec_l5Copy.f k a0 a1) (spec_l5Copy.f (k + 1) a0 a1) := by
 intro a0 a1 k
 have ih0 := spec_l5Copy.mono_l k
 unfold spec_l5Copy.f
 repeat' with_reducible first | exact ih0 _ _ _ _ _ | exact xl | refine LeO.ite ?_ ?_ | refine LeO.bind ?_ fun _ => ?_
def spec_l5Copy.T5 : Bool × List (List Nat × List Nat) := (true, [([], []), ([0], [0]), ([], []), ([], []), ([3], [3]), ([], []), ([4, 5], [4, 5]), ([6], [6]), ([2, 7], [2, 7]), ([8], [8]), ([1, 9, 8], [1, 9]), ([0, 1, 2, 3, 4, 5, 6, 7, 8, 9, 10], []), ([11, 10, 10, 0, 1, 2, 3, 4, 5, 6, 7, 8, 9, 10], [10, 11])])
def spec_l5Copy.B5 : List Nat := [0, 1, 0, 0, 8, 0, 56, 120, 252, 508, 1023, 2047, 4095]
theorem spec_l5Copy.tab5 : rtab .any (opsOf Try.f47 5) = spec_l5Copy.T5 := by kernel_rfl
theorem spec_l5Copy.bits5 : waitsOk spec_l5Copy.T5.2 spec_l5Copy.B5 = true := by kernel_rfl
theorem spec_l5Copy.calls (k : Nat) (A0_0 : Option Addr) (c0_0 : Nat) (l0_0 : List Int) (A0_1 : Option Addr) (c0_1 : Nat) (l0_1 : List (List Int)) (r1 : List Int) (r2 : List (List Int)) (w : World) (hr0_0 : Kd.C (Kd.int .i64) w A0_0 l0_0.length l0_0) (hc0_0 : l0_0.length ≤ c0_0) (hr0_1 : Kd.C (Kd.slice 3 (Kd.int .i64)) w A0_1 l0_1.length l0_1) (hc0_1 : l0_1.length ≤ c0_1) (h : spec_l5Copy.f k l0_0 l0_1 = some (r1, r2)) :
  Calls Try.prog 47 #[.agg #[.slice A0_0 l0_0.length c0_0, .slice A0_1 l0_1.length c0_1]] w fun e w' => ∃ v0_ v1_ : Value, e = .returned (.agg #[v0_, v1_]) ∧ Kd.R (Kd.int .i64) 3 w' w.heap.size (fun _ => True) v0_ r1 ∧ Kd.S (Kd.slice 3 (Kd.int .i64)) 24 w' w.heap.size (fun k_ => some k_ ≠ (v0_ : Value).ownBlock) v1_ r2 ∧ Below w.heap.size w w' := by
 have hu36 := Try.underlying36
 have HR0_0 := ax hr0_0
 have HC0_0 := ax hc0_0
 clear hr0_0 hc0_0
 have HR0_1 := ax hr0_1
 have HC0_1 := ax hc0_1
 clear hr0_1 hc0_1
 have HB := ax (Below.refl w.heap.size w)
 have H : ((some (([] : List Int) : List Int)).bind fun y418 => (if y418.length + l0_0.length < 17592186044416 then (spec_l5Copy.l0 k 0 l0_0 l0_1 (y418 ++ l0_0) ([] : List (List Int))) else (none))) = some (r1, r2) := h
 clear h
 obtain ⟨y418, Ny418, H⟩ := xg H
 obtain ⟨c2, H⟩ := xp H
 have LMc2 := ax c2
 clear c2
 obtain ⟨y421, hy421⟩ : ∃ y_ : List Int, y_ = (y418 ++ l0_0) := ⟨_, rfl⟩
 replace H : (spec_l5Copy.l0 k 0 l0_0 l0_1 y421 ([] : List (List Int))) = some (r1, r2) := xv hy421 H
 have Ny421 := ax hy421
 clear hy421
 have H' := ax H
 clear H
 go_enter Try.func47, Try.ntmps47
 go_wp2_with (first | ((with_reducible refine gate_dst (N := 1) rfl ?_); refine box_event ?hg (N := 1) ?hd (cs := #[.slice A0_0 l0_0.length c0_0, .slice A0_1 l0_1.length c0_1]) (t := 36) ?hr ?_; (case hd => rfl); (case hg => rfl); (case hr => first | (go_simp; done) | (go_simp; rfl)); intro gb416 hg w3 hbox hb; have BK416 := ax (hbox); have GW416 := ax ((by rw [hg]; exact (below_size (xb HB.out)) : w.heap.size ≤ gb416)); have GE416 := ax ((by rw [hg]; exact (below_size (xb HB.out)) : w.heap.size ≤ gb416)); replace HB := yB HB hb; clear hb hbox hg) | ((with_reducible refine gate_dst (N := 2) rfl ?_); refine box_event ?hg (N := 2) ?hd (cs := #[.slice none 0 0, .slice none 0 0]) (t := 36) ?hr ?_; (case hd => rfl); (case hg => rfl); (case hr => first | (go_simp; done) | (go_simp; rfl)); intro gb417 hg w4 hbox hb; have BK417 := ax (hbox); have GW417 := ax ((by rw [hg]; exact (below_size (xs HB.out GE416.out)) : w.heap.size ≤ gb417)); have GE417 := ax ((by rw [hg]; exact (below_size (xs HB.out GE416.out)) : w.heap.size ≤ gb417)); replace HB := ax (below_step (xs HB.out GE416.out) hb); have NB416_417 := ax ((by rw [hg]; exact Nat.ne_of_lt (blk_lt (g := gb416) (o := .cells #[.slice A0_0 l0_0.length c0_0, .slice A0_1 l0_1.length c0_1] 36 (0, 0)) (xk BK416.out)) : gb416 ≠ gb417)); have NB417_416 := ax ((by rw [hg]; exact Nat.ne_of_gt (blk_lt (g := gb416) (o := .cells #[.slice A0_0 l0_0.length c0_0, .slice A0_1 l0_1.length c0_1] 36 (0, 0)) (xk BK416.out)) : gb417 ≠ gb416)); replace BK416 := ax (blk_below (g := gb416) (o := .cells #[.slice A0_0 l0_0.length c0_0, .slice A0_1 l0_1.length c0_1] 36 (0, 0)) (xk BK416.out) hb); clear hb hbox hg) | ((with_reducible refine gate_dst (N := 5) rfl ?_); refine Kd.R_lit (Kd.int .i64) _ 3 ?hg (N := 5) ?hd (xs := ([] : List Int)) (inner := []) (ok := fun _ => True) (okp := fun _ => True) ?hr ?hp (fun _ hk => hk) trivial (Below.refl _ _) (Nat.le_refl _) (by simp) ?_; (case hd => rfl); (case hg => rfl); (case hr => first | (go_simp; done) | (go_simp; rfl)); (case hp => exact (Reps.none _ _)); intro v419 w5 ho6 hb hg_ hnew_; clear hg_ hnew_; (first | rw [← Ny418.out] at ho6 | (simp only [Int.reduceToNat] at ho6; rw [← Ny418.out] at ho6)); have HO420 := ax (Kd.R_lower ho6 (below_size (by repeat (first | (with_reducible first | exact HB.out | apply below_alloc | apply pw_below_drewN | apply below_drew1 | refine below_set ?_ GE416.out | refine below_set ?_ GE417.out) | exact HB.out)))); replace BK416 := ax (blk_below (g := gb416) (o := .cells #[.slice A0_0 l0_0.length c0_0, .slice A0_1 l0_1.length c0_1] 36 (0, 0)) (xk BK416.out) hb); replace BK417 := ax (blk_below (g := gb417) (o := .cells #[.slice none 0 0, .slice none 0 0] 36 (0, 0)) (xk BK417.out) hb); replace HB := ax (below_step (by repeat (first | (with_reducible first | exact HB.out | apply below_alloc | apply pw_below_drewN | apply below_drew1 | refine below_set ?_ GE416.out | refine below_set ?_ GE417.out) | exact HB.out)) hb); clear hb ho6; have hnb7 := NB416_417.out; have hnc7 := NB417_416.out; have hcz8_0 : w5.cell? ⟨gb416, 0, none⟩ = some (.slice A0_0 l0_0.length c0_0) := (blk_cell BK416.out 0).trans rfl; have hcz8_1 : w5.cell? ⟨gb416, 1, none⟩ = some (.slice A0_1 l0_1.length c0_1) := (blk_cell BK416.out 1).trans rfl; have hfz8_0 := blk_frozen BK416.out 0; have hfz8_1 := blk_frozen BK416.out 1) | ((with_reducible refine gate_builtin (b := .append) (xs := #[.tmp 5, .tmp 7]) rfl ?_); at_builtin; refine Kd.R_append_rows (Kd.int .i64) (w0 := w) w.heap.size rfl (.tmp 5) (.tmp 7) 24 3 (.int .i64 0) 8 rfl Try.underlying24 info3 rfl (by decide) (by omega) v419 y418 l0_0 _ _ _ (fun _ => True) (fun _ => False) rfl rfl ?aO ?aR (fun _ _ h => h) (fun _ h => h.elim) ?aF ?aB ?aS ?aL ?_; (case aR => exact xz HR0_0.out HB.out); (case aB => exact (by repeat (first | (with_reducible first | exact HB.out | apply below_alloc | apply pw_below_drewN | apply below_drew1 | refine below_set ?_ GE416.out | refine below_set ?_ GE417.out) | exact HB.out))); (case aF => exact (fun _ _ => trivial)); (case aO => exact (xR HO420.out)); (case aS => exact (below_size (by repeat (first | (with_reducible first | exact HB.out | apply below_alloc | apply pw_below_drewN | apply below_drew1 | refine below_set ?_ GE416.out | refine below_set ?_ GE417.out) | exact HB.out)))); (case aL => have := LMc2.out; omega); intro v422 w9 ho hb hg hat; rw [← Ny421.out] at ho; have n0_ := ax (blk_grown (g := gb416) (o := .cells #[.slice A0_0 l0_0.length c0_0, .slice A0_1 l0_1.length c0_1] 36 (0, 0)) (xk BK416.out) hg (Kd.R_ne HO420.out BK416.out (by decide))); have n1_ := ax (blk_grown (g := gb417) (o := .cells #[.slice none 0 0, .slice none 0 0] 36 (0, 0)) (xk BK417.out) hg (Kd.R_ne HO420.out BK417.out (by decide))); have n2_ := ax (hb); have n3_ := ax (ho); clear BK416; clear BK417; clear HB; clear HO420; have BK416 := n0_; have BK417 := n1_; have HB := n2_; have HO423 := n3_; clear n0_ n1_ n2_ n3_; clear ho hb hg hat; obtain ⟨Ao10, co10, eo10⟩ := Kd.R_slice HO423.out; subst eo10) | ((with_reducible refine gate_dst (N := 3) rfl ?_); refine box_event ?hg (N := 3) ?hd (cs := #[.slice none 0 0, .slice none 0 0]) (t := 36) ?hr ?_; (case hd => rfl); (case hg => rfl); (case hr => first | (go_simp; done) | (go_simp; rfl)); intro gb424 hg w11 hbox hb; replace HO423 := yR HO423 hb; have BK424 := ax (hbox); have GW424 := ax ((by rw [hg]; exact (below_size (by repeat (first | (with_reducible first | exact HB.out | apply below_alloc | apply pw_below_drewN | apply below_drew1 | refine below_set ?_ GE416.out | refine below_set ?_ GE417.out) | exact HB.out))) : w.heap.size ≤ gb424)); have GE424 := ax ((by rw [hg]; exact (below_size (by repeat (first | (with_reducible first | exact HB.out | apply below_alloc | apply pw_below_drewN | apply below_drew1 | refine below_set ?_ GE416.out | refine below_set ?_ GE417.out) | exact HB.out))) : w.heap.size ≤ gb424)); replace HB := ax (below_step (by repeat (first | (with_reducible first | exact HB.out | apply below_alloc | apply pw_below_drewN | apply below_drew1 | refine below_set ?_ GE416.out | refine below_set ?_ GE417.out) | exact HB.out)) hb); have NB416_424 := ax ((by rw [hg]; exact Nat.ne_of_lt (blk_lt (g := gb416) (o := .cells #[.slice A0_0 l0_0.length c0_0, .slice A0_1 l0_1.length c0_1] 36 (0, 0)) (xk BK416.out)) : gb416 ≠ gb424)); have NB424_416 := ax ((by rw [hg]; exact Nat.ne_of_gt (blk_lt (g := gb416) (o := .cells #[.slice A0_0 l0_0.length c0_0, .slice A0_1 l0_1.length c0_1] 36 (0, 0)) (xk BK416.out)) : gb424 ≠ gb416)); replace BK416 := ax (blk_below (g := gb416) (o := .cells #[.slice A0_0 l0_0.length c0_0, .slice A0_1 l0_1.length c0_1] 36 (0, 0)) (xk BK416.out) hb); have NB417_424 := ax ((by rw [hg]; exact Nat.ne_of_lt (blk_lt (g := gb417) (o := .cells #[.slice none 0 0, .slice none 0 0] 36 (0, 0)) (xk BK417.out)) : gb417 ≠ gb424)); have NB424_417 := ax ((by rw [hg]; exact Nat.ne_of_gt (blk_lt (g := gb417) (o := .cells #[.slice none 0 0, .slice none 0 0] 36 (0, 0)) (xk BK417.out)) : gb424 ≠ gb417)); replace BK417 := ax (blk_below (g := gb417) (o := .cells #[.slice none 0 0, .slice none 0 0] 36 (0, 0)) (xk BK417.out) hb); clear hb hbox hg; have hnb12 := NB424_416.out; have hnc12 := NB416_424.out; have hnb13 := NB424_417.out; have hnc13 := NB417_424.out; have hcz14_0 : w11.cell? ⟨gb424, 0, none⟩ = some (.slice none 0 0) := (blk_cell BK424.out 0).trans rfl; have hcz14_1 : w11.cell? ⟨gb424, 1, none⟩ = some (.slice none 0 0) := (blk_cell BK424.out 1).trans rfl; have hfz14_0 := blk_frozen BK424.out 0; have hfz14_1 := blk_frozen BK424.out 1))
 go_loopg [4] k (fun kq v4 w' => ∃ (x4_1 : Int) (x425001_1 : List (List Int)) (u425001 : Value), v4 = .int .i64 x4_1 ∧ Aside0 (spec_l5Copy.l0 kq x4_1 l0_0 l0_1 y421 x425001_1 = some (r1, r2)) ∧ Aside0 (kq ≤ k) ∧ Aside0 (Kd.R (Kd.int .i64) 3 w' w.heap.size (fun _ => True) (.slice Ao10 y421.length co10) y421) ∧ Aside0 (Kd.S (Kd.slice 3 (Kd.int .i64)) 24 w' w.heap.size (fun k_ => some k_ ≠ ((.slice Ao10 y421.length co10) : Value).ownBlock) u425001 x425001_1) ∧ Aside0 (w'.heap[gb416]? = some (.cells #[(.slice A0_0 l0_0.length c0_0), (.slice A0_1 l0_1.length c0_1)] 36 (0, 0))) ∧ Aside0 (w'.heap[gb417]? = some (.cells #[(.slice none 0 0), (.slice none 0 0)] 36 (0, 0))) ∧ Aside0 (w'.heap[gb424]? = some (.cells #[(.slice Ao10 y421.length co10), u425001] 36 (0, 0))) ∧ Aside0 (Below w.heap.size w w'))
 case atStart => exact ⟨(0), (([] : List (List Int))), (.slice none 0 0), xr, H', ⟨Nat.le_refl _⟩, ⟨by (with_reducible repeat (first | apply Kd.R_alloc | apply Kd.R_drewN | apply Kd.R_drew)); exact Kd.R_mono (Kd.R_far (p := ⟨gb424, 1, none⟩) (Kd.R_far (p := ⟨gb424, 0, none⟩) (Kd.R_types HO423.out BK424.out (by decide)) (fun _ hk => hk.2) (.slice Ao10 y421.length co10)) (fun _ hk => hk.2) (.slice none 0 0)) (fun _ hk => trivial)⟩, ⟨by first | exact Kd.S_nil _ _ _ _ _ | exact Kd.N_nil _ _ _ _ _ | exact Kd.V_nil _ _ _ _ _ | exact Kd.Q_nil _ _ _ _ _ | exact Kd.R_nil _ _ _ _ _⟩, ⟨by (with_reducible repeat (first | refine blk_drewN ?_ _ | refine blk_drew ?_ | refine blk_alloc ?_ _)); refine blk_far ?_ NB416_424.out _; (with_reducible repeat (first | refine blk_drewN ?_ _ | refine blk_drew ?_ | refine blk_alloc ?_ _)); refine blk_far ?_ NB416_424.out _; (with_reducible repeat (first | refine blk_drewN ?_ _ | refine blk_drew ?_ | refine blk_alloc ?_ _)); exact BK416.out⟩, ⟨by (with_reducible repeat (first | refine blk_drewN ?_ _ | refine blk_drew ?_ | refine blk_alloc ?_ _)); refine blk_far ?_ NB417_424.out _; (with_reducible repeat (first | refine blk_drewN ?_ _ | refine blk_drew ?_ | refine blk_alloc ?_ _)); refine blk_far ?_ NB417_424.out _; (with_reducible repeat (first | refine blk_drewN ?_ _ | refine blk_drew ?_ | refine blk_alloc ?_ _)); exact BK417.out⟩, ⟨by (with_reducible repeat (first | refine blk_drewN ?_ _ | refine blk_drew ?_ | refine blk_alloc ?_ _)); refine blk_put (cs := #[.slice Ao10 y421.length co10, .slice none 0 0]) ?_ 1 _ rfl; (with_reducible repeat (first | refine blk_drewN ?_ _ | refine blk_drew ?_ | refine blk_alloc ?_ _)); refine blk_put (cs := #[.slice none 0 0, .slice none 0 0]) ?_ 0 _ rfl; (with_reducible repeat (first | refine blk_drewN ?_ _ | refine blk_drew ?_ | refine blk_alloc ?_ _)); exact BK424.out⟩, ⟨by repeat (first | (with_reducible first | exact HB.out | apply below_alloc | apply pw_below_drewN | apply below_drew1 | refine below_set ?_ GE416.out | refine below_set ?_ GE417.out | refine below_set ?_ GE424.out) | exact HB.out)⟩⟩
 case round =>
  clear H'
  (try clear c2); (try clear hcz14_0); (try clear hcz14_1); (try clear hcz8_0); (try clear hcz8_1); (try clear hfz14_0); (try clear hfz14_1); (try clear hfz8_0); (try clear hfz8_1)
  obtain ⟨x4_1, x425001_1, u425001, rfl, HA, HK1, HO_425000, HO_425001, BK416, BK417, BK424, HB⟩ := hrel
  cases gk with
  | zero => exact absurd HA.out (by simp [spec_l5Copy.l0])
  | succ k1 =>
   have H := HA.out
   clear HA
   simp only [spec_l5Copy.l0] at H
   by_cases c15 : x4_1 < (l0_1.length : Int)
   ·rw [if_pos c15] at H
    have c15b0 := decide_eq_true c15
    clear c15
    obtain ⟨y425, Ny425, H⟩ := xg H
    obtain ⟨c16b0, H⟩ := xq H
    obtain ⟨c17, H⟩ := xp H
    have LMc17 := ax c17
    clear c17
    obtain ⟨y429, hy429⟩ : ∃ y_ : List Int, y_ = (y425 ++ (rd_L2 l0_1 x4_1)) := ⟨_, rfl⟩
    replace H : (if x425001_1.length < 5864062014805 then (spec_l5Copy.l0 k1 (wrap64 (x4_1 + 1)) l0_0 l0_1 y421 (x425001_1 ++ [y429])) else (none)) = some (r1, r2) := xv hy429 H
    have Ny429 := ax hy429
    clear hy429
    obtain ⟨c18, H⟩ := xp H
    have LMc18 := ax c18
    clear c18
    obtain ⟨y432, hy432⟩ : ∃ y_ : List (List Int), y_ = (x425001_1 ++ [y429]) := ⟨_, rfl⟩
    replace H : (spec_l5Copy.l0 k1 (wrap64 (x4_1 + 1)) l0_0 l0_1 y421 y432) = some (r1, r2) := xv hy432 H
    have Ny432 := ax hy432
    clear hy432
    have H' := ax H
    clear H
    have hnb19 := NB416_417.out
    have hnc19 := NB417_416.out
    have hnb20 := NB416_424.out
    have hnc20 := NB424_416.out
    have hcz21_0 : wr.cell? ⟨gb416, 0, none⟩ = some (.slice A0_0 l0_0.length c0_0) := (blk_cell BK416.out 0).trans rfl
    have hcz21_1 : wr.cell? ⟨gb416, 1, none⟩ = some (.slice A0_1 l0_1.length c0_1) := (blk_cell BK416.out 1).trans rfl
    have hfz21_0 := blk_frozen BK416.out 0
    have hfz21_1 := blk_frozen BK416.out 1
    try go_wp2
    replace HO_425000 := ax (Kd.R_drew HO_425000.out); replace HO_425001 := ax (Kd.S_drew HO_425001.out); replace BK416 := ax (blk_drew BK416.out); replace BK417 := ax (blk_drew BK417.out); replace BK424 := ax (blk_drew BK424.out); replace HB := ax (below_drew1 HB.out)
    have p428 : 0 ≤ (x4_1 : Int) := xd
    have q428 : x4_1 < (l0_1.length : Int) := xd
    obtain ⟨ad428, A428_0, c428_0, e428, hx428_0, hl428_0, hi428_0⟩ := at_L2 HR0_1.out x4_1 p428 q428
    have hw428_0 := hx428_0
    cases e428
    (try replace hx428_0 := (HB.out.cell (World.block_lt_of_cell? w _ hx428_0)).trans hx428_0)
    have HR428_0 := ax hi428_0
    have HC428_0 := ax hl428_0
    clear hi428_0 hl428_0
    replace p428 := eq_true p428
    replace q428 := eq_true q428
    refine start_ (n := 13) (S := fun w' => w'.cell? ⟨gb424, 0, none⟩ = some (.slice Ao10 y421.length co10) ∧ w'.cell? ⟨gb424, 1, none⟩ = some (u425001) ∧ w'.cell? ⟨gb416, 0, none⟩ = some (.slice A0_0 l0_0.length c0_0) ∧ w'.cell? ⟨gb416, 1, none⟩ = some (.slice (some ad428) l0_1.length c0_1) ∧ w'.cell? (ad428.add (x4_1).toNat) = some (.slice A428_0 (rd_L2 l0_1 x4_1).length c428_0)) (ds := [12]) (xB 13 0) (by kernel_rfl) rfl (by kernel_rfl) ⟨(blk_cell BK424.out 0).trans rfl, (blk_cell BK424.out 1).trans rfl, (blk_cell BK416.out 0).trans rfl, (blk_cell BK416.out 1).trans rfl, ((HB.out.cell (World.block_lt_of_cell? w _ hw428_0)).trans hw428_0)⟩ (fun hHeld => ?_); refine with_tabW spec_l5Copy.tab5 spec_l5Copy.bits5 (fun HT_ HW_ => ?_)
    generalize wr.drew = w22 at HO_425000 HO_425001 BK416 BK417 BK424 HB HR428_0 hx428_0 hHeld ⊢
    refine pu (i := 0) (N := some 17) (xB 13 1) HT_.out ?_
    refine pu (i := 3) (N := some 20) (xB 13 9) HT_.out ?_
    refine pu (i := 5) (N := some 22) (xB 13 41) HT_.out ?_
    refine tk (i := 1) (N := some 18) (xB 13 43) HT_.out HW_.out hHeld ?_
    refine tk (i := 4) (N := some 21) (xB 13 59) HT_.out HW_.out hHeld ?_
    refine pu (i := 6) (N := some 23) (xB 13 123) HT_.out ?_
    refine tk (i := 7) (N := some 24) (xB 13 251) HT_.out HW_.out hHeld ?_
    refine one_ (i := 2) (N := some 19) (xB 13 255) rfl rfl (one_of HT_.out (by kernel_rfl)) (by decide) (fun K hK => ?_)
    refine Kd.R_lit_step (Kd.int .i64) _ 3 ?hg (N := 19) ?hd (xs := ([] : List Int)) (inner := []) (ok := fun _ => True) (okp := fun _ => True) ?hr ?hp (fun _ hk => hk) trivial (Below.refl _ _) (Nat.le_refl _) (by simp) ?_; (case hd => rfl); (case hg => rfl); (case hr => first | (go_simp; done) | (go_simp; rfl)); (case hp => exact (Reps.none _ _))
    intro v426 w23 ho24 hb hg_ hnew_
    clear hg_ hnew_
    (first | rw [← Ny425.out] at ho24 | (simp only [Int.reduceToNat] at ho24; rw [← Ny425.out] at ho24))
    replace HO_425001 := ax (Kd.S_elder' (xS HO_425001.out) (Kd.R_base ho24) hb); have HO427 := ax (Kd.R_lower (Kd.R_new' ho24 (Kd.R_lt (xR HO_425000.out))) (below_size (by repeat (first | (with_reducible first | exact HB.out | apply below_alloc | apply pw_below_drewN | apply below_drew1 | refine below_set ?_ GE416.out | refine below_set ?_ GE417.out | refine below_set ?_ GE424.out) | exact HB.out)))); replace HO_425000 := ax (Kd.R_elder' (xR HO_425000.out) (Kd.R_base ho24) hb); replace BK416 := ax (blk_below (g := gb416) (o := .cells #[.slice A0_0 l0_0.length c0_0, .slice (some ad428) l0_1.length c0_1] 36 (0, 0)) (xk BK416.out) hb); replace BK417 := ax (blk_below (g := gb417) (o := .cells #[.slice none 0 0, .slice none 0 0] 36 (0, 0)) (xk BK417.out) hb); replace BK424 := ax (blk_below (g := gb424) (o := .cells #[.slice Ao10 y421.length co10, u425001] 36 (0, 0)) (xk BK424.out) hb); replace HB := ax (below_step (by repeat (first | (with_reducible first | exact HB.out | apply below_alloc | apply pw_below_drewN | apply below_drew1 | refine below_set ?_ GE416.out | refine below_set ?_ GE417.out | refine below_set ?_ GE424.out) | exact HB.out)) hb); clear hb ho24
    refine hK.out _ _ ⟨(blk_cell BK424.out 0).trans rfl, (blk_cell BK424.out 1).trans rfl, (blk_cell BK416.out 0).trans rfl, (blk_cell BK416.out 1).trans rfl, ((HB.out.cell (World.block_lt_of_cell? w _ hw428_0)).trans hw428_0)⟩ (fun hHeld => ?_)
    clear hK K
    refine nm ?_
    refine one_ (i := 8) (N := some 25) (xB 13 511) rfl rfl (one_of HT_.out (by kernel_rfl)) (by decide) (fun K hK => ?_)
    refine Kd.R_append_rows_step (Kd.int .i64) (w0 := w) w.heap.size (by rfl) (.tmp 19) (.tmp 24) 24 3 (.int .i64 0) 8 rfl Try.underlying24 info3 rfl (by decide) (by omega) v426 y425 (rd_L2 l0_1 x4_1) _ _ _ (fun k_ => some k_ ≠ (.slice Ao10 y421.length co10 : Value).ownBlock) (fun _ => False) rfl rfl ?aO ?aR (fun _ _ h => h) (fun _ h => h.elim) ?aF ?aB ?aS ?aL ?_
    (case aR => exact xz HR428_0.out HB.out)
    (case aB => exact (by repeat (first | (with_reducible first | exact HB.out | apply below_alloc | apply pw_below_drewN | apply below_drew1 | refine below_set ?_ GE416.out | refine below_set ?_ GE417.out | refine below_set ?_ GE424.out) | exact HB.out)))
    (case aF => exact (fun k_ hk => Kd.fresh' (Kd.R_lt (xR HO_425000.out)) k_ hk))
    (case aO => exact (by (with_reducible repeat (first | apply Kd.R_alloc | apply Kd.R_drewN | apply Kd.R_drew)); exact Kd.R_mono HO427.out (fun _ hk => hk.2)))
    (case aS => exact (below_size (by repeat (first | (with_reducible first | exact HB.out | apply below_alloc | apply pw_below_drewN | apply below_drew1 | refine below_set ?_ GE416.out | refine below_set ?_ GE417.out | refine below_set ?_ GE424.out) | exact HB.out))))
    (case aL => have := LMc17.out; omega)
    intro v430 w25 ho hb hg hat
    rw [← Ny429.out] at ho
    have n0_ := ax (Kd.R_after (ok := (fun _ => True)) (xR HO_425000.out) hg hat)
    have n1_ := ax (Kd.S_after (ok := (fun k_ => some k_ ≠ (.slice Ao10 y421.length co10 : Value).ownBlock)) (xS HO_425001.out) hg hat)
    have n2_ := ax (blk_grown (g := gb416) (o := .cells #[.slice A0_0 l0_0.length c0_0, .slice (some ad428) l0_1.length c0_1] 36 (0, 0)) (xk BK416.out) hg (Kd.R_ne HO427.out BK416.out (by decide)))
    have n3_ := ax (blk_grown (g := gb417) (o := .cells #[.slice none 0 0, .slice none 0 0] 36 (0, 0)) (xk BK417.out) hg (Kd.R_ne HO427.out BK417.out (by decide)))
    have n4_ := ax (blk_grown (g := gb424) (o := .cells #[.slice Ao10 y421.length co10, u425001] 36 (0, 0)) (xk BK424.out) hg (Kd.R_ne HO427.out BK424.out (by decide)))
    have n5_ := ax (hb)
    have n6_ := ax (ho)
    clear HO_425000 HO_425001 BK416 BK417 BK424 HB HO427
    have HO_425000 := n0_
    have HO_425001 := n1_
    have BK416 := n2_
    have BK417 := n3_
    have BK424 := n4_
    have HB := n5_
    have HO431 := n6_
    clear n0_ n1_ n2_ n3_ n4_ n5_ n6_ ho hb hg hat
    obtain ⟨Ao27, co27, eo27⟩ := Kd.R_slice HO431.out
    (first | subst eo27 | (injection eo27 with f1_ f2_ f3_; have f4_ := f1_.symm; have f5_ := f3_.symm; clear f1_ f2_ f3_; subst f4_; subst f5_))
    refine hK.out _ _ ⟨(blk_cell BK424.out 0).trans rfl, (blk_cell BK424.out 1).trans rfl, (blk_cell BK416.out 0).trans rfl, (blk_cell BK416.out 1).trans rfl, ((HB.out.cell (World.block_lt_of_cell? w _ hw428_0)).trans hw428_0)⟩ (fun hHeld => ?_)
    clear hK K
    refine nm ?_
    refine one_ (i := 9) (N := some 26) (xB 13 1023) rfl rfl (one_of HT_.out (by kernel_rfl)) (by decide) (fun K hK => ?_)
    refine value_ (w1 := ?_) (v := ?_) (by rfl) rfl ?_ ?_
    rotate_left 2
    ·go_simp
     constructor
     ·rfl
     ·rfl
    refine hK.out _ _ ⟨(blk_cell (blk_alloc BK424.out _) 0).trans rfl, (blk_cell (blk_alloc BK424.out _) 1).trans rfl, (blk_cell (blk_alloc BK416.out _) 0).trans rfl, (blk_cell (blk_alloc BK416.out _) 1).trans rfl, (World.cell?_alloc_lt _ _ _ (World.block_lt_of_cell? _ _ (((HB.out.cell (World.block_lt_of_cell? w _ hw428_0)).trans hw428_0)))).trans (((HB.out.cell (World.block_lt_of_cell? w _ hw428_0)).trans hw428_0))⟩ (fun hHeld => ?_)
    clear hK K
    refine nm ?_
    refine one_ (i := 10) (N := some 27) (xB 13 2047) rfl rfl (one_of HT_.out (by kernel_rfl)) (by decide) (fun K hK => ?_)
    refine Kd.S_append_step (Kd.slice 3 (Kd.int .i64)) (w0 := w) w.heap.size (by rfl) (.tmp 18) (.tmp 26) 34 24 (.slice none 0 0) 24 rfl Try.underlying34 info24 rfl (by decide) (by omega) u425001 x425001_1 y429 [.slice Ao27 y429.length co27] (fun k_ => some k_ ≠ (.slice Ao10 y421.length co10 : Value).ownBlock) (fun k_ => some k_ = (.slice Ao27 y429.length co27 : Value).ownBlock) rfl rfl ?aP (fun k_ hk_ => ((Kd.R_mono (ok' := fun k_ => ((fun k_ => some k_ ≠ (.slice Ao10 y421.length co10 : Value).ownBlock)) k_ ∧ some k_ ≠ (u425001 : Value).ownBlock) (Kd.R_apart' (HO431.out) (Kd.S_typed HO_425001.out) (by decide)) (fun k_ hk => ⟨hk.1, hk.2⟩))).1 k_ hk_.symm) ?aF ?aO ?aB ?aS ?aL ?_
    (case aP => exact Kd.M_row (Kd.R_mono (Kd.R_tight rfl (Kd.R_mono (ok' := fun k_ => ((fun k_ => some k_ ≠ (.slice Ao10 y421.length co10 : Value).ownBlock)) k_ ∧ some k_ ≠ (u425001 : Value).ownBlock) (Kd.R_apart' (HO431.out) (Kd.S_typed HO_425001.out) (by decide)) (fun k_ hk => ⟨hk.1, hk.2⟩))) (fun _ h_ => h_)))
    (case aB => exact (by repeat (first | (with_reducible first | exact HB.out | apply below_alloc | apply pw_below_drewN | apply below_drew1 | refine below_set ?_ GE416.out | refine below_set ?_ GE417.out | refine below_set ?_ GE424.out) | exact HB.out)))
    (case aF => exact (fun k_ hk => Kd.fresh' (Kd.R_lt (xR HO_425000.out)) k_ hk))
    (case aO => exact (by (with_reducible repeat (first | apply Kd.S_alloc | apply Kd.S_drewN | apply Kd.S_drew)); exact Kd.S_mono HO_425001.out (fun k_ hk => ⟨hk.1, fun e_ => hk.2 e_⟩)))
    (case aS => exact (below_size (by repeat (first | (with_reducible first | exact HB.out | apply below_alloc | apply pw_below_drewN | apply below_drew1 | refine below_set ?_ GE416.out | refine below_set ?_ GE417.out | refine below_set ?_ GE424.out) | exact HB.out))))
    (case aL => have := LMc18.out; omega)
    intro v433 w26 ho hb hg hat
    rw [← Ny432.out] at ho
    have n0_ := ax (Kd.R_over' (xR HO_425000.out) (Kd.S_typed (xS HO_425001.out)) (by decide) hg)
    have n1_ := ax (blk_grown (g := gb416) (o := .cells #[.slice A0_0 l0_0.length c0_0, .slice (some ad428) l0_1.length c0_1] 36 (0, 0)) (xk BK416.out) hg (Kd.S_ne HO_425001.out BK416.out (by decide)))
    have n2_ := ax (blk_grown (g := gb417) (o := .cells #[.slice none 0 0, .slice none 0 0] 36 (0, 0)) (xk BK417.out) hg (Kd.S_ne HO_425001.out BK417.out (by decide)))
    have n3_ := ax (blk_grown (g := gb424) (o := .cells #[.slice Ao10 y421.length co10, u425001] 36 (0, 0)) (xk BK424.out) hg (Kd.S_ne HO_425001.out BK424.out (by decide)))
    have n4_ := ax (hb)
    have n5_ := ax (ho)
    clear HO_425000 BK416 BK417 BK424 HB HO_425001 HO431
    have HO_425000 := n0_
    have BK416 := n1_
    have BK417 := n2_
    have BK424 := n3_
    have HB := n4_
    have HO434 := n5_
    clear n0_ n1_ n2_ n3_ n4_ n5_ ho hb hg hat
    obtain ⟨Ao28, co28, eo28⟩ := Kd.S_slice HO434.out
    (first | subst eo28 | (injection eo28 with f1_ f2_ f3_; have f4_ := f1_.symm; have f5_ := f3_.symm; clear f1_ f2_ f3_; subst f4_; subst f5_))
    refine hK.out _ _ ⟨(blk_cell BK424.out 0).trans rfl, (blk_cell BK424.out 1).trans rfl, (blk_cell BK416.out 0).trans rfl, (blk_cell BK416.out 1).trans rfl, ((HB.out.cell (World.block_lt_of_cell? w _ hw428_0)).trans hw428_0)⟩ (fun hHeld => ?_)
    clear hK K
    refine nm ?_
    refine pu (i := 11) (N := some 28) (xB 13 4095) HT_.out ?_
    refine last_ (i := 12) (N := none) (xB 13 8191) rfl rfl (one_of HT_.out (by kernel_rfl)) (by decide) (fun K hK => ?_)
    have hs29 : w26.cell? ⟨gb424, 1, none⟩ = some (u425001) := (blk_cell BK424.out 1).trans rfl
    have hfs29 := blk_frozen BK424.out 1
    have hns29_0 := NB416_424.out
    have hns29_1 := NB417_424.out
    have hms29_0 := NB424_416.out
    have hms29_1 := NB424_417.out
    refine skip_ (w1 := ?_) (by rfl) rfl ?_ ?_
    rotate_left
    ·go_simp
     rfl
    refine hK.out _ _ ?_
    clear hK K
    refine done_ (done_of HT_.out (by kernel_rfl)) ?_
    try go_wp2
    go_roundg k1
    case measure => have := HK1.out; omega
    case rel => exact ⟨(wrap64 (x4_1 + 1)), (y432), (.slice Ao28 y432.length co28), xr, H', ⟨by have := HK1.out; omega⟩, ⟨by (with_reducible repeat (first | apply Kd.R_alloc | apply Kd.R_drewN | apply Kd.R_drew)); exact Kd.R_mono (Kd.R_far (p := ⟨gb424, 1, none⟩) (Kd.R_types HO_425000.out BK424.out (by decide)) (fun _ hk => hk.2) (.slice Ao28 y432.length co28)) (fun _ hk => trivial)⟩, ⟨by (with_reducible repeat (first | apply Kd.S_alloc | apply Kd.S_drewN | apply Kd.S_drew)); exact Kd.S_mono (Kd.S_far (p := ⟨gb424, 1, none⟩) (Kd.S_types HO434.out BK424.out (by decide)) (fun _ hk => hk.2) (.slice Ao28 y432.length co28)) (fun _ hk => hk.1)⟩, ⟨by (with_reducible repeat (first | refine blk_drewN ?_ _ | refine blk_drew ?_ | refine blk_alloc ?_ _)); refine blk_far ?_ NB416_424.out _; (with_reducible repeat (first | refine blk_drewN ?_ _ | refine blk_drew ?_ | refine blk_alloc ?_ _)); exact BK416.out⟩, ⟨by (with_reducible repeat (first | refine blk_drewN ?_ _ | refine blk_drew ?_ | refine blk_alloc ?_ _)); refine blk_far ?_ NB417_424.out _; (with_reducible repeat (first | refine blk_drewN ?_ _ | refine blk_drew ?_ | refine blk_alloc ?_ _)); exact BK417.out⟩, ⟨by (with_reducible repeat (first | refine blk_drewN ?_ _ | refine blk_drew ?_ | refine blk_alloc ?_ _)); refine blk_put (cs := #[.slice Ao10 y421.length co10, u425001]) ?_ 1 _ rfl; (with_reducible repeat (first | refine blk_drewN ?_ _ | refine blk_drew ?_ | refine blk_alloc ?_ _)); exact BK424.out⟩, ⟨by repeat (first | (with_reducible first | exact HB.out | apply below_alloc | apply pw_below_drewN | apply below_drew1 | refine below_set ?_ GE416.out | refine below_set ?_ GE417.out | refine below_set ?_ GE424.out) | exact HB.out)⟩⟩
   ·rw [if_neg c15] at H
    have c15b0 := decide_eq_false c15
    clear c15
    simp only [Option.some.injEq, Prod.mk.injEq] at H
    obtain ⟨rfl, rfl⟩ := H
    have hnb30 := NB416_417.out
    have hnc30 := NB417_416.out
    have hnb31 := NB416_424.out
    have hnc31 := NB424_416.out
    have hcz32_0 : wr.cell? ⟨gb416, 0, none⟩ = some (.slice A0_0 l0_0.length c0_0) := (blk_cell BK416.out 0).trans rfl
    have hcz32_1 : wr.cell? ⟨gb416, 1, none⟩ = some (.slice A0_1 l0_1.length c0_1) := (blk_cell BK416.out 1).trans rfl
    have hfz32_0 := blk_frozen BK416.out 0
    have hfz32_1 := blk_frozen BK416.out 1
    have hnb33 := NB424_417.out
    have hnc33 := NB417_424.out
    have hcz34_0 : wr.cell? ⟨gb424, 0, none⟩ = some (.slice Ao10 y421.length co10) := (blk_cell BK424.out 0).trans rfl
    have hcz34_1 : wr.cell? ⟨gb424, 1, none⟩ = some (u425001) := (blk_cell BK424.out 1).trans rfl
    have hfz34_0 := blk_frozen BK424.out 0
    have hfz34_1 := blk_frozen BK424.out 1
    have hcz35_0 : wr.cell? ⟨gb417, 0, none⟩ = some (.slice none 0 0) := (blk_cell BK417.out 0).trans rfl
    have hcz35_1 : wr.cell? ⟨gb417, 1, none⟩ = some (.slice none 0 0) := (blk_cell BK417.out 1).trans rfl
    have hfz35_0 := blk_frozen BK417.out 0
    have hfz35_1 := blk_frozen BK417.out 1
    obtain ⟨Ao36, co36, eo36⟩ := Kd.S_slice HO_425001.out
    subst eo36
    go_wp2
    refine bodyPost_ret (results_cell_row rfl _ _ gb417 36 #[.slice Ao10 y421.length co10, .slice Ao36 x425001_1.length co36] (0, 0) _ rfl (by (with_reducible repeat (first | refine blk_drewN ?_ _ | refine blk_drew ?_ | refine blk_alloc ?_ _)); refine blk_put (cs := #[.slice Ao10 y421.length co10, .slice none 0 0]) ?_ 1 _ rfl; (with_reducible repeat (first | refine blk_drewN ?_ _ | refine blk_drew ?_ | refine blk_alloc ?_ _)); refine blk_put (cs := #[.slice none 0 0, .slice none 0 0]) ?_ 0 _ rfl; (with_reducible repeat (first | refine blk_drewN ?_ _ | refine blk_drew ?_ | refine blk_alloc ?_ _)); exact BK417.out) Try.underlying36 rfl (by kernel_rfl)) rfl ?_
    exact ⟨_, _, xe, by (with_reducible repeat (first | apply Kd.R_alloc | apply Kd.R_drewN | apply Kd.R_drew)); exact Kd.R_mono (Kd.R_far (p := ⟨gb417, 1, none⟩) (Kd.R_far (p := ⟨gb417, 0, none⟩) (Kd.R_types HO_425000.out BK417.out (by decide)) (fun _ hk => hk.2) (.slice Ao10 y421.length co10)) (fun _ hk => hk.2) (.slice Ao36 x425001_1.length co36)) (fun _ hk => trivial), by (with_reducible repeat (first | apply Kd.S_alloc | apply Kd.S_drewN | apply Kd.S_drew)); exact Kd.S_mono (Kd.S_far (p := ⟨gb417, 1, none⟩) (Kd.S_far (p := ⟨gb417, 0, none⟩) (Kd.S_types HO_425001.out BK417.out (by decide)) (fun _ hk => hk.2) (.slice Ao10 y421.length co10)) (fun _ hk => hk.2) (.slice Ao36 x425001_1.length co36)) (fun _ hk => hk.1), by repeat (first | (with_reducible first | exact HB.out | apply below_alloc | apply pw_below_drewN | apply below_drew1 | refine below_set ?_ GE416.out | refine below_set ?_ GE417.out | refine below_set ?_ GE424.out) | exact HB.out)⟩

end Go.Proofs.Ytnfcdaojglicfaa.PFnOperators
