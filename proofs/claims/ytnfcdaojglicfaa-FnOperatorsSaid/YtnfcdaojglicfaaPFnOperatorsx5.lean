import Derived.Test.YtnfcdaojglicfaaPFnOperatorsx4
namespace Go.Proofs.Ytnfcdaojglicfaa.PFnOperators
open Go.RowKit Go.Proofs.YtnfcdaojglicfaaW.PrintWords Go.Proofs.YtnfcdaojglicfaaW.PrintLast Go.Proofs.YtnfcdaojglicfaaW.PrintMore
set_option linter.unusedVariables false
set_option linter.unusedSimpArgs false
set_option maxHeartbeats 8000000
set_option maxRecDepth 100000
/-! ### spec_l26Free: function 25 -/
mutual
def spec_l26Free.l0 : Nat → List Int → Int → List Int → List Int → Int → Option (List Int × List Int)
 | 0, _, _, _, _, _ => none
 | k + 1, x0, x1, x6, x7, x8 => if x8 < (x0.length : Int) then (if 0 ≤ x8 then (if (rd x0 x8) = (wrap64 (x1 + 1)) then (if x7.length < 17592186044416 then (spec_l26Free.l0 k x0 x1 x6 (x7 ++ [x8]) (wrap64 (x8 + 1))) else (none)) else (if (rd x0 x8) = x1 then (spec_l26Free.j1 k x0 x1 x6 x7 x8 (decide ((x7.length : Int) > 0))) else (spec_l26Free.j1 k x0 x1 x6 x7 x8 false))) else (none)) else (some (x6, x7))
def spec_l26Free.j1 : Nat → List Int → Int → List Int → List Int → Int → Bool → Option (List Int × List Int)
 | 0, _, _, _, _, _, _ => none
 | k + 1, x0, x1, x6, x7, x8, x29 => if x29 = true then (if 0 ≤ (wrap64 ((x7.length : Int) - 1)) then (if (wrap64 ((x7.length : Int) - 1)) ≤ (x7.length : Int) then (spec_l26Free.l0 k x0 x1 x6 (x7.take ((wrap64 ((x7.length : Int) - 1)) : Int).toNat) (wrap64 (x8 + 1))) else (none)) else (none)) else (if 0 ≤ x8 then (if x8 < (x0.length : Int) then (if (rd x0 x8) = x1 then (if x6.length < 17592186044416 then (spec_l26Free.l0 k x0 x1 (x6 ++ [x8]) x7 (wrap64 (x8 + 1))) else (none)) else (spec_l26Free.l0 k x0 x1 x6 x7 (wrap64 (x8 + 1)))) else (none)) else (none))
end
def spec_l26Free.f (k : Nat) (l0 : List Int) (a1 : Int) : Option (List Int × List Int) := spec_l26Free.l0 k l0 a1 (([] : List Int)) (([] : List Int)) 0
theorem spec_l26Free.mono_l : ∀ k, (∀ y0 y1 y2 y3 y4, LeO (spec_l26Free.l0 k y0 y1 y2 y3 y4) (spec_l26Free.l0 (k + 1) y0 y1 y2 y3 y4)) ∧ (∀ y0 y1 y2 y3 y4 y5, LeO (spec_l26Free.j1 k y0 y1 y2 y3 y4 y5) (spec_l26Free.j1 (k + 1) y0 y1 y2 y3 y4 y5))
 | 0 => ⟨fun _ _ _ _ _ r h => by simp [spec_l26Free.l0] at h, fun _ _ _ _ _ _ r h => by simp [spec_l26Free.j1] at h⟩
 | k + 1 => by
  obtain ⟨ih0, ih1⟩ := spec_l26Free.mono_l k
  refine ⟨?_, ?_⟩
  ·intro y0 y1 y2 y3 y4
   unfold spec_l26Free.l0
   repeat' with_reducible first | exact ih0 _ _ _ _ _ | exact ih1 _ _ _ _ _ _ | exact xl | refine LeO.ite ?_ ?_ | refine LeO.bind ?_ fun _ => ?_
  ·intro y0 y1 y2 y3 y4 y5
   unfold spec_l26Free.j1
   repeat' with_reducible first | exact ih0 _ _ _ _ _ | exact ih1 _ _ _ _ _ _ | exact xl | refine LeO.ite ?_ ?_ | refine LeO.bind ?_ fun _ => ?_
theorem spec_l26Free.mono : ∀ a0 a1 k, LeO (spec_l26Free.f k a0 a1) (spec_l26Free.f (k + 1) a0 a1) := by
 intro a0 a1 k
 obtain ⟨ih0, ih1⟩ := spec_l26Free.mono_l k
 unfold spec_l26Free.f
 repeat' with_reducible first | exact ih0 _ _ _ _ _ | exact ih1 _ _ _ _ _ _ | exact xl | refine LeO.ite ?_ ?_ | refine LeO.bind ?_ fun _ => ?_
theorem spec_l26Free.calls (k : Nat) (A0 : Option Addr) (c0 : Nat) (l0 : List Int) (a1 : Int) (r1 : List Int) (r2 : List Int) (w : World) (hr0 : Kd.C (Kd.int .i64) w A0 l0.length l0) (hc0 : l0.length ≤ c0) (h : spec_l26Free.f k l0 a1 = some (r1, r2)) :
  Calls Try.prog 25 #[.slice A0 l0.length c0, .int .i64 a1] w fun e w' => ∃ v0_ v1_ : Value, e = .returned (.tuple #[v0_, v1_]) ∧ Kd.R (Kd.int .i64) 3 w' w.heap.size (fun k_ => some k_ ≠ (v1_ : Value).ownBlock) v0_ r1 ∧ Kd.R (Kd.int .i64) 3 w' w.heap.size (fun k_ => some k_ ≠ (v0_ : Value).ownBlock) v1_ r2 ∧ Below w.heap.size w w' := by
 have HR0 := ax hr0
 have HC0 := ax hc0
 clear hr0 hc0
 have HB := ax (Below.refl w.heap.size w)
 have H : (spec_l26Free.l0 k l0 a1 (([] : List Int)) (([] : List Int)) 0) = some (r1, r2) := h
 clear h
 obtain ⟨y254, hy254⟩ : ∃ y_ : List Int, y_ = (([] : List Int)) := ⟨_, rfl⟩
 replace H : (spec_l26Free.l0 k l0 a1 y254 (([] : List Int)) 0) = some (r1, r2) := xv hy254 H
 have Ny254 := ax hy254
 clear hy254
 obtain ⟨y257, hy257⟩ : ∃ y_ : List Int, y_ = (([] : List Int)) := ⟨_, rfl⟩
 replace H : (spec_l26Free.l0 k l0 a1 y254 y257 0) = some (r1, r2) := xv hy257 H
 have Ny257 := ax hy257
 clear hy257
 have H' := ax H
 clear H
 go_enter Try.func25, Try.ntmps25
 go_wp2_with (first | ((with_reducible refine gate_dst (N := 9) rfl ?_); (try (refine gate_guard (by rfl) ?_; dsimp only)); refine Kd.R_lit (Kd.int .i64) _ 3 ?hg (N := 9) ?hd (xs := ([] : List Int)) (inner := []) (ok := fun _ => True) (okp := fun _ => True) ?hr ?hp (fun _ hk => hk) trivial (Below.refl _ _) (Nat.le_refl _) (by simp) ?_; (case hd => rfl); (case hg => rfl); (case hr => first | (go_simp; done) | (go_simp; rfl)); (case hp => exact (Reps.none _ _)); intro v255 w3 ho4 hb hg_ hnew_; clear hg_ hnew_; (first | rw [← Ny254.out] at ho4 | (simp only [Int.reduceToNat] at ho4; rw [← Ny254.out] at ho4)); have HO256 := ax (Kd.R_lower ho4 (below_size (xb HB.out))); replace HB := yB HB hb; clear hb ho4) | ((with_reducible refine gate_dst (N := 10) rfl ?_); (try (refine gate_guard (by rfl) ?_; dsimp only)); refine Kd.R_lit (Kd.int .i64) _ 3 ?hg (N := 10) ?hd (xs := ([] : List Int)) (inner := []) (ok := fun _ => True) (okp := fun _ => True) ?hr ?hp (fun _ hk => hk) trivial (Below.refl _ _) (Nat.le_refl _) (by simp) ?_; (case hd => rfl); (case hg => rfl); (case hr => first | (go_simp; done) | (go_simp; rfl)); (case hp => exact (Reps.none _ _)); intro v258 w5 ho6 hb hg_ hnew_; clear hg_ hnew_; (first | rw [← Ny257.out] at ho6 | (simp only [Int.reduceToNat] at ho6; rw [← Ny257.out] at ho6)); have HO259 := ax (Kd.R_lower (Kd.R_new' ho6 (Kd.R_lt (xR HO256.out))) (below_size (xb HB.out))); replace HO256 := ax (Kd.R_elder' (xR HO256.out) (Kd.R_base ho6) hb); replace HB := yB HB hb; clear hb ho6))
 go_loopg [6, 7, 8] k (fun kq v6 v7 v8 w' => ∃ (x6_1 : List Int) (x7_1 : List Int) (x8_1 : Int), v8 = .int .i64 x8_1 ∧ Aside0 (spec_l26Free.l0 kq l0 a1 x6_1 x7_1 x8_1 = some (r1, r2)) ∧ Aside0 (kq ≤ k) ∧ Aside0 (Kd.R (Kd.int .i64) 3 w' w.heap.size (fun k_ => some k_ ≠ (v7 : Value).ownBlock) v6 x6_1) ∧ Aside0 (Kd.R (Kd.int .i64) 3 w' w.heap.size (fun k_ => some k_ ≠ (v6 : Value).ownBlock) v7 x7_1) ∧ Aside0 (Below w.heap.size w w'))
 case atStart => exact ⟨(y254), (y257), (0), xr, H', ⟨Nat.le_refl _⟩, ⟨by (with_reducible repeat (first | apply Kd.R_alloc | apply Kd.R_drewN | apply Kd.R_drew)); exact Kd.R_mono HO256.out (fun _ hk => hk.2)⟩, ⟨by (with_reducible repeat (first | apply Kd.R_alloc | apply Kd.R_drewN | apply Kd.R_drew)); exact Kd.R_mono HO259.out (fun _ hk => hk.2)⟩, ⟨xb HB.out⟩⟩
 case round =>
  clear H'
  obtain ⟨x6_1, x7_1, x8_1, rfl, HA, HK1, HO_6, HO_7, HB⟩ := hrel
  cases gk with
  | zero => exact absurd HA.out (by simp [spec_l26Free.l0])
  | succ k1 =>
   have H := HA.out
   clear HA
   simp only [spec_l26Free.l0] at H
   by_cases c7 : x8_1 < (l0.length : Int)
   ·rw [if_pos c7] at H
    have c7b0 := decide_eq_true c7
    clear c7
    obtain ⟨c8b0, H⟩ := xq H
    by_cases c9 : (rd l0 x8_1) = (wrap64 (a1 + 1))
    ·rw [if_pos c9] at H
     have c9b0 : ((rd l0 x8_1) == (wrap64 (a1 + 1))) = true := beq_iff_eq.mpr c9
     have c9b1 : ((rd l0 x8_1) != (wrap64 (a1 + 1))) = false := bne_eq_false_iff_eq.mpr c9
     clear c9
     obtain ⟨c10, H⟩ := xp H
     have LMc10 := ax c10
     clear c10
     obtain ⟨y261, hy261⟩ : ∃ y_ : List Int, y_ = (x7_1 ++ [x8_1]) := ⟨_, rfl⟩
     replace H : (spec_l26Free.l0 k1 l0 a1 x6_1 y261 (wrap64 (x8_1 + 1))) = some (r1, r2) := xv hy261 H
     have Ny261 := ax hy261
     clear hy261
     have H' := ax H
     clear H
     have p260 : 0 ≤ (x8_1 : Int) := xd
     have q260 : x8_1 < (l0.length : Int) := xd
     obtain ⟨ad260, e260, hx260_0⟩ := Kd.at_int HR0.out x8_1 p260 q260
     cases e260
     (try replace hx260_0 := (HB.out.cell (World.block_lt_of_cell? w _ hx260_0)).trans hx260_0)
     replace p260 := eq_true p260
     replace q260 := eq_true q260
     go_wp2_with (first | ((with_reducible refine gate_builtin (b := .append) (xs := #[.tmp 25, .tmp 27]) rfl ?_); (try (refine gate_guard (by rfl) ?_; dsimp only)); at_builtin; refine Kd.R_append (Kd.int .i64) (w0 := w) w.heap.size rfl (.tmp 25) (.tmp 27) 24 3 (.int .i64 0) 8 rfl Try.underlying24 info3 rfl (by decide) (by omega) u7 x7_1 x8_1 [.int .i64 x8_1] (fun k_ => some k_ ≠ (u6 : Value).ownBlock) (fun _ => False) rfl rfl ?aP (fun _ hk => hk.elim) ?aF ?aO ?aB ?aS ?aL ?_; (case aP => exact rfl); (case aB => exact (xb HB.out)); (case aF => exact (fun k_ hk => Kd.fresh' (Kd.R_lt (xR HO_6.out)) k_ hk)); (case aO => exact (xR HO_7.out)); (case aS => exact (below_size (xb HB.out))); (case aL => have := LMc10.out; omega); intro v262 w11 ho hb hg hat; rw [← Ny261.out] at ho; have n0_ := ax (Kd.R_after (ok := (fun _ => True)) (by (with_reducible repeat (first | apply Kd.R_alloc | apply Kd.R_drewN | apply Kd.R_drew)); exact Kd.R_mono HO_6.out (fun _ hk => ⟨trivial, by first | exact hk | simpa only [xw_own] using hk⟩)) hg hat); have n1_ := ax (hb); have n2_ := ax (ho); clear HO_6; clear HB; clear HO_7; have HO_6 := n0_; have HB := n1_; have HO263 := n2_; clear n0_ n1_ n2_; clear ho hb hg hat))
     go_roundg k1
     case measure => have := HK1.out; omega
     case rel => exact ⟨(x6_1), (y261), (wrap64 (x8_1 + 1)), xr, H', ⟨by have := HK1.out; omega⟩, ⟨by (with_reducible repeat (first | apply Kd.R_alloc | apply Kd.R_drewN | apply Kd.R_drew)); exact Kd.R_mono HO_6.out (fun _ hk => hk.2)⟩, ⟨xR HO263.out⟩, ⟨xb HB.out⟩⟩
    ·rw [if_neg c9] at H
     have c9b0 : ((rd l0 x8_1) == (wrap64 (a1 + 1))) = false := beq_eq_false_iff_ne.mpr c9
     have c9b1 : ((rd l0 x8_1) != (wrap64 (a1 + 1))) = true := bne_iff_ne.mpr c9
     have HC12 := ax H
     clear H
     have p260 : 0 ≤ (x8_1 : Int) := xd
     have q260 : x8_1 < (l0.length : Int) := xd
     obtain ⟨ad260, e260, hx260_0⟩ := Kd.at_int HR0.out x8_1 p260 q260
     cases e260
     (try replace hx260_0 := (HB.out.cell (World.block_lt_of_cell? w _ hx260_0)).trans hx260_0)
     replace p260 := eq_true p260
     replace q260 := eq_true q260
     go_upto_region 8 with (fail)
     go_cut [29] (fun v29 wc => ∃ (kq : Nat) (x29_11 : Bool), v29 = .bool x29_11 ∧ Aside0 (spec_l26Free.j1 kq l0 a1 x6_1 x7_1 x8_1 x29_11 = some (r1, r2)) ∧ Aside0 (kq ≤ k1) ∧ Aside0 (Kd.R (Kd.int .i64) 3 wc w.heap.size (fun k_ => some k_ ≠ (u7 : Value).ownBlock) u6 x6_1) ∧ Aside0 (Kd.R (Kd.int .i64) 3 wc w.heap.size (fun k_ => some k_ ≠ (u6 : Value).ownBlock) u7 x7_1) ∧ Aside0 (Below w.heap.size w wc))
     case first =>
      have H := HC12.out
      clear HC12
      by_cases c13 : (rd l0 x8_1) = a1
      ·rw [if_pos c13] at H
       have c13b0 : ((rd l0 x8_1) == a1) = true := beq_iff_eq.mpr c13
       have c13b1 : ((rd l0 x8_1) != a1) = false := bne_eq_false_iff_eq.mpr c13
       clear c13
       (first | rw [c13b0] | (simp only [i64_w, i32_w]; rw [c13b0]) | skip)
       have H' := ax H
       clear H
       have p264 : 0 ≤ (x8_1 : Int) := xd
       have q264 : x8_1 < (l0.length : Int) := xd
       obtain ⟨ad264, e264, hx264_0⟩ := Kd.at_int HR0.out x8_1 p264 q264
       obtain rfl : ad260 = ad264 := (by injection e264)
       (try replace hx264_0 := (HB.out.cell (World.block_lt_of_cell? w _ hx264_0)).trans hx264_0)
       replace p264 := eq_true p264
       replace q264 := eq_true q264
       obtain ⟨Ao14, co14, eo14⟩ := Kd.R_slice HO_7.out
       subst eo14
       go_wp2
       go_meet
       case rel => exact ⟨_, (decide ((x7_1.length : Int) > 0)), xr, H', ⟨by have := HK1.out; first | omega | exact Nat.le_refl _⟩, ⟨xR HO_6.out⟩, ⟨xR HO_7.out⟩, ⟨xb HB.out⟩⟩
      ·rw [if_neg c13] at H
       have c13b0 : ((rd l0 x8_1) == a1) = false := beq_eq_false_iff_ne.mpr c13
       have c13b1 : ((rd l0 x8_1) != a1) = true := bne_iff_ne.mpr c13
       (first | rw [c13b0] | (simp only [i64_w, i32_w]; rw [c13b0]) | skip)
       have H' := ax H
       clear H
       have p264 : 0 ≤ (x8_1 : Int) := xd
       have q264 : x8_1 < (l0.length : Int) := xd
       obtain ⟨ad264, e264, hx264_0⟩ := Kd.at_int HR0.out x8_1 p264 q264
       obtain rfl : ad260 = ad264 := (by injection e264)
       (try replace hx264_0 := (HB.out.cell (World.block_lt_of_cell? w _ hx264_0)).trans hx264_0)
       replace p264 := eq_true p264
       replace q264 := eq_true q264
       go_wp2
       go_meet
       case rel => exact ⟨_, (false), xr, H', ⟨by have := HK1.out; first | omega | exact Nat.le_refl _⟩, ⟨xR HO_6.out⟩, ⟨xR HO_7.out⟩, ⟨xb HB.out⟩⟩
     case rest =>
      clear HC12
      (try clear c7); (try clear c7b0); (try clear c8); (try clear c8b0); (try clear c9); (try clear c9b0); (try clear c9b1); (try clear c10); (try clear c13); (try clear c13b0); (try clear c13b1); (try clear hx260_0); (try clear hx264_0); (try clear p260); (try clear p264); (try clear q260); (try clear q264)
      obtain ⟨kq, x29_11, rfl, HA, HJ11, HO_6, HO_7, HB⟩ := hcut
      cases kq with
      | zero => exact absurd HA.out (by simp [spec_l26Free.j1])
      | succ kj11 =>
       have H := HA.out
       clear HA
       simp only [spec_l26Free.j1] at H
       by_cases c15 : x29_11 = true
       ·subst c15
        rw [if_pos rfl] at H
        obtain ⟨ji16, hji16⟩ : ∃ j_ : Int, (wrap64 ((x7_1.length : Int) - 1)) = j_ := ⟨_, rfl⟩
        replace H : (if 0 ≤ (ji16) then (if (ji16) ≤ (x7_1.length : Int) then (spec_l26Free.l0 kj11 l0 a1 x6_1 (x7_1.take ((ji16) : Int).toNat) (wrap64 (x8_1 + 1))) else (none)) else (none)) = some (r1, r2) := by first | (rw [hji16] at H; exact H) | (simp only [hji16] at H ⊢; exact H)
        have hji16w : (IntKind.i64.wrap ((x7_1.length : Int) - 1)) = ji16 := (i64_w _).trans hji16
        obtain ⟨c17, H⟩ := xp H
        have c17b0 := eq_true c17
        have c17b1 := decide_eq_true c17
        clear c17
        obtain ⟨c18, H⟩ := xp H
        have c18b0 := eq_true c18
        have c18b1 := decide_eq_true c18
        clear c18
        obtain ⟨y265, hy265⟩ : ∃ y_ : List Int, y_ = (x7_1.take ((ji16) : Int).toNat) := ⟨_, rfl⟩
        replace H : (spec_l26Free.l0 kj11 l0 a1 x6_1 y265 (wrap64 (x8_1 + 1))) = some (r1, r2) := xv hy265 H
        have Ny265 := ax hy265
        clear hy265
        have H' := ax H
        clear H
        obtain ⟨Ao19, co19, eo19⟩ := Kd.R_slice HO_7.out
        subst eo19
        have q20 : ((ji16) : Int) ≤ ((x7_1.length : Int) : Int) := xd
        obtain ⟨i020, hi020, _, hsz20, _⟩ := info_parts info3
        have hcut20 := cut_to (P := Try.prog) 24 3 .i64 Try.underlying24 hi020 Ao19 x7_1.length co19 (ji16) (xd) q20 (Kd.R_reads' HO_7.out).2.1
        have hr20 := Kd.R_take (m := ((ji16) : Int).toNat) HO_7.out (by omega)
        have hy20 : y265.length = ((ji16) : Int).toNat := (by rw [Ny265.out, List.length_take]; omega)
        rw [← Ny265.out] at hr20
        rw [← hy20] at hr20 hcut20
        clear hy20 hi020 hsz20 HO_7
        have HO267 := ax hr20
        clear hr20
        replace q20 := eq_true q20
        go_wp2
        go_roundg kj11
        case measure => have := HK1.out; have := HJ11.out; omega
        case rel => exact ⟨(x6_1), (y265), (wrap64 (x8_1 + 1)), xr, H', ⟨by have := HK1.out; have := HJ11.out; omega⟩, ⟨xR HO_6.out⟩, ⟨xR HO267.out⟩, ⟨xb HB.out⟩⟩
       ·replace c15 := Bool.eq_false_iff.mpr c15
        subst c15
        rw [if_neg (show ¬ (false = true) by decide)] at H
        obtain ⟨c21b0, H⟩ := xq H
        obtain ⟨c22b0, H⟩ := xq H
        by_cases c23 : (rd l0 x8_1) = a1
        ·rw [if_pos c23] at H
         have c23b0 : ((rd l0 x8_1) == a1) = true := beq_iff_eq.mpr c23
         have c23b1 : ((rd l0 x8_1) != a1) = false := bne_eq_false_iff_eq.mpr c23
         clear c23
         obtain ⟨c24, H⟩ := xp H
         have LMc24 := ax c24
         clear c24
         obtain ⟨y269, hy269⟩ : ∃ y_ : List Int, y_ = (x6_1 ++ [x8_1]) := ⟨_, rfl⟩
         replace H : (spec_l26Free.l0 kj11 l0 a1 y269 x7_1 (wrap64 (x8_1 + 1))) = some (r1, r2) := xv hy269 H
         have Ny269 := ax hy269
         clear hy269
         have H' := ax H
         clear H
         have p268 : 0 ≤ (x8_1 : Int) := xd
         have q268 : x8_1 < (l0.length : Int) := xd
         obtain ⟨ad268, e268, hx268_0⟩ := Kd.at_int HR0.out x8_1 p268 q268
         obtain rfl : ad260 = ad268 := (by injection e268)
         (try replace hx268_0 := (HB.out.cell (World.block_lt_of_cell? w _ hx268_0)).trans hx268_0)
         replace p268 := eq_true p268
         replace q268 := eq_true q268
         go_wp2_with (first | ((with_reducible refine gate_builtin (b := .append) (xs := #[.tmp 53, .tmp 55]) rfl ?_); (try (refine gate_guard (by rfl) ?_; dsimp only)); at_builtin; refine Kd.R_append (Kd.int .i64) (w0 := w) w.heap.size rfl (.tmp 53) (.tmp 55) 24 3 (.int .i64 0) 8 rfl Try.underlying24 info3 rfl (by decide) (by omega) u6 x6_1 x8_1 [.int .i64 x8_1] (fun k_ => some k_ ≠ (u7 : Value).ownBlock) (fun _ => False) rfl rfl ?aP (fun _ hk => hk.elim) ?aF ?aO ?aB ?aS ?aL ?_; (case aP => exact rfl); (case aB => exact (xb HB.out)); (case aF => exact (fun k_ hk => Kd.fresh' (Kd.R_lt (xR HO_7.out)) k_ hk)); (case aO => exact (xR HO_6.out)); (case aS => exact (below_size (xb HB.out))); (case aL => have := LMc24.out; omega); intro v270 w25 ho hb hg hat; rw [← Ny269.out] at ho; have n0_ := ax (Kd.R_after (ok := (fun _ => True)) (by (with_reducible repeat (first | apply Kd.R_alloc | apply Kd.R_drewN | apply Kd.R_drew)); exact Kd.R_mono HO_7.out (fun _ hk => ⟨trivial, by first | exact hk | simpa only [xw_own] using hk⟩)) hg hat); have n1_ := ax (hb); have n2_ := ax (ho); clear HO_7; clear HB; clear HO_6; have HO_7 := n0_; have HB := n1_; have HO271 := n2_; clear n0_ n1_ n2_; clear ho hb hg hat))
         go_roundg kj11
         case measure => have := HK1.out; have := HJ11.out; omega
         case rel => exact ⟨(y269), (x7_1), (wrap64 (x8_1 + 1)), xr, H', ⟨by have := HK1.out; have := HJ11.out; omega⟩, ⟨xR HO271.out⟩, ⟨by (with_reducible repeat (first | apply Kd.R_alloc | apply Kd.R_drewN | apply Kd.R_drew)); exact Kd.R_mono HO_7.out (fun _ hk => hk.2)⟩, ⟨xb HB.out⟩⟩
        ·rw [if_neg c23] at H
         have c23b0 : ((rd l0 x8_1) == a1) = false := beq_eq_false_iff_ne.mpr c23
         have c23b1 : ((rd l0 x8_1) != a1) = true := bne_iff_ne.mpr c23
         have H' := ax H
         clear H
         have p268 : 0 ≤ (x8_1 : Int) := xd
         have q268 : x8_1 < (l0.length : Int) := xd
         obtain ⟨ad268, e268, hx268_0⟩ := Kd.at_int HR0.out x8_1 p268 q268
         obtain rfl : ad260 = ad268 := (by injection e268)
         (try replace hx268_0 := (HB.out.cell (World.block_lt_of_cell? w _ hx268_0)).trans hx268_0)
         replace p268 := eq_true p268
         replace q268 := eq_true q268
         go_wp2
         go_roundg kj11
         case measure => have := HK1.out; have := HJ11.out; omega
         case rel => exact ⟨(x6_1), (x7_1), (wrap64 (x8_1 + 1)), xr, H', ⟨by have := HK1.out; have := HJ11.out; omega⟩, ⟨xR HO_6.out⟩, ⟨xR HO_7.out⟩, ⟨xb HB.out⟩⟩
   ·rw [if_neg c7] at H
    have c7b0 := decide_eq_false c7
    clear c7
    simp only [Option.some.injEq, Prod.mk.injEq] at H
    obtain ⟨rfl, rfl⟩ := H
    go_wp2
    go_ret2
    exact ⟨_, _, xe, xR HO_6.out, xR HO_7.out, xb HB.out⟩

/-! ### spec_LowerWord: function 7 -/
def spec_LowerWord.f (k : Nat) (l0 : List Int) (a1 : Int) : Option (List Int × Bool) := (spec_l26Fine.f k l0 a1).bind fun t272 => (if t272 = true then ((spec_l26Free.f k l0 a1).bind fun bt273 => (if (bt273.1.length : Int) = 0 then (some ((([] : List Int)), false)) else ((some (([] : List Int) : List Int)).bind fun y282 => (if y282.length + l0.length < 17592186044416 then ((some (y282 ++ l0 : List Int)).bind fun y285 => (if 0 ≤ (wrap64 ((bt273.1.length : Int) - 1)) then (if (wrap64 ((bt273.1.length : Int) - 1)) < (bt273.1.length : Int) then (if 0 ≤ (rd bt273.1 (wrap64 ((bt273.1.length : Int) - 1))) then (if (rd bt273.1 (wrap64 ((bt273.1.length : Int) - 1))) < (y285.length : Int) then (some ((y285.set ((rd bt273.1 (wrap64 ((bt273.1.length : Int) - 1))) : Int).toNat (wrap64 (a1 + 1))), true)) else (none)) else (none)) else (none)) else (none))) else (none))))) else (some ((([] : List Int)), false)))
theorem spec_LowerWord.mono : ∀ a0 a1 k, LeO (spec_LowerWord.f k a0 a1) (spec_LowerWord.f (k + 1) a0 a1) := by
 intro a0 a1 k
 unfold spec_LowerWord.f
 repeat' with_reducible first | exact spec_l26Fine.mono _ _ _ | exact spec_l26Free.mono _ _ _ | exact xl | refine LeO.ite ?_ ?_ | refine LeO.bind ?_ fun _ => ?_
theorem spec_LowerWord.calls (k : Nat) (A0 : Option Addr) (c0 : Nat) (l0 : List Int) (a1 : Int) (r1 : List Int) (r2 : Bool) (w : World) (hr0 : Kd.C (Kd.int .i64) w A0 l0.length l0) (hc0 : l0.length ≤ c0) (h : spec_LowerWord.f k l0 a1 = some (r1, r2)) :
  Calls Try.prog 7 #[.slice A0 l0.length c0, .int .i64 a1] w fun e w' => ∃ v0_ : Value, e = .returned (.tuple #[v0_, .bool r2]) ∧ Kd.R (Kd.int .i64) 3 w' w.heap.size (fun _ => True) v0_ r1 ∧ Below w.heap.size w w' := by
 have HR0 := ax hr0
 have HC0 := ax hc0
 clear hr0 hc0
 have HB := ax (Below.refl w.heap.size w)
 have H : ((spec_l26Fine.f k l0 a1).bind fun t272 => (if t272 = true then ((spec_l26Free.f k l0 a1).bind fun bt273 => (if (bt273.1.length : Int) = 0 then (some ((([] : List Int)), false)) else ((some (([] : List Int) : List Int)).bind fun y282 => (if y282.length + l0.length < 17592186044416 then ((some (y282 ++ l0 : List Int)).bind fun y285 => (if 0 ≤ (wrap64 ((bt273.1.length : Int) - 1)) then (if (wrap64 ((bt273.1.length : Int) - 1)) < (bt273.1.length : Int) then (if 0 ≤ (rd bt273.1 (wrap64 ((bt273.1.length : Int) - 1))) then (if (rd bt273.1 (wrap64 ((bt273.1.length : Int) - 1))) < (y285.length : Int) then (some ((y285.set ((rd bt273.1 (wrap64 ((bt273.1.length : Int) - 1))) : Int).toNat (wrap64 (a1 + 1))), true)) else (none)) else (none)) else (none)) else (none))) else (none))))) else (some ((([] : List Int)), false)))) = some (r1, r2) := h
 clear h
 obtain ⟨t272, A3, H⟩ := xI H
 by_cases c4 : t272 = true
 ·subst c4
  rw [if_pos rfl] at H
  obtain ⟨⟨t273, t274⟩, A5, H⟩ := xI H
  dsimp only at H
  by_cases c6 : (t273.length : Int) = 0
  ·rw [if_pos c6] at H
   have c6b0 : ((t273.length : Int) == 0) = true := beq_iff_eq.mpr c6
   have c6b1 : ((t273.length : Int) != 0) = false := bne_eq_false_iff_eq.mpr c6
   clear c6
   obtain ⟨y279, hy279⟩ : ∃ y_ : List Int, y_ = (([] : List Int)) := ⟨_, rfl⟩
   replace H : (some (y279, false)) = some (r1, r2) := xv hy279 H
   have Ny279 := ax hy279
   clear hy279
   simp only [Option.some.injEq, Prod.mk.injEq] at H
   obtain ⟨rfl, rfl⟩ := H
   go_enter Try.func7, Try.ntmps7
   go_wp2_with (first | ((with_reducible refine gate_callee (f := 24) rfl ?_); refine goesL_ (some 11) rfl rfl Try.func24 (by kernel_rfl) rfl #[.slice A0 l0.length c0, .int .i64 a1] rfl xm ?_; (with_reducible refine (spec_l26Fine.calls k _ _ l0 a1 true _ ?side1 ?side2 A3.out).mono ?_); (case side1 => exact xc HR0.out); (case side2 => exact HC0.out); rintro e w' ⟨rfl, ⟨nd, rfl⟩⟩; refine ⟨_, rfl, ?_⟩) | ((with_reducible refine gate_callee (f := 25) rfl ?_); refine goesL_ (some 17) rfl rfl Try.func25 (by kernel_rfl) rfl #[.slice A0 l0.length c0, .int .i64 a1] rfl xm ?_; (with_reducible refine (spec_l26Free.calls k _ _ l0 a1 t273 t274 _ ?side1 ?side2 A5.out).mono ?_); (case side1 => exact xc HR0.out); (case side2 => exact HC0.out); rintro e w7 ⟨v275, v277, rfl, ho0, ho1, hb⟩; refine ⟨_, rfl, ?_⟩; have HO276 := ax (Kd.R_lower ho0 (below_size (xb HB.out))); have HO278 := ax (Kd.R_lower ho1 (below_size (xb HB.out))); replace HB := yB HB hb; (try clear hb); (try clear ho0); (try clear ho1); obtain ⟨Ao8, co8, eo8⟩ := Kd.R_slice HO276.out; subst eo8) | ((with_reducible refine gate_dst (N := 23) rfl ?_); refine Kd.R_lit (Kd.int .i64) _ 3 ?hg (N := 23) ?hd (xs := ([] : List Int)) (inner := []) (ok := fun _ => True) (okp := fun _ => True) ?hr ?hp (fun _ hk => hk) trivial (Below.refl _ _) (Nat.le_refl _) (by simp) ?_; (case hd => rfl); (case hg => rfl); (case hr => first | (go_simp; done) | (go_simp; rfl)); (case hp => exact (Reps.none _ _)); intro v280 w9 ho10 hb hg_ hnew_; clear hg_ hnew_; (first | rw [← Ny279.out] at ho10 | (simp only [Int.reduceToNat] at ho10; rw [← Ny279.out] at ho10)); have HO281 := ax (Kd.R_lower (Kd.R_new' (Kd.R_new' ho10 (Kd.R_lt (xR HO276.out))) (Kd.R_lt (xR HO278.out))) (below_size (xb HB.out))); replace HO276 := ax (Kd.R_elder' (xR HO276.out) (Kd.R_base ho10) hb); replace HO278 := ax (Kd.R_elder' (xR HO278.out) (Kd.R_base ho10) hb); replace HB := yB HB hb; clear hb ho10))
   go_ret2
   exact ⟨_, xe, by (with_reducible repeat (first | apply Kd.R_alloc | apply Kd.R_drewN | apply Kd.R_drew)); exact Kd.R_mono HO281.out (fun _ hk => trivial), xb HB.out⟩
  ·rw [if_neg c6] at H
   have c6b0 : ((t273.length : Int) == 0) = false := beq_eq_false_iff_ne.mpr c6
   have c6b1 : ((t273.length : Int) != 0) = true := bne_iff_ne.mpr c6
   have c6b2 : ¬ (t273 = []) := fun h_ => c6 (by rw [h_]; rfl)
   obtain ⟨y282, Ny282, H⟩ := xg H
   obtain ⟨c11, H⟩ := xp H
   have LMc11 := ax c11
   clear c11
   obtain ⟨y285, Ny285, H⟩ := xg H
   obtain ⟨ji12, hji12⟩ : ∃ j_ : Int, (wrap64 ((t273.length : Int) - 1)) = j_ := ⟨_, rfl⟩
   replace H : (if 0 ≤ (ji12) then (if (ji12) < (t273.length : Int) then (if 0 ≤ (rd t273 (ji12)) then (if (rd t273 (ji12)) < (y285.length : Int) then (some ((y285.set ((rd t273 (ji12)) : Int).toNat (wrap64 (a1 + 1))), true)) else (none)) else (none)) else (none)) else (none)) = some (r1, r2) := by first | (rw [hji12] at H; exact H) | (simp only [hji12] at H ⊢; exact H)
   (try rw [hji12] at A3)
   (try rw [hji12] at A5)
   have hji12w : (IntKind.i64.wrap ((t273.length : Int) - 1)) = ji12 := (i64_w _).trans hji12
   obtain ⟨c13b0, H⟩ := xq H
   obtain ⟨c14b0, H⟩ := xq H
   obtain ⟨c15b0, H⟩ := xq H
   obtain ⟨c16b0, H⟩ := xq H
   obtain ⟨y289, hy289⟩ : ∃ y_ : List Int, y_ = (y285.set ((rd t273 (ji12)) : Int).toNat (wrap64 (a1 + 1))) := ⟨_, rfl⟩
   replace H : (some (y289, true)) = some (r1, r2) := xv hy289 H
   have Ny289 := ax hy289
   clear hy289
   simp only [Option.some.injEq, Prod.mk.injEq] at H
   obtain ⟨rfl, rfl⟩ := H
   go_enter Try.func7, Try.ntmps7
   go_wp2_with (first | ((with_reducible refine gate_callee (f := 24) rfl ?_); refine goesL_ (some 11) rfl rfl Try.func24 (by kernel_rfl) rfl #[.slice A0 l0.length c0, .int .i64 a1] rfl xm ?_; (with_reducible refine (spec_l26Fine.calls k _ _ l0 a1 true _ ?side1 ?side2 A3.out).mono ?_); (case side1 => exact xc HR0.out); (case side2 => exact HC0.out); rintro e w' ⟨rfl, ⟨nd, rfl⟩⟩; refine ⟨_, rfl, ?_⟩) | ((with_reducible refine gate_callee (f := 25) rfl ?_); refine goesL_ (some 17) rfl rfl Try.func25 (by kernel_rfl) rfl #[.slice A0 l0.length c0, .int .i64 a1] rfl xm ?_; (with_reducible refine (spec_l26Free.calls k _ _ l0 a1 t273 t274 _ ?side1 ?side2 A5.out).mono ?_); (case side1 => exact xc HR0.out); (case side2 => exact HC0.out); rintro e w18 ⟨v275, v277, rfl, ho0, ho1, hb⟩; refine ⟨_, rfl, ?_⟩; have HO276 := ax (Kd.R_lower ho0 (below_size (xb HB.out))); have HO278 := ax (Kd.R_lower ho1 (below_size (xb HB.out))); replace HB := yB HB hb; (try clear hb); (try clear ho0); (try clear ho1); obtain ⟨Ao19, co19, eo19⟩ := Kd.R_slice HO276.out; subst eo19) | ((with_reducible refine gate_dst (N := 24) rfl ?_); refine Kd.R_lit (Kd.int .i64) _ 3 ?hg (N := 24) ?hd (xs := ([] : List Int)) (inner := []) (ok := fun _ => True) (okp := fun _ => True) ?hr ?hp (fun _ hk => hk) trivial (Below.refl _ _) (Nat.le_refl _) (by simp) ?_; (case hd => rfl); (case hg => rfl); (case hr => first | (go_simp; done) | (go_simp; rfl)); (case hp => exact (Reps.none _ _)); intro v283 w20 ho21 hb hg_ hnew_; clear hg_ hnew_; (first | rw [← Ny282.out] at ho21 | (simp only [Int.reduceToNat] at ho21; rw [← Ny282.out] at ho21)); have HO284 := ax (Kd.R_lower (Kd.R_new' (Kd.R_new' ho21 (Kd.R_lt (xR HO276.out))) (Kd.R_lt (xR HO278.out))) (below_size (xb HB.out))); replace HO276 := ax (Kd.R_elder' (xR HO276.out) (Kd.R_base ho21) hb); replace HO278 := ax (Kd.R_elder' (xR HO278.out) (Kd.R_base ho21) hb); replace HB := yB HB hb; clear hb ho21) | ((with_reducible refine gate_builtin (b := .append) (xs := #[.tmp 24, .tmp 25]) rfl ?_); at_builtin; refine Kd.R_append_rows (Kd.int .i64) (w0 := w) w.heap.size rfl (.tmp 24) (.tmp 25) 24 3 (.int .i64 0) 8 rfl Try.underlying24 info3 rfl (by decide) (by omega) v283 y282 l0 _ _ _ (fun k_ => some k_ ≠ (.slice Ao19 t273.length co19 : Value).ownBlock ∧ some k_ ≠ (v277 : Value).ownBlock) (fun _ => False) rfl rfl ?aO ?aR (fun _ _ h => h) (fun _ h => h.elim) ?aF ?aB ?aS ?aL ?_; (case aR => exact xz HR0.out HB.out); (case aB => exact (xb HB.out)); (case aF => exact (fun k_ hk => ⟨Kd.fresh' (Kd.R_lt (xR HO276.out)) k_ hk, Kd.fresh' (Kd.R_lt (xR HO278.out)) k_ hk⟩)); (case aO => exact (by (with_reducible repeat (first | apply Kd.R_alloc | apply Kd.R_drewN | apply Kd.R_drew)); exact Kd.R_mono HO284.out (fun _ hk => ⟨hk.1.2, hk.2⟩))); (case aS => exact (below_size (xb HB.out))); (case aL => have := LMc11.out; omega); intro v286 w22 ho hb hg hat; rw [← Ny285.out] at ho; have n0_ := ax (Kd.R_after (ok := (fun k_ => some k_ ≠ (v277 : Value).ownBlock)) (xR HO276.out) hg hat); have n1_ := ax (Kd.R_after (ok := (fun k_ => some k_ ≠ (.slice Ao19 t273.length co19 : Value).ownBlock)) (xR HO278.out) hg hat); have n2_ := ax (hb); have n3_ := ax (ho); clear HO276; clear HO278; clear HB; clear HO284; have HO276 := n0_; have HO278 := n1_; have HB := n2_; have HO287 := n3_; clear n0_ n1_ n2_ n3_; clear ho hb hg hat; have p288 : 0 ≤ ((ji12) : Int) := xd; have q288 : (ji12) < (t273.length : Int) := xd; obtain ⟨ad288, e288, hx288_0⟩ := Kd.at_int (Kd.R_reads' HO276.out).2.2 (ji12) p288 q288; cases e288; replace p288 := eq_true p288; replace q288 := eq_true q288; have p17 : 0 ≤ ((rd t273 (ji12)) : Int) := xd; have q17 : ((rd t273 (ji12)) : Int) < ((y285.length : Int) : Int) := xd; obtain ⟨go17, co17, eo17, gb17, gl17, cl17, HG17⟩ := Kd.R_form HO287.out (by omega); (first | cases eo17 | (injection eo17 with ea_ en_ ec_; (first | subst ea_ | (injection ea_ with ea_; subst ea_)); subst ec_; clear en_)); have GB17 := ax gb17; have GG17 := ax HG17; clear gb17 gl17 HG17; obtain ⟨hx17_0, hf17_0⟩ := Kd.R_celln 0 HO287.out ((rd t273 (ji12)) : Int) p17 q17; replace p17 := eq_true p17; replace q17 := eq_true q17; obtain ⟨hy23_, hz23_⟩ := Kd.R_celln 0 HO287.out ((rd t273 (ji12)) : Int) (xd) (xd); have HP23 := Kd.R_putg HO287.out ((rd t273 (ji12)) : Int) (wrap64 (a1 + 1))) | ((with_reducible refine gate_store (t := 3) (p := 36) rfl ?_); refine store_event (t := 3) (p := 36) (v := ?vo_w24) (w1 := (w22.setCell ⟨go17, ((rd t273 (ji12)) : Int).toNat, none⟩ (.int .i64 (wrap64 (a1 + 1))))) ?hg ?ho ?hn ?hr ?_; (case ho => rfl); (case hg => rfl); (case hn => rfl); (case hr => first | (go_simp; done) | (go_simp; rfl)); intro w24 hw; have hg : w22.grownBy w24 (some go17) := (by rw [hw]; exact HP23.2); have hp_ : Kd.R (Kd.int .i64) 3 w24 w.heap.size (fun k_ => some k_ ≠ (.slice (some ad288) t273.length co19 : Value).ownBlock ∧ some k_ ≠ (v277 : Value).ownBlock) (.slice (some ⟨go17, 0, none⟩) y285.length co17) y289 := (by rw [hw, Ny289.out]; exact HP23.1); clear HP23; replace HO276 := ax (Kd.R_after (v := (.slice (some ⟨go17, 0, none⟩) y285.length co17)) (v1 := (.slice (some ⟨go17, 0, none⟩) y285.length co17)) (ok := (fun k_ => some k_ ≠ (v277 : Value).ownBlock)) (xR HO276.out) hg (.inl rfl)); replace HO278 := ax (Kd.R_after (v := (.slice (some ⟨go17, 0, none⟩) y285.length co17)) (v1 := (.slice (some ⟨go17, 0, none⟩) y285.length co17)) (ok := (fun k_ => some k_ ≠ (.slice (some ad288) t273.length co19 : Value).ownBlock)) (xR HO278.out) hg (.inl rfl)); replace HO287 := ax (hp_); replace HB := ax ((by rw [hw]; exact below_set (HB.out) GB17.out : Below w.heap.size w w24)); clear hg hw hp_))
   go_ret2
   exact ⟨_, by first | rfl | (simp [errW_none, errW_some] <;> rfl) | (simp only [← hji12]; first | rfl | (simp [errW_none, errW_some] <;> rfl)) | (simp [*, errW_none, errW_some] <;> rfl), by (with_reducible repeat (first | apply Kd.R_alloc | apply Kd.R_drewN | apply Kd.R_drew)); exact Kd.R_mono HO287.out (fun _ hk => trivial), xb HB.out⟩
 ·replace c4 := Bool.eq_false_iff.mpr c4
  subst c4
  rw [if_neg (show ¬ (false = true) by decide)] at H
  obtain ⟨y290, hy290⟩ : ∃ y_ : List Int, y_ = (([] : List Int)) := ⟨_, rfl⟩
  replace H : (some (y290, false)) = some (r1, r2) := xv hy290 H
  have Ny290 := ax hy290
  clear hy290
  simp only [Option.some.injEq, Prod.mk.injEq] at H
  obtain ⟨rfl, rfl⟩ := H
  go_enter Try.func7, Try.ntmps7
  go_wp2_with (first | ((with_reducible refine gate_callee (f := 24) rfl ?_); refine goesL_ (some 11) rfl rfl Try.func24 (by kernel_rfl) rfl #[.slice A0 l0.length c0, .int .i64 a1] rfl xm ?_; (with_reducible refine (spec_l26Fine.calls k _ _ l0 a1 false _ ?side1 ?side2 A3.out).mono ?_); (case side1 => exact xc HR0.out); (case side2 => exact HC0.out); rintro e w' ⟨rfl, ⟨nd, rfl⟩⟩; refine ⟨_, rfl, ?_⟩) | ((with_reducible refine gate_dst (N := 13) rfl ?_); refine Kd.R_lit (Kd.int .i64) _ 3 ?hg (N := 13) ?hd (xs := ([] : List Int)) (inner := []) (ok := fun _ => True) (okp := fun _ => True) ?hr ?hp (fun _ hk => hk) trivial (Below.refl _ _) (Nat.le_refl _) (by simp) ?_; (case hd => rfl); (case hg => rfl); (case hr => first | (go_simp; done) | (go_simp; rfl)); (case hp => exact (Reps.none _ _)); intro v291 w25 ho26 hb hg_ hnew_; clear hg_ hnew_; (first | rw [← Ny290.out] at ho26 | (simp only [Int.reduceToNat] at ho26; rw [← Ny290.out] at ho26)); have HO292 := ax (Kd.R_lower ho26 (below_size (xb HB.out))); replace HB := yB HB hb; clear hb ho26))
  go_ret2
  exact ⟨_, xe, xR HO292.out, xb HB.out⟩

/-! ### impl_RaiseWord: function 8 -/
def impl_RaiseWord.f (k : Nat) (l0 : List Int) (a1 : Int) : Option (List Int × Bool) := (impl_free.f k l0 a1).bind fun bt293 => (if (bt293.2.1.length : Int) = 0 then (some (([] : List Int), false)) else (if 0 < (bt293.2.1.length : Int) then ((impl_with.f l0 (rd bt293.2.1 0) a1).bind fun t301 => (some (t301, true))) else (none)))
theorem impl_RaiseWord.mono : ∀ a0 a1 k, LeO (impl_RaiseWord.f k a0 a1) (impl_RaiseWord.f (k + 1) a0 a1) := by
 intro a0 a1 k
 unfold impl_RaiseWord.f
 repeat' with_reducible first | exact impl_free.mono _ _ _ | exact xl | refine LeO.ite ?_ ?_ | refine LeO.bind ?_ fun _ => ?_
theorem impl_RaiseWord.calls (k : Nat) (A0 : Option Addr) (c0 : Nat) (l0 : List Int) (a1 : Int) (r1 : List Int) (r2 : Bool) (w : World) (hr0 : Kd.C (Kd.int .i64) w A0 l0.length l0) (hc0 : l0.length ≤ c0) (h : impl_RaiseWord.f k l0 a1 = some (r1, r2)) :
  Calls Try.prog 8 #[.slice A0 l0.length c0, .int .i64 a1] w fun e w' => ∃ v0_ : Value, e = .returned (.tuple #[v0_, .bool r2]) ∧ Kd.R (Kd.int .i64) 3 w' w.heap.size (fun _ => True) v0_ r1 ∧ Below w.heap.size w w' := by
 have HR0 := ax hr0
 have HC0 := ax hc0
 clear hr0 hc0
 have HB := ax (Below.refl w.heap.size w)
 have H : ((impl_free.f k l0 a1).bind fun bt293 => (if (bt293.2.1.length : Int) = 0 then (some (([] : List Int), false)) else (if 0 < (bt293.2.1.length : Int) then ((impl_with.f l0 (rd bt293.2.1 0) a1).bind fun t301 => (some (t301, true))) else (none)))) = some (r1, r2) := h
 clear h
 obtain ⟨⟨t293, t294, t295⟩, A3, H⟩ := xI H
 dsimp only at H
 by_cases c4 : (t294.length : Int) = 0
 ·rw [if_pos c4] at H
  have c4b0 : ((t294.length : Int) == 0) = true := beq_iff_eq.mpr c4
  have c4b1 : ((t294.length : Int) != 0) = false := bne_eq_false_iff_eq.mpr c4
  clear c4
  simp only [Option.some.injEq, Prod.mk.injEq] at H
  obtain ⟨rfl, rfl⟩ := H
  go_enter Try.func8, Try.ntmps8
  go_wp2_with (first | ((with_reducible refine gate_callee (f := 22) rfl ?_); refine goesL_ (some 12) rfl rfl Try.func22 (by kernel_rfl) rfl #[.slice A0 l0.length c0, .int .i64 a1] rfl xm ?_; (with_reducible refine (impl_free.calls k _ _ l0 a1 t293 t294 t295 _ ?side1 ?side2 A3.out).mono ?_); (case side1 => exact xc HR0.out); (case side2 => exact HC0.out); rintro e w5 ⟨v296, v298, rfl, ho0, ho1, hb⟩; refine ⟨_, rfl, ?_⟩; have HO297 := ax (Kd.R_lower ho0 (below_size (xb HB.out))); have HO299 := ax (Kd.R_lower ho1 (below_size (xb HB.out))); replace HB := yB HB hb; (try clear hb); (try clear ho0); (try clear ho1); obtain ⟨Ao6, co6, eo6⟩ := Kd.R_slice HO299.out; subst eo6))
  go_ret2
  exact ⟨_, xe, by first | exact Kd.R_nil _ _ _ _ _ | exact Kd.N_nil _ _ _ _ _ | exact Kd.V_nil _ _ _ _ _ | exact Kd.Q_nil _ _ _ _ _ | exact Kd.S_nil _ _ _ _ _, xb HB.out⟩
 ·rw [if_neg c4] at H
  have c4b0 : ((t294.length : Int) == 0) = false := beq_eq_false_iff_ne.mpr c4
  have c4b1 : ((t294.length : Int) != 0) = true := bne_iff_ne.mpr c4
  have c4b2 : ¬ (t294 = []) := fun h_ => c4 (by rw [h_]; rfl)
  obtain ⟨c7, H⟩ := xp H
  have c7b0 := decide_eq_true c7
  have c7b1 : decide (0 < t294.length) = true := decide_eq_true (by omega)
  clear c7
  obtain ⟨t301, A8, H⟩ := xI H
  simp only [Option.some.injEq, Prod.mk.injEq] at H
  obtain ⟨rfl, rfl⟩ := H
  go_enter Try.func8, Try.ntmps8
  go_wp2_with (first | ((with_reducible refine gate_callee (f := 22) rfl ?_); refine goesL_ (some 12) rfl rfl Try.func22 (by kernel_rfl) rfl #[.slice A0 l0.length c0, .int .i64 a1] rfl xm ?_; (with_reducible refine (impl_free.calls k _ _ l0 a1 t293 t294 t295 _ ?side1 ?side2 A3.out).mono ?_); (case side1 => exact xc HR0.out); (case side2 => exact HC0.out); rintro e w9 ⟨v296, v298, rfl, ho0, ho1, hb⟩; refine ⟨_, rfl, ?_⟩; have HO297 := ax (Kd.R_lower ho0 (below_size (xb HB.out))); have HO299 := ax (Kd.R_lower ho1 (below_size (xb HB.out))); replace HB := yB HB hb; (try clear hb); (try clear ho0); (try clear ho1); obtain ⟨Ao10, co10, eo10⟩ := Kd.R_slice HO299.out; subst eo10; have p300 : 0 ≤ (0 : Int) := (by omega); have q300 : 0 < (t294.length : Int) := xd; obtain ⟨ad300, e300, hx300_0⟩ := Kd.at_int (Kd.R_reads' HO299.out).2.2 0 p300 q300; cases e300; have qi300 : (0 < t294.length) = True := eq_true (by omega); (try rw [show ((0 : Int)).toNat = 0 from rfl] at hx300_0); (try rw [Addr.add_zero'] at hx300_0); replace p300 := eq_true p300; replace q300 := eq_true q300) | ((with_reducible refine gate_callee (f := 23) rfl ?_); refine goesL_ (some 24) rfl rfl Try.func23 (by kernel_rfl) rfl #[.slice A0 l0.length c0, .int .i64 (rd t294 0), .int .i64 a1] rfl xm ?_; (with_reducible refine (impl_with.calls _ _ l0 (rd t294 0) a1 t301 _ ?side1 ?side2 A8.out).mono ?_); (case side1 => exact xz HR0.out HB.out); (case side2 => exact HC0.out); rintro e w11 ⟨v302, rfl, ho0, hb⟩; refine ⟨_, rfl, ?_⟩; have HO303 := ax (Kd.R_lower (Kd.R_new' (Kd.R_new' ho0 (Kd.R_lt (xR HO297.out))) (Kd.R_lt (xR HO299.out))) (below_size (xb HB.out))); replace HO297 := ax (Kd.R_elder' (xR HO297.out) (Kd.R_base ho0) hb); replace HO299 := ax (Kd.R_elder' (xR HO299.out) (Kd.R_base ho0) hb); replace HB := yB HB hb; (try clear hb); (try clear ho0)))
  go_ret2
  exact ⟨_, xe, by (with_reducible repeat (first | apply Kd.R_alloc | apply Kd.R_drewN | apply Kd.R_drew)); exact Kd.R_mono HO303.out (fun _ hk => trivial), xb HB.out⟩

/-! ### spec_RaiseWord: function 9 -/
def spec_RaiseWord.f (k : Nat) (l0 : List Int) (a1 : Int) : Option (List Int × Bool) := (spec_l26Fine.f k l0 a1).bind fun t304 => (if t304 = true then ((spec_l26Free.f k l0 a1).bind fun bt305 => (if (bt305.2.length : Int) = 0 then (some ((([] : List Int)), false)) else ((some (([] : List Int) : List Int)).bind fun y314 => (if y314.length + l0.length < 17592186044416 then ((some (y314 ++ l0 : List Int)).bind fun y317 => (if 0 < (bt305.2.length : Int) then (if 0 ≤ (rd bt305.2 0) then (if (rd bt305.2 0) < (y317.length : Int) then (some ((y317.set ((rd bt305.2 0) : Int).toNat a1), true)) else (none)) else (none)) else (none))) else (none))))) else (some ((([] : List Int)), false)))
theorem spec_RaiseWord.mono : ∀ a0 a1 k, LeO (spec_RaiseWord.f k a0 a1) (spec_RaiseWord.f (k + 1) a0 a1) := by
 intro a0 a1 k
 unfold spec_RaiseWord.f
 repeat' with_reducible first | exact spec_l26Fine.mono _ _ _ | exact spec_l26Free.mono _ _ _ | exact xl | refine LeO.ite ?_ ?_ | refine LeO.bind ?_ fun _ => ?_
theorem spec_RaiseWord.calls (k : Nat) (A0 : Option Addr) (c0 : Nat) (l0 : List Int) (a1 : Int) (r1 : List Int) (r2 : Bool) (w : World) (hr0 : Kd.C (Kd.int .i64) w A0 l0.length l0) (hc0 : l0.length ≤ c0) (h : spec_RaiseWord.f k l0 a1 = some (r1, r2)) :
  Calls Try.prog 9 #[.slice A0 l0.length c0, .int .i64 a1] w fun e w' => ∃ v0_ : Value, e = .returned (.tuple #[v0_, .bool r2]) ∧ Kd.R (Kd.int .i64) 3 w' w.heap.size (fun _ => True) v0_ r1 ∧ Below w.heap.size w w' := by
 have HR0 := ax hr0
 have HC0 := ax hc0
 clear hr0 hc0
 have HB := ax (Below.refl w.heap.size w)
 have H : ((spec_l26Fine.f k l0 a1).bind fun t304 => (if t304 = true then ((spec_l26Free.f k l0 a1).bind fun bt305 => (if (bt305.2.length : Int) = 0 then (some ((([] : List Int)), false)) else ((some (([] : List Int) : List Int)).bind fun y314 => (if y314.length + l0.length < 17592186044416 then ((some (y314 ++ l0 : List Int)).bind fun y317 => (if 0 < (bt305.2.length : Int) then (if 0 ≤ (rd bt305.2 0) then (if (rd bt305.2 0) < (y317.length : Int) then (some ((y317.set ((rd bt305.2 0) : Int).toNat a1), true)) else (none)) else (none)) else (none))) else (none))))) else (some ((([] : List Int)), false)))) = some (r1, r2) := h
 clear h
 obtain ⟨t304, A3, H⟩ := xI H
 by_cases c4 : t304 = true
 ·subst c4
  rw [if_pos rfl] at H
  obtain ⟨⟨t305, t306⟩, A5, H⟩ := xI H
  dsimp only at H
  by_cases c6 : (t306.length : Int) = 0
  ·rw [if_pos c6] at H
   have c6b0 : ((t306.length : Int) == 0) = true := beq_iff_eq.mpr c6
   have c6b1 : ((t306.length : Int) != 0) = false := bne_eq_false_iff_eq.mpr c6
   clear c6
   obtain ⟨y311, hy311⟩ : ∃ y_ : List Int, y_ = (([] : List Int)) := ⟨_, rfl⟩
   replace H : (some (y311, false)) = some (r1, r2) := xv hy311 H
   have Ny311 := ax hy311
   clear hy311
   simp only [Option.some.injEq, Prod.mk.injEq] at H
   obtain ⟨rfl, rfl⟩ := H
   go_enter Try.func9, Try.ntmps9
   go_wp2_with (first | ((with_reducible refine gate_callee (f := 24) rfl ?_); refine goesL_ (some 11) rfl rfl Try.func24 (by kernel_rfl) rfl #[.slice A0 l0.length c0, .int .i64 a1] rfl xm ?_; (with_reducible refine (spec_l26Fine.calls k _ _ l0 a1 true _ ?side1 ?side2 A3.out).mono ?_); (case side1 => exact xc HR0.out); (case side2 => exact HC0.out); rintro e w' ⟨rfl, ⟨nd, rfl⟩⟩; refine ⟨_, rfl, ?_⟩) | ((with_reducible refine gate_callee (f := 25) rfl ?_); refine goesL_ (some 17) rfl rfl Try.func25 (by kernel_rfl) rfl #[.slice A0 l0.length c0, .int .i64 a1] rfl xm ?_; (with_reducible refine (spec_l26Free.calls k _ _ l0 a1 t305 t306 _ ?side1 ?side2 A5.out).mono ?_); (case side1 => exact xc HR0.out); (case side2 => exact HC0.out); rintro e w7 ⟨v307, v309, rfl, ho0, ho1, hb⟩; refine ⟨_, rfl, ?_⟩; have HO308 := ax (Kd.R_lower ho0 (below_size (xb HB.out))); have HO310 := ax (Kd.R_lower ho1 (below_size (xb HB.out))); replace HB := yB HB hb; (try clear hb); (try clear ho0); (try clear ho1); obtain ⟨Ao8, co8, eo8⟩ := Kd.R_slice HO310.out; subst eo8) | ((with_reducible refine gate_dst (N := 23) rfl ?_); refine Kd.R_lit (Kd.int .i64) _ 3 ?hg (N := 23) ?hd (xs := ([] : List Int)) (inner := []) (ok := fun _ => True) (okp := fun _ => True) ?hr ?hp (fun _ hk => hk) trivial (Below.refl _ _) (Nat.le_refl _) (by simp) ?_; (case hd => rfl); (case hg => rfl); (case hr => first | (go_simp; done) | (go_simp; rfl)); (case hp => exact (Reps.none _ _)); intro v312 w9 ho10 hb hg_ hnew_; clear hg_ hnew_; (first | rw [← Ny311.out] at ho10 | (simp only [Int.reduceToNat] at ho10; rw [← Ny311.out] at ho10)); have HO313 := ax (Kd.R_lower (Kd.R_new' (Kd.R_new' ho10 (Kd.R_lt (xR HO308.out))) (Kd.R_lt (xR HO310.out))) (below_size (xb HB.out))); replace HO308 := ax (Kd.R_elder' (xR HO308.out) (Kd.R_base ho10) hb); replace HO310 := ax (Kd.R_elder' (xR HO310.out) (Kd.R_base ho10) hb); replace HB := yB HB hb; clear hb ho10))
   go_ret2
   exact ⟨_, xe, by (with_reducible repeat (first | apply Kd.R_alloc | apply Kd.R_drewN | apply Kd.R_drew)); exact Kd.R_mono HO313.out (fun _ hk => trivial), xb HB.out⟩
  ·rw [if_neg c6] at H
   have c6b0 : ((t306.length : Int) == 0) = false := beq_eq_false_iff_ne.mpr c6
   have c6b1 : ((t306.length : Int) != 0) = true := bne_iff_ne.mpr c6
   have c6b2 : ¬ (t306 = []) := fun h_ => c6 (by rw [h_]; rfl)
   obtain ⟨y314, Ny314, H⟩ := xg H
   obtain ⟨c11, H⟩ := xp H
   have LMc11 := ax c11
   clear c11
   obtain ⟨y317, Ny317, H⟩ := xg H
   obtain ⟨c12, H⟩ := xp H
   have c12b0 := decide_eq_true c12
   have c12b1 : decide (0 < t306.length) = true := decide_eq_true (by omega)
   clear c12
   obtain ⟨c13b0, H⟩ := xq H
   obtain ⟨c14b0, H⟩ := xq H
   obtain ⟨y321, hy321⟩ : ∃ y_ : List Int, y_ = (y317.set ((rd t306 0) : Int).toNat a1) := ⟨_, rfl⟩
   replace H : (some (y321, true)) = some (r1, r2) := xv hy321 H
   have Ny321 := ax hy321
   clear hy321
   simp only [Option.some.injEq, Prod.mk.injEq] at H
   obtain ⟨rfl, rfl⟩ := H
   go_enter Try.func9, Try.ntmps9
   go_wp2_with (first | ((with_reducible refine gate_callee (f := 24) rfl ?_); refine goesL_ (some 11) rfl rfl Try.func24 (by kernel_rfl) rfl #[.slice A0 l0.length c0, .int .i64 a1] rfl xm ?_; (with_reducible refine (spec_l26Fine.calls k _ _ l0 a1 true _ ?side1 ?side2 A3.out).mono ?_); (case side1 => exact xc HR0.out); (case side2 => exact HC0.out); rintro e w' ⟨rfl, ⟨nd, rfl⟩⟩; refine ⟨_, rfl, ?_⟩) | ((with_reducible refine gate_callee (f := 25) rfl ?_); refine goesL_ (some 17) rfl rfl Try.func25 (by kernel_rfl) rfl #[.slice A0 l0.length c0, .int .i64 a1] rfl xm ?_; (with_reducible refine (spec_l26Free.calls k _ _ l0 a1 t305 t306 _ ?side1 ?side2 A5.out).mono ?_); (case side1 => exact xc HR0.out); (case side2 => exact HC0.out); rintro e w16 ⟨v307, v309, rfl, ho0, ho1, hb⟩; refine ⟨_, rfl, ?_⟩; have HO308 := ax (Kd.R_lower ho0 (below_size (xb HB.out))); have HO310 := ax (Kd.R_lower ho1 (below_size (xb HB.out))); replace HB := yB HB hb; (try clear hb); (try clear ho0); (try clear ho1); obtain ⟨Ao17, co17, eo17⟩ := Kd.R_slice HO310.out; subst eo17) | ((with_reducible refine gate_dst (N := 24) rfl ?_); refine Kd.R_lit (Kd.int .i64) _ 3 ?hg (N := 24) ?hd (xs := ([] : List Int)) (inner := []) (ok := fun _ => True) (okp := fun _ => True) ?hr ?hp (fun _ hk => hk) trivial (Below.refl _ _) (Nat.le_refl _) (by simp) ?_; (case hd => rfl); (case hg => rfl); (case hr => first | (go_simp; done) | (go_simp; rfl)); (case hp => exact (Reps.none _ _)); intro v315 w18 ho19 hb hg_ hnew_; clear hg_ hnew_; (first | rw [← Ny314.out] at ho19 | (simp only [Int.reduceToNat] at ho19; rw [← Ny314.out] at ho19)); have HO316 := ax (Kd.R_lower (Kd.R_new' (Kd.R_new' ho19 (Kd.R_lt (xR HO308.out))) (Kd.R_lt (xR HO310.out))) (below_size (xb HB.out))); replace HO308 := ax (Kd.R_elder' (xR HO308.out) (Kd.R_base ho19) hb); replace HO310 := ax (Kd.R_elder' (xR HO310.out) (Kd.R_base ho19) hb); replace HB := yB HB hb; clear hb ho19) | ((with_reducible refine gate_builtin (b := .append) (xs := #[.tmp 24, .tmp 25]) rfl ?_); at_builtin; refine Kd.R_append_rows (Kd.int .i64) (w0 := w) w.heap.size rfl (.tmp 24) (.tmp 25) 24 3 (.int .i64 0) 8 rfl Try.underlying24 info3 rfl (by decide) (by omega) v315 y314 l0 _ _ _ (fun k_ => some k_ ≠ (v307 : Value).ownBlock ∧ some k_ ≠ (.slice Ao17 t306.length co17 : Value).ownBlock) (fun _ => False) rfl rfl ?aO ?aR (fun _ _ h => h) (fun _ h => h.elim) ?aF ?aB ?aS ?aL ?_; (case aR => exact xz HR0.out HB.out); (case aB => exact (xb HB.out)); (case aF => exact (fun k_ hk => ⟨Kd.fresh' (Kd.R_lt (xR HO308.out)) k_ hk, Kd.fresh' (Kd.R_lt (xR HO310.out)) k_ hk⟩)); (case aO => exact (by (with_reducible repeat (first | apply Kd.R_alloc | apply Kd.R_drewN | apply Kd.R_drew)); exact Kd.R_mono HO316.out (fun _ hk => ⟨hk.1.2, hk.2⟩))); (case aS => exact (below_size (xb HB.out))); (case aL => have := LMc11.out; omega); intro v318 w20 ho hb hg hat; rw [← Ny317.out] at ho; have n0_ := ax (Kd.R_after (ok := (fun k_ => some k_ ≠ (.slice Ao17 t306.length co17 : Value).ownBlock)) (xR HO308.out) hg hat); have n1_ := ax (Kd.R_after (ok := (fun k_ => some k_ ≠ (v307 : Value).ownBlock)) (xR HO310.out) hg hat); have n2_ := ax (hb); have n3_ := ax (ho); clear HO308; clear HO310; clear HB; clear HO316; have HO308 := n0_; have HO310 := n1_; have HB := n2_; have HO319 := n3_; clear n0_ n1_ n2_ n3_; clear ho hb hg hat; have p320 : 0 ≤ (0 : Int) := (by omega); have q320 : 0 < (t306.length : Int) := xd; obtain ⟨ad320, e320, hx320_0⟩ := Kd.at_int (Kd.R_reads' HO310.out).2.2 0 p320 q320; cases e320; have qi320 : (0 < t306.length) = True := eq_true (by omega); (try rw [show ((0 : Int)).toNat = 0 from rfl] at hx320_0); (try rw [Addr.add_zero'] at hx320_0); replace p320 := eq_true p320; replace q320 := eq_true q320; have p15 : 0 ≤ ((rd t306 0) : Int) := xd; have q15 : ((rd t306 0) : Int) < ((y317.length : Int) : Int) := xd; obtain ⟨go15, co15, eo15, gb15, gl15, cl15, HG15⟩ := Kd.R_form HO319.out (by omega); (first | cases eo15 | (injection eo15 with ea_ en_ ec_; (first | subst ea_ | (injection ea_ with ea_; subst ea_)); subst ec_; clear en_)); have GB15 := ax gb15; have GG15 := ax HG15; clear gb15 gl15 HG15; obtain ⟨hx15_0, hf15_0⟩ := Kd.R_celln 0 HO319.out ((rd t306 0) : Int) p15 q15; replace p15 := eq_true p15; replace q15 := eq_true q15; obtain ⟨hy21_, hz21_⟩ := Kd.R_celln 0 HO319.out ((rd t306 0) : Int) (xd) (xd); have HP21 := Kd.R_putg HO319.out ((rd t306 0) : Int) a1) | ((with_reducible refine gate_store (t := 3) (p := 32) rfl ?_); refine store_event (t := 3) (p := 32) (v := ?vo_w22) (w1 := (w20.setCell ⟨go15, ((rd t306 0) : Int).toNat, none⟩ (.int .i64 a1))) ?hg ?ho ?hn ?hr ?_; (case ho => rfl); (case hg => rfl); (case hn => rfl); (case hr => first | (go_simp; done) | (go_simp; rfl)); intro w22 hw; have hg : w20.grownBy w22 (some go15) := (by rw [hw]; exact HP21.2); have hp_ : Kd.R (Kd.int .i64) 3 w22 w.heap.size (fun k_ => some k_ ≠ (v307 : Value).ownBlock ∧ some k_ ≠ (.slice (some ad320) t306.length co17 : Value).ownBlock) (.slice (some ⟨go15, 0, none⟩) y317.length co15) y321 := (by rw [hw, Ny321.out]; exact HP21.1); clear HP21; replace HO308 := ax (Kd.R_after (v := (.slice (some ⟨go15, 0, none⟩) y317.length co15)) (v1 := (.slice (some ⟨go15, 0, none⟩) y317.length co15)) (ok := (fun k_ => some k_ ≠ (.slice (some ad320) t306.length co17 : Value).ownBlock)) (xR HO308.out) hg (.inl rfl)); replace HO310 := ax (Kd.R_after (v := (.slice (some ⟨go15, 0, none⟩) y317.length co15)) (v1 := (.slice (some ⟨go15, 0, none⟩) y317.length co15)) (ok := (fun k_ => some k_ ≠ (v307 : Value).ownBlock)) (xR HO310.out) hg (.inl rfl)); replace HO319 := ax (hp_); replace HB := ax ((by rw [hw]; exact below_set (HB.out) GB15.out : Below w.heap.size w w22)); clear hg hw hp_))
   go_ret2
   exact ⟨_, xe, by (with_reducible repeat (first | apply Kd.R_alloc | apply Kd.R_drewN | apply Kd.R_drew)); exact Kd.R_mono HO319.out (fun _ hk => trivial), xb HB.out⟩
 ·replace c4 := Bool.eq_false_iff.mpr c4
  subst c4
  rw [if_neg (show ¬ (false = true) by decide)] at H
  obtain ⟨y322, hy322⟩ : ∃ y_ : List Int, y_ = (([] : List Int)) := ⟨_, rfl⟩
  replace H : (some (y322, false)) = some (r1, r2) := xv hy322 H
  have Ny322 := ax hy322
  clear hy322
  simp only [Option.some.injEq, Prod.mk.injEq] at H
  obtain ⟨rfl, rfl⟩ := H
  go_enter Try.func9, Try.ntmps9
  go_wp2_with (first | ((with_reducible refine gate_callee (f := 24) rfl ?_); refine goesL_ (some 11) rfl rfl Try.func24 (by kernel_rfl) rfl #[.slice A0 l0.length c0, .int .i64 a1] rfl xm ?_; (with_reducible refine (spec_l26Fine.calls k _ _ l0 a1 false _ ?side1 ?side2 A3.out).mono ?_); (case side1 => exact xc HR0.out); (case side2 => exact HC0.out); rintro e w' ⟨rfl, ⟨nd, rfl⟩⟩; refine ⟨_, rfl, ?_⟩) | ((with_reducible refine gate_dst (N := 13) rfl ?_); refine Kd.R_lit (Kd.int .i64) _ 3 ?hg (N := 13) ?hd (xs := ([] : List Int)) (inner := []) (ok := fun _ => True) (okp := fun _ => True) ?hr ?hp (fun _ hk => hk) trivial (Below.refl _ _) (Nat.le_refl _) (by simp) ?_; (case hd => rfl); (case hg => rfl); (case hr => first | (go_simp; done) | (go_simp; rfl)); (case hp => exact (Reps.none _ _)); intro v323 w23 ho24 hb hg_ hnew_; clear hg_ hnew_; (first | rw [← Ny322.out] at ho24 | (simp only [Int.reduceToNat] at ho24; rw [← Ny322.out] at ho24)); have HO324 := ax (Kd.R_lower ho24 (below_size (xb HB.out))); replace HB := yB HB hb; clear hb ho24))
  go_ret2
  exact ⟨_, xe, xR HO324.out, xb HB.out⟩

/-! ### impl_FreeCounts: function 10 -/
def impl_FreeCounts.f (k : Nat) (l0 : List Int) (a1 : Int) : Option (Int × Int) := (impl_free.f k l0 a1).bind fun bt325 => (if bt325.2.2 = true then (some ((bt325.1.length : Int), (bt325.2.1.length : Int))) else (some ((-1), (-1))))
theorem impl_FreeCounts.mono : ∀ a0 a1 k, LeO (impl_FreeCounts.f k a0 a1) (impl_FreeCounts.f (k + 1) a0 a1) := by
 intro a0 a1 k
 unfold impl_FreeCounts.f
 repeat' with_reducible first | exact impl_free.mono _ _ _ | exact xl | refine LeO.ite ?_ ?_ | refine LeO.bind ?_ fun _ => ?_
theorem impl_FreeCounts.calls (k : Nat) (A0 : Option Addr) (c0 : Nat) (l0 : List Int) (a1 : Int) (r1 : Int) (r2 : Int) (w : World) (hr0 : Kd.C (Kd.int .i64) w A0 l0.length l0) (hc0 : l0.length ≤ c0) (h : impl_FreeCounts.f k l0 a1 = some (r1, r2)) :
  Calls Try.prog 10 #[.slice A0 l0.length c0, .int .i64 a1] w fun e w' => e = .returned (.tuple #[.int .i64 r1, .int .i64 r2]) ∧ Below w.heap.size w w' := by
 have HR0 := ax hr0
 have HC0 := ax hc0
 clear hr0 hc0
 have HB := ax (Below.refl w.heap.size w)
 have H : ((impl_free.f k l0 a1).bind fun bt325 => (if bt325.2.2 = true then (some ((bt325.1.length : Int), (bt325.2.1.length : Int))) else (some ((-1), (-1))))) = some (r1, r2) := h
 clear h
 obtain ⟨⟨t325, t326, t327⟩, A3, H⟩ := xI H
 dsimp only at H
 by_cases c4 : t327 = true
 ·subst c4
  rw [if_pos rfl] at H
  simp only [Option.some.injEq, Prod.mk.injEq] at H
  obtain ⟨rfl, rfl⟩ := H
  go_enter Try.func10, Try.ntmps10
  go_wp2_with (first | ((with_reducible refine gate_callee (f := 22) rfl ?_); refine goesL_ (some 12) rfl rfl Try.func22 (by kernel_rfl) rfl #[.slice A0 l0.length c0, .int .i64 a1] rfl xm ?_; (with_reducible refine (impl_free.calls k _ _ l0 a1 t325 t326 true _ ?side1 ?side2 A3.out).mono ?_); (case side1 => exact xc HR0.out); (case side2 => exact HC0.out); rintro e w5 ⟨v328, v330, rfl, ho0, ho1, hb⟩; refine ⟨_, rfl, ?_⟩; have HO329 := ax (Kd.R_lower ho0 (below_size (xb HB.out))); have HO331 := ax (Kd.R_lower ho1 (below_size (xb HB.out))); replace HB := yB HB hb; (try clear hb); (try clear ho0); (try clear ho1); obtain ⟨Ao6, co6, eo6⟩ := Kd.R_slice HO329.out; subst eo6; obtain ⟨Ao7, co7, eo7⟩ := Kd.R_slice HO331.out; subst eo7))
  go_ret2
  exact ⟨xe, xb HB.out⟩
 ·replace c4 := Bool.eq_false_iff.mpr c4
  subst c4
  rw [if_neg (show ¬ (false = true) by decide)] at H
  simp only [Option.some.injEq, Prod.mk.injEq] at H
  obtain ⟨rfl, rfl⟩ := H
  go_enter Try.func10, Try.ntmps10
  go_wp2_with (first | ((with_reducible refine gate_callee (f := 22) rfl ?_); refine goesL_ (some 12) rfl rfl Try.func22 (by kernel_rfl) rfl #[.slice A0 l0.length c0, .int .i64 a1] rfl xm ?_; (with_reducible refine (impl_free.calls k _ _ l0 a1 t325 t326 false _ ?side1 ?side2 A3.out).mono ?_); (case side1 => exact xc HR0.out); (case side2 => exact HC0.out); rintro e w8 ⟨v328, v330, rfl, ho0, ho1, hb⟩; refine ⟨_, rfl, ?_⟩; have HO329 := ax (Kd.R_lower ho0 (below_size (xb HB.out))); have HO331 := ax (Kd.R_lower ho1 (below_size (xb HB.out))); replace HB := yB HB hb; (try clear hb); (try clear ho0); (try clear ho1)))
  go_ret2
  exact ⟨xe, xb HB.out⟩

/-! ### spec_FreeCounts: function 11 -/
def spec_FreeCounts.f (k : Nat) (l0 : List Int) (a1 : Int) : Option (Int × Int) := (spec_l26Fine.f k l0 a1).bind fun t332 => (if t332 = true then ((spec_l26Free.f k l0 a1).bind fun bt333 => (some ((bt333.1.length : Int), (bt333.2.length : Int)))) else (some ((-1), (-1))))
theorem spec_FreeCounts.mono : ∀ a0 a1 k, LeO (spec_FreeCounts.f k a0 a1) (spec_FreeCounts.f (k + 1) a0 a1) := by
 intro a0 a1 k
 unfold spec_FreeCounts.f
 repeat' with_reducible first | exact spec_l26Fine.mono _ _ _ | exact spec_l26Free.mono _ _ _ | exact xl | refine LeO.ite ?_ ?_ | refine LeO.bind ?_ fun _ => ?_
theorem spec_FreeCounts.calls (k : Nat) (A0 : Option Addr) (c0 : Nat) (l0 : List Int) (a1 : Int) (r1 : Int) (r2 : Int) (w : World) (hr0 : Kd.C (Kd.int .i64) w A0 l0.length l0) (hc0 : l0.length ≤ c0) (h : spec_FreeCounts.f k l0 a1 = some (r1, r2)) :
  Calls Try.prog 11 #[.slice A0 l0.length c0, .int .i64 a1] w fun e w' => e = .returned (.tuple #[.int .i64 r1, .int .i64 r2]) ∧ Below w.heap.size w w' := by
 have HR0 := ax hr0
 have HC0 := ax hc0
 clear hr0 hc0
 have HB := ax (Below.refl w.heap.size w)
 have H : ((spec_l26Fine.f k l0 a1).bind fun t332 => (if t332 = true then ((spec_l26Free.f k l0 a1).bind fun bt333 => (some ((bt333.1.length : Int), (bt333.2.length : Int)))) else (some ((-1), (-1))))) = some (r1, r2) := h
 clear h
 obtain ⟨t332, A3, H⟩ := xI H
 by_cases c4 : t332 = true
 ·subst c4
  rw [if_pos rfl] at H
  obtain ⟨⟨t333, t334⟩, A5, H⟩ := xI H
  dsimp only at H
  simp only [Option.some.injEq, Prod.mk.injEq] at H
  obtain ⟨rfl, rfl⟩ := H
  go_enter Try.func11, Try.ntmps11
  go_wp2_with (first | ((with_reducible refine gate_callee (f := 24) rfl ?_); refine goesL_ (some 10) rfl rfl Try.func24 (by kernel_rfl) rfl #[.slice A0 l0.length c0, .int .i64 a1] rfl xm ?_; (with_reducible refine (spec_l26Fine.calls k _ _ l0 a1 true _ ?side1 ?side2 A3.out).mono ?_); (case side1 => exact xc HR0.out); (case side2 => exact HC0.out); rintro e w' ⟨rfl, ⟨nd, rfl⟩⟩; refine ⟨_, rfl, ?_⟩) | ((with_reducible refine gate_callee (f := 25) rfl ?_); refine goesL_ (some 15) rfl rfl Try.func25 (by kernel_rfl) rfl #[.slice A0 l0.length c0, .int .i64 a1] rfl xm ?_; (with_reducible refine (spec_l26Free.calls k _ _ l0 a1 t333 t334 _ ?side1 ?side2 A5.out).mono ?_); (case side1 => exact xc HR0.out); (case side2 => exact HC0.out); rintro e w6 ⟨v335, v337, rfl, ho0, ho1, hb⟩; refine ⟨_, rfl, ?_⟩; have HO336 := ax (Kd.R_lower ho0 (below_size (xb HB.out))); have HO338 := ax (Kd.R_lower ho1 (below_size (xb HB.out))); replace HB := yB HB hb; (try clear hb); (try clear ho0); (try clear ho1); obtain ⟨Ao7, co7, eo7⟩ := Kd.R_slice HO336.out; subst eo7; obtain ⟨Ao8, co8, eo8⟩ := Kd.R_slice HO338.out; subst eo8))
  go_ret2
  exact ⟨xe, xb HB.out⟩
 ·replace c4 := Bool.eq_false_iff.mpr c4
  subst c4
  rw [if_neg (show ¬ (false = true) by decide)] at H
  simp only [Option.some.injEq, Prod.mk.injEq] at H
  obtain ⟨rfl, rfl⟩ := H
  go_enter Try.func11, Try.ntmps11
  go_wp2_with (first | ((with_reducible refine gate_callee (f := 24) rfl ?_); refine goesL_ (some 10) rfl rfl Try.func24 (by kernel_rfl) rfl #[.slice A0 l0.length c0, .int .i64 a1] rfl xm ?_; (with_reducible refine (spec_l26Fine.calls k _ _ l0 a1 false _ ?side1 ?side2 A3.out).mono ?_); (case side1 => exact xc HR0.out); (case side2 => exact HC0.out); rintro e w' ⟨rfl, ⟨nd, rfl⟩⟩; refine ⟨_, rfl, ?_⟩))
  go_ret2
  exact ⟨xe, xb HB.out⟩

end Go.Proofs.Ytnfcdaojglicfaa.PFnOperators
