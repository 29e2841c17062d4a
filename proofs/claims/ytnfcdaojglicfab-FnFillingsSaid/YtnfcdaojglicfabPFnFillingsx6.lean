import Derived.Test.YtnfcdaojglicfabPFnFillingsx4
import Derived.Test.YtnfcdaojglicfabPFnFillingsx5
namespace Go.Proofs.Ytnfcdaojglicfab.PFnFillings
open Go.RowKit Go.Proofs.YtnfcdaojglicfabW.PrintWords Go.Proofs.YtnfcdaojglicfabW.PrintLast Go.Proofs.YtnfcdaojglicfabW.PrintMore
set_option linter.unusedVariables false
set_option linter.unusedSimpArgs false
set_option maxHeartbeats 8000000
set_option maxRecDepth 100000
/-! ### impl_HooksOfReverse: function 6 -/
mutual
def impl_HooksOfReverse.j0 : Nat → List Int → List (List Int) → Bool → Option ((List (List Int)) × Bool)
 | 0, _, _, _ => none
 | k + 1, x0, x1, x24 => if x24 = true then (some (([] : List (List Int)), false)) else ((impl_zeros.f k x0).bind fun t299 => ((impl_zeros.f k x0).bind fun t302 => (impl_HooksOfReverse.l0 k x0 t299 t302 x1 (x1.length : Int) 0)))
def impl_HooksOfReverse.l0 : Nat → List Int → List (List Int) → List (List Int) → List (List Int) → Int → Int → Option ((List (List Int)) × Bool)
 | 0, _, _, _, _, _, _ => none
 | k + 1, x0, x6, x7, x29, x30, x31 => if x31 < x30 then (if 0 ≤ x31 then (if x31 < (x29.length : Int) then (if x31 < (x6.length : Int) then (impl_HooksOfReverse.l0 k x0 (x6.set (x31 : Int).toNat (xcp (rd_L2 x6 x31) (rd_L2 x29 x31))) x7 x29 x30 (wrap64 (x31 + 1))) else (none)) else (none)) else (none)) else ((impl_start.f k x6).bind fun bt310 => (impl_HooksOfReverse.l1 k x0 x6 x7 bt310.1 bt310.2))
def impl_HooksOfReverse.l1 : Nat → List Int → List (List Int) → List (List Int) → Int → Bool → Option ((List (List Int)) × Bool)
 | 0, _, _, _, _, _ => none
 | k + 1, x0, x6, x7, x10, x11 => if x11 = true then ((impl_column.f k x0 x10).bind fun t312 => (impl_HooksOfReverse.l2 k x0 x6 x7 x10 (wrap64 (t312 - 1)) x10)) else (some (x7, true))
def impl_HooksOfReverse.l2 : Nat → List Int → List (List Int) → List (List Int) → Int → Int → Int → Option ((List (List Int)) × Bool)
 | 0, _, _, _, _, _, _ => none
 | k + 1, x0, x6, x7, x10, x12, x13 => if 0 ≤ x12 then (if x12 < (x6.length : Int) then (if 0 ≤ x13 then (if x13 < ((rd_L2 x6 x12).length : Int) then ((some (x6.set (x12 : Int).toNat ((rd_L2 x6 x12).set (x13 : Int).toNat (wrap64 ((rd (rd_L2 x6 x12) x13) - 1))) : List (List Int))).bind fun y319 => (if x12 > 0 then (if 0 ≤ (wrap64 (x12 - 1)) then (if (wrap64 (x12 - 1)) < (x6.length : Int) then (if x13 < ((rd_L2 y319 (wrap64 (x12 - 1))).length : Int) then (if (rd (rd_L2 y319 (wrap64 (x12 - 1))) x13) = (rd (rd_L2 x6 x12) x13) then (impl_HooksOfReverse.j4 k x0 y319 x7 x10 x12 x13 ((rd (rd_L2 x6 x12) x13) != 0)) else (impl_HooksOfReverse.j4 k x0 y319 x7 x10 x12 x13 false)) else (none)) else (none)) else (none)) else (impl_HooksOfReverse.j4 k x0 y319 x7 x10 x12 x13 false))) else (none)) else (none)) else (none)) else (none)
def impl_HooksOfReverse.j4 : Nat → List Int → List (List Int) → List (List Int) → Int → Int → Int → Bool → Option ((List (List Int)) × Bool)
 | 0, _, _, _, _, _, _, _ => none
 | k + 1, x0, x6, x7, x10, x12, x13, x92 => if x92 = true then (impl_HooksOfReverse.l2 k x0 x6 x7 x10 (wrap64 (x12 - 1)) x13) else (if 0 ≤ x12 then (if x12 < (x0.length : Int) then (if (wrap64 (x13 + 1)) < (rd x0 x12) then (impl_HooksOfReverse.l2 k x0 x6 x7 x10 x12 (wrap64 (x13 + 1))) else (if x12 < (x7.length : Int) then (if 0 ≤ x10 then (if x10 < ((rd_L2 x7 x12).length : Int) then ((impl_start.f k x6).bind fun bt328 => (impl_HooksOfReverse.l1 k x0 x6 (x7.set (x12 : Int).toNat ((rd_L2 x7 x12).set (x10 : Int).toNat (wrap64 ((rd (rd_L2 x7 x12) x10) + 1)))) bt328.1 bt328.2)) else (none)) else (none)) else (none))) else (none)) else (none))
end
def impl_HooksOfReverse.f (k : Nat) (l0 : List Int) (l1 : List (List Int)) : Option ((List (List Int)) × Bool) := (impl_IsReverse.f k l0 l1).bind fun t294 => (if t294 = true then ((slices_Concat_int_int.f k l1).bind fun t295 => ((impl_sum.f k t295).bind fun t298 => (impl_HooksOfReverse.j0 k l0 l1 (decide (t298 > 20))))) else (impl_HooksOfReverse.j0 k l0 l1 true))
theorem impl_HooksOfReverse.mono_l : ∀ k, (∀ y0 y1 y2, LeO (impl_HooksOfReverse.j0 k y0 y1 y2) (impl_HooksOfReverse.j0 (k + 1) y0 y1 y2)) ∧ (∀ y0 y1 y2 y3 y4 y5, LeO (impl_HooksOfReverse.l0 k y0 y1 y2 y3 y4 y5) (impl_HooksOfReverse.l0 (k + 1) y0 y1 y2 y3 y4 y5)) ∧ (∀ y0 y1 y2 y3 y4, LeO (impl_HooksOfReverse.l1 k y0 y1 y2 y3 y4) (impl_HooksOfReverse.l1 (k + 1) y0 y1 y2 y3 y4)) ∧ (∀ y0 y1 y2 y3 y4 y5, LeO (impl_HooksOfReverse.l2 k y0 y1 y2 y3 y4 y5) (impl_HooksOfReverse.l2 (k + 1) y0 y1 y2 y3 y4 y5)) ∧ (∀ y0 y1 y2 y3 y4 y5 y6, LeO (impl_HooksOfReverse.j4 k y0 y1 y2 y3 y4 y5 y6) (impl_HooksOfReverse.j4 (k + 1) y0 y1 y2 y3 y4 y5 y6))
 | 0 => ⟨fun _ _ _ r h => by simp [impl_HooksOfReverse.j0] at h, fun _ _ _ _ _ _ r h => by simp [impl_HooksOfReverse.l0] at h, fun _ _ _ _ _ r h => by simp [impl_HooksOfReverse.l1] at h, fun _ _ _ _ _ _ r h => by simp [impl_HooksOfReverse.l2] at h, fun _ _ _ _ _ _ _ r h => by simp [impl_HooksOfReverse.j4] at h⟩
 | k + 1 => by
  obtain ⟨ih0, ih1, ih2, ih3, ih4⟩ := impl_HooksOfReverse.mono_l k
  refine ⟨?_, ?_, ?_, ?_, ?_⟩
  ·intro y0 y1 y2
   unfold impl_HooksOfReverse.j0
   repeat' with_reducible first | exact ih0 _ _ _ | exact ih1 _ _ _ _ _ _ | exact ih2 _ _ _ _ _ | exact ih3 _ _ _ _ _ _ | exact ih4 _ _ _ _ _ _ _ | exact impl_IsReverse.mono _ _ _ | exact impl_column.mono _ _ _ | exact impl_start.mono _ _ | exact impl_sum.mono _ _ | exact impl_zeros.mono _ _ | exact slices_Concat_int_int.mono _ _ | exact xl | refine LeO.ite ?_ ?_ | refine LeO.bind ?_ fun _ => ?_
  ·intro y0 y1 y2 y3 y4 y5
   unfold impl_HooksOfReverse.l0
   repeat' with_reducible first | exact ih0 _ _ _ | exact ih1 _ _ _ _ _ _ | exact ih2 _ _ _ _ _ | exact ih3 _ _ _ _ _ _ | exact ih4 _ _ _ _ _ _ _ | exact impl_IsReverse.mono _ _ _ | exact impl_column.mono _ _ _ | exact impl_start.mono _ _ | exact impl_sum.mono _ _ | exact impl_zeros.mono _ _ | exact slices_Concat_int_int.mono _ _ | exact xl | refine LeO.ite ?_ ?_ | refine LeO.bind ?_ fun _ => ?_
  ·intro y0 y1 y2 y3 y4
   unfold impl_HooksOfReverse.l1
   repeat' with_reducible first | exact ih0 _ _ _ | exact ih1 _ _ _ _ _ _ | exact ih2 _ _ _ _ _ | exact ih3 _ _ _ _ _ _ | exact ih4 _ _ _ _ _ _ _ | exact impl_IsReverse.mono _ _ _ | exact impl_column.mono _ _ _ | exact impl_start.mono _ _ | exact impl_sum.mono _ _ | exact impl_zeros.mono _ _ | exact slices_Concat_int_int.mono _ _ | exact xl | refine LeO.ite ?_ ?_ | refine LeO.bind ?_ fun _ => ?_
  ·intro y0 y1 y2 y3 y4 y5
   unfold impl_HooksOfReverse.l2
   repeat' with_reducible first | exact ih0 _ _ _ | exact ih1 _ _ _ _ _ _ | exact ih2 _ _ _ _ _ | exact ih3 _ _ _ _ _ _ | exact ih4 _ _ _ _ _ _ _ | exact impl_IsReverse.mono _ _ _ | exact impl_column.mono _ _ _ | exact impl_start.mono _ _ | exact impl_sum.mono _ _ | exact impl_zeros.mono _ _ | exact slices_Concat_int_int.mono _ _ | exact xl | refine LeO.ite ?_ ?_ | refine LeO.bind ?_ fun _ => ?_
  ·intro y0 y1 y2 y3 y4 y5 y6
   unfold impl_HooksOfReverse.j4
   repeat' with_reducible first | exact ih0 _ _ _ | exact ih1 _ _ _ _ _ _ | exact ih2 _ _ _ _ _ | exact ih3 _ _ _ _ _ _ | exact ih4 _ _ _ _ _ _ _ | exact impl_IsReverse.mono _ _ _ | exact impl_column.mono _ _ _ | exact impl_start.mono _ _ | exact impl_sum.mono _ _ | exact impl_zeros.mono _ _ | exact slices_Concat_int_int.mono _ _ | exact xl | refine LeO.ite ?_ ?_ | refine LeO.bind ?_ fun _ => ?_
theorem impl_HooksOfReverse.mono : ∀ a0 a1 k, LeO (impl_HooksOfReverse.f k a0 a1) (impl_HooksOfReverse.f (k + 1) a0 a1) := by
 intro a0 a1 k
 obtain ⟨ih0, ih1, ih2, ih3, ih4⟩ := impl_HooksOfReverse.mono_l k
 unfold impl_HooksOfReverse.f
 repeat' with_reducible first | exact ih0 _ _ _ | exact ih1 _ _ _ _ _ _ | exact ih2 _ _ _ _ _ | exact ih3 _ _ _ _ _ _ | exact ih4 _ _ _ _ _ _ _ | exact impl_IsReverse.mono _ _ _ | exact impl_column.mono _ _ _ | exact impl_start.mono _ _ | exact impl_sum.mono _ _ | exact impl_zeros.mono _ _ | exact slices_Concat_int_int.mono _ _ | exact xl | refine LeO.ite ?_ ?_ | refine LeO.bind ?_ fun _ => ?_
theorem impl_HooksOfReverse.calls (k : Nat) (A0 : Option Addr) (c0 : Nat) (l0 : List Int) (A1 : Option Addr) (c1 : Nat) (l1 : List (List Int)) (r1 : List (List Int)) (r2 : Bool) (w : World) (hr0 : Kd.C (Kd.int .i64) w A0 l0.length l0) (hc0 : l0.length ≤ c0) (hr1 : Kd.C (Kd.slice 3 (Kd.int .i64)) w A1 l1.length l1) (hc1 : l1.length ≤ c1) (h : impl_HooksOfReverse.f k l0 l1 = some (r1, r2)) :
  Calls Try.prog 6 #[.slice A0 l0.length c0, .slice A1 l1.length c1] w fun e w' => ∃ v0_ : Value, e = .returned (.tuple #[v0_, .bool r2]) ∧ Kd.S (Kd.slice 3 (Kd.int .i64)) 24 w' w.heap.size (fun _ => True) v0_ r1 ∧ Below w.heap.size w w' := by
 have HR0 := ax hr0
 have HC0 := ax hc0
 clear hr0 hc0
 have HR1 := ax hr1
 have HC1 := ax hc1
 clear hr1 hc1
 have HB := ax (Below.refl w.heap.size w)
 have H : ((impl_IsReverse.f k l0 l1).bind fun t294 => (if t294 = true then ((slices_Concat_int_int.f k l1).bind fun t295 => ((impl_sum.f k t295).bind fun t298 => (impl_HooksOfReverse.j0 k l0 l1 (decide (t298 > 20))))) else (impl_HooksOfReverse.j0 k l0 l1 true))) = some (r1, r2) := h
 clear h
 have HC3 := ax H
 clear H
 go_enter Try.func6, Try.ntmps6
 go_upto_region 1 with (fail)
 go_cut [24] (fun v24 wc => ∃ (kq : Nat) (x24_2 : Bool), v24 = .bool x24_2 ∧ Aside0 (impl_HooksOfReverse.j0 kq l0 l1 x24_2 = some (r1, r2)) ∧ Aside0 (kq ≤ k) ∧ Aside0 (Below w.heap.size w wc))
 case first =>
  have H := HC3.out
  clear HC3
  obtain ⟨t294, A4, H⟩ := xI H
  by_cases c5 : t294 = true
  ·subst c5
   rw [if_pos rfl] at H
   obtain ⟨t295, A6, H⟩ := xI H
   obtain ⟨t298, A7, H⟩ := xI H
   have H' := ax H
   clear H
   go_wp2_with (first | ((with_reducible refine gate_callee (f := 14) rfl ?_); refine goesL_ (some 17) rfl rfl Try.func14 (by kernel_rfl) rfl #[.slice A0 l0.length c0, .slice A1 l1.length c1] rfl xm ?_; (with_reducible refine (impl_IsReverse.calls k _ _ l0 _ _ l1 true _ ?side1 ?side2 ?side3 ?side4 A4.out).mono ?_); (case side1 => exact xz HR0.out HB.out); (case side2 => exact HC0.out); (case side3 => exact xz HR1.out HB.out); (case side4 => exact HC1.out); rintro e w' ⟨rfl, ⟨nd, rfl⟩⟩; refine ⟨_, rfl, ?_⟩) | (go_at_call 23; (with_reducible refine (slices_Concat_int_int.calls k _ _ l1 t295 _ ?side1 ?side2 A6.out).mono ?_); (case side1 => exact xc (Kd.C_below HR1.out (xb HB.out))); (case side2 => exact HC1.out); rintro e w8 ⟨v296, rfl, ho0, hb⟩; have HO297 := ax (Kd.R_lower ho0 (below_size (xb HB.out))); replace HB := yB HB hb; (try clear hb); (try clear ho0); obtain ⟨Ao9, co9, eo9⟩ := Kd.R_slice HO297.out; subst eo9) | (go_at_call 22; (with_reducible refine (impl_sum.calls k _ _ t295 t298 _ ?side1 ?side2 A7.out).mono ?_); (case side1 => exact xc (Kd.R_reads' HO297.out).2.2); (case side2 => exact (Kd.R_reads' HO297.out).2.1); rintro e w' ⟨rfl, ⟨nd, rfl⟩⟩))
   go_meet
   case rel => exact ⟨_, (decide (t298 > 20)), xr, H', ⟨by first | omega | exact Nat.le_refl _⟩, ⟨xb HB.out⟩⟩
  ·replace c5 := Bool.eq_false_iff.mpr c5
   subst c5
   rw [if_neg (show ¬ (false = true) by decide)] at H
   have H' := ax H
   clear H
   go_wp2_with (first | ((with_reducible refine gate_callee (f := 14) rfl ?_); refine goesL_ (some 17) rfl rfl Try.func14 (by kernel_rfl) rfl #[.slice A0 l0.length c0, .slice A1 l1.length c1] rfl xm ?_; (with_reducible refine (impl_IsReverse.calls k _ _ l0 _ _ l1 false _ ?side1 ?side2 ?side3 ?side4 A4.out).mono ?_); (case side1 => exact xz HR0.out HB.out); (case side2 => exact HC0.out); (case side3 => exact xz HR1.out HB.out); (case side4 => exact HC1.out); rintro e w' ⟨rfl, ⟨nd, rfl⟩⟩; refine ⟨_, rfl, ?_⟩))
   go_meet
   case rel => exact ⟨_, (true), xr, H', ⟨by first | omega | exact Nat.le_refl _⟩, ⟨xb HB.out⟩⟩
 case rest =>
  clear HC3
  (try clear c1); (try clear c5)
  obtain ⟨kq, x24_2, rfl, HA, HJ2, HB⟩ := hcut
  cases kq with
  | zero => exact absurd HA.out (by simp [impl_HooksOfReverse.j0])
  | succ kj2 =>
   have H := HA.out
   clear HA
   simp only [impl_HooksOfReverse.j0] at H
   by_cases c10 : x24_2 = true
   ·subst c10
    rw [if_pos rfl] at H
    simp only [Option.some.injEq, Prod.mk.injEq] at H
    obtain ⟨rfl, rfl⟩ := H
    go_wp2
    go_ret2
    exact ⟨_, xe, by first | exact Kd.S_nil _ _ _ _ _ | exact Kd.N_nil _ _ _ _ _ | exact Kd.V_nil _ _ _ _ _ | exact Kd.Q_nil _ _ _ _ _ | exact Kd.R_nil _ _ _ _ _, xb HB.out⟩
   ·replace c10 := Bool.eq_false_iff.mpr c10
    subst c10
    rw [if_neg (show ¬ (false = true) by decide)] at H
    obtain ⟨t299, A11, H⟩ := xI H
    obtain ⟨t302, A12, H⟩ := xI H
    have H' := ax H
    clear H
    go_wp2_with (first | ((with_reducible refine gate_callee (f := 24) rfl ?_); refine goesL_ (some 26) rfl rfl Try.func24 (by kernel_rfl) rfl #[.slice A0 l0.length c0] rfl xm ?_; (with_reducible refine (impl_zeros.calls kj2 _ _ l0 t299 _ ?side1 ?side2 A11.out).mono ?_); (case side1 => exact xz HR0.out HB.out); (case side2 => exact HC0.out); rintro e w13 ⟨v300, rfl, ho0, hb⟩; refine ⟨_, rfl, ?_⟩; have HO301 := ax (Kd.S_lower ho0 (below_size (xb HB.out))); replace HB := yB HB hb; (try clear hb); (try clear ho0)) | ((with_reducible refine gate_callee (f := 24) rfl ?_); refine goesL_ (some 28) rfl rfl Try.func24 (by kernel_rfl) rfl #[.slice A0 l0.length c0] rfl xm ?_; (with_reducible refine (impl_zeros.calls kj2 _ _ l0 t302 _ ?side1 ?side2 A12.out).mono ?_); (case side1 => exact xz HR0.out HB.out); (case side2 => exact HC0.out); rintro e w14 ⟨v303, rfl, ho0, hb⟩; refine ⟨_, rfl, ?_⟩; replace ho0 := Kd.deep0 ho0; obtain ⟨N330_, ho0, hN330_⟩ := ho0; have HO304 := ax (Kd.S_lower (Kd.S_new' ho0 (Kd.S_lt (xS HO301.out))) (below_size (xb HB.out))); replace HO301 := ax (Kd.S_elderD (xS HO301.out) hN330_ (Kd.S_base ho0) hb); replace HB := yB HB hb; (try clear hb); (try clear ho0); (try clear hN330_)))
    go_loopg [31] kj2 (fun kq v31 w' => ∃ (x6_2 : List (List Int)) (x31_2 : Int), v31 = .int .i64 x31_2 ∧ Aside0 (impl_HooksOfReverse.l0 kq l0 x6_2 t302 l1 (l1.length : Int) x31_2 = some (r1, r2)) ∧ Aside0 (kq ≤ kj2) ∧ Aside0 (Kd.S (Kd.slice 3 (Kd.int .i64)) 24 w' w.heap.size (fun k_ => some k_ ≠ (v303 : Value).ownBlock ∧ k_ ≠ dmO N330_ k_) v300 x6_2) ∧ Aside0 (Kd.S (Kd.slice 3 (Kd.int .i64)) 24 w' w.heap.size (fun k_ => some k_ ≠ (v300 : Value).ownBlock ∧ k_ ≠ dmI N330_ k_) v303 t302) ∧ Aside0 (Below w.heap.size w w'))
    case atStart => exact ⟨(t299), (0), xr, H', ⟨Nat.le_refl _⟩, ⟨by (with_reducible repeat (first | apply Kd.S_alloc | apply Kd.S_drewN | apply Kd.S_drew)); exact Kd.S_mono HO301.out (fun _ hk => ⟨hk.1.2, hk.2⟩)⟩, ⟨by (with_reducible repeat (first | apply Kd.S_alloc | apply Kd.S_drewN | apply Kd.S_drew)); exact Kd.S_mono HO304.out (fun _ hk => ⟨hk.2, hk.1⟩)⟩, ⟨xb HB.out⟩⟩
    case round =>
     clear H'
     (try clear c1); (try clear c5); (try clear c10)
     obtain ⟨x6_2, x31_2, rfl, HA, HK2, HO_6, HO_7, HB⟩ := hrel
     cases gk with
     | zero => exact absurd HA.out (by simp [impl_HooksOfReverse.l0])
     | succ k2 =>
      have H := HA.out
      clear HA
      simp only [impl_HooksOfReverse.l0] at H
      by_cases c15 : x31_2 < (l1.length : Int)
      ·rw [if_pos c15] at H
       have c15b0 := decide_eq_true c15
       clear c15
       obtain ⟨c16b0, H⟩ := xq H
       obtain ⟨c17b0, H⟩ := xq H
       obtain ⟨c18b0, H⟩ := xq H
       obtain ⟨y307, hy307⟩ : ∃ y_ : List Int, y_ = (xcp (rd_L2 x6_2 x31_2) (rd_L2 l1 x31_2)) := ⟨_, rfl⟩
       replace H : (impl_HooksOfReverse.l0 k2 l0 (x6_2.set (x31_2 : Int).toNat y307) t302 l1 (l1.length : Int) (wrap64 (x31_2 + 1))) = some (r1, r2) := xv hy307 H
       have Ny307 := ax hy307
       clear hy307
       obtain ⟨y309, hy309⟩ : ∃ y_ : List (List Int), y_ = (x6_2.set (x31_2 : Int).toNat y307) := ⟨_, rfl⟩
       replace H : (impl_HooksOfReverse.l0 k2 l0 y309 t302 l1 (l1.length : Int) (wrap64 (x31_2 + 1))) = some (r1, r2) := xv hy309 H
       have Ny309 := ax hy309
       clear hy309
       have H' := ax H
       clear H
       have p305 : 0 ≤ (x31_2 : Int) := xd
       have q305 : x31_2 < (l1.length : Int) := xd
       obtain ⟨ad305, A305_0, c305_0, e305, hx305_0, hl305_0, hi305_0⟩ := at_L2 HR1.out x31_2 p305 q305
       cases e305
       (try replace hx305_0 := (HB.out.cell (World.block_lt_of_cell? w _ hx305_0)).trans hx305_0)
       have HR305_0 := ax hi305_0
       have HC305_0 := ax hl305_0
       clear hi305_0 hl305_0
       replace p305 := eq_true p305
       replace q305 := eq_true q305
       obtain ⟨Ao19, co19, eo19⟩ := Kd.S_slice HO_6.out
       subst eo19
       have p306 : 0 ≤ (x31_2 : Int) := xd
       have q306 : x31_2 < (x6_2.length : Int) := xd
       obtain ⟨ad306, A306_0, c306_0, e306, hx306_0, hl306_0, hi306_0⟩ := at_L2 (Kd.S_reads' HO_6.out).2.2 x31_2 p306 q306
       cases e306
       obtain ⟨ce306, hce306, hMe306, hcc306⟩ := Kd.S_get HO_6.out [] x31_2 p306 (by first | exact q306 | exact xd | (have e_ := (Kd.S_reads' HO_6.out).1; omega))
       obtain ⟨ve306_0, rfl, ge306_0⟩ := hMe306
       have hv306_0 := hcc306 0 _ rfl
       rw [Nat.add_zero, show ((Kd.slice 3 (Kd.int .i64))).sz = 1 from rfl, Nat.mul_one] at hv306_0
       replace hv306_0 := Option.some.inj (hv306_0.symm.trans hx306_0)
       rw [hv306_0] at ge306_0
       have HL306_0 := ax (show Kd.R (Kd.int .i64) 3 _ _ _ _ (rd_L2 x6_2 x31_2) from ge306_0)
       clear hv306_0 ge306_0
       have HX306_0 := ax hx306_0
       clear hcc306 hce306
       have HR306_0 := ax hi306_0
       have HC306_0 := ax hl306_0
       clear hi306_0 hl306_0
       replace p306 := eq_true p306
       replace q306 := eq_true q306
       have hq20 : (x31_2 : Int) < (x6_2.length : Int) := (by have h_ : (x31_2 : Int) < ((x6_2.length : Int) : Int) := xd; first | exact h_ | (have e_ := (Kd.S_reads' HO_6.out).1; omega) | simpa only [List.length_set, List.length_set] using h_)
       obtain ⟨oki20, ce20, hcl20, hM20, hcc20, hok20, hbk20⟩ := Kd.S_borrow HO_6.out [] (x31_2 : Int) (xd) hq20
       obtain ⟨ve20_0, rfl, ge20_0⟩ := hM20
       have hv20 := hcc20 0 _ rfl
       rw [Nat.add_zero, show ((Kd.slice 3 (Kd.int .i64))).sz = 1 from rfl, Nat.mul_one] at hv20
       replace hv20 := Option.some.inj (hv20.symm.trans HX306_0.out)
       subst hv20
       clear hcc20 hcl20
       replace ge20_0 := (show Kd.R (Kd.int .i64) 3 _ _ _ _ (rd_L2 x6_2 x31_2) from ge20_0)
       go_wp2_with (first | ((with_reducible refine gate_builtin (b := .copy) (xs := #[.tmp 39, .tmp 40]) rfl ?_); refine copy_event rfl (.tmp 39) (.tmp 40) 24 3 rfl Try.underlying24 (by first | rfl | (have h_ := info3; revert h_; cases Try.prog.info? 3 with | none => simp | some i_ => simp; intro _ h2_ _; exact h2_)) rfl rfl ge20_0 ?cC_ (xb HB.out) (below_size (xb HB.out)) ?_; (case cC_ => exact xz HR305_0.out HB.out); intro w21 hz_ hg hb; rw [← Ny307.out] at hz_; have hp_ : Kd.S (Kd.slice 3 (Kd.int .i64)) 24 w21 w.heap.size (fun k_ => some k_ ≠ (v303 : Value).ownBlock ∧ k_ ≠ dmO N330_ k_) (.slice (some ad306) x6_2.length co19) y309 := (by rw [Ny309.out]; exact hbk20 hg (fun k_ e_ => ge20_0.1 _ e_) (Kd.M_row hz_)); have hm_ := Kd.R_mono hz_ hok20; clear hbk20; have n0_ := ax (hp_); have n1_ := ax (Kd.S_grown (xS HO_7.out) hg (fun k_ (hk_ : (fun k_ => some k_ ≠ (.slice (some ad306) x6_2.length co19 : Value).ownBlock ∧ k_ ≠ dmI N330_ k_) k_) e_ => dmNo hk_.2 ((HL306_0.out.1 k_ e_.symm).1.2))); have n2_ := ax (hb); have n3_ := ax (hm_); have n4_ := ax ((Kd.R_reads' hm_).2.1); clear HO_6; clear HO_7; clear HB; clear HL306_0; have HO_6 := n0_; have HO_7 := n1_; have HB := n2_; have HL332 := n3_; have HC308 := n4_; clear n0_ n1_ n2_ n3_ n4_; clear hg hb hp_ hz_ hm_ hok20))
       go_roundg k2
       case measure => have := HJ2.out; have := HK2.out; omega
       case rel => exact ⟨(y309), (wrap64 (x31_2 + 1)), xr, H', ⟨by have := HJ2.out; have := HK2.out; omega⟩, ⟨xS HO_6.out⟩, ⟨xS HO_7.out⟩, ⟨xb HB.out⟩⟩
      ·rw [if_neg c15] at H
       have c15b0 := decide_eq_false c15
       clear c15
       obtain ⟨⟨t310, t311⟩, A22, H⟩ := xI H
       dsimp only at H
       have H' := ax H
       clear H
       obtain ⟨Ao23, co23, eo23⟩ := Kd.S_slice HO_6.out
       subst eo23
       go_wp2_with (first | ((with_reducible refine gate_callee (f := 25) rfl ?_); refine goesL_ (some 45) rfl rfl Try.func25 (by kernel_rfl) rfl #[.slice Ao23 x6_2.length co23] rfl xm ?_; (with_reducible refine (impl_start.calls k2 _ _ x6_2 t310 t311 _ ?side1 ?side2 A22.out).mono ?_); (case side1 => exact xc (Kd.S_reads' HO_6.out).2.2); (case side2 => exact (Kd.S_reads' HO_6.out).2.1); rintro e w' ⟨rfl, ⟨nd, rfl⟩⟩; refine ⟨_, rfl, ?_⟩))
       go_loopg [10, 11] k2 (fun kq v10 v11 w' => ∃ (x6_3 : List (List Int)) (x7_3 : List (List Int)) (x10_3 : Int) (x11_3 : Bool), v10 = .int .i64 x10_3 ∧ v11 = .bool x11_3 ∧ Aside0 (impl_HooksOfReverse.l1 kq l0 x6_3 x7_3 x10_3 x11_3 = some (r1, r2)) ∧ Aside0 (kq ≤ k2) ∧ Aside0 (Kd.S (Kd.slice 3 (Kd.int .i64)) 24 w' w.heap.size (fun k_ => some k_ ≠ (v303 : Value).ownBlock ∧ k_ ≠ dmO N330_ k_) (.slice Ao23 x6_2.length co23) x6_3) ∧ Aside0 (Kd.S (Kd.slice 3 (Kd.int .i64)) 24 w' w.heap.size (fun k_ => some k_ ≠ ((.slice Ao23 x6_2.length co23) : Value).ownBlock ∧ k_ ≠ dmI N330_ k_) v303 x7_3) ∧ Aside0 (Below w.heap.size w w'))
       case atStart => exact ⟨(x6_2), (t302), (t310), (t311), xr, xr, H', ⟨Nat.le_refl _⟩, ⟨xS HO_6.out⟩, ⟨xS HO_7.out⟩, ⟨xb HB.out⟩⟩
       case round =>
        clear H'
        (try clear c1); (try clear c5); (try clear c10); (try clear c15); (try clear c15b0); (try clear c16); (try clear c16b0); (try clear c17); (try clear c17b0); (try clear c18); (try clear c18b0); (try clear hx305_0); (try clear hx306_0); (try clear p305); (try clear p306); (try clear q305); (try clear q306)
        obtain ⟨x6_3, x7_3, x10_3, x11_3, rfl, rfl, HA, HK3, HO_6, HO_7, HB⟩ := hrel
        have hl6_3 := (Kd.S_reads' HO_6.out).1
        rw [hl6_3] at HO_6
        (try simp only [hl6_3])
        (try simp only [hl6_3] at HO_7)
        cases gk with
        | zero => exact absurd HA.out (by simp [impl_HooksOfReverse.l1])
        | succ k3 =>
         have H := HA.out
         clear HA
         simp only [impl_HooksOfReverse.l1] at H
         by_cases c24 : x11_3 = true
         ·subst c24
          rw [if_pos rfl] at H
          obtain ⟨t312, A25, H⟩ := xI H
          have H' := ax H
          clear H
          go_wp2_with (first | ((with_reducible refine gate_callee (f := 26) rfl ?_); refine goesL_ (some 56) rfl rfl Try.func26 (by kernel_rfl) rfl #[.slice A0 l0.length c0, .int .i64 x10_3] rfl xm ?_; (with_reducible refine (impl_column.calls k3 _ _ l0 x10_3 t312 _ ?side1 ?side2 A25.out).mono ?_); (case side1 => exact xz HR0.out HB.out); (case side2 => exact HC0.out); rintro e w' ⟨rfl, ⟨nd, rfl⟩⟩; refine ⟨_, rfl, ?_⟩))
          go_loopg [12, 13] k3 (fun kq v12 v13 w' => ∃ (x6_4 : List (List Int)) (x12_4 : Int) (x13_4 : Int), v12 = .int .i64 x12_4 ∧ v13 = .int .i64 x13_4 ∧ Aside0 (impl_HooksOfReverse.l2 kq l0 x6_4 x7_3 x10_3 x12_4 x13_4 = some (r1, r2)) ∧ Aside0 (kq ≤ k3) ∧ Aside0 (Kd.S (Kd.slice 3 (Kd.int .i64)) 24 w' w.heap.size (fun k_ => some k_ ≠ (v303 : Value).ownBlock ∧ k_ ≠ dmO N330_ k_) (.slice Ao23 x6_3.length co23) x6_4) ∧ Aside0 (Kd.S (Kd.slice 3 (Kd.int .i64)) 24 w' w.heap.size (fun k_ => some k_ ≠ ((.slice Ao23 x6_3.length co23) : Value).ownBlock ∧ k_ ≠ dmI N330_ k_) v303 x7_3) ∧ Aside0 (Below w.heap.size w w'))
          case atStart => exact ⟨(x6_3), (wrap64 (t312 - 1)), (x10_3), xr, xr, H', ⟨Nat.le_refl _⟩, ⟨by (try simp only [hl6_3]); (with_reducible repeat (first | apply Kd.S_alloc | apply Kd.S_drewN | apply Kd.S_drew)); first | exact HO_6.out | exact Kd.S_mono HO_6.out xi⟩, ⟨by (try simp only [hl6_3]); (with_reducible repeat (first | apply Kd.S_alloc | apply Kd.S_drewN | apply Kd.S_drew)); first | exact HO_7.out | exact Kd.S_mono HO_7.out xi⟩, ⟨xb HB.out⟩⟩
          case round =>
           clear H'
           (try clear c1); (try clear c5); (try clear c10); (try clear c15); (try clear c15b0); (try clear c16); (try clear c16b0); (try clear c17); (try clear c17b0); (try clear c18); (try clear c18b0); (try clear c24); (try clear hx305_0); (try clear hx306_0); (try clear p305); (try clear p306); (try clear q305); (try clear q306)
           obtain ⟨x6_4, x12_4, x13_4, rfl, rfl, HA, HK4, HO_6, HO_7, HB⟩ := hrel
           have hl6_4 := (Kd.S_reads' HO_6.out).1
           rw [hl6_4] at HO_6
           (try simp only [hl6_4])
           (try simp only [hl6_4] at HO_7)
           cases gk with
           | zero => exact absurd HA.out (by simp [impl_HooksOfReverse.l2])
           | succ k4 =>
            have H := HA.out
            clear HA
            simp only [impl_HooksOfReverse.l2] at H
            obtain ⟨c26b0, H⟩ := xq H
            obtain ⟨c27, H⟩ := xp H
            have c27b0 := decide_eq_true c27
            have c27b0x := c27b0
            (try simp only [hl6_3, hl6_4] at c27b0x)
            clear c27
            obtain ⟨c28b0, H⟩ := xq H
            obtain ⟨c29, H⟩ := xp H
            have c29b0 := decide_eq_true c29
            have c29b0x := c29b0
            (try simp only [hl6_3, hl6_4] at c29b0x)
            clear c29
            obtain ⟨y317, hy317⟩ : ∃ y_ : List Int, y_ = ((rd_L2 x6_4 x12_4).set (x13_4 : Int).toNat (wrap64 ((rd (rd_L2 x6_4 x12_4) x13_4) - 1))) := ⟨_, rfl⟩
            replace H : ((some (x6_4.set (x12_4 : Int).toNat y317 : List (List Int))).bind fun y319 => (if x12_4 > 0 then (if 0 ≤ (wrap64 (x12_4 - 1)) then (if (wrap64 (x12_4 - 1)) < (x6_4.length : Int) then (if x13_4 < ((rd_L2 y319 (wrap64 (x12_4 - 1))).length : Int) then (if (rd (rd_L2 y319 (wrap64 (x12_4 - 1))) x13_4) = (rd (rd_L2 x6_4 x12_4) x13_4) then (impl_HooksOfReverse.j4 k4 l0 y319 x7_3 x10_3 x12_4 x13_4 ((rd (rd_L2 x6_4 x12_4) x13_4) != 0)) else (impl_HooksOfReverse.j4 k4 l0 y319 x7_3 x10_3 x12_4 x13_4 false)) else (none)) else (none)) else (none)) else (impl_HooksOfReverse.j4 k4 l0 y319 x7_3 x10_3 x12_4 x13_4 false))) = some (r1, r2) := xv hy317 H
            have Ny317 := ax hy317
            clear hy317
            obtain ⟨y319, Ny319, H⟩ := xg H
            have HC31 := ax H
            clear H
            have p313 : 0 ≤ (x12_4 : Int) := xd
            have q313 : x12_4 < (x6_4.length : Int) := xd
            obtain ⟨ad313, A313_0, c313_0, e313, hx313_0, hl313_0, hi313_0⟩ := at_L2 (Kd.S_reads' HO_6.out).2.2 x12_4 p313 q313
            cases e313
            obtain ⟨ce313, hce313, hMe313, hcc313⟩ := Kd.S_get HO_6.out [] x12_4 p313 (by first | exact q313 | exact xd | (have e_ := (Kd.S_reads' HO_6.out).1; omega))
            obtain ⟨ve313_0, rfl, ge313_0⟩ := hMe313
            have hv313_0 := hcc313 0 _ rfl
            rw [Nat.add_zero, show ((Kd.slice 3 (Kd.int .i64))).sz = 1 from rfl, Nat.mul_one] at hv313_0
            replace hv313_0 := Option.some.inj (hv313_0.symm.trans hx313_0)
            rw [hv313_0] at ge313_0
            have HL313_0 := ax (show Kd.R (Kd.int .i64) 3 _ _ _ _ (rd_L2 x6_4 x12_4) from ge313_0)
            clear hv313_0 ge313_0
            have HX313_0 := ax hx313_0
            clear hcc313 hce313
            have HR313_0 := ax hi313_0
            have HC313_0 := ax hl313_0
            clear hi313_0 hl313_0
            replace p313 := eq_true p313
            replace q313 := eq_true q313
            have p314 : 0 ≤ (x13_4 : Int) := xd
            have q314 : x13_4 < ((rd_L2 x6_4 x12_4).length : Int) := xd
            obtain ⟨ad314, e314, hx314_0⟩ := Kd.at_int (xw HR313_0.out) x13_4 p314 q314
            cases e314
            replace p314 := eq_true p314
            replace q314 := eq_true q314
            have p315 : 0 ≤ (x12_4 : Int) := xd
            have q315 : x12_4 < (x6_4.length : Int) := xd
            obtain ⟨ad315, A315_0, c315_0, e315, hx315_0, hl315_0, hi315_0⟩ := at_L2 (Kd.S_reads' HO_6.out).2.2 x12_4 p315 q315
            obtain rfl : ad313 = ad315 := (by injection e315)
            obtain ⟨ce315, hce315, hMe315, hcc315⟩ := Kd.S_get HO_6.out [] x12_4 p315 (by first | exact q315 | exact xd | (have e_ := (Kd.S_reads' HO_6.out).1; omega))
            obtain ⟨ve315_0, rfl, ge315_0⟩ := hMe315
            have hv315_0 := hcc315 0 _ rfl
            rw [Nat.add_zero, show ((Kd.slice 3 (Kd.int .i64))).sz = 1 from rfl, Nat.mul_one] at hv315_0
            replace hv315_0 := Option.some.inj (hv315_0.symm.trans hx315_0)
            rw [hv315_0] at ge315_0
            have HL315_0 := ax (show Kd.R (Kd.int .i64) 3 _ _ _ _ (rd_L2 x6_4 x12_4) from ge315_0)
            clear hv315_0 ge315_0
            have HX315_0 := ax hx315_0
            clear hcc315 hce315
            have HR315_0 := ax hi315_0
            have HC315_0 := ax hl315_0
            clear hi315_0 hl315_0
            replace p315 := eq_true p315
            replace q315 := eq_true q315
            have ea_ := Option.some.inj (hx313_0.symm.trans hx315_0)
            injection ea_ with ea_ en_ ec_
            subst ea_
            subst ec_
            clear en_
            have p316 : 0 ≤ (x13_4 : Int) := xd
            have q316 : x13_4 < ((rd_L2 x6_4 x12_4).length : Int) := xd
            obtain ⟨ad316, e316, hx316_0⟩ := Kd.at_int (xw HR315_0.out) x13_4 p316 q316
            cases e316
            replace p316 := eq_true p316
            replace q316 := eq_true q316
            have p30 : 0 ≤ (x13_4 : Int) := xd
            have q30 : (x13_4 : Int) < (((rd_L2 x6_4 x12_4).length : Int) : Int) := xd
            obtain ⟨go30, co30, eo30, gb30, gl30, cl30, HG30⟩ := Kd.R_form HL315_0.out (by omega)
            (first | cases eo30 | (injection eo30 with ea_ en_ ec_; (first | subst ea_ | (injection ea_ with ea_; subst ea_)); subst ec_; clear en_))
            have GB30 := ax gb30
            have GG30 := ax HG30
            clear gb30 gl30 HG30
            (first | simp only [add_plain] at hx316_0 | skip)
            obtain ⟨hx30_0, hf30_0⟩ := Kd.R_celln 0 HL315_0.out (x13_4 : Int) p30 q30
            replace p30 := eq_true p30
            replace q30 := eq_true q30
            have hq32 : (x12_4 : Int) < (x6_4.length : Int) := (by have h_ : (x12_4 : Int) < ((x6_4.length : Int) : Int) := xd; first | exact h_ | (have e_ := (Kd.S_reads' HO_6.out).1; omega) | simpa only [List.length_set, List.length_set] using h_)
            obtain ⟨oki32, ce32, hcl32, hM32, hcc32, hok32, hbk32⟩ := Kd.S_borrow HO_6.out [] (x12_4 : Int) (xd) hq32
            obtain ⟨ve32_0, rfl, ge32_0⟩ := hM32
            have hv32 := hcc32 0 _ rfl
            rw [Nat.add_zero, show ((Kd.slice 3 (Kd.int .i64))).sz = 1 from rfl, Nat.mul_one] at hv32
            replace hv32 := Option.some.inj (hv32.symm.trans HX315_0.out)
            subst hv32
            clear hcc32 hcl32
            replace ge32_0 := (show Kd.R (Kd.int .i64) 3 _ _ _ _ (rd_L2 x6_4 x12_4) from ge32_0)
            have HP32 := Kd.R_putg ge32_0 (x13_4 : Int) (wrap64 ((rd (rd_L2 x6_4 x12_4) x13_4) - 1))
            go_upto_region 15 with (first | ((with_reducible refine gate_store (t := 3) (p := 74) rfl ?_); refine store_event (t := 3) (p := 74) (v := ?vo_w33) (w1 := (wr.setCell ⟨go30, (x13_4 : Int).toNat, none⟩ (.int .i64 (wrap64 ((rd (rd_L2 x6_4 x12_4) x13_4) - 1))))) ?hg ?ho ?hn ?hr ?_; (case ho => rfl); (case hg => rfl); (case hn => rfl); (case hr => first | (go_simp; done) | (go_simp; rfl)); intro w33 hw; have hg : wr.grownBy w33 (some go30) := (by rw [hw]; exact HP32.2); have hz_ : Kd.R (Kd.int .i64) 3 w33 w.heap.size oki32 (.slice (some ⟨go30, 0, none⟩) (rd_L2 x6_4 x12_4).length c313_0) y317 := (by rw [hw, Ny317.out]; exact HP32.1); have hp_ : Kd.S (Kd.slice 3 (Kd.int .i64)) 24 w33 w.heap.size (fun k_ => some k_ ≠ (v303 : Value).ownBlock ∧ k_ ≠ dmO N330_ k_) (.slice (some ad313) x6_4.length co23) y319 := (by rw [Ny319.out]; exact hbk32 hg (fun k_ e_ => by injection e_ with e_; subst e_; exact ge32_0.1 _ rfl) (Kd.M_row hz_)); have hm_ := Kd.R_mono hz_ hok32; clear HP32 hbk32; have n0_ := ax (hp_); have n1_ := ax (Kd.S_grown (xS HO_7.out) hg (fun k_ hk_ e_ => (by have q_ := Option.some.inj e_; subst q_; exact dmNo hk_.2 ((HL315_0.out.1 _ rfl).1.2)))); have n2_ := ax ((by rw [hw]; exact below_set (HB.out) GB30.out : Below w.heap.size w w33)); have n3_ := ax (hm_); have n4_ := ax ((Kd.R_reads' hm_).2.1); clear HO_6; clear HO_7; clear HB; clear HL313_0; clear HL315_0; have HO_6 := n0_; have HO_7 := n1_; have HB := n2_; have HL333 := n3_; have HC318 := n4_; clear n0_ n1_ n2_ n3_ n4_; clear hg hw hp_ hz_ hm_ hok32))
            (try simp only [Act.put, List.setIfInBounds_toArray, List.set_cons_zero, List.set_cons_succ])
            go_cut [92] (fun v92 wc => ∃ (kq : Nat) (x92_30 : Bool), v92 = .bool x92_30 ∧ Aside0 (impl_HooksOfReverse.j4 kq l0 y319 x7_3 x10_3 x12_4 x13_4 x92_30 = some (r1, r2)) ∧ Aside0 (kq ≤ k4) ∧ Aside0 (Kd.S (Kd.slice 3 (Kd.int .i64)) 24 wc w.heap.size (fun k_ => some k_ ≠ (v303 : Value).ownBlock ∧ k_ ≠ dmO N330_ k_) (.slice (some ad313) x6_4.length co23) y319) ∧ Aside0 (Kd.S (Kd.slice 3 (Kd.int .i64)) 24 wc w.heap.size (fun k_ => some k_ ≠ ((.slice (some ad313) x6_4.length co23) : Value).ownBlock ∧ k_ ≠ dmI N330_ k_) v303 x7_3) ∧ Aside0 (Below w.heap.size w wc))
            case first =>
             have H := HC31.out
             clear HC31
             by_cases c34 : x12_4 > 0
             ·rw [if_pos c34] at H
              have c34b0 : decide (0 < x12_4) = true := decide_eq_true c34
              clear c34
              (first | rw [c34b0] | (simp only [i64_w, i32_w]; rw [c34b0]) | skip)
              obtain ⟨ji35, hji35⟩ : ∃ j_ : Int, (wrap64 (x12_4 - 1)) = j_ := ⟨_, rfl⟩
              replace H : (if 0 ≤ (ji35) then (if (ji35) < (x6_4.length : Int) then (if x13_4 < ((rd_L2 y319 (ji35)).length : Int) then (if (rd (rd_L2 y319 (ji35)) x13_4) = (rd (rd_L2 x6_4 x12_4) x13_4) then (impl_HooksOfReverse.j4 k4 l0 y319 x7_3 x10_3 x12_4 x13_4 ((rd (rd_L2 x6_4 x12_4) x13_4) != 0)) else (impl_HooksOfReverse.j4 k4 l0 y319 x7_3 x10_3 x12_4 x13_4 false)) else (none)) else (none)) else (none)) = some (r1, r2) := by first | (rw [hji35] at H; exact H) | (simp only [hji35] at H ⊢; exact H)
              have hji35w : (IntKind.i64.wrap (x12_4 - 1)) = ji35 := (i64_w _).trans hji35
              obtain ⟨c36b0, H⟩ := xq H
              obtain ⟨c37, H⟩ := xp H
              have c37b0 := decide_eq_true c37
              have c37b0x := c37b0
              (try simp only [hl6_3, hl6_4] at c37b0x)
              clear c37
              obtain ⟨c38, H⟩ := xp H
              have c38b0 := decide_eq_true c38
              have c38b0x := c38b0
              (try simp only [hl6_3, hl6_4] at c38b0x)
              clear c38
              by_cases c39 : (rd (rd_L2 y319 (ji35)) x13_4) = (rd (rd_L2 x6_4 x12_4) x13_4)
              ·rw [if_pos c39] at H
               have c39b0 : ((rd (rd_L2 y319 (ji35)) x13_4) == (rd (rd_L2 x6_4 x12_4) x13_4)) = true := beq_iff_eq.mpr c39
               have c39b1 : ((rd (rd_L2 y319 (ji35)) x13_4) != (rd (rd_L2 x6_4 x12_4) x13_4)) = false := bne_eq_false_iff_eq.mpr c39
               clear c39
               have H' := ax H
               clear H
               have p320 : 0 ≤ ((ji35) : Int) := xd
               have q320 : (ji35) < (y319.length : Int) := (by have h_ : ((ji35) : Int) < ((x6_4.length : Int) : Int) := xd; first | (have e_ := (Kd.S_reads' HO_6.out).1; omega) | simpa only [Ny319.out, List.length_set] using h_)
               have ql320 : (((ji35) : Int) < ((x6_4.length : Int) : Int)) = True := eq_true (xd)
               obtain ⟨ad320, A320_0, c320_0, e320, hx320_0, hl320_0, hi320_0⟩ := at_L2 (Kd.S_reads' HO_6.out).2.2 (ji35) p320 q320
               obtain rfl : ad313 = ad320 := (by injection e320)
               obtain ⟨ce320, hce320, hMe320, hcc320⟩ := Kd.S_get HO_6.out [] (ji35) p320 (by first | exact q320 | exact xd | (have e_ := (Kd.S_reads' HO_6.out).1; omega))
               obtain ⟨ve320_0, rfl, ge320_0⟩ := hMe320
               have hv320_0 := hcc320 0 _ rfl
               rw [Nat.add_zero, show ((Kd.slice 3 (Kd.int .i64))).sz = 1 from rfl, Nat.mul_one] at hv320_0
               replace hv320_0 := Option.some.inj (hv320_0.symm.trans hx320_0)
               rw [hv320_0] at ge320_0
               have HL320_0 := ax (show Kd.R (Kd.int .i64) 3 _ _ _ _ (rd_L2 y319 (ji35)) from ge320_0)
               clear hv320_0 ge320_0
               have HX320_0 := ax hx320_0
               clear hcc320 hce320
               have HR320_0 := ax hi320_0
               have HC320_0 := ax hl320_0
               clear hi320_0 hl320_0
               replace p320 := eq_true p320
               replace q320 := eq_true q320
               have p321 : 0 ≤ (x13_4 : Int) := xd
               have q321 : x13_4 < ((rd_L2 y319 (ji35)).length : Int) := xd
               obtain ⟨ad321, e321, hx321_0⟩ := Kd.at_int (xw HR320_0.out) x13_4 p321 q321
               cases e321
               replace p321 := eq_true p321
               replace q321 := eq_true q321
               go_wp2
               go_meet
               case rel => exact ⟨_, (((rd (rd_L2 x6_4 x12_4) x13_4) != 0)), xr, H', ⟨by have := HJ2.out; have := HK2.out; have := HK3.out; have := HK4.out; first | omega | exact Nat.le_refl _⟩, ⟨by (try simp only [hl6_3]); (try simp only [hl6_4]); (with_reducible repeat (first | apply Kd.S_alloc | apply Kd.S_drewN | apply Kd.S_drew)); first | exact HO_6.out | exact Kd.S_mono HO_6.out xi⟩, ⟨by (try simp only [hl6_3]); (try simp only [hl6_4]); (with_reducible repeat (first | apply Kd.S_alloc | apply Kd.S_drewN | apply Kd.S_drew)); first | exact HO_7.out | exact Kd.S_mono HO_7.out xi⟩, ⟨xb HB.out⟩⟩
              ·rw [if_neg c39] at H
               have c39b0 : ((rd (rd_L2 y319 (ji35)) x13_4) == (rd (rd_L2 x6_4 x12_4) x13_4)) = false := beq_eq_false_iff_ne.mpr c39
               have c39b1 : ((rd (rd_L2 y319 (ji35)) x13_4) != (rd (rd_L2 x6_4 x12_4) x13_4)) = true := bne_iff_ne.mpr c39
               have H' := ax H
               clear H
               have p320 : 0 ≤ ((ji35) : Int) := xd
               have q320 : (ji35) < (y319.length : Int) := (by have h_ : ((ji35) : Int) < ((x6_4.length : Int) : Int) := xd; first | (have e_ := (Kd.S_reads' HO_6.out).1; omega) | simpa only [Ny319.out, List.length_set] using h_)
               have ql320 : (((ji35) : Int) < ((x6_4.length : Int) : Int)) = True := eq_true (xd)
               obtain ⟨ad320, A320_0, c320_0, e320, hx320_0, hl320_0, hi320_0⟩ := at_L2 (Kd.S_reads' HO_6.out).2.2 (ji35) p320 q320
               obtain rfl : ad313 = ad320 := (by injection e320)
               obtain ⟨ce320, hce320, hMe320, hcc320⟩ := Kd.S_get HO_6.out [] (ji35) p320 (by first | exact q320 | exact xd | (have e_ := (Kd.S_reads' HO_6.out).1; omega))
               obtain ⟨ve320_0, rfl, ge320_0⟩ := hMe320
               have hv320_0 := hcc320 0 _ rfl
               rw [Nat.add_zero, show ((Kd.slice 3 (Kd.int .i64))).sz = 1 from rfl, Nat.mul_one] at hv320_0
               replace hv320_0 := Option.some.inj (hv320_0.symm.trans hx320_0)
               rw [hv320_0] at ge320_0
               have HL320_0 := ax (show Kd.R (Kd.int .i64) 3 _ _ _ _ (rd_L2 y319 (ji35)) from ge320_0)
               clear hv320_0 ge320_0
               have HX320_0 := ax hx320_0
               clear hcc320 hce320
               have HR320_0 := ax hi320_0
               have HC320_0 := ax hl320_0
               clear hi320_0 hl320_0
               replace p320 := eq_true p320
               replace q320 := eq_true q320
               have p321 : 0 ≤ (x13_4 : Int) := xd
               have q321 : x13_4 < ((rd_L2 y319 (ji35)).length : Int) := xd
               obtain ⟨ad321, e321, hx321_0⟩ := Kd.at_int (xw HR320_0.out) x13_4 p321 q321
               cases e321
               replace p321 := eq_true p321
               replace q321 := eq_true q321
               go_wp2
               go_meet
               case rel => exact ⟨_, (false), xr, H', ⟨by have := HJ2.out; have := HK2.out; have := HK3.out; have := HK4.out; first | omega | exact Nat.le_refl _⟩, ⟨by (try simp only [hl6_3]); (try simp only [hl6_4]); (with_reducible repeat (first | apply Kd.S_alloc | apply Kd.S_drewN | apply Kd.S_drew)); first | exact HO_6.out | exact Kd.S_mono HO_6.out xi⟩, ⟨by (try simp only [hl6_3]); (try simp only [hl6_4]); (with_reducible repeat (first | apply Kd.S_alloc | apply Kd.S_drewN | apply Kd.S_drew)); first | exact HO_7.out | exact Kd.S_mono HO_7.out xi⟩, ⟨xb HB.out⟩⟩
             ·rw [if_neg c34] at H
              have c34b0 : decide (0 < x12_4) = false := decide_eq_false c34
              clear c34
              (first | rw [c34b0] | (simp only [i64_w, i32_w]; rw [c34b0]) | skip)
              have H' := ax H
              clear H
              go_wp2
              go_meet
              case rel => exact ⟨_, (false), xr, H', ⟨by have := HJ2.out; have := HK2.out; have := HK3.out; have := HK4.out; first | omega | exact Nat.le_refl _⟩, ⟨by (try simp only [hl6_3]); (try simp only [hl6_4]); (with_reducible repeat (first | apply Kd.S_alloc | apply Kd.S_drewN | apply Kd.S_drew)); first | exact HO_6.out | exact Kd.S_mono HO_6.out xi⟩, ⟨by (try simp only [hl6_3]); (try simp only [hl6_4]); (with_reducible repeat (first | apply Kd.S_alloc | apply Kd.S_drewN | apply Kd.S_drew)); first | exact HO_7.out | exact Kd.S_mono HO_7.out xi⟩, ⟨xb HB.out⟩⟩
            case rest =>
             clear HC31
             (try clear c1); (try clear c5); (try clear c10); (try clear c15); (try clear c15b0); (try clear c16); (try clear c16b0); (try clear c17); (try clear c17b0); (try clear c18); (try clear c18b0); (try clear c24); (try clear c26); (try clear c26b0); (try clear c27); (try clear c27b0); (try clear c28); (try clear c28b0); (try clear c29); (try clear c29b0); (try clear p30); (try clear q30); (try clear c34); (try clear c34b0); (try clear c36); (try clear c36b0); (try clear c37); (try clear c37b0); (try clear c38); (try clear c38b0); (try clear c39); (try clear c39b0); (try clear c39b1); (try clear hx305_0); (try clear hx306_0); (try clear hx30_0); (try clear hx313_0); (try clear hx314_0); (try clear hx315_0); (try clear hx316_0); (try clear hx320_0); (try clear hx321_0); (try clear p30); (try clear p305); (try clear p306); (try clear p313); (try clear p314); (try clear p315); (try clear p316); (try clear p320); (try clear p321); (try clear q30); (try clear q305); (try clear q306); (try clear q313); (try clear q314); (try clear q315); (try clear q316); (try clear q320); (try clear q321)
             obtain ⟨kq, x92_30, rfl, HA, HJ30, HO_6, HO_7, HB⟩ := hcut
             have hl6_30 := (Kd.S_reads' HO_6.out).1
             rw [hl6_30] at HO_6
             (try simp only [hl6_30])
             (try simp only [hl6_30] at HO_7)
             cases kq with
             | zero => exact absurd HA.out (by simp [impl_HooksOfReverse.j4])
             | succ kj30 =>
              have H := HA.out
              clear HA
              simp only [impl_HooksOfReverse.j4] at H
              by_cases c40 : x92_30 = true
              ·subst c40
               rw [if_pos rfl] at H
               have H' := ax H
               clear H
               go_wp2
               (try simp only [← hl6_4, ← hl6_30])
               go_roundg kj30
               case measure => have := HJ2.out; have := HK2.out; have := HK3.out; have := HK4.out; have := HJ30.out; omega
               case rel => exact ⟨(y319), (wrap64 (x12_4 - 1)), (x13_4), xr, xr, H', ⟨by have := HJ2.out; have := HK2.out; have := HK3.out; have := HK4.out; have := HJ30.out; omega⟩, ⟨by (try simp only [hl6_3]); (try simp only [hl6_4]); (try simp only [hl6_30]); (with_reducible repeat (first | apply Kd.S_alloc | apply Kd.S_drewN | apply Kd.S_drew)); first | exact HO_6.out | exact Kd.S_mono HO_6.out xi⟩, ⟨by (try simp only [hl6_3]); (try simp only [hl6_4]); (try simp only [hl6_30]); (with_reducible repeat (first | apply Kd.S_alloc | apply Kd.S_drewN | apply Kd.S_drew)); first | exact HO_7.out | exact Kd.S_mono HO_7.out xi⟩, ⟨xb HB.out⟩⟩
              ·replace c40 := Bool.eq_false_iff.mpr c40
               subst c40
               rw [if_neg (show ¬ (false = true) by decide)] at H
               obtain ⟨c41b0, H⟩ := xq H
               obtain ⟨c42, H⟩ := xp H
               have c42b0 := decide_eq_true c42
               have c42b0x := c42b0
               (try simp only [hl6_3, hl6_4, hl6_30] at c42b0x)
               clear c42
               by_cases c43 : (wrap64 (x13_4 + 1)) < (rd l0 x12_4)
               ·rw [if_pos c43] at H
                have c43b0 := decide_eq_true c43
                clear c43
                have H' := ax H
                clear H
                have p322 : 0 ≤ (x12_4 : Int) := xd
                have q322 : x12_4 < (l0.length : Int) := xd
                obtain ⟨ad322, e322, hx322_0⟩ := Kd.at_int HR0.out x12_4 p322 q322
                cases e322
                (try replace hx322_0 := (HB.out.cell (World.block_lt_of_cell? w _ hx322_0)).trans hx322_0)
                replace p322 := eq_true p322
                replace q322 := eq_true q322
                go_wp2
                (try simp only [← hl6_4, ← hl6_30])
                go_roundg kj30
                case measure => have := HJ2.out; have := HK2.out; have := HK3.out; have := HK4.out; have := HJ30.out; omega
                case rel => exact ⟨(y319), (x12_4), (wrap64 (x13_4 + 1)), xr, xr, H', ⟨by have := HJ2.out; have := HK2.out; have := HK3.out; have := HK4.out; have := HJ30.out; omega⟩, ⟨by (try simp only [hl6_3]); (try simp only [hl6_4]); (try simp only [hl6_30]); (with_reducible repeat (first | apply Kd.S_alloc | apply Kd.S_drewN | apply Kd.S_drew)); first | exact HO_6.out | exact Kd.S_mono HO_6.out xi⟩, ⟨by (try simp only [hl6_3]); (try simp only [hl6_4]); (try simp only [hl6_30]); (with_reducible repeat (first | apply Kd.S_alloc | apply Kd.S_drewN | apply Kd.S_drew)); first | exact HO_7.out | exact Kd.S_mono HO_7.out xi⟩, ⟨xb HB.out⟩⟩
               ·rw [if_neg c43] at H
                have c43b0 := decide_eq_false c43
                clear c43
                obtain ⟨c44, H⟩ := xp H
                have c44b0 := decide_eq_true c44
                have c44b0x := c44b0
                (try simp only [hl6_3, hl6_4, hl6_30] at c44b0x)
                clear c44
                obtain ⟨c45b0, H⟩ := xq H
                obtain ⟨c46, H⟩ := xp H
                have c46b0 := decide_eq_true c46
                have c46b0x := c46b0
                (try simp only [hl6_3, hl6_4, hl6_30] at c46b0x)
                clear c46
                obtain ⟨y325, hy325⟩ : ∃ y_ : List Int, y_ = ((rd_L2 x7_3 x12_4).set (x10_3 : Int).toNat (wrap64 ((rd (rd_L2 x7_3 x12_4) x10_3) + 1))) := ⟨_, rfl⟩
                replace H : ((impl_start.f kj30 y319).bind fun bt328 => (impl_HooksOfReverse.l1 kj30 l0 y319 (x7_3.set (x12_4 : Int).toNat y325) bt328.1 bt328.2)) = some (r1, r2) := xv hy325 H
                have Ny325 := ax hy325
                clear hy325
                obtain ⟨y327, hy327⟩ : ∃ y_ : List (List Int), y_ = (x7_3.set (x12_4 : Int).toNat y325) := ⟨_, rfl⟩
                replace H : ((impl_start.f kj30 y319).bind fun bt328 => (impl_HooksOfReverse.l1 kj30 l0 y319 y327 bt328.1 bt328.2)) = some (r1, r2) := xv hy327 H
                have Ny327 := ax hy327
                clear hy327
                obtain ⟨⟨t328, t329⟩, A48, H⟩ := xI H
                dsimp only at H
                have H' := ax H
                clear H
                have p322 : 0 ≤ (x12_4 : Int) := xd
                have q322 : x12_4 < (l0.length : Int) := xd
                obtain ⟨ad322, e322, hx322_0⟩ := Kd.at_int HR0.out x12_4 p322 q322
                cases e322
                (try replace hx322_0 := (HB.out.cell (World.block_lt_of_cell? w _ hx322_0)).trans hx322_0)
                replace p322 := eq_true p322
                replace q322 := eq_true q322
                obtain ⟨Ao49, co49, eo49⟩ := Kd.S_slice HO_7.out
                subst eo49
                have p323 : 0 ≤ (x12_4 : Int) := xd
                have q323 : x12_4 < (x7_3.length : Int) := xd
                obtain ⟨ad323, A323_0, c323_0, e323, hx323_0, hl323_0, hi323_0⟩ := at_L2 (Kd.S_reads' HO_7.out).2.2 x12_4 p323 q323
                cases e323
                obtain ⟨ce323, hce323, hMe323, hcc323⟩ := Kd.S_get HO_7.out [] x12_4 p323 (by first | exact q323 | exact xd | (have e_ := (Kd.S_reads' HO_7.out).1; omega))
                obtain ⟨ve323_0, rfl, ge323_0⟩ := hMe323
                have hv323_0 := hcc323 0 _ rfl
                rw [Nat.add_zero, show ((Kd.slice 3 (Kd.int .i64))).sz = 1 from rfl, Nat.mul_one] at hv323_0
                replace hv323_0 := Option.some.inj (hv323_0.symm.trans hx323_0)
                rw [hv323_0] at ge323_0
                have HL323_0 := ax (show Kd.R (Kd.int .i64) 3 _ _ _ _ (rd_L2 x7_3 x12_4) from ge323_0)
                clear hv323_0 ge323_0
                have HX323_0 := ax hx323_0
                clear hcc323 hce323
                have HR323_0 := ax hi323_0
                have HC323_0 := ax hl323_0
                clear hi323_0 hl323_0
                replace p323 := eq_true p323
                replace q323 := eq_true q323
                have p324 : 0 ≤ (x10_3 : Int) := xd
                have q324 : x10_3 < ((rd_L2 x7_3 x12_4).length : Int) := xd
                obtain ⟨ad324, e324, hx324_0⟩ := Kd.at_int (xw HR323_0.out) x10_3 p324 q324
                cases e324
                replace p324 := eq_true p324
                replace q324 := eq_true q324
                have p47 : 0 ≤ (x10_3 : Int) := xd
                have q47 : (x10_3 : Int) < (((rd_L2 x7_3 x12_4).length : Int) : Int) := xd
                obtain ⟨go47, co47, eo47, gb47, gl47, cl47, HG47⟩ := Kd.R_form HL323_0.out (by omega)
                (first | cases eo47 | (injection eo47 with ea_ en_ ec_; (first | subst ea_ | (injection ea_ with ea_; subst ea_)); subst ec_; clear en_))
                have GB47 := ax gb47
                have GG47 := ax HG47
                clear gb47 gl47 HG47
                (first | simp only [add_plain] at hx324_0 | skip)
                obtain ⟨hx47_0, hf47_0⟩ := Kd.R_celln 0 HL323_0.out (x10_3 : Int) p47 q47
                replace p47 := eq_true p47
                replace q47 := eq_true q47
                have hq50 : (x12_4 : Int) < (x7_3.length : Int) := (by have h_ : (x12_4 : Int) < ((x7_3.length : Int) : Int) := xd; first | exact h_ | (have e_ := (Kd.S_reads' HO_7.out).1; omega) | simpa only [List.length_set, List.length_set] using h_)
                obtain ⟨oki50, ce50, hcl50, hM50, hcc50, hok50, hbk50⟩ := Kd.S_borrow HO_7.out [] (x12_4 : Int) (xd) hq50
                obtain ⟨ve50_0, rfl, ge50_0⟩ := hM50
                have hv50 := hcc50 0 _ rfl
                rw [Nat.add_zero, show ((Kd.slice 3 (Kd.int .i64))).sz = 1 from rfl, Nat.mul_one] at hv50
                replace hv50 := Option.some.inj (hv50.symm.trans HX323_0.out)
                subst hv50
                clear hcc50 hcl50
                replace ge50_0 := (show Kd.R (Kd.int .i64) 3 _ _ _ _ (rd_L2 x7_3 x12_4) from ge50_0)
                have HP50 := Kd.R_putg ge50_0 (x10_3 : Int) (wrap64 ((rd (rd_L2 x7_3 x12_4) x10_3) + 1))
                go_wp2_with (first | ((with_reducible refine gate_store (t := 3) (p := 112) rfl ?_); refine store_event (t := 3) (p := 112) (v := ?vo_w51) (w1 := (wc.setCell ⟨go47, (x10_3 : Int).toNat, none⟩ (.int .i64 (wrap64 ((rd (rd_L2 x7_3 x12_4) x10_3) + 1))))) ?hg ?ho ?hn ?hr ?_; (case ho => rfl); (case hg => rfl); (case hn => rfl); (case hr => first | (go_simp; done) | (go_simp; rfl)); intro w51 hw; have hg : wc.grownBy w51 (some go47) := (by rw [hw]; exact HP50.2); have hz_ : Kd.R (Kd.int .i64) 3 w51 w.heap.size oki50 (.slice (some ⟨go47, 0, none⟩) (rd_L2 x7_3 x12_4).length c323_0) y325 := (by rw [hw, Ny325.out]; exact HP50.1); have hp_ : Kd.S (Kd.slice 3 (Kd.int .i64)) 24 w51 w.heap.size (fun k_ => some k_ ≠ (.slice (some ad313) y319.length co23 : Value).ownBlock ∧ k_ ≠ dmI N330_ k_) (.slice (some ad323) x7_3.length co49) y327 := (by rw [Ny327.out]; exact hbk50 hg (fun k_ e_ => by injection e_ with e_; subst e_; exact ge50_0.1 _ rfl) (Kd.M_row hz_)); have hm_ := Kd.R_mono hz_ hok50; clear HP50 hbk50; have n0_ := ax (Kd.S_grown (xS HO_6.out) hg (fun k_ hk_ e_ => (by have q_ := Option.some.inj e_; subst q_; exact dmNo ((HL323_0.out.1 _ rfl).1.2) hk_.2))); have n1_ := ax (hp_); have n2_ := ax ((by rw [hw]; exact below_set (HB.out) GB47.out : Below w.heap.size w w51)); have n3_ := ax (hm_); have n4_ := ax ((Kd.R_reads' hm_).2.1); clear HO_6; clear HO_7; clear HB; clear HL323_0; have HO_6 := n0_; have HO_7 := n1_; have HB := n2_; have HL334 := n3_; have HC326 := n4_; clear n0_ n1_ n2_ n3_ n4_; clear hg hw hp_ hz_ hm_ hok50) | ((with_reducible refine gate_callee (f := 25) rfl ?_); refine goesL_ (some 51) rfl rfl Try.func25 (by kernel_rfl) rfl #[.slice (some ad313) y319.length co23] rfl xm ?_; (with_reducible refine (impl_start.calls kj30 _ _ y319 t328 t329 _ ?side1 ?side2 A48.out).mono ?_); (case side1 => exact xc (Kd.S_reads' HO_6.out).2.2); (case side2 => exact (Kd.S_reads' HO_6.out).2.1); rintro e w' ⟨rfl, ⟨nd, rfl⟩⟩; refine ⟨_, rfl, ?_⟩))
                (try simp only [← hl6_3, ← hl6_4, ← hl6_30])
                go_roundg kj30
                case measure => have := HJ2.out; have := HK2.out; have := HK3.out; have := HK4.out; have := HJ30.out; omega
                case rel => exact ⟨(y319), (y327), (t328), (t329), xr, xr, H', ⟨by have := HJ2.out; have := HK2.out; have := HK3.out; have := HK4.out; have := HJ30.out; omega⟩, ⟨by (try simp only [hl6_3]); (try simp only [hl6_4]); (try simp only [hl6_30]); (with_reducible repeat (first | apply Kd.S_alloc | apply Kd.S_drewN | apply Kd.S_drew)); first | exact HO_6.out | exact Kd.S_mono HO_6.out xi⟩, ⟨by (try simp only [hl6_3]); (try simp only [hl6_4]); (try simp only [hl6_30]); (with_reducible repeat (first | apply Kd.S_alloc | apply Kd.S_drewN | apply Kd.S_drew)); first | exact HO_7.out | exact Kd.S_mono HO_7.out xi⟩, ⟨xb HB.out⟩⟩
         ·replace c24 := Bool.eq_false_iff.mpr c24
          subst c24
          rw [if_neg (show ¬ (false = true) by decide)] at H
          simp only [Option.some.injEq, Prod.mk.injEq] at H
          obtain ⟨rfl, rfl⟩ := H
          go_wp2
          go_ret2
          exact ⟨_, xe, by (with_reducible repeat (first | apply Kd.S_alloc | apply Kd.S_drewN | apply Kd.S_drew)); exact Kd.S_mono HO_7.out (fun _ hk => trivial), xb HB.out⟩

end Go.Proofs.Ytnfcdaojglicfab.PFnFillings
