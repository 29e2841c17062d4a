import Derived.Test.YtopmggldaicpaacGreatPFnKroneckerx23
import Derived.Test.YtopmggldaicpaacGreatPFnKroneckerx24
namespace Go.Proofs.YtopmggldaicpaacGreat.PFnKronecker
open Go.RowKit Go.Proofs.YtopmggldaicpaacGreatW.PrintWords Go.Proofs.YtopmggldaicpaacGreatW.PrintLast Go.Proofs.YtopmggldaicpaacGreatW.PrintMore
set_option linter.unusedVariables false
set_option linter.unusedSimpArgs false
set_option maxHeartbeats 8000000
set_option maxRecDepth 100000
/-! ### spec_l23Down: function 39 -/
def spec_l23Down.l0 : Nat → List Int → List Int → Int → Option (List Int)
 | 0, _, _, _ => none
 | k + 1, x3, x4, x5 => if x5 ≥ 0 then (if 0 ≤ x5 then (if x5 < (x3.length : Int) then (if x4.length < 17592186044416 then (spec_l23Down.l0 k x3 (x4 ++ [rd x3 x5]) (wrap64 (x5 - 1))) else (none)) else (none)) else (none)) else (some x4)
def spec_l23Down.f (k : Nat) (l0 : List Int) : Option (List Int) := (spec_l23Sorted.f k l0).bind fun t696 => (spec_l23Down.l0 k t696 (([] : List Int)) (wrap64 ((t696.length : Int) - 1)))
theorem spec_l23Down.mono_l : ∀ k, (∀ y0 y1 y2, LeO (spec_l23Down.l0 k y0 y1 y2) (spec_l23Down.l0 (k + 1) y0 y1 y2))
 | 0 => fun _ _ _ r h => by simp [spec_l23Down.l0] at h
 | k + 1 => by
  have ih0 := spec_l23Down.mono_l k
  ·intro y0 y1 y2
   unfold spec_l23Down.l0
   repeat' with_reducible first | exact ih0 _ _ _ | exact spec_l23Sorted.mono _ _ | exact xl | refine LeO.ite ?_ ?_ | refine LeO.bind ?_ fun _ => ?_
theorem spec_l23Down.mono : ∀ a0 k, LeO (spec_l23Down.f k a0) (spec_l23Down.f (k + 1) a0) := by
 intro a0 k
 have ih0 := spec_l23Down.mono_l k
 unfold spec_l23Down.f
 repeat' with_reducible first | exact ih0 _ _ _ | exact spec_l23Sorted.mono _ _ | exact xl | refine LeO.ite ?_ ?_ | refine LeO.bind ?_ fun _ => ?_
theorem spec_l23Down.calls (k : Nat) (A0 : Option Addr) (c0 : Nat) (l0 : List Int) (r : List Int) (w : World) (hr0 : Kd.C (Kd.int .i64) w A0 l0.length l0) (hc0 : l0.length ≤ c0) (h : spec_l23Down.f k l0 = some r) :
  Calls Tryz.prog 39 #[.slice A0 l0.length c0] w fun e w' => ∃ v0_ : Value, e = .returned (v0_) ∧ Kd.R (Kd.int .i64) 3 w' w.heap.size (fun _ => True) v0_ r ∧ Below w.heap.size w w' := by
 have HR0 := ax hr0
 have HC0 := ax hc0
 clear hr0 hc0
 have HB := ax (Below.refl w.heap.size w)
 have H : ((spec_l23Sorted.f k l0).bind fun t696 => (spec_l23Down.l0 k t696 (([] : List Int)) (wrap64 ((t696.length : Int) - 1)))) = some r := h
 clear h
 obtain ⟨t696, A2, H⟩ := xI H
 obtain ⟨y699, hy699⟩ : ∃ y_ : List Int, y_ = (([] : List Int)) := ⟨_, rfl⟩
 replace H : (spec_l23Down.l0 k t696 y699 (wrap64 ((t696.length : Int) - 1))) = some r := xv hy699 H
 have Ny699 := ax hy699
 clear hy699
 have H' := ax H
 clear H
 go_enter Tryz.func39, Tryz.ntmps39
 go_wp2_with (first | ((with_reducible refine gate_callee (f := 60) rfl ?_); refine goesL_ (some 7) rfl rfl Tryz.func60 (by kernel_rfl) rfl #[.slice A0 l0.length c0] rfl xm ?_; (with_reducible refine (spec_l23Sorted.calls k _ _ l0 t696 _ ?side1 ?side2 A2.out).mono ?_); (case side1 => exact xc HR0.out); (case side2 => exact HC0.out); rintro e w3 ⟨v697, rfl, ho0, hb⟩; refine ⟨_, rfl, ?_⟩; have HO698 := ax (Kd.R_lower ho0 (below_size (xb HB.out))); replace HB := yB HB hb; (try clear hb); (try clear ho0)) | ((with_reducible refine gate_dst (N := 8) rfl ?_); refine Kd.R_lit (Kd.int .i64) _ 3 ?hg (N := 8) ?hd (xs := ([] : List Int)) (inner := []) (ok := fun _ => True) (okp := fun _ => True) ?hr ?hp (fun _ hk => hk) trivial (Below.refl _ _) (Nat.le_refl _) (by simp) ?_; (case hd => rfl); (case hg => rfl); (case hr => first | (go_simp; done) | (go_simp; rfl)); (case hp => exact (Reps.none _ _)); intro v700 w4 ho5 hb hg_ hnew_; clear hg_ hnew_; (first | rw [← Ny699.out] at ho5 | (simp only [Int.reduceToNat] at ho5; rw [← Ny699.out] at ho5)); have HO701 := ax (Kd.R_lower (Kd.R_new' ho5 (Kd.R_lt (xR HO698.out))) (below_size (xb HB.out))); replace HO698 := ax (Kd.R_elder' (xR HO698.out) (Kd.R_base ho5) hb); replace HB := yB HB hb; clear hb ho5; obtain ⟨Ao6, co6, eo6⟩ := Kd.R_slice HO698.out; subst eo6))
 go_loopg [4, 5] k (fun kq v4 v5 w' => ∃ (x4_1 : List Int) (x5_1 : Int), v5 = .int .i64 x5_1 ∧ Aside0 (spec_l23Down.l0 kq t696 x4_1 x5_1 = some r) ∧ Aside0 (kq ≤ k) ∧ Aside0 (Kd.R (Kd.int .i64) 3 w' w.heap.size (fun k_ => some k_ ≠ (v4 : Value).ownBlock) (.slice Ao6 t696.length co6) t696) ∧ Aside0 (Kd.R (Kd.int .i64) 3 w' w.heap.size (fun k_ => some k_ ≠ ((.slice Ao6 t696.length co6) : Value).ownBlock) v4 x4_1) ∧ Aside0 (Below w.heap.size w w'))
 case atStart => exact ⟨(y699), (wrap64 ((t696.length : Int) - 1)), xr, H', ⟨Nat.le_refl _⟩, ⟨by (with_reducible repeat (first | apply Kd.R_alloc | apply Kd.R_drewN | apply Kd.R_drew)); exact Kd.R_mono HO698.out (fun _ hk => hk.2)⟩, ⟨by (with_reducible repeat (first | apply Kd.R_alloc | apply Kd.R_drewN | apply Kd.R_drew)); exact Kd.R_mono HO701.out (fun _ hk => hk.2)⟩, ⟨xb HB.out⟩⟩
 case round =>
  clear H'
  obtain ⟨x4_1, x5_1, rfl, HA, HK1, HO_3, HO_4, HB⟩ := hrel
  cases gk with
  | zero => exact absurd HA.out (by simp [spec_l23Down.l0])
  | succ k1 =>
   have H := HA.out
   clear HA
   simp only [spec_l23Down.l0] at H
   by_cases c7 : x5_1 ≥ 0
   ·rw [if_pos c7] at H
    have c7b0 : decide (0 ≤ x5_1) = true := decide_eq_true c7
    clear c7
    obtain ⟨c8b0, H⟩ := xq H
    obtain ⟨c9b0, H⟩ := xq H
    obtain ⟨c10, H⟩ := xp H
    have LMc10 := ax c10
    clear c10
    obtain ⟨y703, hy703⟩ : ∃ y_ : List Int, y_ = (x4_1 ++ [rd t696 x5_1]) := ⟨_, rfl⟩
    replace H : (spec_l23Down.l0 k1 t696 y703 (wrap64 (x5_1 - 1))) = some r := xv hy703 H
    have Ny703 := ax hy703
    clear hy703
    have H' := ax H
    clear H
    have p702 : 0 ≤ (x5_1 : Int) := xd
    have q702 : x5_1 < (t696.length : Int) := xd
    obtain ⟨ad702, e702, hx702_0⟩ := Kd.at_int (Kd.R_reads' HO_3.out).2.2 x5_1 p702 q702
    cases e702
    replace p702 := eq_true p702
    replace q702 := eq_true q702
    go_wp2_with (first | ((with_reducible refine gate_builtin (b := .append) (xs := #[.tmp 16, .tmp 21]) rfl ?_); at_builtin; refine Kd.R_append (Kd.int .i64) (w0 := w) w.heap.size rfl (.tmp 16) (.tmp 21) 24 3 (.int .i64 0) 8 rfl Tryz.underlying24 info3 rfl (by decide) (by omega) u4 x4_1 (rd t696 x5_1) [.int .i64 (rd t696 x5_1)] (fun k_ => some k_ ≠ (.slice (some ad702) t696.length co6 : Value).ownBlock) (fun _ => False) rfl rfl ?aP (fun _ hk => hk.elim) ?aF ?aO ?aB ?aS ?aL ?_; (case aP => exact rfl); (case aB => exact (xb HB.out)); (case aF => exact (fun k_ hk => Kd.fresh' (Kd.R_lt (xR HO_3.out)) k_ hk)); (case aO => exact (xR HO_4.out)); (case aS => exact (below_size (xb HB.out))); (case aL => have := LMc10.out; omega); intro v704 w11 ho hb hg hat; rw [← Ny703.out] at ho; have n0_ := ax (Kd.R_after (ok := (fun _ => True)) (by (with_reducible repeat (first | apply Kd.R_alloc | apply Kd.R_drewN | apply Kd.R_drew)); exact Kd.R_mono HO_3.out (fun _ hk => ⟨trivial, by first | exact hk | simpa only [xw_own] using hk⟩)) hg hat); have n1_ := ax (hb); have n2_ := ax (ho); clear HO_3; clear HB; clear HO_4; have HO_3 := n0_; have HB := n1_; have HO705 := n2_; clear n0_ n1_ n2_; clear ho hb hg hat))
    go_roundg k1
    case measure => have := HK1.out; omega
    case rel => exact ⟨(y703), (wrap64 (x5_1 - 1)), xr, H', ⟨by have := HK1.out; omega⟩, ⟨by (with_reducible repeat (first | apply Kd.R_alloc | apply Kd.R_drewN | apply Kd.R_drew)); exact Kd.R_mono HO_3.out (fun _ hk => hk.2)⟩, ⟨xR HO705.out⟩, ⟨xb HB.out⟩⟩
   ·rw [if_neg c7] at H
    have c7b0 : decide (0 ≤ x5_1) = false := decide_eq_false c7
    clear c7
    obtain rfl := Option.some.inj H
    go_wp2
    go_ret
    exact ⟨_, xe, by (with_reducible repeat (first | apply Kd.R_alloc | apply Kd.R_drewN | apply Kd.R_drew)); exact Kd.R_mono HO_4.out (fun _ hk => trivial), xb HB.out⟩

/-! ### spec_CycleType: function 16 -/
mutual
def spec_CycleType.l0 : Nat → List Int → Bool → List Int → List Bool → Int → Option (List Int)
 | 0, _, _, _, _, _ => none
 | k + 1, x0, x4, x5, x6, x7 => if x7 ≤ (x0.length : Int) then (spec_CycleType.j1 k x0 x4 x5 x6 x7 x4) else (spec_CycleType.j1 k x0 x4 x5 x6 x7 false)
def spec_CycleType.j1 : Nat → List Int → Bool → List Int → List Bool → Int → Bool → Option (List Int)
 | 0, _, _, _, _, _, _ => none
 | k + 1, x0, x4, x5, x6, x7, x26 => if x26 = true then (spec_CycleType.l1 k x0 x4 x5 x6 x7 0 x7) else ((spec_l23Down.f k x5).bind fun t716 => (some t716))
def spec_CycleType.l1 : Nat → List Int → Bool → List Int → List Bool → Int → Int → Int → Option (List Int)
 | 0, _, _, _, _, _, _, _ => none
 | k + 1, x0, x4, x5, x6, x7, x8, x9 => if 0 ≤ x9 then (if x9 < (x6.length : Int) then (if rdOf false x6 x9 = true then (if x8 > 0 then (if x5.length < 17592186044416 then (spec_CycleType.l0 k x0 x4 (x5 ++ [x8]) x6 (wrap64 (x7 + 1))) else (none)) else (spec_CycleType.l0 k x0 x4 x5 x6 (wrap64 (x7 + 1)))) else (if 0 ≤ (wrap64 (x9 - 1)) then (if (wrap64 (x9 - 1)) < (x0.length : Int) then (spec_CycleType.l1 k x0 x4 x5 (x6.set (x9 : Int).toNat true) x7 (wrap64 (x8 + 1)) (rd x0 (wrap64 (x9 - 1)))) else (none)) else (none))) else (none)) else (none)
end
def spec_CycleType.f (k : Nat) (l0 : List Int) : Option (List Int) := (spec_InverseOf.f k l0).bind fun bt706 => (if 0 ≤ (wrap64 ((l0.length : Int) + 1)) then (if (wrap64 ((l0.length : Int) + 1) : Int).toNat ≤ 281474976710656 then (spec_CycleType.l0 k l0 bt706.2 (([] : List Int)) (List.replicate (wrap64 ((l0.length : Int) + 1) : Int).toNat false) 1) else (none)) else (none))
theorem spec_CycleType.mono_l : ∀ k, (∀ y0 y1 y2 y3 y4, LeO (spec_CycleType.l0 k y0 y1 y2 y3 y4) (spec_CycleType.l0 (k + 1) y0 y1 y2 y3 y4)) ∧ (∀ y0 y1 y2 y3 y4 y5, LeO (spec_CycleType.j1 k y0 y1 y2 y3 y4 y5) (spec_CycleType.j1 (k + 1) y0 y1 y2 y3 y4 y5)) ∧ (∀ y0 y1 y2 y3 y4 y5 y6, LeO (spec_CycleType.l1 k y0 y1 y2 y3 y4 y5 y6) (spec_CycleType.l1 (k + 1) y0 y1 y2 y3 y4 y5 y6))
 | 0 => ⟨fun _ _ _ _ _ r h => by simp [spec_CycleType.l0] at h, fun _ _ _ _ _ _ r h => by simp [spec_CycleType.j1] at h, fun _ _ _ _ _ _ _ r h => by simp [spec_CycleType.l1] at h⟩
 | k + 1 => by
  obtain ⟨ih0, ih1, ih2⟩ := spec_CycleType.mono_l k
  refine ⟨?_, ?_, ?_⟩
  ·intro y0 y1 y2 y3 y4
   unfold spec_CycleType.l0
   repeat' with_reducible first | exact ih0 _ _ _ _ _ | exact ih1 _ _ _ _ _ _ | exact ih2 _ _ _ _ _ _ _ | exact spec_InverseOf.mono _ _ | exact spec_l23Down.mono _ _ | exact xl | refine LeO.ite ?_ ?_ | refine LeO.bind ?_ fun _ => ?_
  ·intro y0 y1 y2 y3 y4 y5
   unfold spec_CycleType.j1
   repeat' with_reducible first | exact ih0 _ _ _ _ _ | exact ih1 _ _ _ _ _ _ | exact ih2 _ _ _ _ _ _ _ | exact spec_InverseOf.mono _ _ | exact spec_l23Down.mono _ _ | exact xl | refine LeO.ite ?_ ?_ | refine LeO.bind ?_ fun _ => ?_
  ·intro y0 y1 y2 y3 y4 y5 y6
   unfold spec_CycleType.l1
   repeat' with_reducible first | exact ih0 _ _ _ _ _ | exact ih1 _ _ _ _ _ _ | exact ih2 _ _ _ _ _ _ _ | exact spec_InverseOf.mono _ _ | exact spec_l23Down.mono _ _ | exact xl | refine LeO.ite ?_ ?_ | refine LeO.bind ?_ fun _ => ?_
theorem spec_CycleType.mono : ∀ a0 k, LeO (spec_CycleType.f k a0) (spec_CycleType.f (k + 1) a0) := by
 intro a0 k
 obtain ⟨ih0, ih1, ih2⟩ := spec_CycleType.mono_l k
 unfold spec_CycleType.f
 repeat' with_reducible first | exact ih0 _ _ _ _ _ | exact ih1 _ _ _ _ _ _ | exact ih2 _ _ _ _ _ _ _ | exact spec_InverseOf.mono _ _ | exact spec_l23Down.mono _ _ | exact xl | refine LeO.ite ?_ ?_ | refine LeO.bind ?_ fun _ => ?_
theorem spec_CycleType.calls (k : Nat) (A0 : Option Addr) (c0 : Nat) (l0 : List Int) (r : List Int) (w : World) (hr0 : Kd.C (Kd.int .i64) w A0 l0.length l0) (hc0 : l0.length ≤ c0) (h : spec_CycleType.f k l0 = some r) :
  Calls Tryz.prog 16 #[.slice A0 l0.length c0] w fun e w' => ∃ v0_ : Value, e = .returned (v0_) ∧ Kd.R (Kd.int .i64) 3 w' w.heap.size (fun _ => True) v0_ r ∧ Below w.heap.size w w' := by
 have HR0 := ax hr0
 have HC0 := ax hc0
 clear hr0 hc0
 have HB := ax (Below.refl w.heap.size w)
 have H : ((spec_InverseOf.f k l0).bind fun bt706 => (if 0 ≤ (wrap64 ((l0.length : Int) + 1)) then (if (wrap64 ((l0.length : Int) + 1) : Int).toNat ≤ 281474976710656 then (spec_CycleType.l0 k l0 bt706.2 (([] : List Int)) (List.replicate (wrap64 ((l0.length : Int) + 1) : Int).toNat false) 1) else (none)) else (none))) = some r := h
 clear h
 obtain ⟨⟨t706, t707⟩, A2, H⟩ := xI H
 dsimp only at H
 obtain ⟨y710, hy710⟩ : ∃ y_ : List Int, y_ = (([] : List Int)) := ⟨_, rfl⟩
 replace H : (if 0 ≤ (wrap64 ((l0.length : Int) + 1)) then (if (wrap64 ((l0.length : Int) + 1) : Int).toNat ≤ 281474976710656 then (spec_CycleType.l0 k l0 t707 y710 (List.replicate (wrap64 ((l0.length : Int) + 1) : Int).toNat false) 1) else (none)) else (none)) = some r := xv hy710 H
 have Ny710 := ax hy710
 clear hy710
 obtain ⟨ji3, hji3⟩ : ∃ j_ : Int, (wrap64 ((l0.length : Int) + 1)) = j_ := ⟨_, rfl⟩
 replace H : (if 0 ≤ (ji3) then (if (ji3 : Int).toNat ≤ 281474976710656 then (spec_CycleType.l0 k l0 t707 y710 (List.replicate (ji3 : Int).toNat false) 1) else (none)) else (none)) = some r := by first | (rw [hji3] at H; exact H) | (simp only [hji3] at H ⊢; exact H)
 (try rw [hji3] at A2)
 have hji3w : (IntKind.i64.wrap ((l0.length : Int) + 1)) = ji3 := (i64_w _).trans hji3
 obtain ⟨c4, H⟩ := xp H
 have c4b0 := eq_true c4
 have c4b1 := decide_eq_true c4
 clear c4
 obtain ⟨c5, H⟩ := xp H
 have c5b0 := eq_true c5
 have c5b1 := decide_eq_true c5
 clear c5
 obtain ⟨y713, hy713⟩ : ∃ y_ : List Bool, y_ = (List.replicate (ji3 : Int).toNat false) := ⟨_, rfl⟩
 replace H : (spec_CycleType.l0 k l0 t707 y710 y713 1) = some r := xv hy713 H
 have Ny713 := ax hy713
 clear hy713
 have H' := ax H
 clear H
 go_enter Tryz.func16, Tryz.ntmps16
 go_wp2_with (first | ((with_reducible refine gate_callee (f := 38) rfl ?_); refine goesL_ (some 12) rfl rfl Tryz.func38 (by kernel_rfl) rfl #[.slice A0 l0.length c0] rfl xm ?_; (with_reducible refine (spec_InverseOf.calls k _ _ l0 t706 t707 _ ?side1 ?side2 A2.out).mono ?_); (case side1 => exact xc HR0.out); (case side2 => exact HC0.out); rintro e w6 ⟨v708, rfl, ho0, hb⟩; refine ⟨_, rfl, ?_⟩; have HO709 := ax (Kd.R_lower ho0 (below_size (xb HB.out))); replace HB := yB HB hb; (try clear hb); (try clear ho0)) | ((with_reducible refine gate_dst (N := 15) rfl ?_); refine Kd.R_lit (Kd.int .i64) _ 3 ?hg (N := 15) ?hd (xs := ([] : List Int)) (inner := []) (ok := fun _ => True) (okp := fun _ => True) ?hr ?hp (fun _ hk => hk) trivial (Below.refl _ _) (Nat.le_refl _) (by simp) ?_; (case hd => rfl); (case hg => rfl); (case hr => first | (go_simp; done) | (go_simp; rfl)); (case hp => exact (Reps.none _ _)); intro v711 w7 ho8 hb hg_ hnew_; clear hg_ hnew_; (first | rw [← Ny710.out] at ho8 | (simp only [Int.reduceToNat] at ho8; rw [← Ny710.out] at ho8)); have HO712 := ax (Kd.R_lower (Kd.R_new' ho8 (Kd.R_lt (xR HO709.out))) (below_size (xb HB.out))); replace HO709 := ax (Kd.R_elder' (xR HO709.out) (Kd.R_base ho8) hb); replace HB := yB HB hb; clear hb ho8) | ((with_reducible refine gate_dst (N := 19) rfl ?_); refine Kd.R_make Kd.bool _ 4 rfl (N := 19) rfl 44 _ _ rfl ji3 rfl rfl Tryz.underlying44 (.bool false) 1 info4 rfl (by decide) (by omega) false (ok := fun _ => True) (okp := fun _ => True) rfl (fun _ hk => hk) trivial (xd) (Nat.le_trans (Nat.mul_le_mul_right _ (xd : ji3.toNat ≤ 281474976710656)) (by omega)) (Below.refl _ _) (Nat.le_refl _) ?_; intro v714 w9 ho10 hb hg_ hnew_; clear hg_ hnew_; (first | rw [← Ny713.out] at ho10 | (simp only [Int.reduceToNat] at ho10; rw [← Ny713.out] at ho10)); replace HO709 := yR HO709 hb; replace HO712 := yR HO712 hb; have HO715 := ax (Kd.R_lower ho10 (below_size (xb HB.out))); replace HB := yB HB hb; clear hb ho10))
 go_loopg [5, 7] k (fun kq v5 v7 w' => ∃ (x5_1 : List Int) (x6_1 : List Bool) (x7_1 : Int), v7 = .int .i64 x7_1 ∧ Aside0 (spec_CycleType.l0 kq l0 t707 x5_1 x6_1 x7_1 = some r) ∧ Aside0 (kq ≤ k) ∧ Aside0 (Kd.R (Kd.int .i64) 3 w' w.heap.size (fun _ => True) v5 x5_1) ∧ Aside0 (Kd.R Kd.bool 4 w' w.heap.size (fun _ => True) v714 x6_1) ∧ Aside0 (Below w.heap.size w w'))
 case atStart => exact ⟨(y710), (y713), (1), xr, H', ⟨Nat.le_refl _⟩, ⟨by (with_reducible repeat (first | apply Kd.R_alloc | apply Kd.R_drewN | apply Kd.R_drew)); exact Kd.R_mono HO712.out (fun _ hk => trivial)⟩, ⟨xR HO715.out⟩, ⟨xb HB.out⟩⟩
 case round =>
  clear H'
  (try clear c4); (try clear c4b0); (try clear c4b1); (try clear c5); (try clear c5b0); (try clear c5b1)
  obtain ⟨x5_1, x6_1, x7_1, rfl, HA, HK1, HO_5, HO_6, HB⟩ := hrel
  cases gk with
  | zero => exact absurd HA.out (by simp [spec_CycleType.l0])
  | succ k1 =>
   have H := HA.out
   clear HA
   simp only [spec_CycleType.l0] at H
   have HC11 := ax H
   clear H
   go_upto_region 5 with (fail)
   go_cut [26] (fun v26 wc => ∃ (kq : Nat) (x26_10 : Bool), v26 = .bool x26_10 ∧ Aside0 (spec_CycleType.j1 kq l0 t707 x5_1 x6_1 x7_1 x26_10 = some r) ∧ Aside0 (kq ≤ k1) ∧ Aside0 (Kd.R (Kd.int .i64) 3 wc w.heap.size (fun _ => True) u5 x5_1) ∧ Aside0 (Kd.R Kd.bool 4 wc w.heap.size (fun _ => True) v714 x6_1) ∧ Aside0 (Below w.heap.size w wc))
   case first =>
    have H := HC11.out
    clear HC11
    by_cases c12 : x7_1 ≤ (l0.length : Int)
    ·rw [if_pos c12] at H
     have c12b0 := decide_eq_true c12
     clear c12
     (first | rw [c12b0] | (simp only [i64_w, i32_w]; rw [c12b0]) | skip)
     have H' := ax H
     clear H
     go_wp2
     go_meet
     case rel => exact ⟨_, (t707), xr, H', ⟨by have := HK1.out; first | omega | exact Nat.le_refl _⟩, ⟨xR HO_5.out⟩, ⟨xR HO_6.out⟩, ⟨xb HB.out⟩⟩
    ·rw [if_neg c12] at H
     have c12b0 := decide_eq_false c12
     clear c12
     (first | rw [c12b0] | (simp only [i64_w, i32_w]; rw [c12b0]) | skip)
     have H' := ax H
     clear H
     go_wp2
     go_meet
     case rel => exact ⟨_, (false), xr, H', ⟨by have := HK1.out; first | omega | exact Nat.le_refl _⟩, ⟨xR HO_5.out⟩, ⟨xR HO_6.out⟩, ⟨xb HB.out⟩⟩
   case rest =>
    clear HC11
    (try clear c4); (try clear c4b0); (try clear c4b1); (try clear c5); (try clear c5b0); (try clear c5b1); (try clear c12); (try clear c12b0)
    obtain ⟨kq, x26_10, rfl, HA, HJ10, HO_5, HO_6, HB⟩ := hcut
    cases kq with
    | zero => exact absurd HA.out (by simp [spec_CycleType.j1])
    | succ kj10 =>
     have H := HA.out
     clear HA
     simp only [spec_CycleType.j1] at H
     by_cases c13 : x26_10 = true
     ·subst c13
      rw [if_pos rfl] at H
      have H' := ax H
      clear H
      go_wp2
      go_loopg [8, 9] kj10 (fun kq v8 v9 w' => ∃ (x6_3 : List Bool) (x8_3 : Int) (x9_3 : Int), v8 = .int .i64 x8_3 ∧ v9 = .int .i64 x9_3 ∧ Aside0 (spec_CycleType.l1 kq l0 t707 x5_1 x6_3 x7_1 x8_3 x9_3 = some r) ∧ Aside0 (kq ≤ kj10) ∧ Aside0 (Kd.R (Kd.int .i64) 3 w' w.heap.size (fun _ => True) u5 x5_1) ∧ Aside0 (Kd.R Kd.bool 4 w' w.heap.size (fun _ => True) v714 x6_3) ∧ Aside0 (Below w.heap.size w w'))
      case atStart => exact ⟨(x6_1), (0), (x7_1), xr, xr, H', ⟨Nat.le_refl _⟩, ⟨xR HO_5.out⟩, ⟨xR HO_6.out⟩, ⟨xb HB.out⟩⟩
      case round =>
       clear H'
       (try clear c4); (try clear c4b0); (try clear c4b1); (try clear c5); (try clear c5b0); (try clear c5b1); (try clear c12); (try clear c12b0); (try clear c13)
       obtain ⟨x6_3, x8_3, x9_3, rfl, rfl, HA, HK3, HO_5, HO_6, HB⟩ := hrel
       cases gk with
       | zero => exact absurd HA.out (by simp [spec_CycleType.l1])
       | succ k3 =>
        have H := HA.out
        clear HA
        simp only [spec_CycleType.l1] at H
        obtain ⟨c14b0, H⟩ := xq H
        obtain ⟨c15b0, H⟩ := xq H
        obtain ⟨bq16, hbq16⟩ : ∃ b_ : Bool, b_ = (rdOf false x6_3 x9_3) := ⟨_, rfl⟩
        replace H : (if bq16 = true then (if x8_3 > 0 then (if x5_1.length < 17592186044416 then (spec_CycleType.l0 k3 l0 t707 (x5_1 ++ [x8_3]) x6_3 (wrap64 (x7_1 + 1))) else (none)) else (spec_CycleType.l0 k3 l0 t707 x5_1 x6_3 (wrap64 (x7_1 + 1)))) else (if 0 ≤ (wrap64 (x9_3 - 1)) then (if (wrap64 (x9_3 - 1)) < (l0.length : Int) then (spec_CycleType.l1 k3 l0 t707 x5_1 (x6_3.set (x9_3 : Int).toNat true) x7_1 (wrap64 (x8_3 + 1)) (rd l0 (wrap64 (x9_3 - 1)))) else (none)) else (none))) = some r := by rw [← hbq16] at H; exact H
        have Nbq16 := ax hbq16
        clear hbq16
        by_cases c17 : bq16 = true
        ·subst c17
         rw [if_pos rfl] at H
         by_cases c18 : x8_3 > 0
         ·rw [if_pos c18] at H
          have c18b0 : decide (0 < x8_3) = true := decide_eq_true c18
          clear c18
          obtain ⟨c19, H⟩ := xp H
          have LMc19 := ax c19
          clear c19
          obtain ⟨y720, hy720⟩ : ∃ y_ : List Int, y_ = (x5_1 ++ [x8_3]) := ⟨_, rfl⟩
          replace H : (spec_CycleType.l0 k3 l0 t707 y720 x6_3 (wrap64 (x7_1 + 1))) = some r := xv hy720 H
          have Ny720 := ax hy720
          clear hy720
          have H' := ax H
          clear H
          obtain ⟨Ao20, co20, eo20⟩ := Kd.R_slice HO_6.out
          subst eo20
          have p719 : 0 ≤ (x9_3 : Int) := xd
          have q719 : x9_3 < (x6_3.length : Int) := xd
          obtain ⟨ad719, e719, hx719_0⟩ := Kd.at_bool (Kd.R_reads' HO_6.out).2.2 x9_3 p719 q719
          (try rw [← Nbq16.out] at hx719_0)
          cases e719
          replace p719 := eq_true p719
          replace q719 := eq_true q719
          go_wp2_with (first | ((with_reducible refine gate_builtin (b := .append) (xs := #[.tmp 47, .tmp 49]) rfl ?_); at_builtin; refine Kd.R_append (Kd.int .i64) (w0 := w) w.heap.size rfl (.tmp 47) (.tmp 49) 24 3 (.int .i64 0) 8 rfl Tryz.underlying24 info3 rfl (by decide) (by omega) u5 x5_1 x8_3 [.int .i64 x8_3] (fun _ => True) (fun _ => False) rfl rfl ?aP (fun _ hk => hk.elim) ?aF ?aO ?aB ?aS ?aL ?_; (case aP => exact rfl); (case aB => exact (xb HB.out)); (case aF => exact (fun _ _ => trivial)); (case aO => exact (xR HO_5.out)); (case aS => exact (below_size (xb HB.out))); (case aL => have := LMc19.out; omega); intro v721 w21 ho hb hg hat; rw [← Ny720.out] at ho; have n0_ := ax (Kd.R_over' (xR HO_6.out) (Kd.R_typed (xR HO_5.out)) (by decide) hg); have n1_ := ax (hb); have n2_ := ax (ho); clear HO_6; clear HB; clear HO_5; have HO_6 := n0_; have HB := n1_; have HO722 := n2_; clear n0_ n1_ n2_; clear ho hb hg hat))
          go_roundg k3
          case measure => have := HK1.out; have := HJ10.out; have := HK3.out; omega
          case rel => exact ⟨(y720), (x6_3), (wrap64 (x7_1 + 1)), xr, H', ⟨by have := HK1.out; have := HJ10.out; have := HK3.out; omega⟩, ⟨xR HO722.out⟩, ⟨xR HO_6.out⟩, ⟨xb HB.out⟩⟩
         ·rw [if_neg c18] at H
          have c18b0 : decide (0 < x8_3) = false := decide_eq_false c18
          clear c18
          have H' := ax H
          clear H
          obtain ⟨Ao22, co22, eo22⟩ := Kd.R_slice HO_6.out
          subst eo22
          have p719 : 0 ≤ (x9_3 : Int) := xd
          have q719 : x9_3 < (x6_3.length : Int) := xd
          obtain ⟨ad719, e719, hx719_0⟩ := Kd.at_bool (Kd.R_reads' HO_6.out).2.2 x9_3 p719 q719
          (try rw [← Nbq16.out] at hx719_0)
          cases e719
          replace p719 := eq_true p719
          replace q719 := eq_true q719
          go_wp2
          go_roundg k3
          case measure => have := HK1.out; have := HJ10.out; have := HK3.out; omega
          case rel => exact ⟨(x5_1), (x6_3), (wrap64 (x7_1 + 1)), xr, H', ⟨by have := HK1.out; have := HJ10.out; have := HK3.out; omega⟩, ⟨xR HO_5.out⟩, ⟨xR HO_6.out⟩, ⟨xb HB.out⟩⟩
        ·replace c17 := Bool.eq_false_iff.mpr c17
         subst c17
         rw [if_neg (show ¬ (false = true) by decide)] at H
         obtain ⟨y723, hy723⟩ : ∃ y_ : List Bool, y_ = (x6_3.set (x9_3 : Int).toNat true) := ⟨_, rfl⟩
         replace H : (if 0 ≤ (wrap64 (x9_3 - 1)) then (if (wrap64 (x9_3 - 1)) < (l0.length : Int) then (spec_CycleType.l1 k3 l0 t707 x5_1 y723 x7_1 (wrap64 (x8_3 + 1)) (rd l0 (wrap64 (x9_3 - 1)))) else (none)) else (none)) = some r := xv hy723 H
         have Ny723 := ax hy723
         clear hy723
         obtain ⟨ji24, hji24⟩ : ∃ j_ : Int, (wrap64 (x9_3 - 1)) = j_ := ⟨_, rfl⟩
         replace H : (if 0 ≤ (ji24) then (if (ji24) < (l0.length : Int) then (spec_CycleType.l1 k3 l0 t707 x5_1 y723 x7_1 (wrap64 (x8_3 + 1)) (rd l0 (ji24))) else (none)) else (none)) = some r := by first | (rw [hji24] at H; exact H) | (simp only [hji24] at H ⊢; exact H)
         have hji24w : (IntKind.i64.wrap (x9_3 - 1)) = ji24 := (i64_w _).trans hji24
         obtain ⟨c25b0, H⟩ := xq H
         obtain ⟨c26b0, H⟩ := xq H
         have H' := ax H
         clear H
         obtain ⟨Ao27, co27, eo27⟩ := Kd.R_slice HO_6.out
         subst eo27
         have p719 : 0 ≤ (x9_3 : Int) := xd
         have q719 : x9_3 < (x6_3.length : Int) := xd
         obtain ⟨ad719, e719, hx719_0⟩ := Kd.at_bool (Kd.R_reads' HO_6.out).2.2 x9_3 p719 q719
         (try rw [← Nbq16.out] at hx719_0)
         cases e719
         replace p719 := eq_true p719
         replace q719 := eq_true q719
         have p23 : 0 ≤ (x9_3 : Int) := xd
         have q23 : (x9_3 : Int) < ((x6_3.length : Int) : Int) := xd
         obtain ⟨go23, co23, eo23, gb23, gl23, cl23, HG23⟩ := Kd.R_form HO_6.out (by omega)
         (first | cases eo23 | (injection eo23 with ea_ en_ ec_; (first | subst ea_ | (injection ea_ with ea_; subst ea_)); subst ec_; clear en_))
         have GB23 := ax gb23
         have GG23 := ax HG23
         clear gb23 gl23 HG23
         (first | simp only [add_plain] at hx719_0 | skip)
         obtain ⟨hx23_0, hf23_0⟩ := Kd.R_celln false HO_6.out (x9_3 : Int) p23 q23
         replace p23 := eq_true p23
         replace q23 := eq_true q23
         have HP28 := Kd.R_putg HO_6.out (x9_3 : Int) true
         go_wp2_with (first | ((with_reducible refine gate_store (t := 4) (p := 42) rfl ?_); refine store_event (t := 4) (p := 42) (v := ?vo_w29) (w1 := (wr.setCell ⟨go23, (x9_3 : Int).toNat, none⟩ (.bool true))) ?hg ?ho ?hn ?hr ?_; (case ho => rfl); (case hg => rfl); (case hn => rfl); (case hr => first | (go_simp; done) | (go_simp; rfl)); intro w29 hw; have hg : wr.grownBy w29 (some go23) := (by rw [hw]; exact HP28.2); have hp_ : Kd.R Kd.bool 4 w29 w.heap.size (fun _ => True) (.slice (some ⟨go23, 0, none⟩) x6_3.length co27) y723 := (by rw [hw, Ny723.out]; exact HP28.1); clear HP28; replace HO_5 := ax (Kd.R_over' (v := (.slice (some ⟨go23, 0, none⟩) x6_3.length co27)) (xR HO_5.out) (Kd.R_typed HO_6.out) (by decide) hg); replace HO_6 := ax (hp_); replace HB := ax ((by rw [hw]; exact below_set (HB.out) GB23.out : Below w.heap.size w w29)); clear hg hw hp_; have p724 : 0 ≤ ((ji24) : Int) := xd; have q724 : (ji24) < (l0.length : Int) := xd; obtain ⟨ad724, e724, hx724_0⟩ := Kd.at_int HR0.out (ji24) p724 q724; cases e724; replace hx724_0 := (HB.out.cell (World.block_lt_of_cell? w _ hx724_0)).trans hx724_0; replace p724 := eq_true p724; replace q724 := eq_true q724))
         go_roundg k3
         case measure => have := HK1.out; have := HJ10.out; have := HK3.out; omega
         case rel => exact ⟨(y723), (wrap64 (x8_3 + 1)), (rd l0 (ji24)), xr, (by first | rfl | (simp; done) | (simp only [← hji24] <;> (first | rfl | simp)) | (simp [*]; done)), H', ⟨by have := HK1.out; have := HJ10.out; have := HK3.out; omega⟩, ⟨xR HO_5.out⟩, ⟨xR HO_6.out⟩, ⟨xb HB.out⟩⟩
     ·replace c13 := Bool.eq_false_iff.mpr c13
      subst c13
      rw [if_neg (show ¬ (false = true) by decide)] at H
      obtain ⟨t716, A30, H⟩ := xI H
      obtain rfl := Option.some.inj H
      obtain ⟨Ao31, co31, eo31⟩ := Kd.R_slice HO_5.out
      subst eo31
      go_wp2_with (first | ((with_reducible refine gate_callee (f := 39) rfl ?_); refine goesL_ (some 52) rfl rfl Tryz.func39 (by kernel_rfl) rfl #[.slice Ao31 x5_1.length co31] rfl xm ?_; (with_reducible refine (spec_l23Down.calls kj10 _ _ x5_1 t716 _ ?side1 ?side2 A30.out).mono ?_); (case side1 => exact xc (Kd.R_reads' HO_5.out).2.2); (case side2 => exact (Kd.R_reads' HO_5.out).2.1); rintro e w32 ⟨v717, rfl, ho0, hb⟩; refine ⟨_, rfl, ?_⟩; replace HO_6 := yR HO_6 hb; have HO718 := ax (Kd.R_lower (Kd.R_new' ho0 (Kd.R_lt (xR HO_5.out))) (below_size (xb HB.out))); replace HO_5 := ax (Kd.R_elder' (xR HO_5.out) (Kd.R_base ho0) hb); replace HB := yB HB hb; (try clear hb); (try clear ho0)))
      go_ret
      exact ⟨_, by first | rfl | (simp [errW_none, errW_some] <;> rfl) | (simp only [← hji3]; first | rfl | (simp [errW_none, errW_some] <;> rfl)) | (simp [*, errW_none, errW_some] <;> rfl), by (with_reducible repeat (first | apply Kd.R_alloc | apply Kd.R_drewN | apply Kd.R_drew)); exact Kd.R_mono HO718.out (fun _ hk => trivial), xb HB.out⟩

/-! ### spec_l21Fine: function 40 -/
def spec_l21Fine.f (k : Nat) (l0 : List Int) : Option (Bool) := (spec_IsPartition.f k l0).bind fun t725 => (if t725 = true then ((spec_l2Size.f k l0).bind fun t726 => (some (decide (t726 ≤ 6)))) else (some false))
theorem spec_l21Fine.mono : ∀ a0 k, LeO (spec_l21Fine.f k a0) (spec_l21Fine.f (k + 1) a0) := by
 intro a0 k
 unfold spec_l21Fine.f
 repeat' with_reducible first | exact spec_IsPartition.mono _ _ | exact spec_l2Size.mono _ _ | exact xl | refine LeO.ite ?_ ?_ | refine LeO.bind ?_ fun _ => ?_
theorem spec_l21Fine.calls (k : Nat) (A0 : Option Addr) (c0 : Nat) (l0 : List Int) (r : Bool) (w : World) (hr0 : Kd.C (Kd.int .i64) w A0 l0.length l0) (hc0 : l0.length ≤ c0) (h : spec_l21Fine.f k l0 = some r) :
  Calls Tryz.prog 40 #[.slice A0 l0.length c0] w fun e w' => e = .returned (.bool r) ∧ Below w.heap.size w w' := by
 have HR0 := ax hr0
 have HC0 := ax hc0
 clear hr0 hc0
 have HB := ax (Below.refl w.heap.size w)
 have H : ((spec_IsPartition.f k l0).bind fun t725 => (if t725 = true then ((spec_l2Size.f k l0).bind fun t726 => (some (decide (t726 ≤ 6)))) else (some false))) = some r := h
 clear h
 obtain ⟨t725, A2, H⟩ := xI H
 by_cases c3 : t725 = true
 ·subst c3
  rw [if_pos rfl] at H
  obtain ⟨t726, A4, H⟩ := xI H
  obtain rfl := Option.some.inj H
  go_enter Tryz.func40, Tryz.ntmps40
  go_wp2_with (first | ((with_reducible refine gate_callee (f := 20) rfl ?_); refine goesL_ (some 4) rfl rfl Tryz.func20 (by kernel_rfl) rfl #[.slice A0 l0.length c0] rfl xm ?_; (with_reducible refine (spec_IsPartition.calls k _ _ l0 true _ ?side1 ?side2 A2.out).mono ?_); (case side1 => exact xc HR0.out); (case side2 => exact HC0.out); rintro e w5 ⟨rfl, hb⟩; refine ⟨_, rfl, ?_⟩; replace HB := yB HB hb; (try clear hb)) | (go_at_call 36; (with_reducible refine (spec_l2Size.calls k _ _ l0 t726 _ ?side1 ?side2 A4.out).mono ?_); (case side1 => exact xz HR0.out HB.out); (case side2 => exact HC0.out); rintro e w' ⟨rfl, ⟨nd, rfl⟩⟩))
  go_ret
  exact ⟨xe, xb HB.out⟩
 ·replace c3 := Bool.eq_false_iff.mpr c3
  subst c3
  rw [if_neg (show ¬ (false = true) by decide)] at H
  obtain rfl := Option.some.inj H
  go_enter Tryz.func40, Tryz.ntmps40
  go_wp2_with (first | ((with_reducible refine gate_callee (f := 20) rfl ?_); refine goesL_ (some 4) rfl rfl Tryz.func20 (by kernel_rfl) rfl #[.slice A0 l0.length c0] rfl xm ?_; (with_reducible refine (spec_IsPartition.calls k _ _ l0 false _ ?side1 ?side2 A2.out).mono ?_); (case side1 => exact xc HR0.out); (case side2 => exact HC0.out); rintro e w6 ⟨rfl, hb⟩; refine ⟨_, rfl, ?_⟩; replace HB := yB HB hb; (try clear hb)))
  go_ret
  exact ⟨xe, xb HB.out⟩

/-! ### spec_l2At: function 102 -/
def spec_l2At.f (l0 : List Int) (a1 : Int) : Option (Int) := if a1 < 0 then (some 0) else (if a1 ≥ (l0.length : Int) then (some 0) else (if 0 ≤ a1 then (if a1 < (l0.length : Int) then (some (rd l0 a1)) else (none)) else (none)))
theorem spec_l2At.calls (A0 : Option Addr) (c0 : Nat) (l0 : List Int) (a1 : Int) (r : Int) (w : World) (hr0 : Kd.C (Kd.int .i64) w A0 l0.length l0) (hc0 : l0.length ≤ c0) (h : spec_l2At.f l0 a1 = some r) :
  Calls Tryz.prog 102 #[.slice A0 l0.length c0, .int .i64 a1] w fun e w' => e = .returned (.int .i64 r) ∧ Drawn0 w w' := by
 have HR0 := ax hr0
 have HC0 := ax hc0
 clear hr0 hc0
 have H : (if a1 < 0 then (some 0) else (if a1 ≥ (l0.length : Int) then (some 0) else (if 0 ≤ a1 then (if a1 < (l0.length : Int) then (some (rd l0 a1)) else (none)) else (none)))) = some r := h
 clear h
 by_cases c3 : a1 < 0
 ·rw [if_pos c3] at H
  have c3b0 := decide_eq_true c3
  clear c3
  obtain rfl := Option.some.inj H
  go_enter Tryz.func102, Tryz.ntmps102
  go_wp2
  go_ret
  exact ⟨by first | rfl | (simp; done) | (simp [*]; done), by repeat (first | exact Drawn0.refl _ | apply Drawn0.step)⟩
 ·rw [if_neg c3] at H
  have c3b0 := decide_eq_false c3
  clear c3
  by_cases c4 : a1 ≥ (l0.length : Int)
  ·rw [if_pos c4] at H
   have c4b0 : decide ((l0.length : Int) ≤ a1) = true := decide_eq_true c4
   clear c4
   obtain rfl := Option.some.inj H
   go_enter Tryz.func102, Tryz.ntmps102
   go_wp2
   go_ret
   exact ⟨by first | rfl | (simp; done) | (simp [*]; done), by repeat (first | exact Drawn0.refl _ | apply Drawn0.step)⟩
  ·rw [if_neg c4] at H
   have c4b0 : decide ((l0.length : Int) ≤ a1) = false := decide_eq_false c4
   clear c4
   obtain ⟨c5b0, H⟩ := xq H
   obtain ⟨c6b0, H⟩ := xq H
   obtain rfl := Option.some.inj H
   have p727 : 0 ≤ (a1 : Int) := xd
   have q727 : a1 < (l0.length : Int) := xd
   obtain ⟨ad727, e727, hx727_0⟩ := Kd.at_int HR0.out a1 p727 q727
   cases e727
   replace p727 := eq_true p727
   replace q727 := eq_true q727
   go_enter Tryz.func102, Tryz.ntmps102
   go_wp2
   go_ret
   exact ⟨by first | rfl | (simp; done) | (simp [*]; done), by repeat (first | exact Drawn0.refl _ | apply Drawn0.step)⟩

/-! ### spec_l4Rows: function 86 -/
def spec_l4Rows.l0 : Nat → Int → Int → Int → List Int → List Int → Option (Int × Int)
 | 0, _, _, _, _, _ => none
 | k + 1, x4, x5, x6, x729000, x729001 => if x6 < (x729000.length : Int) then (if 0 ≤ x6 then ((spec_l2At.f x729001 x6).bind fun t730 => (if (rd x729000 x6) > t730 then (if x4 < 0 then (spec_l4Rows.l0 k x6 x6 (wrap64 (x6 + 1)) x729000 x729001) else (spec_l4Rows.l0 k x4 x6 (wrap64 (x6 + 1)) x729000 x729001)) else (spec_l4Rows.l0 k x4 x5 (wrap64 (x6 + 1)) x729000 x729001))) else (none)) else (some (x4, x5))
def spec_l4Rows.f (k : Nat) (l0_0 : List Int) (l0_1 : List Int) : Option (Int × Int) := spec_l4Rows.l0 k (-1) (-1) 0 l0_0 l0_1
theorem spec_l4Rows.mono_l : ∀ k, (∀ y0 y1 y2 y3 y4, LeO (spec_l4Rows.l0 k y0 y1 y2 y3 y4) (spec_l4Rows.l0 (k + 1) y0 y1 y2 y3 y4))
 | 0 => fun _ _ _ _ _ r h => by simp [spec_l4Rows.l0] at h
 | k + 1 => by
  have ih0 := spec_l4Rows.mono_l k
  ·intro y0 y1 y2 y3 y4
   unfold spec_l4Rows.l0
   repeat' with_reducible first | exact ih0 _ _ _ _ _ | exact xl | refine LeO.ite ?_ ?_ | refine LeO.bind ?_ fun _ => ?_
theorem spec_l4Rows.mono : ∀ a0 a1 k, LeO (spec_l4Rows.f k a0 a1) (spec_l4Rows.f (k + 1) a0 a1) := by
 intro a0 a1 k
 have ih0 := spec_l4Rows.mono_l k
 unfold spec_l4Rows.f
 repeat' with_reducible first | exact ih0 _ _ _ _ _ | exact xl | refine LeO.ite ?_ ?_ | refine LeO.bind ?_ fun _ => ?_
theorem spec_l4Rows.calls (k : Nat) (A0_0 : Option Addr) (c0_0 : Nat) (l0_0 : List Int) (A0_1 : Option Addr) (c0_1 : Nat) (l0_1 : List Int) (r1 : Int) (r2 : Int) (w : World) (hr0_0 : Kd.C (Kd.int .i64) w A0_0 l0_0.length l0_0) (hc0_0 : l0_0.length ≤ c0_0) (hr0_1 : Kd.C (Kd.int .i64) w A0_1 l0_1.length l0_1) (hc0_1 : l0_1.length ≤ c0_1) (h : spec_l4Rows.f k l0_0 l0_1 = some (r1, r2)) :
  Calls Tryz.prog 86 #[.agg #[.slice A0_0 l0_0.length c0_0, .slice A0_1 l0_1.length c0_1]] w fun e w' => e = .returned (.tuple #[.int .i64 r1, .int .i64 r2]) ∧ Below w.heap.size w w' := by
 have hu61 := Tryz.underlying61
 have HR0_0 := ax hr0_0
 have HC0_0 := ax hc0_0
 clear hr0_0 hc0_0
 have HR0_1 := ax hr0_1
 have HC0_1 := ax hc0_1
 clear hr0_1 hc0_1
 have HB := ax (Below.refl w.heap.size w)
 have H : (spec_l4Rows.l0 k (-1) (-1) 0 l0_0 l0_1) = some (r1, r2) := h
 clear h
 have H' := ax H
 clear H
 go_enter Tryz.func86, Tryz.ntmps86
 go_wp2_with (first | ((with_reducible refine gate_dst (N := 1) rfl ?_); refine box_event ?hg (N := 1) ?hd (cs := #[.slice A0_0 l0_0.length c0_0, .slice A0_1 l0_1.length c0_1]) (t := 61) ?hr ?_; (case hd => rfl); (case hg => rfl); (case hr => first | (go_simp; done) | (go_simp; rfl)); intro gb728 hg w2 hbox hb; have BK728 := ax (hbox); have GW728 := ax ((by rw [hg]; exact (below_size (xb HB.out)) : w.heap.size ≤ gb728)); have GE728 := ax ((by rw [hg]; exact (below_size (xb HB.out)) : w.heap.size ≤ gb728)); replace HB := yB HB hb; clear hb hbox hg))
 repeat (go_quiet (first | ((with_reducible refine gate_dst (N := 1) rfl ?_); refine box_event ?hg (N := 1) ?hd (cs := #[.slice A0_0 l0_0.length c0_0, .slice A0_1 l0_1.length c0_1]) (t := 61) ?hr ?_; (case hd => rfl); (case hg => rfl); (case hr => first | (go_simp; done) | (go_simp; rfl)); intro gb728 hg w2 hbox hb; have BK728 := ax (hbox); have GW728 := ax ((by rw [hg]; exact (below_size (xb HB.out)) : w.heap.size ≤ gb728)); have GE728 := ax ((by rw [hg]; exact (below_size (xb HB.out)) : w.heap.size ≤ gb728)); replace HB := yB HB hb; clear hb hbox hg)); try go_wp2_with (first | ((with_reducible refine gate_dst (N := 1) rfl ?_); refine box_event ?hg (N := 1) ?hd (cs := #[.slice A0_0 l0_0.length c0_0, .slice A0_1 l0_1.length c0_1]) (t := 61) ?hr ?_; (case hd => rfl); (case hg => rfl); (case hr => first | (go_simp; done) | (go_simp; rfl)); intro gb728 hg w2 hbox hb; have BK728 := ax (hbox); have GW728 := ax ((by rw [hg]; exact (below_size (xb HB.out)) : w.heap.size ≤ gb728)); have GE728 := ax ((by rw [hg]; exact (below_size (xb HB.out)) : w.heap.size ≤ gb728)); replace HB := yB HB hb; clear hb hbox hg)))
 go_loopg [4, 5, 6] k (fun kq v4 v5 v6 w' => ∃ (x4_1 : Int) (x5_1 : Int) (x6_1 : Int), v4 = .int .i64 x4_1 ∧ v5 = .int .i64 x5_1 ∧ v6 = .int .i64 x6_1 ∧ Aside0 (spec_l4Rows.l0 kq x4_1 x5_1 x6_1 l0_0 l0_1 = some (r1, r2)) ∧ Aside0 (kq ≤ k) ∧ Aside0 (w'.heap[gb728]? = some (.cells #[(.slice A0_0 l0_0.length c0_0), (.slice A0_1 l0_1.length c0_1)] 61 (0, 0))) ∧ Aside0 (Below w.heap.size w w'))
 case atStart => exact ⟨((-1)), ((-1)), (0), xr, xr, xr, H', ⟨Nat.le_refl _⟩, ⟨xk BK728.out⟩, ⟨xs HB.out GE728.out⟩⟩
 case round =>
  clear H'
  obtain ⟨x4_1, x5_1, x6_1, rfl, rfl, rfl, HA, HK1, BK728, HB⟩ := hrel
  cases gk with
  | zero => exact absurd HA.out (by simp [spec_l4Rows.l0])
  | succ k1 =>
   have H := HA.out
   clear HA
   simp only [spec_l4Rows.l0] at H
   by_cases c3 : x6_1 < (l0_0.length : Int)
   ·rw [if_pos c3] at H
    have c3b0 := decide_eq_true c3
    clear c3
    obtain ⟨c4b0, H⟩ := xq H
    obtain ⟨t730, A5, H⟩ := xI H
    by_cases c6 : (rd l0_0 x6_1) > t730
    ·rw [if_pos c6] at H
     have c6b0 : decide (t730 < (rd l0_0 x6_1)) = true := decide_eq_true c6
     clear c6
     by_cases c7 : x4_1 < 0
     ·rw [if_pos c7] at H
      have c7b0 := decide_eq_true c7
      clear c7
      have H' := ax H
      clear H
      have hcz8_0 : wr.cell? ⟨gb728, 0, none⟩ = some (.slice A0_0 l0_0.length c0_0) := (blk_cell BK728.out 0).trans rfl
      have hcz8_1 : wr.cell? ⟨gb728, 1, none⟩ = some (.slice A0_1 l0_1.length c0_1) := (blk_cell BK728.out 1).trans rfl
      have hfz8_0 := blk_frozen BK728.out 0
      have hfz8_1 := blk_frozen BK728.out 1
      have p729 : 0 ≤ (x6_1 : Int) := xd
      have q729 : x6_1 < (l0_0.length : Int) := xd
      obtain ⟨ad729, e729, hx729_0⟩ := Kd.at_int HR0_0.out x6_1 p729 q729
      cases e729
      (try replace hx729_0 := (HB.out.cell (World.block_lt_of_cell? w _ hx729_0)).trans hx729_0)
      replace p729 := eq_true p729
      replace q729 := eq_true q729
      go_wp2_with (first | (go_at_call 102; (with_reducible refine (spec_l2At.calls _ _ l0_1 x6_1 t730 _ ?side1 ?side2 A5.out).mono ?_); (case side1 => exact xz HR0_1.out HB.out); (case side2 => exact HC0_1.out); rintro e w' ⟨rfl, ⟨nd, rfl⟩⟩; (try first | exact ⟨rfl, _, World.drewN_drewN _ _ _⟩ | exact ⟨rfl, _, Eq.trans (World.drewN_drewN _ _ _) (congrArg (World.drewN _) (Nat.add_assoc _ _ _))⟩)))
      repeat (go_quiet (first | (go_at_call 102; (with_reducible refine (spec_l2At.calls _ _ l0_1 x6_1 t730 _ ?side1 ?side2 A5.out).mono ?_); (case side1 => exact xz HR0_1.out HB.out); (case side2 => exact HC0_1.out); rintro e w' ⟨rfl, ⟨nd, rfl⟩⟩; (try first | exact ⟨rfl, _, World.drewN_drewN _ _ _⟩ | exact ⟨rfl, _, Eq.trans (World.drewN_drewN _ _ _) (congrArg (World.drewN _) (Nat.add_assoc _ _ _))⟩))); try go_wp2_with (first | (go_at_call 102; (with_reducible refine (spec_l2At.calls _ _ l0_1 x6_1 t730 _ ?side1 ?side2 A5.out).mono ?_); (case side1 => exact xz HR0_1.out HB.out); (case side2 => exact HC0_1.out); rintro e w' ⟨rfl, ⟨nd, rfl⟩⟩; (try first | exact ⟨rfl, _, World.drewN_drewN _ _ _⟩ | exact ⟨rfl, _, Eq.trans (World.drewN_drewN _ _ _) (congrArg (World.drewN _) (Nat.add_assoc _ _ _))⟩))))
      go_roundg k1
      case measure => have := HK1.out; omega
      case rel => exact ⟨(x6_1), (x6_1), (wrap64 (x6_1 + 1)), xr, xr, xr, H', ⟨by have := HK1.out; omega⟩, ⟨xk BK728.out⟩, ⟨xs HB.out GE728.out⟩⟩
     ·rw [if_neg c7] at H
      have c7b0 := decide_eq_false c7
      clear c7
      have H' := ax H
      clear H
      have hcz9_0 : wr.cell? ⟨gb728, 0, none⟩ = some (.slice A0_0 l0_0.length c0_0) := (blk_cell BK728.out 0).trans rfl
      have hcz9_1 : wr.cell? ⟨gb728, 1, none⟩ = some (.slice A0_1 l0_1.length c0_1) := (blk_cell BK728.out 1).trans rfl
      have hfz9_0 := blk_frozen BK728.out 0
      have hfz9_1 := blk_frozen BK728.out 1
      have p729 : 0 ≤ (x6_1 : Int) := xd
      have q729 : x6_1 < (l0_0.length : Int) := xd
      obtain ⟨ad729, e729, hx729_0⟩ := Kd.at_int HR0_0.out x6_1 p729 q729
      cases e729
      (try replace hx729_0 := (HB.out.cell (World.block_lt_of_cell? w _ hx729_0)).trans hx729_0)
      replace p729 := eq_true p729
      replace q729 := eq_true q729
      go_wp2_with (first | (go_at_call 102; (with_reducible refine (spec_l2At.calls _ _ l0_1 x6_1 t730 _ ?side1 ?side2 A5.out).mono ?_); (case side1 => exact xz HR0_1.out HB.out); (case side2 => exact HC0_1.out); rintro e w' ⟨rfl, ⟨nd, rfl⟩⟩; (try first | exact ⟨rfl, _, World.drewN_drewN _ _ _⟩ | exact ⟨rfl, _, Eq.trans (World.drewN_drewN _ _ _) (congrArg (World.drewN _) (Nat.add_assoc _ _ _))⟩)))
      repeat (go_quiet (first | (go_at_call 102; (with_reducible refine (spec_l2At.calls _ _ l0_1 x6_1 t730 _ ?side1 ?side2 A5.out).mono ?_); (case side1 => exact xz HR0_1.out HB.out); (case side2 => exact HC0_1.out); rintro e w' ⟨rfl, ⟨nd, rfl⟩⟩; (try first | exact ⟨rfl, _, World.drewN_drewN _ _ _⟩ | exact ⟨rfl, _, Eq.trans (World.drewN_drewN _ _ _) (congrArg (World.drewN _) (Nat.add_assoc _ _ _))⟩))); try go_wp2_with (first | (go_at_call 102; (with_reducible refine (spec_l2At.calls _ _ l0_1 x6_1 t730 _ ?side1 ?side2 A5.out).mono ?_); (case side1 => exact xz HR0_1.out HB.out); (case side2 => exact HC0_1.out); rintro e w' ⟨rfl, ⟨nd, rfl⟩⟩; (try first | exact ⟨rfl, _, World.drewN_drewN _ _ _⟩ | exact ⟨rfl, _, Eq.trans (World.drewN_drewN _ _ _) (congrArg (World.drewN _) (Nat.add_assoc _ _ _))⟩))))
      go_roundg k1
      case measure => have := HK1.out; omega
      case rel => exact ⟨(x4_1), (x6_1), (wrap64 (x6_1 + 1)), xr, xr, xr, H', ⟨by have := HK1.out; omega⟩, ⟨xk BK728.out⟩, ⟨xs HB.out GE728.out⟩⟩
    ·rw [if_neg c6] at H
     have c6b0 : decide (t730 < (rd l0_0 x6_1)) = false := decide_eq_false c6
     clear c6
     have H' := ax H
     clear H
     have hcz10_0 : wr.cell? ⟨gb728, 0, none⟩ = some (.slice A0_0 l0_0.length c0_0) := (blk_cell BK728.out 0).trans rfl
     have hcz10_1 : wr.cell? ⟨gb728, 1, none⟩ = some (.slice A0_1 l0_1.length c0_1) := (blk_cell BK728.out 1).trans rfl
     have hfz10_0 := blk_frozen BK728.out 0
     have hfz10_1 := blk_frozen BK728.out 1
     have p729 : 0 ≤ (x6_1 : Int) := xd
     have q729 : x6_1 < (l0_0.length : Int) := xd
     obtain ⟨ad729, e729, hx729_0⟩ := Kd.at_int HR0_0.out x6_1 p729 q729
     cases e729
     (try replace hx729_0 := (HB.out.cell (World.block_lt_of_cell? w _ hx729_0)).trans hx729_0)
     replace p729 := eq_true p729
     replace q729 := eq_true q729
     go_wp2_with (first | (go_at_call 102; (with_reducible refine (spec_l2At.calls _ _ l0_1 x6_1 t730 _ ?side1 ?side2 A5.out).mono ?_); (case side1 => exact xz HR0_1.out HB.out); (case side2 => exact HC0_1.out); rintro e w' ⟨rfl, ⟨nd, rfl⟩⟩; (try first | exact ⟨rfl, _, World.drewN_drewN _ _ _⟩ | exact ⟨rfl, _, Eq.trans (World.drewN_drewN _ _ _) (congrArg (World.drewN _) (Nat.add_assoc _ _ _))⟩)))
     repeat (go_quiet (first | (go_at_call 102; (with_reducible refine (spec_l2At.calls _ _ l0_1 x6_1 t730 _ ?side1 ?side2 A5.out).mono ?_); (case side1 => exact xz HR0_1.out HB.out); (case side2 => exact HC0_1.out); rintro e w' ⟨rfl, ⟨nd, rfl⟩⟩; (try first | exact ⟨rfl, _, World.drewN_drewN _ _ _⟩ | exact ⟨rfl, _, Eq.trans (World.drewN_drewN _ _ _) (congrArg (World.drewN _) (Nat.add_assoc _ _ _))⟩))); try go_wp2_with (first | (go_at_call 102; (with_reducible refine (spec_l2At.calls _ _ l0_1 x6_1 t730 _ ?side1 ?side2 A5.out).mono ?_); (case side1 => exact xz HR0_1.out HB.out); (case side2 => exact HC0_1.out); rintro e w' ⟨rfl, ⟨nd, rfl⟩⟩; (try first | exact ⟨rfl, _, World.drewN_drewN _ _ _⟩ | exact ⟨rfl, _, Eq.trans (World.drewN_drewN _ _ _) (congrArg (World.drewN _) (Nat.add_assoc _ _ _))⟩))))
     go_roundg k1
     case measure => have := HK1.out; omega
     case rel => exact ⟨(x4_1), (x5_1), (wrap64 (x6_1 + 1)), xr, xr, xr, H', ⟨by have := HK1.out; omega⟩, ⟨xk BK728.out⟩, ⟨xs HB.out GE728.out⟩⟩
   ·rw [if_neg c3] at H
    have c3b0 := decide_eq_false c3
    clear c3
    simp only [Option.some.injEq, Prod.mk.injEq] at H
    obtain ⟨rfl, rfl⟩ := H
    have hcz11_0 : wr.cell? ⟨gb728, 0, none⟩ = some (.slice A0_0 l0_0.length c0_0) := (blk_cell BK728.out 0).trans rfl
    have hcz11_1 : wr.cell? ⟨gb728, 1, none⟩ = some (.slice A0_1 l0_1.length c0_1) := (blk_cell BK728.out 1).trans rfl
    have hfz11_0 := blk_frozen BK728.out 0
    have hfz11_1 := blk_frozen BK728.out 1
    go_wp2
    repeat (go_quiet (fail); try go_wp2)
    go_ret2
    exact ⟨xe, xs HB.out GE728.out⟩

end Go.Proofs.YtopmggldaicpaacGreat.PFnKronecker
