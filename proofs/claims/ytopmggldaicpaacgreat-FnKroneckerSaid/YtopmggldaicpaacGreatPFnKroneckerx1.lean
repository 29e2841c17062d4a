import Derived.Test.YtopmggldaicpaacGreatPFnKroneckerx0
namespace Go.Proofs.YtopmggldaicpaacGreat.PFnKronecker
open Go.RowKit Go.Proofs.YtopmggldaicpaacGreatW.PrintWords Go.Proofs.YtopmggldaicpaacGreatW.PrintLast Go.Proofs.YtopmggldaicpaacGreatW.PrintMore
set_option linter.unusedVariables false
set_option linter.unusedSimpArgs false
set_option maxHeartbeats 8000000
set_option maxRecDepth 100000
/-! ### laws_big: function 4 -/
def laws_big.f (l0 : List Int) : Option (Bool) := some (decide ((l0.length : Int) > 1048576))
theorem laws_big.calls (A0 : Option Addr) (c0 : Nat) (l0 : List Int) (r : Bool) (w : World) (hr0 : Kd.C (Kd.int .u8) w A0 l0.length l0) (hc0 : l0.length ≤ c0) (h : laws_big.f l0 = some r) :
  Calls Tryz.prog 4 #[.slice A0 l0.length c0] w fun e w' => e = .returned (.bool r) ∧ Drawn0 w w' := by
 have HR0 := ax hr0
 have HC0 := ax hc0
 clear hr0 hc0
 have H : (some (decide ((l0.length : Int) > 1048576))) = some r := h
 clear h
 obtain rfl := Option.some.inj H
 go_enter Tryz.func4, Tryz.ntmps4
 go_wp2
 go_ret
 exact ⟨by first | rfl | (simp; done) | (simp [*]; done), by repeat (first | exact Drawn0.refl _ | apply Drawn0.step)⟩

/-! ### spec_l1Min: function 63 -/
def spec_l1Min.f (a0 : Int) (a1 : Int) : Option (Int) := if a0 < a1 then (some a0) else (some a1)
theorem spec_l1Min.calls (a0 : Int) (a1 : Int) (r : Int) (w : World) (h : spec_l1Min.f a0 a1 = some r) :
  Calls Tryz.prog 63 #[.int .i64 a0, .int .i64 a1] w fun e w' => e = .returned (.int .i64 r) ∧ Drawn0 w w' := by
 have H : (if a0 < a1 then (some a0) else (some a1)) = some r := h
 clear h
 by_cases c3 : a0 < a1
 ·rw [if_pos c3] at H
  have c3b0 := decide_eq_true c3
  clear c3
  obtain rfl := Option.some.inj H
  go_enter Tryz.func63, Tryz.ntmps63
  go_wp2
  go_ret
  exact ⟨by first | rfl | (simp; done) | (simp [*]; done), by repeat (first | exact Drawn0.refl _ | apply Drawn0.step)⟩
 ·rw [if_neg c3] at H
  have c3b0 := decide_eq_false c3
  clear c3
  obtain rfl := Option.some.inj H
  go_enter Tryz.func63, Tryz.ntmps63
  go_wp2
  go_ret
  exact ⟨by first | rfl | (simp; done) | (simp [*]; done), by repeat (first | exact Drawn0.refl _ | apply Drawn0.step)⟩

/-! ### spec_l2All: function 43 -/
mutual
def spec_l2All.l0 : Nat → Int → List (List Int) → Int → Option ((List (List Int)))
 | 0, _, _, _ => none
 | k + 1, x0, x5, x6 => if x6 ≥ 1 then ((spec_l2All.f k (wrap64 (x0 - x6)) x6).bind fun t111 => (spec_l2All.l1 k x0 x5 x6 t111 0)) else (some x5)
def spec_l2All.l1 : Nat → Int → List (List Int) → Int → List (List Int) → Int → Option ((List (List Int)))
 | 0, _, _, _, _, _ => none
 | k + 1, x0, x5, x6, x7, x8 => if x8 < (x7.length : Int) then ((some (([x6] : List Int) : List Int)).bind fun y114 => (if 0 ≤ x8 then (if y114.length + (rd_L2 x7 x8).length < 17592186044416 then (if x5.length < 5864062014805 then (spec_l2All.l1 k x0 (x5 ++ [(y114 ++ (rd_L2 x7 x8))]) x6 x7 (wrap64 (x8 + 1))) else (none)) else (none)) else (none))) else (spec_l2All.l0 k x0 x5 (wrap64 (x6 - 1)))
def spec_l2All.f : Nat → Int → Int → Option ((List (List Int)))
 | 0, _, _ => none
 | k + 1, a0, a1 => (some (([] : List (List Int)) : List (List Int))).bind fun y101 => (if a0 = 0 then (if y101.length < 5864062014805 then (some (y101 ++ [(([] : List Int))])) else (none)) else ((spec_l1Min.f a0 a1).bind fun t110 => (spec_l2All.l0 k a0 y101 t110)))
end
theorem spec_l2All.mono_l : ∀ k, (∀ y0 y1, LeO (spec_l2All.f k y0 y1) (spec_l2All.f (k + 1) y0 y1)) ∧ (∀ y0 y1 y2, LeO (spec_l2All.l0 k y0 y1 y2) (spec_l2All.l0 (k + 1) y0 y1 y2)) ∧ (∀ y0 y1 y2 y3 y4, LeO (spec_l2All.l1 k y0 y1 y2 y3 y4) (spec_l2All.l1 (k + 1) y0 y1 y2 y3 y4))
 | 0 => ⟨fun _ _ r h => by simp [spec_l2All.f] at h, fun _ _ _ r h => by simp [spec_l2All.l0] at h, fun _ _ _ _ _ r h => by simp [spec_l2All.l1] at h⟩
 | k + 1 => by
  obtain ⟨ih0, ih1, ih2⟩ := spec_l2All.mono_l k
  refine ⟨?_, ?_, ?_⟩
  ·intro y0 y1
   unfold spec_l2All.f
   repeat' with_reducible first | exact ih0 _ _ | exact ih1 _ _ _ | exact ih2 _ _ _ _ _ | exact xl | refine LeO.ite ?_ ?_ | refine LeO.bind ?_ fun _ => ?_
  ·intro y0 y1 y2
   unfold spec_l2All.l0
   repeat' with_reducible first | exact ih0 _ _ | exact ih1 _ _ _ | exact ih2 _ _ _ _ _ | exact xl | refine LeO.ite ?_ ?_ | refine LeO.bind ?_ fun _ => ?_
  ·intro y0 y1 y2 y3 y4
   unfold spec_l2All.l1
   repeat' with_reducible first | exact ih0 _ _ | exact ih1 _ _ _ | exact ih2 _ _ _ _ _ | exact xl | refine LeO.ite ?_ ?_ | refine LeO.bind ?_ fun _ => ?_
theorem spec_l2All.mono : ∀ a0 a1 k, LeO (spec_l2All.f k a0 a1) (spec_l2All.f (k + 1) a0 a1) := by
 intro a0 a1 k
 obtain ⟨ih0, ih1, ih2⟩ := spec_l2All.mono_l k
 exact ih0 a0 a1
theorem spec_l2All.calls (k : Nat) : ∀ (a0 : Int) (a1 : Int) (r : List (List Int)) (w : World) (h : spec_l2All.f k a0 a1 = some r),
  Calls Tryz.prog 43 #[.int .i64 a0, .int .i64 a1] w fun e w' => ∃ v0_ : Value, e = .returned (v0_) ∧ Kd.S (Kd.slice 3 (Kd.int .i64)) 24 w' w.heap.size (fun _ => True) v0_ r ∧ Below w.heap.size w w' := by
 induction k using Nat.strongRecOn with
 | _ k ih =>
 intro a0 a1 r w h
 cases k with
 | zero => exact absurd h (by simp [spec_l2All.f])
 | succ k =>
 simp only [spec_l2All.f] at h
 have HB := ax (Below.refl w.heap.size w)
 have H : ((some (([] : List (List Int)) : List (List Int))).bind fun y101 => (if a0 = 0 then (if y101.length < 5864062014805 then (some (y101 ++ [(([] : List Int))])) else (none)) else ((spec_l1Min.f a0 a1).bind fun t110 => (spec_l2All.l0 k a0 y101 t110)))) = some r := h
 clear h
 obtain ⟨y101, Ny101, H⟩ := xg H
 by_cases c3 : a0 = 0
 ·rw [if_pos c3] at H
  have c3b0 : (a0 == 0) = true := beq_iff_eq.mpr c3
  have c3b1 : (a0 != 0) = false := bne_eq_false_iff_eq.mpr c3
  clear c3
  obtain ⟨y104, hy104⟩ : ∃ y_ : List Int, y_ = (([] : List Int)) := ⟨_, rfl⟩
  replace H : (if y101.length < 5864062014805 then (some (y101 ++ [y104])) else (none)) = some r := xv hy104 H
  have Ny104 := ax hy104
  clear hy104
  obtain ⟨c4, H⟩ := xp H
  have LMc4 := ax c4
  clear c4
  obtain ⟨y107, hy107⟩ : ∃ y_ : List (List Int), y_ = (y101 ++ [y104]) := ⟨_, rfl⟩
  replace H : (some y107) = some r := xv hy107 H
  have Ny107 := ax hy107
  clear hy107
  obtain rfl := Option.some.inj H
  go_enter Tryz.func43, Tryz.ntmps43
  go_wp2_with (first | ((with_reducible refine gate_dst (N := 9) rfl ?_); refine Kd.S_lit (Kd.slice 3 (Kd.int .i64)) _ 24 ?hg (N := 9) ?hd (xs := ([] : List (List Int))) (inner := []) (ok := fun _ => True) (okp := fun _ => True) ?hr ?hp (fun _ hk => hk) trivial (Below.refl _ _) (Nat.le_refl _) (by simp) ?_; (case hd => rfl); (case hg => rfl); (case hr => first | (go_simp; done) | (go_simp; rfl)); (case hp => exact (Reps.none _ _)); intro v102 w5 ho6 hb hg_ hnew_; clear hg_ hnew_; (first | rw [← Ny101.out] at ho6 | (simp only [Int.reduceToNat] at ho6; rw [← Ny101.out] at ho6)); have HO103 := ax (Kd.S_lower ho6 (below_size (xb HB.out))); replace HB := yB HB hb; clear hb ho6) | ((with_reducible refine gate_dst (N := 13) rfl ?_); refine Kd.R_lit (Kd.int .i64) _ 3 ?hg (N := 13) ?hd (xs := ([] : List Int)) (inner := []) (ok := fun _ => True) (okp := fun _ => True) ?hr ?hp (fun _ hk => hk) trivial (Below.refl _ _) (Nat.le_refl _) (by simp) ?_; (case hd => rfl); (case hg => rfl); (case hr => first | (go_simp; done) | (go_simp; rfl)); (case hp => exact (Reps.none _ _)); intro v105 w7 ho8 hb hg_ hnew_; clear hg_ hnew_; (first | rw [← Ny104.out] at ho8 | (simp only [Int.reduceToNat] at ho8; rw [← Ny104.out] at ho8)); replace HO103 := ax (Kd.S_elder' (xS HO103.out) (Kd.R_base ho8) hb); have HO106 := ax (Kd.R_lower ho8 (below_size (xb HB.out))); replace HB := yB HB hb; clear hb ho8; obtain ⟨Ao10, co10, eo10⟩ := Kd.R_slice HO106.out; subst eo10) | ((with_reducible refine gate_builtin (b := .append) (xs := #[.tmp 12, .tmp 14]) rfl ?_); at_builtin; refine Kd.S_append (Kd.slice 3 (Kd.int .i64)) (w0 := w) w.heap.size rfl (.tmp 12) (.tmp 14) 36 24 (.slice none 0 0) 24 rfl Tryz.underlying36 info24 rfl (by decide) (by omega) v102 y101 y104 [.slice Ao10 y104.length co10] (fun _ => True) (fun k_ => some k_ = (.slice Ao10 y104.length co10 : Value).ownBlock) rfl rfl ?aP (fun k_ hk_ => ((Kd.R_mono (ok' := fun k_ => ((fun _ => True)) k_ ∧ some k_ ≠ (v102 : Value).ownBlock) (Kd.R_apart' (HO106.out) (Kd.S_typed HO103.out) (by decide)) (fun k_ hk => ⟨trivial, hk.2⟩))).1 k_ hk_.symm) ?aF ?aO ?aB ?aS ?aL ?_; (case aP => exact Kd.M_row (Kd.R_mono (Kd.R_tight rfl (Kd.R_mono (ok' := fun k_ => ((fun _ => True)) k_ ∧ some k_ ≠ (v102 : Value).ownBlock) (Kd.R_apart' (HO106.out) (Kd.S_typed HO103.out) (by decide)) (fun k_ hk => ⟨trivial, hk.2⟩))) (fun _ h_ => h_))); (case aB => exact (xb HB.out)); (case aF => exact (fun _ _ => trivial)); (case aO => exact (by (with_reducible repeat (first | apply Kd.S_alloc | apply Kd.S_drewN | apply Kd.S_drew)); exact Kd.S_mono HO103.out (fun k_ hk => ⟨trivial, fun e_ => hk.2 e_⟩))); (case aS => exact (below_size (xb HB.out))); (case aL => have := LMc4.out; omega); intro v108 w9 ho hb hg hat; rw [← Ny107.out] at ho; have n0_ := ax (hb); have n1_ := ax (ho); clear HB; clear HO103; clear HO106; have HB := n0_; have HO109 := n1_; clear n0_ n1_; clear ho hb hg hat))
  go_ret
  exact ⟨_, xe, xS HO109.out, xb HB.out⟩
 ·rw [if_neg c3] at H
  have c3b0 : (a0 == 0) = false := beq_eq_false_iff_ne.mpr c3
  have c3b1 : (a0 != 0) = true := bne_iff_ne.mpr c3
  obtain ⟨t110, A11, H⟩ := xI H
  have H' := ax H
  clear H
  go_enter Tryz.func43, Tryz.ntmps43
  go_wp2_with (first | ((with_reducible refine gate_dst (N := 9) rfl ?_); refine Kd.S_lit (Kd.slice 3 (Kd.int .i64)) _ 24 ?hg (N := 9) ?hd (xs := ([] : List (List Int))) (inner := []) (ok := fun _ => True) (okp := fun _ => True) ?hr ?hp (fun _ hk => hk) trivial (Below.refl _ _) (Nat.le_refl _) (by simp) ?_; (case hd => rfl); (case hg => rfl); (case hr => first | (go_simp; done) | (go_simp; rfl)); (case hp => exact (Reps.none _ _)); intro v102 w12 ho13 hb hg_ hnew_; clear hg_ hnew_; (first | rw [← Ny101.out] at ho13 | (simp only [Int.reduceToNat] at ho13; rw [← Ny101.out] at ho13)); have HO103 := ax (Kd.S_lower ho13 (below_size (xb HB.out))); replace HB := yB HB hb; clear hb ho13) | ((with_reducible refine gate_callee (f := 63) rfl ?_); refine goesL_ (some 18) rfl rfl Tryz.func63 (by kernel_rfl) rfl #[.int .i64 a0, .int .i64 a1] rfl xm ?_; (with_reducible refine (spec_l1Min.calls a0 a1 t110 _ A11.out).mono ?_); rintro e w' ⟨rfl, ⟨nd, rfl⟩⟩; refine ⟨_, rfl, ?_⟩))
  go_loopg [5, 6] k (fun kq v5 v6 w' => ∃ (x5_1 : List (List Int)) (x6_1 : Int), v6 = .int .i64 x6_1 ∧ Aside0 (spec_l2All.l0 kq a0 x5_1 x6_1 = some r) ∧ Aside0 (kq ≤ k) ∧ Aside0 (Kd.S (Kd.slice 3 (Kd.int .i64)) 24 w' w.heap.size (fun _ => True) v5 x5_1) ∧ Aside0 (Below w.heap.size w w'))
  case atStart => exact ⟨(y101), (t110), xr, H', ⟨Nat.le_refl _⟩, ⟨xS HO103.out⟩, ⟨xb HB.out⟩⟩
  case round =>
   clear H'
   (try clear c3); (try clear c3b0); (try clear c3b1); (try clear c4)
   obtain ⟨x5_1, x6_1, rfl, HA, HK1, HO_5, HB⟩ := hrel
   cases gk with
   | zero => exact absurd HA.out (by simp [spec_l2All.l0])
   | succ k1 =>
    have H := HA.out
    clear HA
    simp only [spec_l2All.l0] at H
    by_cases c14 : x6_1 ≥ 1
    ·rw [if_pos c14] at H
     have c14b0 : decide (1 ≤ x6_1) = true := decide_eq_true c14
     clear c14
     obtain ⟨t111, A15, H⟩ := xI H
     have H' := ax H
     clear H
     go_wp2_with (first | ((with_reducible refine gate_callee (f := 43) rfl ?_); refine goesL_ (some 27) rfl rfl Tryz.func43 (by kernel_rfl) rfl #[.int .i64 (wrap64 (a0 - x6_1)), .int .i64 x6_1] rfl xm ?_; (with_reducible refine (ih k1 (by have := HK1.out; omega) (wrap64 (a0 - x6_1)) x6_1 t111 _ A15.out).mono ?_); rintro e w16 ⟨v112, rfl, ho0, hb⟩; refine ⟨_, rfl, ?_⟩; have HO113 := ax (Kd.S_lower (Kd.S_new' ho0 (Kd.S_lt (xS HO_5.out))) (below_size (xb HB.out))); replace HO_5 := ax (Kd.S_elder' (xS HO_5.out) (Kd.S_base ho0) hb); replace HB := yB HB hb; (try clear hb); (try clear ho0)))
     go_loopg [5, 8] k1 (fun kq v5 v8 w' => ∃ (x5_2 : List (List Int)) (x8_2 : Int), v8 = .int .i64 x8_2 ∧ Aside0 (spec_l2All.l1 kq a0 x5_2 x6_1 t111 x8_2 = some r) ∧ Aside0 (kq ≤ k1) ∧ Aside0 (Kd.S (Kd.slice 3 (Kd.int .i64)) 24 w' w.heap.size (fun k_ => some k_ ≠ (v112 : Value).ownBlock) v5 x5_2) ∧ Aside0 (Kd.S (Kd.slice 3 (Kd.int .i64)) 24 w' w.heap.size (fun k_ => some k_ ≠ (v5 : Value).ownBlock) v112 t111) ∧ Aside0 (Below w.heap.size w w'))
     case atStart => exact ⟨(x5_1), (0), xr, H', ⟨Nat.le_refl _⟩, ⟨by (with_reducible repeat (first | apply Kd.S_alloc | apply Kd.S_drewN | apply Kd.S_drew)); exact Kd.S_mono HO_5.out (fun _ hk => hk.2)⟩, ⟨by (with_reducible repeat (first | apply Kd.S_alloc | apply Kd.S_drewN | apply Kd.S_drew)); exact Kd.S_mono HO113.out (fun _ hk => hk.2)⟩, ⟨xb HB.out⟩⟩
     case round =>
      clear H'
      (try clear c3); (try clear c3b0); (try clear c3b1); (try clear c4); (try clear c14); (try clear c14b0)
      obtain ⟨x5_2, x8_2, rfl, HA, HK2, HO_5, HO_7, HB⟩ := hrel
      cases gk with
      | zero => exact absurd HA.out (by simp [spec_l2All.l1])
      | succ k2 =>
       have H := HA.out
       clear HA
       simp only [spec_l2All.l1] at H
       by_cases c17 : x8_2 < (t111.length : Int)
       ·rw [if_pos c17] at H
        have c17b0 := decide_eq_true c17
        clear c17
        obtain ⟨y114, Ny114, H⟩ := xg H
        obtain ⟨c18b0, H⟩ := xq H
        obtain ⟨c19, H⟩ := xp H
        have LMc19 := ax c19
        clear c19
        obtain ⟨y118, hy118⟩ : ∃ y_ : List Int, y_ = (y114 ++ (rd_L2 t111 x8_2)) := ⟨_, rfl⟩
        replace H : (if x5_2.length < 5864062014805 then (spec_l2All.l1 k2 a0 (x5_2 ++ [y118]) x6_1 t111 (wrap64 (x8_2 + 1))) else (none)) = some r := xv hy118 H
        have Ny118 := ax hy118
        clear hy118
        obtain ⟨c20, H⟩ := xp H
        have LMc20 := ax c20
        clear c20
        obtain ⟨y121, hy121⟩ : ∃ y_ : List (List Int), y_ = (x5_2 ++ [y118]) := ⟨_, rfl⟩
        replace H : (spec_l2All.l1 k2 a0 y121 x6_1 t111 (wrap64 (x8_2 + 1))) = some r := xv hy121 H
        have Ny121 := ax hy121
        clear hy121
        have H' := ax H
        clear H
        obtain ⟨Ao21, co21, eo21⟩ := Kd.S_slice HO_7.out
        subst eo21
        go_wp2_with (first | ((with_reducible refine gate_dst (N := 36) rfl ?_); refine Kd.R_lit (Kd.int .i64) _ 3 ?hg (N := 36) ?hd (xs := ([x6_1] : List Int)) (inner := [.int .i64 x6_1]) (ok := fun _ => True) (okp := fun _ => True) ?hr ?hp (fun _ hk => hk) trivial (Below.refl _ _) (Nat.le_refl _) (by simp) ?_; (case hd => rfl); (case hg => rfl); (case hr => first | (go_simp; done) | (go_simp; rfl)); (case hp => exact (Reps.one (show Kd.M (Kd.int .i64) _ _ _ x6_1 [.int .i64 x6_1] from rfl) (Reps.none _ _))); intro v115 w22 ho23 hb hg_ hnew_; clear hg_ hnew_; (first | rw [← Ny114.out] at ho23 | (simp only [Int.reduceToNat] at ho23; rw [← Ny114.out] at ho23)); replace HO_5 := ax (Kd.S_elder' (xS HO_5.out) (Kd.R_base ho23) hb); replace HO_7 := ax (Kd.S_elder' (xS HO_7.out) (Kd.R_base ho23) hb); have HO116 := ax (Kd.R_lower ho23 (below_size (xb HB.out))); replace HB := yB HB hb; clear hb ho23; have p117 : 0 ≤ (x8_2 : Int) := xd; have q117 : x8_2 < (t111.length : Int) := xd; obtain ⟨ad117, A117_0, c117_0, e117, hx117_0, hl117_0, hi117_0⟩ := at_L2 (Kd.S_reads' HO_7.out).2.2 x8_2 p117 q117; cases e117; obtain ⟨ce117, hce117, hMe117, hcc117⟩ := Kd.S_get HO_7.out [] x8_2 p117 (by first | exact q117 | exact xd | (have e_ := (Kd.S_reads' HO_7.out).1; omega)); obtain ⟨ve117_0, rfl, ge117_0⟩ := hMe117; have hv117_0 := hcc117 0 _ rfl; rw [Nat.add_zero, show ((Kd.slice 3 (Kd.int .i64))).sz = 1 from rfl, Nat.mul_one] at hv117_0; replace hv117_0 := Option.some.inj (hv117_0.symm.trans hx117_0); rw [hv117_0] at ge117_0; have HL117_0 := ax (show Kd.R (Kd.int .i64) 3 _ _ _ _ (rd_L2 t111 x8_2) from ge117_0); clear hv117_0 ge117_0; clear hcc117 hce117; have HR117_0 := ax hi117_0; have HC117_0 := ax hl117_0; clear hi117_0 hl117_0; replace p117 := eq_true p117; replace q117 := eq_true q117) | ((with_reducible refine gate_builtin (b := .append) (xs := #[.tmp 36, .tmp 40]) rfl ?_); at_builtin; refine Kd.R_append_rows (Kd.int .i64) (w0 := w) w.heap.size rfl (.tmp 36) (.tmp 40) 24 3 (.int .i64 0) 8 rfl Tryz.underlying24 info3 rfl (by decide) (by omega) v115 y114 (rd_L2 t111 x8_2) _ _ _ (fun _ => True) (fun _ => False) rfl rfl ?aO ?aR (fun _ _ h => h) (fun _ h => h.elim) ?aF ?aB ?aS ?aL ?_; (case aR => exact xw HR117_0.out); (case aB => exact (xb HB.out)); (case aF => exact (fun _ _ => trivial)); (case aO => exact (xR HO116.out)); (case aS => exact (below_size (xb HB.out))); (case aL => have := LMc19.out; omega); intro v119 w24 ho hb hg hat; rw [← Ny118.out] at ho; have n0_ := ax (Kd.S_after (ok := (fun k_ => some k_ ≠ (.slice (some ad117) t111.length co21 : Value).ownBlock)) (xS HO_5.out) hg hat); have n1_ := ax (Kd.S_after (ok := (fun k_ => some k_ ≠ (u5 : Value).ownBlock)) (xS HO_7.out) hg hat); have n2_ := ax (Kd.R_after (ok := (fun k_ => some k_ ≠ (u5 : Value).ownBlock ∧ some k_ ≠ (.slice (some ad117) t111.length co21 : Value).ownBlock)) (by (with_reducible repeat (first | apply Kd.R_alloc | apply Kd.R_drewN | apply Kd.R_drew)); exact Kd.R_mono HL117_0.out (fun _ hk => ⟨⟨hk.1.1, hk.2⟩, hk.1.2⟩)) hg hat); have n3_ := ax (hb); have n4_ := ax (ho); clear HO_5; clear HO_7; clear HL117_0; clear HB; clear HO116; have HO_5 := n0_; have HO_7 := n1_; have HL117_0 := n2_; have HB := n3_; have HO120 := n4_; clear n0_ n1_ n2_ n3_ n4_; clear ho hb hg hat; obtain ⟨Ao26, co26, eo26⟩ := Kd.R_slice HO120.out; subst eo26) | ((with_reducible refine gate_builtin (b := .append) (xs := #[.tmp 34, .tmp 42]) rfl ?_); at_builtin; refine Kd.S_append (Kd.slice 3 (Kd.int .i64)) (w0 := w) w.heap.size rfl (.tmp 34) (.tmp 42) 36 24 (.slice none 0 0) 24 rfl Tryz.underlying36 info24 rfl (by decide) (by omega) u5 x5_2 y118 [.slice Ao26 y118.length co26] (fun k_ => some k_ ≠ (.slice (some ad117) t111.length co21 : Value).ownBlock) (fun k_ => some k_ = (.slice Ao26 y118.length co26 : Value).ownBlock) rfl rfl ?aP (fun k_ hk_ => ((Kd.R_mono (ok' := fun k_ => ((fun k_ => some k_ ≠ (.slice (some ad117) t111.length co21 : Value).ownBlock)) k_ ∧ some k_ ≠ (u5 : Value).ownBlock) (Kd.R_apart' (Kd.R_apart' (HO120.out) (Kd.S_typed HO_7.out) (by decide)) (Kd.S_typed HO_5.out) (by decide)) (fun k_ hk => ⟨hk.1.2, hk.2⟩))).1 k_ hk_.symm) ?aF ?aO ?aB ?aS ?aL ?_; (case aP => exact Kd.M_row (Kd.R_mono (Kd.R_tight rfl (Kd.R_mono (ok' := fun k_ => ((fun k_ => some k_ ≠ (.slice (some ad117) t111.length co21 : Value).ownBlock)) k_ ∧ some k_ ≠ (u5 : Value).ownBlock) (Kd.R_apart' (Kd.R_apart' (HO120.out) (Kd.S_typed HO_7.out) (by decide)) (Kd.S_typed HO_5.out) (by decide)) (fun k_ hk => ⟨hk.1.2, hk.2⟩))) (fun _ h_ => h_))); (case aB => exact (xb HB.out)); (case aF => exact (fun k_ hk => Kd.fresh' (Kd.S_lt (xS HO_7.out)) k_ hk)); (case aO => exact (by (with_reducible repeat (first | apply Kd.S_alloc | apply Kd.S_drewN | apply Kd.S_drew)); exact Kd.S_mono HO_5.out (fun k_ hk => ⟨hk.1, fun e_ => hk.2 e_⟩))); (case aS => exact (below_size (xb HB.out))); (case aL => have := LMc20.out; omega); intro v122 w25 ho hb hg hat; rw [← Ny121.out] at ho; have n0_ := ax (Kd.S_after (ok := (fun k_ => some k_ ≠ (.slice Ao26 y118.length co26 : Value).ownBlock)) (by (with_reducible repeat (first | apply Kd.S_alloc | apply Kd.S_drewN | apply Kd.S_drew)); exact Kd.S_mono HO_7.out (fun _ hk => ⟨hk.2, hk.1⟩)) hg hat); have n1_ := ax (Kd.R_after (ok := (fun k_ => some k_ ≠ (.slice (some ad117) t111.length co21 : Value).ownBlock ∧ some k_ ≠ (.slice Ao26 y118.length co26 : Value).ownBlock)) (by (with_reducible repeat (first | apply Kd.R_alloc | apply Kd.R_drewN | apply Kd.R_drew)); exact Kd.R_mono HL117_0.out (fun _ hk => ⟨⟨hk.1.2, hk.2⟩, hk.1.1⟩)) hg hat); have n2_ := ax (hb); have n3_ := ax (ho); clear HO_7; clear HL117_0; clear HB; clear HO_5; clear HO120; have HO_7 := n0_; have HL117_0 := n1_; have HB := n2_; have HO123 := n3_; clear n0_ n1_ n2_ n3_; clear ho hb hg hat))
        go_roundg k2
        case measure => have := HK1.out; have := HK2.out; omega
        case rel => exact ⟨(y121), (wrap64 (x8_2 + 1)), xr, H', ⟨by have := HK1.out; have := HK2.out; omega⟩, ⟨xS HO123.out⟩, ⟨by (with_reducible repeat (first | apply Kd.S_alloc | apply Kd.S_drewN | apply Kd.S_drew)); exact Kd.S_mono HO_7.out (fun _ hk => hk.2)⟩, ⟨xb HB.out⟩⟩
       ·rw [if_neg c17] at H
        have c17b0 := decide_eq_false c17
        clear c17
        have H' := ax H
        clear H
        obtain ⟨Ao27, co27, eo27⟩ := Kd.S_slice HO_7.out
        subst eo27
        go_wp2
        go_roundg k2
        case measure => have := HK1.out; have := HK2.out; omega
        case rel => exact ⟨(x5_2), (wrap64 (x6_1 - 1)), xr, H', ⟨by have := HK1.out; have := HK2.out; omega⟩, ⟨by (with_reducible repeat (first | apply Kd.S_alloc | apply Kd.S_drewN | apply Kd.S_drew)); exact Kd.S_mono HO_5.out (fun _ hk => trivial)⟩, ⟨xb HB.out⟩⟩
    ·rw [if_neg c14] at H
     have c14b0 : decide (1 ≤ x6_1) = false := decide_eq_false c14
     clear c14
     obtain rfl := Option.some.inj H
     go_wp2
     go_ret
     exact ⟨_, xe, xS HO_5.out, xb HB.out⟩

/-- A state of type 52 at block g of W; what its slices lead to came in by w0. -/
def IsS52 (w0 W : World) (g : Nat) (f0 : List Int) (f1 : Int) (f2 : Int) : Prop := ∃ A0 c0, W.heap[g]? = some (.cells #[.slice A0 f0.length c0, .int .i64 f1, .int .i64 f2] 52 (0, 0)) ∧ w0.heap.size ≤ g ∧ Kd.C (Kd.int .u8) w0 A0 f0.length f0
theorem IsS52.grown {w0 W : World} {g : Nat} {f0 : List Int} {f1 : Int} {f2 : Int} {W1 : World} {row : Option Nat} (h : IsS52 w0 W g f0 f1 f2) (hw : W.grownBy W1 row) (hne : some g ≠ row) : IsS52 w0 W1 g f0 f1 f2 := by
 obtain ⟨A0, c0, hb, hg, hr0⟩ := h
 exact ⟨A0, c0, blk_grown hb hw hne, hg, hr0⟩
theorem IsS52.own_neN {w0 W : World} {g : Nat} {f0 : List Int} {f1 : Int} {f2 : Int} {α : Type} {d : Kd α} {e : Nat} {base : Nat} {ok : Nat → Prop} {v : Value} {xs : List α} (h : IsS52 w0 W g f0 f1 f2) (ho : Kd.N d e W base ok v xs) (ht : e ≠ 52) : some g ≠ v.ownBlock := by
 obtain ⟨A0, c0, hb, hg, hr0⟩ := h
 exact Kd.N_ne ho hb ht
theorem IsS52.fresh {w0 W : World} {g : Nat} {f0 : List Int} {f1 : Int} {f2 : Int} (h : IsS52 w0 W g f0 f1 f2) : ∀ k, W.heap.size ≤ k → k ≠ g := by
 obtain ⟨A0, c0, hb, hg, hr0⟩ := h
 exact Kd.freshB hb
theorem IsS52.kept {w0 W : World} {g : Nat} {f0 : List Int} {f1 : Int} {f2 : Int} {W1 : World} {S : Nat → Prop} (h : IsS52 w0 W g f0 f1 f2) (hk : Kept W W1 S) (hne : ¬ S g) : IsS52 w0 W1 g f0 f1 f2 := by
 obtain ⟨A0, c0, hb, hg, hr0⟩ := h
 exact ⟨A0, c0, blk_kept hb hk hne, hg, hr0⟩
theorem IsS52.below {w0 W : World} {g : Nat} {f0 : List Int} {f1 : Int} {f2 : Int} {W1 : World} (h : IsS52 w0 W g f0 f1 f2) (hw : Below W.heap.size W W1) : IsS52 w0 W1 g f0 f1 f2 := h.grown (grown_of_below hw none) (by simp)
theorem IsS52.alloc {w0 W : World} {g : Nat} {f0 : List Int} {f1 : Int} {f2 : Int} (h : IsS52 w0 W g f0 f1 f2) (o : Obj) : IsS52 w0 (W.alloc o) g f0 f1 f2 := h.below (below_alloc (Below.refl _ _) o)
theorem IsS52.drewN {w0 W : World} {g : Nat} {f0 : List Int} {f1 : Int} {f2 : Int} (h : IsS52 w0 W g f0 f1 f2) (m : Nat) : IsS52 w0 (W.drewN m) g f0 f1 f2 := h
theorem IsS52.drew {w0 W : World} {g : Nat} {f0 : List Int} {f1 : Int} {f2 : Int} (h : IsS52 w0 W g f0 f1 f2) : IsS52 w0 W.drew g f0 f1 f2 := h
theorem IsS52.at_ {w0 W : World} {g : Nat} {f0 : List Int} {f1 : Int} {f2 : Int} {w' : World} {m : Nat} (hq : W.drewN m = w') (h : IsS52 w0 W g f0 f1 f2) : IsS52 w0 w' g f0 f1 f2 := by subst hq; exact IsS52.drewN h m
theorem IsS52.apart {w0 W : World} {g : Nat} {f0 : List Int} {f1 : Int} {f2 : Int} {α : Type} {d : Kd α} {e : Nat} {base : Nat} {ok : Nat → Prop} {v : Value} {xs : List α} (h : IsS52 w0 W g f0 f1 f2) (ho : d.R e W base ok v xs) (ht : ∀ q, q ∈ e :: d.E → q ≠ 52) : d.R e W base (fun k => ok k ∧ k ≠ g) v xs := by
 obtain ⟨A0, c0, hb, hg, hr0⟩ := h
 exact Kd.R_types ho hb ht
theorem IsS52.own_ne {w0 W : World} {g : Nat} {f0 : List Int} {f1 : Int} {f2 : Int} {α : Type} {d : Kd α} {e : Nat} {base : Nat} {ok : Nat → Prop} {v : Value} {xs : List α} (h : IsS52 w0 W g f0 f1 f2) (ho : d.R e W base ok v xs) (ht : e ≠ 52) : some g ≠ v.ownBlock := by
 obtain ⟨A0, c0, hb, hg, hr0⟩ := h
 exact Kd.R_ne ho hb ht
theorem IsS52.apartQ {w0 W : World} {g : Nat} {f0 : List Int} {f1 : Int} {f2 : Int} {α : Type} {d : Kd α} {e : Nat} {base : Nat} {ok : Nat → Prop} {v : Value} {xs : List α} (h : IsS52 w0 W g f0 f1 f2) (ho : d.Q e W base ok v xs) (ht : ∀ q, q ∈ e :: d.E → q ≠ 52) : d.Q e W base (fun k => ok k ∧ k ≠ g) v xs := by
 obtain ⟨A0, c0, hb, hg, hr0⟩ := h
 exact Kd.Q_types ho hb ht
theorem IsS52.own_neQ {w0 W : World} {g : Nat} {f0 : List Int} {f1 : Int} {f2 : Int} {α : Type} {d : Kd α} {e : Nat} {base : Nat} {ok : Nat → Prop} {v : Value} {xs : List α} (h : IsS52 w0 W g f0 f1 f2) (ho : d.Q e W base ok v xs) (ht : e ≠ 52) : some g ≠ v.ownBlock := by
 obtain ⟨A0, c0, hb, hg, hr0⟩ := h
 exact Kd.Q_ne ho hb ht
theorem IsS52.apartS {w0 W : World} {g : Nat} {f0 : List Int} {f1 : Int} {f2 : Int} {α : Type} {d : Kd α} {e : Nat} {base : Nat} {ok : Nat → Prop} {v : Value} {xs : List α} (h : IsS52 w0 W g f0 f1 f2) (ho : d.S e W base ok v xs) (ht : ∀ q, q ∈ e :: d.E → q ≠ 52) : d.S e W base (fun k => ok k ∧ k ≠ g) v xs := by
 obtain ⟨A0, c0, hb, hg, hr0⟩ := h
 exact Kd.S_types ho hb ht
theorem IsS52.own_neS {w0 W : World} {g : Nat} {f0 : List Int} {f1 : Int} {f2 : Int} {α : Type} {d : Kd α} {e : Nat} {base : Nat} {ok : Nat → Prop} {v : Value} {xs : List α} (h : IsS52 w0 W g f0 f1 f2) (ho : d.S e W base ok v xs) (ht : e ≠ 52) : some g ≠ v.ownBlock := by
 obtain ⟨A0, c0, hb, hg, hr0⟩ := h
 exact Kd.S_ne ho hb ht
theorem IsS52.lt {w0 W : World} {g : Nat} {f0 : List Int} {f1 : Int} {f2 : Int} (h : IsS52 w0 W g f0 f1 f2) : g < W.heap.size := by
 obtain ⟨A0, c0, hb, hg, hr0⟩ := h
 exact blk_lt hb
theorem IsS52.ge {w0 W : World} {g : Nat} {f0 : List Int} {f1 : Int} {f2 : Int} (h : IsS52 w0 W g f0 f1 f2) : w0.heap.size ≤ g := by
 obtain ⟨A0, c0, hb, hg, hr0⟩ := h
 exact hg
theorem IsS52.ne_blk {w0 W : World} {g : Nat} {f0 : List Int} {f1 : Int} {f2 : Int} {a : Nat} {cs : Array Value} {t : TypeId} {fr : Nat × Nat} (h : IsS52 w0 W g f0 f1 f2) (hb2 : W.heap[a]? = some (.cells cs t fr)) (ht : t ≠ 52) : g ≠ a := by
 obtain ⟨A0, c0, hb, hg, hr0⟩ := h
 rintro rfl
 rw [hb] at hb2
 injection hb2 with hb2
 injection hb2 with _ ht2
 exact ht ht2.symm
theorem IsS52.far {w0 W : World} {g : Nat} {f0 : List Int} {f1 : Int} {f2 : Int} {p : Addr} (h : IsS52 w0 W g f0 f1 f2) (hne : g ≠ p.block) (u : Value) : IsS52 w0 (W.setCell p u) g f0 f1 f2 := by
 obtain ⟨A0, c0, hb, hg, hr0⟩ := h
 exact ⟨A0, c0, blk_far hb hne u, hg, hr0⟩
theorem cellS52_0 {W : World} {g : Nat} {A0 : Option Addr} {c0 : Nat} {f0 : List Int} {f1 : Int} {f2 : Int} (h : W.heap[g]? = some (.cells #[.slice A0 f0.length c0, .int .i64 f1, .int .i64 f2] 52 (0, 0))) : W.cell? ⟨g, 0, none⟩ = some (.slice A0 f0.length c0) := (blk_cell h 0).trans rfl
theorem cellS52_1 {W : World} {g : Nat} {A0 : Option Addr} {c0 : Nat} {f0 : List Int} {f1 : Int} {f2 : Int} (h : W.heap[g]? = some (.cells #[.slice A0 f0.length c0, .int .i64 f1, .int .i64 f2] 52 (0, 0))) : W.cell? ⟨g, 1, none⟩ = some (.int .i64 f1) := (blk_cell h 1).trans rfl
theorem IsS52.set_1 {w0 W : World} {g : Nat} {f0 : List Int} {f1 : Int} {f2 : Int} (h : IsS52 w0 W g f0 f1 f2) (x : Int) : IsS52 w0 (W.setCell ⟨g, 1, none⟩ (.int .i64 x)) g f0 x f2 := by
 obtain ⟨A0, c0, hb, hg, hr0⟩ := h
 exact ⟨A0, c0, by simpa using blk_set hb 1 (.int .i64 x), hg, hr0⟩
theorem cellS52_2 {W : World} {g : Nat} {A0 : Option Addr} {c0 : Nat} {f0 : List Int} {f1 : Int} {f2 : Int} (h : W.heap[g]? = some (.cells #[.slice A0 f0.length c0, .int .i64 f1, .int .i64 f2] 52 (0, 0))) : W.cell? ⟨g, 2, none⟩ = some (.int .i64 f2) := (blk_cell h 2).trans rfl
theorem IsS52.set_2 {w0 W : World} {g : Nat} {f0 : List Int} {f1 : Int} {f2 : Int} (h : IsS52 w0 W g f0 f1 f2) (x : Int) : IsS52 w0 (W.setCell ⟨g, 2, none⟩ (.int .i64 x)) g f0 f1 x := by
 obtain ⟨A0, c0, hb, hg, hr0⟩ := h
 exact ⟨A0, c0, by simpa using blk_set hb 2 (.int .i64 x), hg, hr0⟩
theorem IsS52.new (w0 W : World) (A0 : Option Addr) (c0 : Nat) (f0 : List Int) (f1 : Int) (f2 : Int) (hB : Below w0.heap.size w0 W) (hr0 : Kd.C (Kd.int .u8) w0 A0 f0.length f0) : IsS52 w0 (W.alloc (.cells #[.slice A0 f0.length c0, .int .i64 f1, .int .i64 f2] 52)) W.heap.size f0 f1 f2 := ⟨A0, c0, by simpa using heap_alloc_new W _, hB.size, hr0⟩

/-! ### spec_l1Byte: function 64 -/
def spec_l1Byte.f (s0_0 : List Int) (s0_1 : Int) (s0_2 : Int) : Option (Int × Int × Int) := if s0_1 < (s0_0.length : Int) then (if 0 ≤ s0_1 then (some (Go.bits .and .i64 (wrap64 ((Go.bits .and .i64 (Go.bits .xor .i64 ((wrap64 ((wrap64 (s0_2 * 6364136223846793005)) + 1442695040888963407)) / 8589934592) ((wrap64 ((wrap64 (s0_2 * 6364136223846793005)) + 1442695040888963407)) / 35184372088832)) 255) + (wrap64 (rd s0_0 s0_1)))) 255, wrap64 (s0_1 + 1), wrap64 ((wrap64 (s0_2 * 6364136223846793005)) + 1442695040888963407))) else (none)) else (some (Go.bits .and .i64 (Go.bits .xor .i64 ((wrap64 ((wrap64 (s0_2 * 6364136223846793005)) + 1442695040888963407)) / 8589934592) ((wrap64 ((wrap64 (s0_2 * 6364136223846793005)) + 1442695040888963407)) / 35184372088832)) 255, s0_1, wrap64 ((wrap64 (s0_2 * 6364136223846793005)) + 1442695040888963407)))
theorem spec_l1Byte.calls (g : Nat) (s0_0 : List Int) (s0_1 : Int) (s0_2 : Int) (r1 : Int) (r2 : Int) (r3 : Int) (w0 w : World) (hI : IsS52 w0 w g s0_0 s0_1 s0_2) (hB : Below w0.heap.size w0 w) (h : spec_l1Byte.f s0_0 s0_1 s0_2 = some (r1, r2, r3)) :
  Calls Tryz.prog 64 #[.pointer (some ⟨g, 0, none⟩)] w fun e w' => e = .returned (.int .i64 r1) ∧ IsS52 w0 w' g s0_0 r2 r3 ∧ Below w0.heap.size w0 w' ∧ KeepBut w w' g none := by
 have HI0 := ax hI
 have HK := ax (KeepBut.refl w g none)
 have HL := ax hB.size
 clear hI
 have HW0 := ax hB.size
 have HB := ax hB
 clear hB
 have H : (if s0_1 < (s0_0.length : Int) then (if 0 ≤ s0_1 then (some (Go.bits .and .i64 (wrap64 ((Go.bits .and .i64 (Go.bits .xor .i64 ((wrap64 ((wrap64 (s0_2 * 6364136223846793005)) + 1442695040888963407)) / 8589934592) ((wrap64 ((wrap64 (s0_2 * 6364136223846793005)) + 1442695040888963407)) / 35184372088832)) 255) + (wrap64 (rd s0_0 s0_1)))) 255, wrap64 (s0_1 + 1), wrap64 ((wrap64 (s0_2 * 6364136223846793005)) + 1442695040888963407))) else (none)) else (some (Go.bits .and .i64 (Go.bits .xor .i64 ((wrap64 ((wrap64 (s0_2 * 6364136223846793005)) + 1442695040888963407)) / 8589934592) ((wrap64 ((wrap64 (s0_2 * 6364136223846793005)) + 1442695040888963407)) / 35184372088832)) 255, s0_1, wrap64 ((wrap64 (s0_2 * 6364136223846793005)) + 1442695040888963407)))) = some (r1, r2, r3) := h
 clear h
 by_cases c2 : s0_1 < (s0_0.length : Int)
 ·rw [if_pos c2] at H
  have c2b0 := decide_eq_true c2
  clear c2
  obtain ⟨c3b0, H⟩ := xq H
  simp only [Option.some.injEq, Prod.mk.injEq] at H
  obtain ⟨rfl, rfl, rfl⟩ := H
  obtain ⟨ASz4_0, cSz4_0, HGz4, hgz4, HSz4_0⟩ := HI0.out
  have hcz4_0 := cellS52_0 HGz4
  have hcz4_1 := cellS52_1 HGz4
  have hcz4_2 := cellS52_2 HGz4
  have hfz4_1 := blk_frozen HGz4 1
  have hfz4_2 := blk_frozen HGz4 2
  clear HGz4 hgz4
  have p124 : 0 ≤ (s0_1 : Int) := xd
  have q124 : s0_1 < (s0_0.length : Int) := xd
  obtain ⟨ad124, e124, hx124_0⟩ := Kd.at_int HSz4_0 s0_1 p124 q124
  cases e124
  have hn124_0 : ad124.block ≠ g := Nat.ne_of_lt (Nat.lt_of_lt_of_le (by have := World.block_lt_of_cell? _ _ hx124_0; first | rwa [add_block] at this | exact this) (IsS52.ge HI0.out))
  replace hx124_0 := pw_cell_below HB.out hx124_0
  replace hx124_0 := (cell_far (p := ⟨g, 2, none⟩) (by first | (rw [add_block]; exact hn124_0) | (show (Addr.add _ _).block ≠ _; rw [add_block]; exact hn124_0) | exact hn124_0) (.int .i64 (wrap64 ((wrap64 (s0_2 * 6364136223846793005)) + 1442695040888963407)))).trans hx124_0
  (try have hy124_0 := fun (n_ : Nat) => (show (((w.drewN n_).setCell ⟨g, 2, none⟩ (.int .i64 (wrap64 ((wrap64 (s0_2 * 6364136223846793005)) + 1442695040888963407))))).cell? _ = some _ from hx124_0))
  clear hn124_0
  replace p124 := eq_true p124
  replace q124 := eq_true q124
  go_enter Tryz.func64, Tryz.ntmps64
  go_wp2
  repeat (go_quiet (fail); try go_wp2)
  go_ret
  exact ⟨xe, xt52 HI0.out, xs HB.out (IsS52.ge HI0.out), xh HK.out⟩
 ·rw [if_neg c2] at H
  have c2b0 := decide_eq_false c2
  clear c2
  simp only [Option.some.injEq, Prod.mk.injEq] at H
  obtain ⟨rfl, rfl, rfl⟩ := H
  obtain ⟨ASz5_0, cSz5_0, HGz5, hgz5, HSz5_0⟩ := HI0.out
  have hcz5_0 := cellS52_0 HGz5
  have hcz5_1 := cellS52_1 HGz5
  have hcz5_2 := cellS52_2 HGz5
  have hfz5_1 := blk_frozen HGz5 1
  have hfz5_2 := blk_frozen HGz5 2
  clear HGz5 hgz5
  go_enter Tryz.func64, Tryz.ntmps64
  go_wp2
  repeat (go_quiet (fail); try go_wp2)
  go_ret
  exact ⟨xe, xt52 HI0.out, xs HB.out (IsS52.ge HI0.out), xh HK.out⟩

/-! ### spec_l1Below: function 45 -/
def spec_l1Below.f (s0_0 : List Int) (s0_1 : Int) (s0_2 : Int) (a1 : Int) : Option (Int × Int × Int) := if a1 ≤ 0 then (some (0, s0_1, s0_2)) else (if a1 ≤ 256 then ((spec_l1Byte.f s0_0 s0_1 s0_2).bind fun bt125 => (if a1 = 0 then (none) else (some (Int.tmod bt125.1 a1, bt125.2.1, bt125.2.2)))) else ((spec_l1Byte.f s0_0 s0_1 s0_2).bind fun bt128 => ((spec_l1Byte.f s0_0 bt128.2.1 bt128.2.2).bind fun bt131 => ((spec_l1Byte.f s0_0 bt131.2.1 bt131.2.2).bind fun bt134 => ((spec_l1Byte.f s0_0 bt134.2.1 bt134.2.2).bind fun bt137 => (if a1 = 0 then (none) else (some (Int.tmod (wrap64 ((wrap64 ((wrap64 ((wrap64 (bt128.1 * 16777216)) + (wrap64 (bt131.1 * 65536)))) + (wrap64 (bt134.1 * 256)))) + bt137.1)) a1, bt137.2.1, bt137.2.2))))))))
theorem spec_l1Below.calls (g : Nat) (s0_0 : List Int) (s0_1 : Int) (s0_2 : Int) (a1 : Int) (r1 : Int) (r2 : Int) (r3 : Int) (w0 w : World) (hI : IsS52 w0 w g s0_0 s0_1 s0_2) (hB : Below w0.heap.size w0 w) (h : spec_l1Below.f s0_0 s0_1 s0_2 a1 = some (r1, r2, r3)) :
  Calls Tryz.prog 45 #[.pointer (some ⟨g, 0, none⟩), .int .i64 a1] w fun e w' => e = .returned (.int .i64 r1) ∧ IsS52 w0 w' g s0_0 r2 r3 ∧ Below w0.heap.size w0 w' ∧ KeepBut w w' g none := by
 have HI0 := ax hI
 have HK := ax (KeepBut.refl w g none)
 have HL := ax hB.size
 clear hI
 have HW0 := ax hB.size
 have HB := ax hB
 clear hB
 have H : (if a1 ≤ 0 then (some (0, s0_1, s0_2)) else (if a1 ≤ 256 then ((spec_l1Byte.f s0_0 s0_1 s0_2).bind fun bt125 => (if a1 = 0 then (none) else (some (Int.tmod bt125.1 a1, bt125.2.1, bt125.2.2)))) else ((spec_l1Byte.f s0_0 s0_1 s0_2).bind fun bt128 => ((spec_l1Byte.f s0_0 bt128.2.1 bt128.2.2).bind fun bt131 => ((spec_l1Byte.f s0_0 bt131.2.1 bt131.2.2).bind fun bt134 => ((spec_l1Byte.f s0_0 bt134.2.1 bt134.2.2).bind fun bt137 => (if a1 = 0 then (none) else (some (Int.tmod (wrap64 ((wrap64 ((wrap64 ((wrap64 (bt128.1 * 16777216)) + (wrap64 (bt131.1 * 65536)))) + (wrap64 (bt134.1 * 256)))) + bt137.1)) a1, bt137.2.1, bt137.2.2))))))))) = some (r1, r2, r3) := h
 clear h
 by_cases c3 : a1 ≤ 0
 ·rw [if_pos c3] at H
  have c3b0 := decide_eq_true c3
  clear c3
  simp only [Option.some.injEq, Prod.mk.injEq] at H
  obtain ⟨rfl, rfl, rfl⟩ := H
  go_enter Tryz.func45, Tryz.ntmps45
  go_wp2
  go_ret
  exact ⟨xe, xt52 HI0.out, xs HB.out (IsS52.ge HI0.out), xh HK.out⟩
 ·rw [if_neg c3] at H
  have c3b0 := decide_eq_false c3
  clear c3
  by_cases c4 : a1 ≤ 256
  ·rw [if_pos c4] at H
   have c4b0 := decide_eq_true c4
   clear c4
   obtain ⟨⟨t125, t126, t127⟩, A5, H⟩ := xI H
   dsimp only at H
   by_cases c6 : a1 = 0
   ·rw [if_pos c6] at H
    exact absurd H (by simp)
   ·rw [if_neg c6] at H
    have c6b0 : (a1 == 0) = false := beq_eq_false_iff_ne.mpr c6
    have c6b1 : (a1 != 0) = true := bne_iff_ne.mpr c6
    simp only [Option.some.injEq, Prod.mk.injEq] at H
    obtain ⟨rfl, rfl, rfl⟩ := H
    go_enter Tryz.func45, Tryz.ntmps45
    go_wp2_with (first | ((with_reducible refine gate_callee (f := 64) rfl ?_); refine goesL_ (some 14) rfl rfl Tryz.func64 (by kernel_rfl) rfl #[.pointer (some ⟨g, 0, none⟩)] rfl xm ?_; (with_reducible refine (spec_l1Byte.calls g s0_0 s0_1 s0_2 t125 t126 t127 w0 _ ?side1 ?side2 A5.out).mono ?_); (case side1 => exact xt52 HI0.out); (case side2 => exact xs HB.out (IsS52.ge HI0.out)); rintro e w7 ⟨rfl, hi, hb, hk⟩; refine ⟨_, rfl, ?_⟩; replace HK := ax (KeepBut.trans (xh HK.out) hk (.inl rfl)); replace HB := ax (hb); replace HI0 := ax (hi); (try clear hb); (try clear hk); (try clear hi)))
    go_ret
    exact ⟨xe, xt52 HI0.out, xs HB.out (IsS52.ge HI0.out), xh HK.out⟩
  ·rw [if_neg c4] at H
   have c4b0 := decide_eq_false c4
   clear c4
   obtain ⟨⟨t128, t129, t130⟩, A8, H⟩ := xI H
   dsimp only at H
   obtain ⟨⟨t131, t132, t133⟩, A9, H⟩ := xI H
   dsimp only at H
   obtain ⟨⟨t134, t135, t136⟩, A10, H⟩ := xI H
   dsimp only at H
   obtain ⟨⟨t137, t138, t139⟩, A11, H⟩ := xI H
   dsimp only at H
   by_cases c12 : a1 = 0
   ·rw [if_pos c12] at H
    exact absurd H (by simp)
   ·rw [if_neg c12] at H
    have c12b0 : (a1 == 0) = false := beq_eq_false_iff_ne.mpr c12
    have c12b1 : (a1 != 0) = true := bne_iff_ne.mpr c12
    simp only [Option.some.injEq, Prod.mk.injEq] at H
    obtain ⟨rfl, rfl, rfl⟩ := H
    go_enter Tryz.func45, Tryz.ntmps45
    go_wp2_with (first | ((with_reducible refine gate_callee (f := 64) rfl ?_); refine goesL_ (some 18) rfl rfl Tryz.func64 (by kernel_rfl) rfl #[.pointer (some ⟨g, 0, none⟩)] rfl xm ?_; (with_reducible refine (spec_l1Byte.calls g s0_0 s0_1 s0_2 t128 t129 t130 w0 _ ?side1 ?side2 A8.out).mono ?_); (case side1 => exact xt52 HI0.out); (case side2 => exact xs HB.out (IsS52.ge HI0.out)); rintro e w13 ⟨rfl, hi, hb, hk⟩; refine ⟨_, rfl, ?_⟩; replace HK := ax (KeepBut.trans (xh HK.out) hk (.inl rfl)); replace HB := ax (hb); replace HI0 := ax (hi); (try clear hb); (try clear hk); (try clear hi)) | ((with_reducible refine gate_callee (f := 64) rfl ?_); refine goesL_ (some 20) rfl rfl Tryz.func64 (by kernel_rfl) rfl #[.pointer (some ⟨g, 0, none⟩)] rfl xm ?_; (with_reducible refine (spec_l1Byte.calls g s0_0 t129 t130 t131 t132 t133 w0 _ ?side1 ?side2 A9.out).mono ?_); (case side1 => exact xt52 HI0.out); (case side2 => exact xs HB.out (IsS52.ge HI0.out)); rintro e w14 ⟨rfl, hi, hb, hk⟩; refine ⟨_, rfl, ?_⟩; replace HK := ax (KeepBut.trans (xh HK.out) hk (.inl rfl)); replace HB := ax (hb); replace HI0 := ax (hi); (try clear hb); (try clear hk); (try clear hi)) | ((with_reducible refine gate_callee (f := 64) rfl ?_); refine goesL_ (some 22) rfl rfl Tryz.func64 (by kernel_rfl) rfl #[.pointer (some ⟨g, 0, none⟩)] rfl xm ?_; (with_reducible refine (spec_l1Byte.calls g s0_0 t132 t133 t134 t135 t136 w0 _ ?side1 ?side2 A10.out).mono ?_); (case side1 => exact xt52 HI0.out); (case side2 => exact xs HB.out (IsS52.ge HI0.out)); rintro e w15 ⟨rfl, hi, hb, hk⟩; refine ⟨_, rfl, ?_⟩; replace HK := ax (KeepBut.trans (xh HK.out) hk (.inl rfl)); replace HB := ax (hb); replace HI0 := ax (hi); (try clear hb); (try clear hk); (try clear hi)) | ((with_reducible refine gate_callee (f := 64) rfl ?_); refine goesL_ (some 24) rfl rfl Tryz.func64 (by kernel_rfl) rfl #[.pointer (some ⟨g, 0, none⟩)] rfl xm ?_; (with_reducible refine (spec_l1Byte.calls g s0_0 t135 t136 t137 t138 t139 w0 _ ?side1 ?side2 A11.out).mono ?_); (case side1 => exact xt52 HI0.out); (case side2 => exact xs HB.out (IsS52.ge HI0.out)); rintro e w16 ⟨rfl, hi, hb, hk⟩; refine ⟨_, rfl, ?_⟩; replace HK := ax (KeepBut.trans (xh HK.out) hk (.inl rfl)); replace HB := ax (hb); replace HI0 := ax (hi); (try clear hb); (try clear hk); (try clear hi)))
    go_ret
    exact ⟨xe, xt52 HI0.out, xs HB.out (IsS52.ge HI0.out), xh HK.out⟩

/-! ### spec_l2Draw: function 44 -/
def spec_l2Draw.f (k : Nat) (s0_0 : List Int) (s0_1 : Int) (s0_2 : Int) (a1 : Int) : Option (List Int × Int × Int) := (spec_l1Below.f s0_0 s0_1 s0_2 (wrap64 (a1 + 1))).bind fun bt140 => ((spec_l2All.f k bt140.1 a1).bind fun t143 => ((spec_l1Below.f s0_0 bt140.2.1 bt140.2.2 (t143.length : Int)).bind fun bt146 => (if 0 ≤ bt146.1 then (if bt146.1 < (t143.length : Int) then (some (rd_L2 t143 bt146.1, bt146.2.1, bt146.2.2)) else (none)) else (none))))
theorem spec_l2Draw.mono : ∀ a0 a1 a2 a3 k, LeO (spec_l2Draw.f k a0 a1 a2 a3) (spec_l2Draw.f (k + 1) a0 a1 a2 a3) := by
 intro a0 a1 a2 a3 k
 unfold spec_l2Draw.f
 repeat' with_reducible first | exact spec_l2All.mono _ _ _ | exact xl | refine LeO.ite ?_ ?_ | refine LeO.bind ?_ fun _ => ?_
theorem spec_l2Draw.calls (k : Nat) (g : Nat) (s0_0 : List Int) (s0_1 : Int) (s0_2 : Int) (a1 : Int) (r1 : List Int) (r2 : Int) (r3 : Int) (w0 w : World) (hI : IsS52 w0 w g s0_0 s0_1 s0_2) (hB : Below w0.heap.size w0 w) (h : spec_l2Draw.f k s0_0 s0_1 s0_2 a1 = some (r1, r2, r3)) :
  Calls Tryz.prog 44 #[.pointer (some ⟨g, 0, none⟩), .int .i64 a1] w fun e w' => ∃ v0_ : Value, e = .returned (v0_) ∧ Kd.R (Kd.int .i64) 3 w' w.heap.size (fun _ => True) v0_ r1 ∧ IsS52 w0 w' g s0_0 r2 r3 ∧ Below w0.heap.size w0 w' ∧ KeepBut w w' g none := by
 have HI0 := ax hI
 have HK := ax (KeepBut.refl w g none)
 have HL := ax hB.size
 clear hI
 have HW0 := ax hB.size
 have HB := ax hB
 clear hB
 have H : ((spec_l1Below.f s0_0 s0_1 s0_2 (wrap64 (a1 + 1))).bind fun bt140 => ((spec_l2All.f k bt140.1 a1).bind fun t143 => ((spec_l1Below.f s0_0 bt140.2.1 bt140.2.2 (t143.length : Int)).bind fun bt146 => (if 0 ≤ bt146.1 then (if bt146.1 < (t143.length : Int) then (some (rd_L2 t143 bt146.1, bt146.2.1, bt146.2.2)) else (none)) else (none))))) = some (r1, r2, r3) := h
 clear h
 obtain ⟨⟨t140, t141, t142⟩, A3, H⟩ := xI H
 dsimp only at H
 obtain ⟨t143, A4, H⟩ := xI H
 obtain ⟨⟨t146, t147, t148⟩, A5, H⟩ := xI H
 dsimp only at H
 obtain ⟨c6b0, H⟩ := xq H
 obtain ⟨c7b0, H⟩ := xq H
 simp only [Option.some.injEq, Prod.mk.injEq] at H
 obtain ⟨rfl, rfl, rfl⟩ := H
 go_enter Tryz.func44, Tryz.ntmps44
 go_wp2_with (first | ((with_reducible refine gate_callee (f := 45) rfl ?_); refine goesL_ (some 9) rfl rfl Tryz.func45 (by kernel_rfl) rfl #[.pointer (some ⟨g, 0, none⟩), .int .i64 (wrap64 (a1 + 1))] rfl xm ?_; (with_reducible refine (spec_l1Below.calls g s0_0 s0_1 s0_2 (wrap64 (a1 + 1)) t140 t141 t142 w0 _ ?side1 ?side2 A3.out).mono ?_); (case side1 => exact xt52 HI0.out); (case side2 => exact xs HB.out (IsS52.ge HI0.out)); rintro e w8 ⟨rfl, hi, hb, hk⟩; refine ⟨_, rfl, ?_⟩; replace HK := ax (KeepBut.trans (xh HK.out) hk (.inl rfl)); replace HB := ax (hb); replace HI0 := ax (hi); (try clear hb); (try clear hk); (try clear hi)) | ((with_reducible refine gate_callee (f := 43) rfl ?_); refine goesL_ (some 11) rfl rfl Tryz.func43 (by kernel_rfl) rfl #[.int .i64 t140, .int .i64 a1] rfl xm ?_; (with_reducible refine (spec_l2All.calls k t140 a1 t143 _ A4.out).mono ?_); rintro e w9 ⟨v144, rfl, ho0, hb⟩; refine ⟨_, rfl, ?_⟩; have HO145 := ax (Kd.S_lower ho0 (keep_size (w := w) (g := g) (row := none) (xh HK.out))); replace HK := ax (KeepBut.trans (xh HK.out) (KeepBut.of_below hb g none) (.inl rfl)); replace HB := ax (below_step (xs HB.out (IsS52.ge HI0.out)) hb); replace HI0 := ax (IsS52.below (xt52 HI0.out) hb); (try clear hb); (try clear ho0); obtain ⟨Ao10, co10, eo10⟩ := Kd.S_slice HO145.out; subst eo10) | ((with_reducible refine gate_callee (f := 45) rfl ?_); refine goesL_ (some 16) rfl rfl Tryz.func45 (by kernel_rfl) rfl #[.pointer (some ⟨g, 0, none⟩), .int .i64 (t143.length : Int)] rfl xm ?_; (with_reducible refine (spec_l1Below.calls g s0_0 t141 t142 (t143.length : Int) t146 t147 t148 w0 _ ?side1 ?side2 A5.out).mono ?_); (case side1 => exact xt52 HI0.out); (case side2 => exact xs HB.out (IsS52.ge HI0.out)); rintro e w11 ⟨rfl, hi, hb, hk⟩; refine ⟨_, rfl, ?_⟩; replace HO145 := ax (Kd.S_mono (Kd.S_keep (IsS52.apartS (show IsS52 w0 _ g s0_0 t141 t142 from xt52 HI0.out) (xS HO145.out) (by decide)) hk (fun _ h => h.2)) (fun _ h => h.1)); replace HK := ax (KeepBut.trans (xh HK.out) hk (.inl rfl)); replace HB := ax (hb); replace HI0 := ax (hi); (try clear hb); (try clear hk); (try clear hi); have p149 : 0 ≤ (t146 : Int) := xd; have q149 : t146 < (t143.length : Int) := xd; obtain ⟨ad149, A149_0, c149_0, e149, hx149_0, hl149_0, hi149_0⟩ := at_L2 (Kd.S_reads' HO145.out).2.2 t146 p149 q149; cases e149; obtain ⟨ce149, hce149, hMe149, hcc149⟩ := Kd.S_get HO145.out [] t146 p149 (by first | exact q149 | exact xd | (have e_ := (Kd.S_reads' HO145.out).1; omega)); obtain ⟨ve149_0, rfl, ge149_0⟩ := hMe149; have hv149_0 := hcc149 0 _ rfl; rw [Nat.add_zero, show ((Kd.slice 3 (Kd.int .i64))).sz = 1 from rfl, Nat.mul_one] at hv149_0; replace hv149_0 := Option.some.inj (hv149_0.symm.trans hx149_0); rw [hv149_0] at ge149_0; have HL149_0 := ax (show Kd.R (Kd.int .i64) 3 _ _ _ _ (rd_L2 t143 t146) from ge149_0); clear hv149_0 ge149_0; clear hcc149 hce149; have HR149_0 := ax hi149_0; have HC149_0 := ax hl149_0; clear hi149_0 hl149_0; replace p149 := eq_true p149; replace q149 := eq_true q149))
 go_ret
 exact ⟨_, xe, by (with_reducible repeat (first | apply Kd.R_alloc | apply Kd.R_drewN | apply Kd.R_drew)); exact Kd.R_mono HL149_0.out (fun _ hk => trivial), xt52 HI0.out, xs HB.out (IsS52.ge HI0.out), xh HK.out⟩

/-! ### spec_l1PickInt: function 46 -/
def spec_l1PickInt.f (s0_0 : List Int) (s0_1 : Int) (s0_2 : Int) (l1 : List Int) : Option (Int × Int × Int) := (spec_l1Below.f s0_0 s0_1 s0_2 (l1.length : Int)).bind fun bt150 => (if 0 ≤ bt150.1 then (if bt150.1 < (l1.length : Int) then (some (rd l1 bt150.1, bt150.2.1, bt150.2.2)) else (none)) else (none))
theorem spec_l1PickInt.calls (g : Nat) (s0_0 : List Int) (s0_1 : Int) (s0_2 : Int) (A1 : Option Addr) (c1 : Nat) (l1 : List Int) (r1 : Int) (r2 : Int) (r3 : Int) (w0 w : World) (hI : IsS52 w0 w g s0_0 s0_1 s0_2) (hB : Below w0.heap.size w0 w) (hr1 : Kd.C (Kd.int .i64) w A1 l1.length l1) (hc1 : l1.length ≤ c1) (hf1 : ∀ ad, A1 = some ad → 0 < l1.length → ad.block ≠ g) (h : spec_l1PickInt.f s0_0 s0_1 s0_2 l1 = some (r1, r2, r3)) :
  Calls Tryz.prog 46 #[.pointer (some ⟨g, 0, none⟩), .slice A1 l1.length c1] w fun e w' => e = .returned (.int .i64 r1) ∧ IsS52 w0 w' g s0_0 r2 r3 ∧ Below w0.heap.size w0 w' ∧ KeepBut w w' g none := by
 have HR1 := ax hr1
 have HC1 := ax hc1
 clear hr1 hc1
 have HI0 := ax hI
 have HK := ax (KeepBut.refl w g none)
 have HL := ax hB.size
 clear hI
 have HW0 := ax hB.size
 have HB := ax hB
 clear hB
 have H : ((spec_l1Below.f s0_0 s0_1 s0_2 (l1.length : Int)).bind fun bt150 => (if 0 ≤ bt150.1 then (if bt150.1 < (l1.length : Int) then (some (rd l1 bt150.1, bt150.2.1, bt150.2.2)) else (none)) else (none))) = some (r1, r2, r3) := h
 clear h
 obtain ⟨⟨t150, t151, t152⟩, A3, H⟩ := xI H
 dsimp only at H
 obtain ⟨c4b0, H⟩ := xq H
 obtain ⟨c5b0, H⟩ := xq H
 simp only [Option.some.injEq, Prod.mk.injEq] at H
 obtain ⟨rfl, rfl, rfl⟩ := H
 go_enter Tryz.func46, Tryz.ntmps46
 go_wp2_with (first | ((with_reducible refine gate_callee (f := 45) rfl ?_); refine goesL_ (some 9) rfl rfl Tryz.func45 (by kernel_rfl) rfl #[.pointer (some ⟨g, 0, none⟩), .int .i64 (l1.length : Int)] rfl xm ?_; (with_reducible refine (spec_l1Below.calls g s0_0 s0_1 s0_2 (l1.length : Int) t150 t151 t152 w0 _ ?side1 ?side2 A3.out).mono ?_); (case side1 => exact xt52 HI0.out); (case side2 => exact xs HB.out (IsS52.ge HI0.out)); rintro e w6 ⟨rfl, hi, hb, hk⟩; refine ⟨_, rfl, ?_⟩; replace HK := ax (KeepBut.trans (xh HK.out) hk (.inl rfl)); replace HB := ax (hb); replace HI0 := ax (hi); (try clear hb); (try clear hk); (try clear hi); have p153 : 0 ≤ (t150 : Int) := xd; have q153 : t150 < (l1.length : Int) := xd; obtain ⟨ad153, e153, hx153_0⟩ := Kd.at_int HR1.out t150 p153 q153; cases e153; replace hx153_0 := keep_cell HK.out hx153_0 (by first | (rw [add_block]; exact hf1 _ rfl (by omega)) | exact hf1 _ rfl (by omega) | exact hf1 ad153 rfl (by omega)); replace p153 := eq_true p153; replace q153 := eq_true q153))
 go_ret
 exact ⟨xe, xt52 HI0.out, xs HB.out (IsS52.ge HI0.out), xh HK.out⟩

/-! ### spec_l2Bent: function 24 -/
def spec_l2Bent.f (k : Nat) (s0_0 : List Int) (s0_1 : Int) (s0_2 : Int) (a1 : Int) : Option (List Int × Int × Int) := (spec_l2Draw.f k s0_0 s0_1 s0_2 a1).bind fun bt154 => ((spec_l1Below.f s0_0 bt154.2.1 bt154.2.2 14).bind fun bt159 => (if bt159.1 = 0 then ((spec_l1PickInt.f s0_0 bt159.2.1 bt159.2.2 (([0, 5, (-1), 1, 9223372036854775807] : List Int))).bind fun bt165 => (if bt154.1.length < 17592186044416 then (some ((bt154.1 ++ [bt165.1]), bt165.2.1, bt165.2.2)) else (none))) else (if bt159.1 = 1 then ((some (([1, 1, 1, 1, 1, 1] : List Int) : List Int)).bind fun y171 => (if bt154.1.length + y171.length < 17592186044416 then (some ((bt154.1 ++ y171), bt159.2.1, bt159.2.2)) else (none))) else (some (bt154.1, bt159.2.1, bt159.2.2)))))
theorem spec_l2Bent.mono : ∀ a0 a1 a2 a3 k, LeO (spec_l2Bent.f k a0 a1 a2 a3) (spec_l2Bent.f (k + 1) a0 a1 a2 a3) := by
 intro a0 a1 a2 a3 k
 unfold spec_l2Bent.f
 repeat' with_reducible first | exact spec_l2Draw.mono _ _ _ _ _ | exact xl | refine LeO.ite ?_ ?_ | refine LeO.bind ?_ fun _ => ?_
theorem spec_l2Bent.calls (k : Nat) (g : Nat) (s0_0 : List Int) (s0_1 : Int) (s0_2 : Int) (a1 : Int) (r1 : List Int) (r2 : Int) (r3 : Int) (w0 w : World) (hI : IsS52 w0 w g s0_0 s0_1 s0_2) (hB : Below w0.heap.size w0 w) (h : spec_l2Bent.f k s0_0 s0_1 s0_2 a1 = some (r1, r2, r3)) :
  Calls Tryz.prog 24 #[.pointer (some ⟨g, 0, none⟩), .int .i64 a1] w fun e w' => ∃ v0_ : Value, e = .returned (v0_) ∧ Kd.R (Kd.int .i64) 3 w' w.heap.size (fun _ => True) v0_ r1 ∧ IsS52 w0 w' g s0_0 r2 r3 ∧ Below w0.heap.size w0 w' ∧ KeepBut w w' g none := by
 have HI0 := ax hI
 have HK := ax (KeepBut.refl w g none)
 have HL := ax hB.size
 clear hI
 have HW0 := ax hB.size
 have HB := ax hB
 clear hB
 have H : ((spec_l2Draw.f k s0_0 s0_1 s0_2 a1).bind fun bt154 => ((spec_l1Below.f s0_0 bt154.2.1 bt154.2.2 14).bind fun bt159 => (if bt159.1 = 0 then ((spec_l1PickInt.f s0_0 bt159.2.1 bt159.2.2 (([0, 5, (-1), 1, 9223372036854775807] : List Int))).bind fun bt165 => (if bt154.1.length < 17592186044416 then (some ((bt154.1 ++ [bt165.1]), bt165.2.1, bt165.2.2)) else (none))) else (if bt159.1 = 1 then ((some (([1, 1, 1, 1, 1, 1] : List Int) : List Int)).bind fun y171 => (if bt154.1.length + y171.length < 17592186044416 then (some ((bt154.1 ++ y171), bt159.2.1, bt159.2.2)) else (none))) else (some (bt154.1, bt159.2.1, bt159.2.2)))))) = some (r1, r2, r3) := h
 clear h
 obtain ⟨⟨t154, t157, t158⟩, A3, H⟩ := xI H
 dsimp only at H
 obtain ⟨⟨t159, t160, t161⟩, A4, H⟩ := xI H
 dsimp only at H
 by_cases c5 : t159 = 0
 ·rw [if_pos c5] at H
  have c5b0 : (t159 == 0) = true := beq_iff_eq.mpr c5
  have c5b1 : (t159 != 0) = false := bne_eq_false_iff_eq.mpr c5
  clear c5
  obtain ⟨y162, hy162⟩ : ∃ y_ : List Int, y_ = (([0, 5, (-1), 1, 9223372036854775807] : List Int)) := ⟨_, rfl⟩
  replace H : ((spec_l1PickInt.f s0_0 t160 t161 y162).bind fun bt165 => (if t154.length < 17592186044416 then (some ((t154 ++ [bt165.1]), bt165.2.1, bt165.2.2)) else (none))) = some (r1, r2, r3) := xv hy162 H
  have Ny162 := ax hy162
  clear hy162
  obtain ⟨⟨t165, t166, t167⟩, A6, H⟩ := xI H
  dsimp only at H
  obtain ⟨c7, H⟩ := xp H
  have LMc7 := ax c7
  clear c7
  obtain ⟨y168, hy168⟩ : ∃ y_ : List Int, y_ = (t154 ++ [t165]) := ⟨_, rfl⟩
  replace H : (some (y168, t166, t167)) = some (r1, r2, r3) := xv hy168 H
  have Ny168 := ax hy168
  clear hy168
  simp only [Option.some.injEq, Prod.mk.injEq] at H
  obtain ⟨rfl, rfl, rfl⟩ := H
  go_enter Tryz.func24, Tryz.ntmps24
  go_wp2_with (first | ((with_reducible refine gate_callee (f := 44) rfl ?_); refine goesL_ (some 8) rfl rfl Tryz.func44 (by kernel_rfl) rfl #[.pointer (some ⟨g, 0, none⟩), .int .i64 a1] rfl xm ?_; (with_reducible refine (spec_l2Draw.calls k g s0_0 s0_1 s0_2 a1 t154 t157 t158 w0 _ ?side1 ?side2 A3.out).mono ?_); (case side1 => exact xt52 HI0.out); (case side2 => exact xs HB.out (IsS52.ge HI0.out)); rintro e w8 ⟨v155, rfl, ho0, hi, hb, hk⟩; refine ⟨_, rfl, ?_⟩; have HO156 := ax (Kd.R_lower ho0 (keep_size (w := w) (g := g) (row := none) (xh HK.out))); replace HK := ax (KeepBut.trans (xh HK.out) hk (.inl rfl)); replace HB := ax (hb); replace HI0 := ax (hi); (try clear hb); (try clear hk); (try clear hi); (try clear ho0)) | ((with_reducible refine gate_callee (f := 45) rfl ?_); refine goesL_ (some 10) rfl rfl Tryz.func45 (by kernel_rfl) rfl #[.pointer (some ⟨g, 0, none⟩), .int .i64 14] rfl xm ?_; (with_reducible refine (spec_l1Below.calls g s0_0 t157 t158 14 t159 t160 t161 w0 _ ?side1 ?side2 A4.out).mono ?_); (case side1 => exact xt52 HI0.out); (case side2 => exact xs HB.out (IsS52.ge HI0.out)); rintro e w9 ⟨rfl, hi, hb, hk⟩; refine ⟨_, rfl, ?_⟩; replace HO156 := ax (Kd.R_mono (Kd.R_keep (IsS52.apart (show IsS52 w0 _ g s0_0 t157 t158 from xt52 HI0.out) (xR HO156.out) (by decide)) hk (fun _ h => h.2)) (fun _ h => h.1)); replace HK := ax (KeepBut.trans (xh HK.out) hk (.inl rfl)); replace HB := ax (hb); replace HI0 := ax (hi); (try clear hb); (try clear hk); (try clear hi)) | ((with_reducible refine gate_dst (N := 15) rfl ?_); refine Kd.R_lit (Kd.int .i64) _ 3 ?hg (N := 15) ?hd (xs := ([0, 5, (-1), 1, 9223372036854775807] : List Int)) (inner := [.int .i64 0, .int .i64 5, .int .i64 (-1), .int .i64 1, .int .i64 9223372036854775807]) (ok := fun _ => True) (okp := fun _ => True) ?hr ?hp (fun _ hk => hk) trivial (Below.refl _ _) (Nat.le_refl _) (by simp) ?_; (case hd => rfl); (case hg => rfl); (case hr => first | (go_simp; done) | (go_simp; rfl)); (case hp => exact (Reps.one (show Kd.M (Kd.int .i64) _ _ _ 0 [.int .i64 0] from rfl) (Reps.one (show Kd.M (Kd.int .i64) _ _ _ 5 [.int .i64 5] from rfl) (Reps.one (show Kd.M (Kd.int .i64) _ _ _ (-1) [.int .i64 (-1)] from rfl) (Reps.one (show Kd.M (Kd.int .i64) _ _ _ 1 [.int .i64 1] from rfl) (Reps.one (show Kd.M (Kd.int .i64) _ _ _ 9223372036854775807 [.int .i64 9223372036854775807] from rfl) (Reps.none _ _))))))); intro v163 w10 ho11 hb hg_ hnew_; clear hg_ hnew_; (first | rw [← Ny162.out] at ho11 | (simp only [Int.reduceToNat] at ho11; rw [← Ny162.out] at ho11)); have HO164 := ax (Kd.R_lower (Kd.R_new' ho11 (Kd.R_lt (xR HO156.out))) (keep_size (w := w) (g := g) (row := none) (xh HK.out))); replace HO156 := ax (Kd.R_elder' (xR HO156.out) (Kd.R_base ho11) hb); replace HK := ax (KeepBut.trans (xh HK.out) (KeepBut.of_below hb g none) (.inl rfl)); replace HB := ax (below_step (xs HB.out (IsS52.ge HI0.out)) hb); replace HI0 := ax (IsS52.below (xt52 HI0.out) hb); clear hb ho11; obtain ⟨Ao12, co12, eo12⟩ := Kd.R_slice HO164.out; subst eo12) | ((with_reducible refine gate_callee (f := 46) rfl ?_); refine goesL_ (some 16) rfl rfl Tryz.func46 (by kernel_rfl) rfl #[.pointer (some ⟨g, 0, none⟩), .slice Ao12 y162.length co12] rfl xm ?_; (with_reducible refine (spec_l1PickInt.calls g s0_0 t160 t161 _ _ y162 t165 t166 t167 w0 _ ?side1 ?side2 ?side3 ?side4 ?side5 A6.out).mono ?_); (case side1 => exact xt52 HI0.out); (case side2 => exact xs HB.out (IsS52.ge HI0.out)); (case side3 => exact xc (Kd.R_reads' HO164.out).2.2); (case side4 => exact (Kd.R_reads' HO164.out).2.1); (case side5 => exact far_slice (IsS52.own_ne HI0.out HO164.out (by decide))); rintro e w13 ⟨rfl, hi, hb, hk⟩; refine ⟨_, rfl, ?_⟩; replace HO156 := ax (Kd.R_mono (Kd.R_keep (IsS52.apart (show IsS52 w0 _ g s0_0 t160 t161 from xt52 HI0.out) (xR HO156.out) (by decide)) hk (fun _ h => h.2)) (fun _ h => h.1)); replace HO164 := ax (Kd.R_mono (Kd.R_keep (IsS52.apart (show IsS52 w0 _ g s0_0 t160 t161 from xt52 HI0.out) (xR HO164.out) (by decide)) hk (fun _ h => h.2)) (fun _ h => h.1)); replace HK := ax (KeepBut.trans (xh HK.out) hk (.inl rfl)); replace HB := ax (hb); replace HI0 := ax (hi); (try clear hb); (try clear hk); (try clear hi)) | ((with_reducible refine gate_builtin (b := .append) (xs := #[.tmp 13, .tmp 17]) rfl ?_); at_builtin; refine Kd.R_append (Kd.int .i64) w.heap.size rfl (.tmp 13) (.tmp 17) 24 3 (.int .i64 0) 8 rfl Tryz.underlying24 info3 rfl (by decide) (by omega) v155 t154 t165 [.int .i64 t165] (fun k_ => some k_ ≠ (.slice Ao12 y162.length co12 : Value).ownBlock) (fun _ => False) rfl rfl ?aP (fun _ hk => hk.elim) ?aF ?aO (Below.refl _ _) ?aS ?aL ?_; (case aP => exact rfl); (case aF => exact (fun k_ hk => Kd.fresh' (Kd.R_lt (xR HO164.out)) k_ hk)); (case aO => exact (by (with_reducible repeat (first | apply Kd.R_alloc | apply Kd.R_drewN | apply Kd.R_drew)); exact Kd.R_mono HO156.out (fun _ hk => hk.2))); (case aS => exact (keep_size (w := w) (g := g) (row := none) (xh HK.out))); (case aL => have := LMc7.out; omega); intro v169 w14 ho hb hg hat; rw [← Ny168.out] at ho; have n0_ := ax (IsS52.grown (xt52 HI0.out) hg (IsS52.own_ne HI0.out HO156.out (by decide))); have n1_ := ax (Kd.R_after (ok := (fun _ => True)) (xR HO164.out) hg hat); have n2_ := ax (below_weaken (xs HB.out (IsS52.ge HI0.out)) HL.out hb); have n3_ := ax (KeepBut.trans (xh HK.out) (KeepBut.of_grown hg g) (Kd.R_base2 HO156.out)); have n4_ := ax (ho); clear HI0; clear HO164; clear HB; clear HK; clear HO156; have HI0 := n0_; have HO164 := n1_; have HB := n2_; have HK := n3_; have HO170 := n4_; clear n0_ n1_ n2_ n3_ n4_; clear ho hb hg hat))
  go_ret
  exact ⟨_, xe, by (with_reducible repeat (first | apply Kd.R_alloc | apply Kd.R_drewN | apply Kd.R_drew)); exact Kd.R_mono HO170.out (fun _ hk => trivial), xt52 HI0.out, xs HB.out (IsS52.ge HI0.out), xh HK.out⟩
 ·rw [if_neg c5] at H
  have c5b0 : (t159 == 0) = false := beq_eq_false_iff_ne.mpr c5
  have c5b1 : (t159 != 0) = true := bne_iff_ne.mpr c5
  by_cases c15 : t159 = 1
  ·rw [if_pos c15] at H
   have c15b0 : (t159 == 1) = true := beq_iff_eq.mpr c15
   have c15b1 : (t159 != 1) = false := bne_eq_false_iff_eq.mpr c15
   clear c15
   obtain ⟨y171, Ny171, H⟩ := xg H
   obtain ⟨c16, H⟩ := xp H
   have LMc16 := ax c16
   clear c16
   obtain ⟨y174, hy174⟩ : ∃ y_ : List Int, y_ = (t154 ++ y171) := ⟨_, rfl⟩
   replace H : (some (y174, t160, t161)) = some (r1, r2, r3) := xv hy174 H
   have Ny174 := ax hy174
   clear hy174
   simp only [Option.some.injEq, Prod.mk.injEq] at H
   obtain ⟨rfl, rfl, rfl⟩ := H
   go_enter Tryz.func24, Tryz.ntmps24
   go_wp2_with (first | ((with_reducible refine gate_callee (f := 44) rfl ?_); refine goesL_ (some 8) rfl rfl Tryz.func44 (by kernel_rfl) rfl #[.pointer (some ⟨g, 0, none⟩), .int .i64 a1] rfl xm ?_; (with_reducible refine (spec_l2Draw.calls k g s0_0 s0_1 s0_2 a1 t154 t157 t158 w0 _ ?side1 ?side2 A3.out).mono ?_); (case side1 => exact xt52 HI0.out); (case side2 => exact xs HB.out (IsS52.ge HI0.out)); rintro e w17 ⟨v155, rfl, ho0, hi, hb, hk⟩; refine ⟨_, rfl, ?_⟩; have HO156 := ax (Kd.R_lower ho0 (keep_size (w := w) (g := g) (row := none) (xh HK.out))); replace HK := ax (KeepBut.trans (xh HK.out) hk (.inl rfl)); replace HB := ax (hb); replace HI0 := ax (hi); (try clear hb); (try clear hk); (try clear hi); (try clear ho0)) | ((with_reducible refine gate_callee (f := 45) rfl ?_); refine goesL_ (some 10) rfl rfl Tryz.func45 (by kernel_rfl) rfl #[.pointer (some ⟨g, 0, none⟩), .int .i64 14] rfl xm ?_; (with_reducible refine (spec_l1Below.calls g s0_0 t157 t158 14 t159 t160 t161 w0 _ ?side1 ?side2 A4.out).mono ?_); (case side1 => exact xt52 HI0.out); (case side2 => exact xs HB.out (IsS52.ge HI0.out)); rintro e w18 ⟨rfl, hi, hb, hk⟩; refine ⟨_, rfl, ?_⟩; replace HO156 := ax (Kd.R_mono (Kd.R_keep (IsS52.apart (show IsS52 w0 _ g s0_0 t157 t158 from xt52 HI0.out) (xR HO156.out) (by decide)) hk (fun _ h => h.2)) (fun _ h => h.1)); replace HK := ax (KeepBut.trans (xh HK.out) hk (.inl rfl)); replace HB := ax (hb); replace HI0 := ax (hi); (try clear hb); (try clear hk); (try clear hi)) | ((with_reducible refine gate_dst (N := 22) rfl ?_); refine Kd.R_lit (Kd.int .i64) _ 3 ?hg (N := 22) ?hd (xs := ([1, 1, 1, 1, 1, 1] : List Int)) (inner := [.int .i64 1, .int .i64 1, .int .i64 1, .int .i64 1, .int .i64 1, .int .i64 1]) (ok := fun _ => True) (okp := fun _ => True) ?hr ?hp (fun _ hk => hk) trivial (Below.refl _ _) (Nat.le_refl _) (by simp) ?_; (case hd => rfl); (case hg => rfl); (case hr => first | (go_simp; done) | (go_simp; rfl)); (case hp => exact (Reps.one (show Kd.M (Kd.int .i64) _ _ _ 1 [.int .i64 1] from rfl) (Reps.one (show Kd.M (Kd.int .i64) _ _ _ 1 [.int .i64 1] from rfl) (Reps.one (show Kd.M (Kd.int .i64) _ _ _ 1 [.int .i64 1] from rfl) (Reps.one (show Kd.M (Kd.int .i64) _ _ _ 1 [.int .i64 1] from rfl) (Reps.one (show Kd.M (Kd.int .i64) _ _ _ 1 [.int .i64 1] from rfl) (Reps.one (show Kd.M (Kd.int .i64) _ _ _ 1 [.int .i64 1] from rfl) (Reps.none _ _)))))))); intro v172 w19 ho20 hb hg_ hnew_; clear hg_ hnew_; (first | rw [← Ny171.out] at ho20 | (simp only [Int.reduceToNat] at ho20; rw [← Ny171.out] at ho20)); have HO173 := ax (Kd.R_lower (Kd.R_new' ho20 (Kd.R_lt (xR HO156.out))) (keep_size (w := w) (g := g) (row := none) (xh HK.out))); replace HO156 := ax (Kd.R_elder' (xR HO156.out) (Kd.R_base ho20) hb); replace HK := ax (KeepBut.trans (xh HK.out) (KeepBut.of_below hb g none) (.inl rfl)); replace HB := ax (below_step (xs HB.out (IsS52.ge HI0.out)) hb); replace HI0 := ax (IsS52.below (xt52 HI0.out) hb); clear hb ho20; obtain ⟨Ao22, co22, eo22⟩ := Kd.R_slice HO173.out; subst eo22) | ((with_reducible refine gate_builtin (b := .append) (xs := #[.tmp 21, .tmp 22]) rfl ?_); at_builtin; refine Kd.R_append_rows (Kd.int .i64) w.heap.size rfl (.tmp 21) (.tmp 22) 24 3 (.int .i64 0) 8 rfl Tryz.underlying24 info3 rfl (by decide) (by omega) v155 t154 y171 _ _ _ (fun k_ => some k_ ≠ (.slice Ao22 y171.length co22 : Value).ownBlock) (fun _ => False) rfl rfl ?aO ?aR (fun _ _ h => h) (fun _ h => h.elim) ?aF (Below.refl _ _) ?aS ?aL ?_; (case aR => exact xc (Kd.R_reads' HO173.out).2.2); (case aF => exact (fun k_ hk => Kd.fresh' (Kd.R_lt (xR HO173.out)) k_ hk)); (case aO => exact (by (with_reducible repeat (first | apply Kd.R_alloc | apply Kd.R_drewN | apply Kd.R_drew)); exact Kd.R_mono HO156.out (fun _ hk => hk.2))); (case aS => exact (keep_size (w := w) (g := g) (row := none) (xh HK.out))); (case aL => have := LMc16.out; omega); intro v175 w21 ho hb hg hat; rw [← Ny174.out] at ho; have n0_ := ax (IsS52.grown (xt52 HI0.out) hg (IsS52.own_ne HI0.out HO156.out (by decide))); have n1_ := ax (Kd.R_after (ok := (fun _ => True)) (xR HO173.out) hg hat); have n2_ := ax (below_weaken (xs HB.out (IsS52.ge HI0.out)) HL.out hb); have n3_ := ax (KeepBut.trans (xh HK.out) (KeepBut.of_grown hg g) (Kd.R_base2 HO156.out)); have n4_ := ax (ho); clear HI0; clear HO173; clear HB; clear HK; clear HO156; have HI0 := n0_; have HO173 := n1_; have HB := n2_; have HK := n3_; have HO176 := n4_; clear n0_ n1_ n2_ n3_ n4_; clear ho hb hg hat))
   go_ret
   exact ⟨_, xe, by (with_reducible repeat (first | apply Kd.R_alloc | apply Kd.R_drewN | apply Kd.R_drew)); exact Kd.R_mono HO176.out (fun _ hk => trivial), xt52 HI0.out, xs HB.out (IsS52.ge HI0.out), xh HK.out⟩
  ·rw [if_neg c15] at H
   have c15b0 : (t159 == 1) = false := beq_eq_false_iff_ne.mpr c15
   have c15b1 : (t159 != 1) = true := bne_iff_ne.mpr c15
   simp only [Option.some.injEq, Prod.mk.injEq] at H
   obtain ⟨rfl, rfl, rfl⟩ := H
   go_enter Tryz.func24, Tryz.ntmps24
   go_wp2_with (first | ((with_reducible refine gate_callee (f := 44) rfl ?_); refine goesL_ (some 8) rfl rfl Tryz.func44 (by kernel_rfl) rfl #[.pointer (some ⟨g, 0, none⟩), .int .i64 a1] rfl xm ?_; (with_reducible refine (spec_l2Draw.calls k g s0_0 s0_1 s0_2 a1 t154 t157 t158 w0 _ ?side1 ?side2 A3.out).mono ?_); (case side1 => exact xt52 HI0.out); (case side2 => exact xs HB.out (IsS52.ge HI0.out)); rintro e w23 ⟨v155, rfl, ho0, hi, hb, hk⟩; refine ⟨_, rfl, ?_⟩; have HO156 := ax (Kd.R_lower ho0 (keep_size (w := w) (g := g) (row := none) (xh HK.out))); replace HK := ax (KeepBut.trans (xh HK.out) hk (.inl rfl)); replace HB := ax (hb); replace HI0 := ax (hi); (try clear hb); (try clear hk); (try clear hi); (try clear ho0)) | ((with_reducible refine gate_callee (f := 45) rfl ?_); refine goesL_ (some 10) rfl rfl Tryz.func45 (by kernel_rfl) rfl #[.pointer (some ⟨g, 0, none⟩), .int .i64 14] rfl xm ?_; (with_reducible refine (spec_l1Below.calls g s0_0 t157 t158 14 t159 t160 t161 w0 _ ?side1 ?side2 A4.out).mono ?_); (case side1 => exact xt52 HI0.out); (case side2 => exact xs HB.out (IsS52.ge HI0.out)); rintro e w24 ⟨rfl, hi, hb, hk⟩; refine ⟨_, rfl, ?_⟩; replace HO156 := ax (Kd.R_mono (Kd.R_keep (IsS52.apart (show IsS52 w0 _ g s0_0 t157 t158 from xt52 HI0.out) (xR HO156.out) (by decide)) hk (fun _ h => h.2)) (fun _ h => h.1)); replace HK := ax (KeepBut.trans (xh HK.out) hk (.inl rfl)); replace HB := ax (hb); replace HI0 := ax (hi); (try clear hb); (try clear hk); (try clear hi)))
   go_ret
   exact ⟨_, xe, xR HO156.out, xt52 HI0.out, xs HB.out (IsS52.ge HI0.out), xh HK.out⟩

/-! ### spec_l1New: function 25 -/
def spec_l1New.l0 : Nat → List Int → Int → Int → Option (List Int × Int × Int)
 | 0, _, _, _ => none
 | k + 1, x0, x3, x4 => if x4 < (x0.length : Int) then (if x4 < 4000 then (if 0 ≤ x4 then (spec_l1New.l0 k x0 (Go.bits .and .i64 (wrap64 ((wrap64 ((wrap64 (x3 * 131)) + (wrap64 (rd x0 x4)))) + 7)) 1073741823) (wrap64 (x4 + 1))) else (none)) else (some (x0, 0, x3))) else (some (x0, 0, x3))
def spec_l1New.f (k : Nat) (l0 : List Int) : Option (List Int × Int × Int) := spec_l1New.l0 k l0 (wrap64 (26583 + (l0.length : Int))) 0
theorem spec_l1New.mono_l : ∀ k, (∀ y0 y1 y2, LeO (spec_l1New.l0 k y0 y1 y2) (spec_l1New.l0 (k + 1) y0 y1 y2))
 | 0 => fun _ _ _ r h => by simp [spec_l1New.l0] at h
 | k + 1 => by
  have ih0 := spec_l1New.mono_l k
  ·intro y0 y1 y2
   unfold spec_l1New.l0
   repeat' with_reducible first | exact ih0 _ _ _ | exact xl | refine LeO.ite ?_ ?_ | refine LeO.bind ?_ fun _ => ?_
theorem spec_l1New.mono : ∀ a0 k, LeO (spec_l1New.f k a0) (spec_l1New.f (k + 1) a0) := by
 intro a0 k
 have ih0 := spec_l1New.mono_l k
 unfold spec_l1New.f
 repeat' with_reducible first | exact ih0 _ _ _ | exact xl | refine LeO.ite ?_ ?_ | refine LeO.bind ?_ fun _ => ?_
theorem spec_l1New.calls (k : Nat) (A0 : Option Addr) (c0 : Nat) (l0 : List Int) (r1 : List Int) (r2 : Int) (r3 : Int) (w0 w : World) (hB : Below w0.heap.size w0 w) (hr0 : Kd.C (Kd.int .u8) w0 A0 l0.length l0) (hc0 : l0.length ≤ c0) (h : spec_l1New.f k l0 = some (r1, r2, r3)) :
  Calls Tryz.prog 25 #[.slice A0 l0.length c0] w fun e w' => ∃ g_ : Nat, e = .returned (.pointer (some ⟨g_, 0, none⟩)) ∧ IsS52 w0 w' g_ r1 r2 r3 ∧ Below w0.heap.size w0 w' ∧ Below w.heap.size w w' := by
 have hu52 := Tryz.underlying52
 have HR0 := ax hr0
 have HC0 := ax hc0
 clear hr0 hc0
 have HBW := ax (Below.refl w.heap.size w)
 have HW0 := ax hB.size
 have HB := ax hB
 clear hB
 have H : (spec_l1New.l0 k l0 (wrap64 (26583 + (l0.length : Int))) 0) = some (r1, r2, r3) := h
 clear h
 have H' := ax H
 clear H
 go_enter Tryz.func25, Tryz.ntmps25
 go_wp2
 go_loopg [3, 4] k (fun kq v3 v4 w' => ∃ (x3_1 : Int) (x4_1 : Int), v3 = .int .i64 x3_1 ∧ v4 = .int .i64 x4_1 ∧ Aside0 (spec_l1New.l0 kq l0 x3_1 x4_1 = some (r1, r2, r3)) ∧ Aside0 (kq ≤ k) ∧ Aside0 (Below w0.heap.size w0 w') ∧ Aside0 (Below w.heap.size w w'))
 case atStart => exact ⟨(wrap64 (26583 + (l0.length : Int))), (0), xr, xr, H', ⟨Nat.le_refl _⟩, ⟨xb HB.out⟩, ⟨xb HBW.out⟩⟩
 case round =>
  clear H'
  obtain ⟨x3_1, x4_1, rfl, rfl, HA, HK1, HB, HBW⟩ := hrel
  cases gk with
  | zero => exact absurd HA.out (by simp [spec_l1New.l0])
  | succ k1 =>
   have H := HA.out
   clear HA
   simp only [spec_l1New.l0] at H
   by_cases c2 : x4_1 < (l0.length : Int)
   ·rw [if_pos c2] at H
    have c2b0 := decide_eq_true c2
    clear c2
    by_cases c3 : x4_1 < 4000
    ·rw [if_pos c3] at H
     have c3b0 := decide_eq_true c3
     clear c3
     obtain ⟨c4b0, H⟩ := xq H
     have H' := ax H
     clear H
     have p177 : 0 ≤ (x4_1 : Int) := xd
     have q177 : x4_1 < (l0.length : Int) := xd
     obtain ⟨ad177, e177, hx177_0⟩ := Kd.at_int HR0.out x4_1 p177 q177
     cases e177
     replace hx177_0 := pw_cell_below HB.out hx177_0
     replace p177 := eq_true p177
     replace q177 := eq_true q177
     go_wp2
     go_roundg k1
     case measure => have := HK1.out; omega
     case rel => exact ⟨(Go.bits .and .i64 (wrap64 ((wrap64 ((wrap64 (x3_1 * 131)) + (wrap64 (rd l0 x4_1)))) + 7)) 1073741823), (wrap64 (x4_1 + 1)), xr, xr, H', ⟨by have := HK1.out; omega⟩, ⟨xb HB.out⟩, ⟨xb HBW.out⟩⟩
    ·rw [if_neg c3] at H
     have c3b0 := decide_eq_false c3
     clear c3
     simp only [Option.some.injEq, Prod.mk.injEq] at H
     obtain ⟨rfl, rfl, rfl⟩ := H
     go_wp2_with (first | ((with_reducible refine gate_dst (N := 31) rfl ?_); refine box_event ?hg (N := 31) ?hd (cs := #[.slice A0 l0.length c0, .int .i64 0, .int .i64 x3_1]) (t := 52) ?hr ?_; (case hd => rfl); (case hg => rfl); (case hr => first | (go_simp; done) | (go_simp; rfl)); intro gb178 hg w5 hbox hb; replace HB := yB HB hb; have BK178 := ax (hbox); have GW178 := ax ((by rw [hg]; exact (below_size (xb HBW.out)) : w.heap.size ≤ gb178)); have GE178 := ax ((Nat.le_trans HW0.out (by rw [hg]; exact (below_size (xb HBW.out)) : w.heap.size ≤ gb178) : w0.heap.size ≤ gb178)); replace HBW := ax (below_step HBW.out hb); clear hb hbox hg))
     go_ret
     exact ⟨_, rfl, (show IsS52 w0 _ gb178 l0 0 x3_1 from ⟨_, _, xk BK178.out, GE178.out, HR0.out⟩), xs HB.out GE178.out, xs HBW.out GW178.out⟩
   ·rw [if_neg c2] at H
    have c2b0 := decide_eq_false c2
    clear c2
    simp only [Option.some.injEq, Prod.mk.injEq] at H
    obtain ⟨rfl, rfl, rfl⟩ := H
    go_wp2_with (first | ((with_reducible refine gate_dst (N := 31) rfl ?_); refine box_event ?hg (N := 31) ?hd (cs := #[.slice A0 l0.length c0, .int .i64 0, .int .i64 x3_1]) (t := 52) ?hr ?_; (case hd => rfl); (case hg => rfl); (case hr => first | (go_simp; done) | (go_simp; rfl)); intro gb179 hg w6 hbox hb; replace HB := yB HB hb; have BK179 := ax (hbox); have GW179 := ax ((by rw [hg]; exact (below_size (xb HBW.out)) : w.heap.size ≤ gb179)); have GE179 := ax ((Nat.le_trans HW0.out (by rw [hg]; exact (below_size (xb HBW.out)) : w.heap.size ≤ gb179) : w0.heap.size ≤ gb179)); replace HBW := ax (below_step HBW.out hb); clear hb hbox hg))
    go_ret
    exact ⟨_, rfl, (show IsS52 w0 _ gb179 l0 0 x3_1 from ⟨_, _, xk BK179.out, GE179.out, HR0.out⟩), xs HB.out GE179.out, xs HBW.out GW179.out⟩

/-! ### spec_DrawClassSize: function 5 -/
def spec_DrawClassSize.f (k : Nat) (l0 : List Int) : Option (List Int) := (spec_l1New.f k l0).bind fun bt180 => ((spec_l2Bent.f k bt180.1 bt180.2.1 bt180.2.2 9).bind fun bt184 => (some bt184.1))
theorem spec_DrawClassSize.mono : ∀ a0 k, LeO (spec_DrawClassSize.f k a0) (spec_DrawClassSize.f (k + 1) a0) := by
 intro a0 k
 unfold spec_DrawClassSize.f
 repeat' with_reducible first | exact spec_l1New.mono _ _ | exact spec_l2Bent.mono _ _ _ _ _ | exact xl | refine LeO.ite ?_ ?_ | refine LeO.bind ?_ fun _ => ?_
theorem spec_DrawClassSize.calls (k : Nat) (A0 : Option Addr) (c0 : Nat) (l0 : List Int) (r : List Int) (w : World) (hr0 : Kd.C (Kd.int .u8) w A0 l0.length l0) (hc0 : l0.length ≤ c0) (h : spec_DrawClassSize.f k l0 = some r) :
  Calls Tryz.prog 5 #[.slice A0 l0.length c0] w fun e w' => ∃ v0_ : Value, e = .returned (v0_) ∧ Kd.R (Kd.int .i64) 3 w' w.heap.size (fun _ => True) v0_ r ∧ Below w.heap.size w w' := by
 have HR0 := ax hr0
 have HC0 := ax hc0
 clear hr0 hc0
 have HB := ax (Below.refl w.heap.size w)
 have H : ((spec_l1New.f k l0).bind fun bt180 => ((spec_l2Bent.f k bt180.1 bt180.2.1 bt180.2.2 9).bind fun bt184 => (some bt184.1))) = some r := h
 clear h
 obtain ⟨⟨t180, t181, t182⟩, A2, H⟩ := xI H
 dsimp only at H
 obtain ⟨⟨t184, t187, t188⟩, A3, H⟩ := xI H
 dsimp only at H
 obtain rfl := Option.some.inj H
 go_enter Tryz.func5, Tryz.ntmps5
 go_wp2_with (first | ((with_reducible refine gate_callee (f := 25) rfl ?_); refine goesL_ (some 4) rfl rfl Tryz.func25 (by kernel_rfl) rfl #[.slice A0 l0.length c0] rfl xm ?_; (with_reducible refine (spec_l1New.calls k _ _ l0 t180 t181 t182 w _ ?side1 ?side2 ?side3 A2.out).mono ?_); (case side1 => exact xb HB.out); (case side2 => exact HR0.out); (case side3 => exact HC0.out); rintro e w4 ⟨g183, rfl, hi, hb, hb2⟩; refine ⟨_, rfl, ?_⟩; replace HB := ax (hb); have HI183 := ax (hi); (try clear hb); (try clear hb2); (try clear hi)) | ((with_reducible refine gate_callee (f := 24) rfl ?_); refine goesL_ (some 5) rfl rfl Tryz.func24 (by kernel_rfl) rfl #[.pointer (some ⟨g183, 0, none⟩), .int .i64 9] rfl xm ?_; (with_reducible refine (spec_l2Bent.calls k g183 t180 t181 t182 9 t184 t187 t188 w _ ?side1 ?side2 A3.out).mono ?_); (case side1 => exact xt52 HI183.out); (case side2 => exact xs HB.out (IsS52.ge HI183.out)); rintro e w5 ⟨v185, rfl, ho0, hi, hb, hk⟩; refine ⟨_, rfl, ?_⟩; have HO186 := ax (Kd.R_lower ho0 (below_size (xs HB.out (IsS52.ge HI183.out)))); replace HB := ax (hb); replace HI183 := ax (hi); (try clear hb); (try clear hk); (try clear hi); (try clear ho0)))
 go_ret
 exact ⟨_, xe, xR HO186.out, xs HB.out (IsS52.ge HI183.out)⟩

/-! ### spec_l1Once: function 48 -/
def spec_l1Once.f (s0_0 : List Int) (s0_1 : Int) (s0_2 : Int) (a1 : Int) : Option (Bool × Int × Int) := (spec_l1Below.f s0_0 s0_1 s0_2 a1).bind fun bt189 => (some ((bt189.1 == 0), bt189.2.1, bt189.2.2))
theorem spec_l1Once.calls (g : Nat) (s0_0 : List Int) (s0_1 : Int) (s0_2 : Int) (a1 : Int) (r1 : Bool) (r2 : Int) (r3 : Int) (w0 w : World) (hI : IsS52 w0 w g s0_0 s0_1 s0_2) (hB : Below w0.heap.size w0 w) (h : spec_l1Once.f s0_0 s0_1 s0_2 a1 = some (r1, r2, r3)) :
  Calls Tryz.prog 48 #[.pointer (some ⟨g, 0, none⟩), .int .i64 a1] w fun e w' => e = .returned (.bool r1) ∧ IsS52 w0 w' g s0_0 r2 r3 ∧ Below w0.heap.size w0 w' ∧ KeepBut w w' g none := by
 have HI0 := ax hI
 have HK := ax (KeepBut.refl w g none)
 have HL := ax hB.size
 clear hI
 have HW0 := ax hB.size
 have HB := ax hB
 clear hB
 have H : ((spec_l1Below.f s0_0 s0_1 s0_2 a1).bind fun bt189 => (some ((bt189.1 == 0), bt189.2.1, bt189.2.2))) = some (r1, r2, r3) := h
 clear h
 obtain ⟨⟨t189, t190, t191⟩, A3, H⟩ := xI H
 dsimp only at H
 simp only [Option.some.injEq, Prod.mk.injEq] at H
 obtain ⟨rfl, rfl, rfl⟩ := H
 go_enter Tryz.func48, Tryz.ntmps48
 go_wp2_with (first | ((with_reducible refine gate_callee (f := 45) rfl ?_); refine goesL_ (some 7) rfl rfl Tryz.func45 (by kernel_rfl) rfl #[.pointer (some ⟨g, 0, none⟩), .int .i64 a1] rfl xm ?_; (with_reducible refine (spec_l1Below.calls g s0_0 s0_1 s0_2 a1 t189 t190 t191 w0 _ ?side1 ?side2 A3.out).mono ?_); (case side1 => exact xt52 HI0.out); (case side2 => exact xs HB.out (IsS52.ge HI0.out)); rintro e w4 ⟨rfl, hi, hb, hk⟩; refine ⟨_, rfl, ?_⟩; replace HK := ax (KeepBut.trans (xh HK.out) hk (.inl rfl)); replace HB := ax (hb); replace HI0 := ax (hi); (try clear hb); (try clear hk); (try clear hi)))
 go_ret
 exact ⟨xe, xt52 HI0.out, xs HB.out (IsS52.ge HI0.out), xh HK.out⟩

/-! ### spec_l1In: function 42 -/
def spec_l1In.f (a0 : Int) (a1 : Int) (a2 : Int) : Option (Bool) := if a0 ≥ a1 then (some (decide (a0 ≤ a2))) else (some false)
theorem spec_l1In.calls (a0 : Int) (a1 : Int) (a2 : Int) (r : Bool) (w : World) (h : spec_l1In.f a0 a1 a2 = some r) :
  Calls Tryz.prog 42 #[.int .i64 a0, .int .i64 a1, .int .i64 a2] w fun e w' => e = .returned (.bool r) ∧ Drawn0 w w' := by
 have H : (if a0 ≥ a1 then (some (decide (a0 ≤ a2))) else (some false)) = some r := h
 clear h
 by_cases c4 : a0 ≥ a1
 ·rw [if_pos c4] at H
  have c4b0 : decide (a1 ≤ a0) = true := decide_eq_true c4
  clear c4
  obtain rfl := Option.some.inj H
  go_enter Tryz.func42, Tryz.ntmps42
  go_wp2
  go_ret
  exact ⟨by first | rfl | (simp; done) | (simp [*]; done), by repeat (first | exact Drawn0.refl _ | apply Drawn0.step)⟩
 ·rw [if_neg c4] at H
  have c4b0 : decide (a1 ≤ a0) = false := decide_eq_false c4
  clear c4
  obtain rfl := Option.some.inj H
  go_enter Tryz.func42, Tryz.ntmps42
  go_wp2
  go_ret
  exact ⟨by first | rfl | (simp; done) | (simp [*]; done), by repeat (first | exact Drawn0.refl _ | apply Drawn0.step)⟩

end Go.Proofs.YtopmggldaicpaacGreat.PFnKronecker
