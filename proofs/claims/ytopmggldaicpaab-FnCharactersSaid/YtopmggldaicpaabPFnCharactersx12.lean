-- Written by a program of this session (wip/print/xprint.py).
import Derived.Test.YtopmggldaicpaabPFnCharactersx0
import Derived.Test.YtopmggldaicpaabPFnCharactersx1
import Derived.Test.YtopmggldaicpaabPFnCharactersx10
namespace Go.Proofs.Ytopmggldaicpaab.PFnCharacters
open Go.RowKit Go.Proofs.YtopmggldaicpaabW.PrintWords Go.Proofs.YtopmggldaicpaabW.PrintLast Go.Proofs.YtopmggldaicpaabW.PrintMore
attribute [local go_sem] max2_int min2_int max_two min_two max_three min_three max_four min_four   -- for this text's walks alone
set_option linter.unusedVariables false
set_option linter.unusedSimpArgs false

/-! ### spec_l19Pick__2: function 102 -/
def spec_l19Pick__2.l0 : Nat → List Int → Int → List (List Int) → List (List Int) → Int → Option ((List (List Int)))
 | 0, _, _, _, _, _ => none
 | k + 1, x0, x1, x7, x8, x9 => if x9 < (x8.length : Int) then (if 0 ≤ x9 then (if (([] : List Int)).length + x0.length < 17592186044416 then ((spec_l2Size.f k x0).bind fun t509 => (if x1 < t509 then ((some (([] : List Int) : List Int)).bind fun y510 => (if y510.length + x0.length < 17592186044416 then ((spec_IsRibbon.f k (y510 ++ x0) (rd_L2 x8 x9)).bind fun t517 => (if t517 = true then (if x7.length < 5864062014805 then (spec_l19Pick__2.l0 k x0 x1 (x7 ++ [rd_L2 x8 x9]) x8 (wrap64 (x9 + 1))) else (none)) else (spec_l19Pick__2.l0 k x0 x1 x7 x8 (wrap64 (x9 + 1))))) else (none))) else (none))) else (none)) else (none)) else (some x7)
def spec_l19Pick__2.f (k : Nat) (l0 : List Int) (a1 : Int)  : Option ((List (List Int))) := (spec_PartitionsOf.f k a1).bind fun t498 => (spec_l19Pick__2.l0 k l0 a1 (([] : List (List Int))) t498 0)
theorem spec_l19Pick__2.mono_l : ∀ k, (∀ y0 y1 y2 y3 y4, LeO (spec_l19Pick__2.l0 k y0 y1 y2 y3 y4) (spec_l19Pick__2.l0 (k + 1) y0 y1 y2 y3 y4))
 | 0 => fun _ _ _ _ _ r h => by simp [spec_l19Pick__2.l0] at h
 | k + 1 => by
  have ih0 := spec_l19Pick__2.mono_l k
  ·intro y0 y1 y2 y3 y4
   unfold spec_l19Pick__2.l0
   repeat' with_reducible first | exact ih0 _ _ _ _ _ | exact spec_IsRibbon.mono _ _ _ | exact spec_PartitionsOf.mono _ _ | exact spec_l2Size.mono _ _ | exact xl | refine LeO.ite ?_ ?_ | refine LeO.bind ?_ fun _ => ?_
theorem spec_l19Pick__2.mono : ∀ a0 a1 k, LeO (spec_l19Pick__2.f k a0 a1) (spec_l19Pick__2.f (k + 1) a0 a1) := by
 intro a0 a1 k
 have ih0 := spec_l19Pick__2.mono_l k
 unfold spec_l19Pick__2.f
 repeat' with_reducible first | exact ih0 _ _ _ _ _ | exact spec_IsRibbon.mono _ _ _ | exact spec_PartitionsOf.mono _ _ | exact spec_l2Size.mono _ _ | exact xl | refine LeO.ite ?_ ?_ | refine LeO.bind ?_ fun _ => ?_
def spec_l19Pick__2.T6 : Bool × List (List Nat × List Nat) := (true, [([], []), ([], []), ([0, 1], [0, 1]), ([2], [2]), ([], []), ([], []), ([4, 5], [4, 5]), ([3, 6], [3, 6]), ([], []), ([8, 7, 6, 0, 1, 2, 3, 4, 5, 6, 7, 8], [7, 8])])
def spec_l19Pick__2.B6 : List Nat := [0, 0, 3, 7, 0, 0, 48, 127, 0, 511]
theorem spec_l19Pick__2.tab6 : rtab .any (opsOf Try.f66 6) = spec_l19Pick__2.T6 := by kernel_rfl
theorem spec_l19Pick__2.bits6 : waitsOk spec_l19Pick__2.T6.2 spec_l19Pick__2.B6 = true := by kernel_rfl
def spec_l19Pick__2.T8 : Bool × List (List Nat × List Nat) := (true, [([], []), ([], []), ([0, 1], [0, 1]), ([], []), ([], []), ([3, 4], [3, 4]), ([5], [5]), ([2, 6], [2, 6]), ([7, 2, 0, 1, 2, 3, 4, 5, 6, 7], [7])])
def spec_l19Pick__2.B8 : List Nat := [0, 0, 3, 0, 0, 24, 56, 127, 255]
theorem spec_l19Pick__2.tab8 : rtab .any (opsOf Try.f66 8) = spec_l19Pick__2.T8 := by kernel_rfl
theorem spec_l19Pick__2.bits8 : waitsOk spec_l19Pick__2.T8.2 spec_l19Pick__2.B8 = true := by kernel_rfl
set_option maxHeartbeats 8000000 in
set_option maxRecDepth 100000 in
theorem spec_l19Pick__2.calls (k : Nat) (A0 : Option Addr) (c0 : Nat) (l0 : List Int) (a1 : Int)  (r : List (List Int)) (w : World) (hr0 : Kd.C (Kd.int .i64) w A0 l0.length l0) (hc0 : l0.length ≤ c0) (h : spec_l19Pick__2.f k l0 a1 = some r) :
  Calls Try.prog 66 #[.slice A0 l0.length c0, .int .i64 a1, .int .i64 2] w fun e w' => ∃ v0_ : Value, e = .returned (v0_) ∧ Kd.N (Kd.slice 3 (Kd.int .i64)) 24 w' w.heap.size (fun k_ => (w.heap.size ≤ k_)) v0_ r ∧ Below w.heap.size w w' := by
 have hu46 := Try.underlying46
 have HR0 := ax hr0
 have HC0 := ax hc0
 clear hr0 hc0
 have HB := ax (Below.refl w.heap.size w)
 have H : ((spec_PartitionsOf.f k a1).bind fun t498 => (spec_l19Pick__2.l0 k l0 a1 (([] : List (List Int))) t498 0)) = some r := h
 clear h
 obtain ⟨y495, hy495⟩ : ∃ y_ : List (List Int), y_ = (([] : List (List Int))) := ⟨_, rfl⟩
 replace H : ((spec_PartitionsOf.f k a1).bind fun t498 => (spec_l19Pick__2.l0 k l0 a1 y495 t498 0)) = some r := by first | (rw [hy495]; with_reducible exact H) | (have H2_ := (Option.bind_some _ _).symm.trans H; rw [hy495]; with_reducible exact H2_) | (have H2_ := (Option.bind_some _ _).symm.trans H; with_reducible exact H2_) | with_reducible exact H | (rw [hy495]; exact H) | exact H
 have Ny495 := ax hy495
 clear hy495
 obtain ⟨t498, A4, H⟩ := xI H
 have H' := ax H
 clear H
 go_enter Try.func66, Try.ntmps66
 go_wp2_with (first | ((with_reducible refine gate_dst (N := 11) rfl ?_); refine Kd.N_lit (Kd.slice 3 (Kd.int .i64)) _ 24 ?hg (N' := 11) ?hd (xs := ([] : List (List Int))) (inner := []) (ok := (fun k_ => (w.heap.size ≤ k_))) (okp := (fun k_ => (w.heap.size ≤ k_))) ?hr ?hp (fun _ hk => hk) ((show ∀ k_, w.heap.size ≤ k_ → (fun k_ => (w.heap.size ≤ k_)) k_ from fun k_ hk => (Nat.le_trans (below_size (xb HB.out)) hk)) _ (Nat.le_refl _)) (Below.refl _ _) (Nat.le_refl _) (by simp) ?_; (case hd => rfl); (case hg => rfl); (case hr => first | (go_simp; done) | (go_simp; rfl)); (case hp => exact (Reps.none _ _)); intro v496 w5 ho6 hb hg_ hnew_; clear hg_ hnew_; (first | rw [← Ny495.out] at ho6 | (simp only [Int.reduceToNat] at ho6; rw [← Ny495.out] at ho6)); have HO497 := ax (Kd.N_lower ho6 (below_size (xb HB.out))); replace HB := ax (below_step (xb HB.out) hb); clear hb ho6) | ((with_reducible refine gate_callee (f := 23) rfl ?_); refine goesL_ (some 13) rfl rfl Try.func23 (by kernel_rfl) rfl #[.int .i64 a1] rfl xm ?_; (with_reducible refine (spec_PartitionsOf.calls k a1 t498 _ A4.out).mono ?_); rintro e w7 ⟨v499, rfl, ho0, hb⟩; refine ⟨_, rfl, ?_⟩; have HO500 := ax (Kd.N_lower (Kd.N_mono (ok' := fun k_ => (w.heap.size ≤ k_) ∧ some k_ ≠ (v496 : Value).ownBlock) (Kd.S_N (Kd.S_bound ho0)) (fun k_ hk_ => ⟨(Nat.le_trans (below_size (xb HB.out)) hk_.2.1), (Kd.fresh' (Kd.N_lt (xN HO497.out)) k_ hk_.2.1)⟩)) (below_size (xb HB.out))); replace HO497 := ax (Kd.N_elder' (xN HO497.out) (by first | exact Kd.N_base ho0 | exact Kd.S_base ho0 | exact Kd.R_base ho0) hb); replace HB := ax (below_step (xb HB.out) hb); (try clear hb); (try clear hb2); (try clear hk); (try clear hi); (try clear ho0)))
 go_loopg [7, 9] k (fun kq v7 v9 w' => ∃ (x7_1 : List (List Int)) (x9_1 : Int), v9 = .int .i64 x9_1 ∧ Aside0 (spec_l19Pick__2.l0 kq l0 a1 x7_1 t498 x9_1 = some r) ∧ Aside0 (kq ≤ k) ∧ Aside0 (Kd.N (Kd.slice 3 (Kd.int .i64)) 24 w' w.heap.size (fun k_ => (w.heap.size ≤ k_) ∧ some k_ ≠ (v499 : Value).ownBlock) v7 x7_1) ∧ Aside0 (Kd.N (Kd.slice 3 (Kd.int .i64)) 24 w' w.heap.size (fun k_ => (w.heap.size ≤ k_) ∧ some k_ ≠ (v7 : Value).ownBlock) v499 t498) ∧ Aside0 (Below w.heap.size w w'))
 case atStart => exact ⟨(y495), (0), xr, H', ⟨Nat.le_refl _⟩, ⟨xN HO497.out⟩, ⟨xN HO500.out⟩, ⟨xb HB.out⟩⟩
 case round =>
  clear H'
  (try clear c2); (try clear p2); (try clear c6)
  obtain ⟨x7_1, x9_1, rfl, HA, HK1, HO_7, HO_8, HB⟩ := hrel
  cases gk with
  | zero => exact absurd HA.out (by simp [spec_l19Pick__2.l0])
  | succ k1 =>
   have H := HA.out
   clear HA
   simp only [spec_l19Pick__2.l0] at H
   by_cases c8 : x9_1 < (t498.length : Int)
   ·rw [if_pos c8] at H
    have c8b0 := decide_eq_true c8
    clear c8
    obtain ⟨c9, H⟩ := xp H
    have c9b0 := decide_eq_true c9
    clear c9
    obtain ⟨y502, hy502⟩ : ∃ y_ : List Int, y_ = (([] : List Int)) := ⟨_, rfl⟩
    replace H : (if y502.length + l0.length < 17592186044416 then ((spec_l2Size.f k1 l0).bind fun t509 => (if a1 < t509 then ((some (([] : List Int) : List Int)).bind fun y510 => (if y510.length + l0.length < 17592186044416 then ((spec_IsRibbon.f k1 (y510 ++ l0) (rd_L2 t498 x9_1)).bind fun t517 => (if t517 = true then (if x7_1.length < 5864062014805 then (spec_l19Pick__2.l0 k1 l0 a1 (x7_1 ++ [rd_L2 t498 x9_1]) t498 (wrap64 (x9_1 + 1))) else (none)) else (spec_l19Pick__2.l0 k1 l0 a1 x7_1 t498 (wrap64 (x9_1 + 1))))) else (none))) else (none))) else (none)) = some r := by first | (rw [hy502]; with_reducible exact H) | (have H2_ := (Option.bind_some _ _).symm.trans H; rw [hy502]; with_reducible exact H2_) | (have H2_ := (Option.bind_some _ _).symm.trans H; with_reducible exact H2_) | with_reducible exact H | (rw [hy502]; exact H) | exact H
    have Ny502 := ax hy502
    clear hy502
    obtain ⟨c10, H⟩ := xp H
    have LMc10 := ax c10
    clear c10
    obtain ⟨y505, Ny505⟩ := xy ((y502 ++ l0) : List Int)
    obtain ⟨t509, A11, H⟩ := xI H
    obtain ⟨c12, H⟩ := xp H
    have c12b0 := decide_eq_true c12
    clear c12
    obtain ⟨y510, Ny510, H⟩ := xg H
    obtain ⟨c13, H⟩ := xp H
    have LMc13 := ax c13
    clear c13
    obtain ⟨y513, hy513⟩ : ∃ y_ : List Int, y_ = (y510 ++ l0) := ⟨_, rfl⟩
    replace H : ((spec_IsRibbon.f k1 y513 (rd_L2 t498 x9_1)).bind fun t517 => (if t517 = true then (if x7_1.length < 5864062014805 then (spec_l19Pick__2.l0 k1 l0 a1 (x7_1 ++ [rd_L2 t498 x9_1]) t498 (wrap64 (x9_1 + 1))) else (none)) else (spec_l19Pick__2.l0 k1 l0 a1 x7_1 t498 (wrap64 (x9_1 + 1))))) = some r := by first | (rw [hy513]; with_reducible exact H) | (have H2_ := (Option.bind_some _ _).symm.trans H; rw [hy513]; with_reducible exact H2_) | (have H2_ := (Option.bind_some _ _).symm.trans H; with_reducible exact H2_) | with_reducible exact H | (rw [hy513]; exact H) | exact H
    have Ny513 := ax hy513
    clear hy513
    obtain ⟨t517, A14, H⟩ := xI H
    by_cases c15 : t517 = true
    ·subst c15
     rw [if_pos rfl] at H
     obtain ⟨c16, H⟩ := xp H
     have LMc16 := ax c16
     clear c16
     obtain ⟨y519, hy519⟩ : ∃ y_ : List (List Int), y_ = (x7_1 ++ [rd_L2 t498 x9_1]) := ⟨_, rfl⟩
     replace H : (spec_l19Pick__2.l0 k1 l0 a1 y519 t498 (wrap64 (x9_1 + 1))) = some r := by first | (rw [hy519]; with_reducible exact H) | (have H2_ := (Option.bind_some _ _).symm.trans H; rw [hy519]; with_reducible exact H2_) | (have H2_ := (Option.bind_some _ _).symm.trans H; with_reducible exact H2_) | with_reducible exact H | (rw [hy519]; exact H) | exact H
     have Ny519 := ax hy519
     clear hy519
     have H' := ax H
     clear H
     obtain ⟨Ao17, co17, eo17⟩ := Kd.N_slice HO_8.out
     subst eo17
     try go_wp2
     replace HO_7 := ax (Kd.N_drew HO_7.out); replace HO_8 := ax (Kd.N_drew HO_8.out); replace HB := ax (below_drew1 HB.out)
     have p501 : 0 ≤ (x9_1 : Int) := xd
     have q501 : x9_1 < (t498.length : Int) := xd
     obtain ⟨ad501, A501_0, c501_0, e501, hx501_0, hl501_0, hi501_0⟩ := at_L2 (Kd.N_reads' HO_8.out).2.2 x9_1 p501 q501
     cases e501
     obtain ⟨ce501, hce501, hMe501, hcc501⟩ := Kd.N_get HO_8.out [] x9_1 p501 (by first | exact q501 | exact xd | (have e_ := (Kd.N_reads' HO_8.out).1; omega))
     obtain ⟨ua501_0, uc501_0, rfl, ul501_0, ge501_0⟩ := Kd.FK_slice_open hMe501
     have hv501_0 := hcc501 0 _ rfl
     rw [Nat.add_zero, show ((Kd.slice 3 (Kd.int .i64))).sz = 1 from rfl, Nat.mul_one] at hv501_0
     replace hv501_0 := Option.some.inj (hv501_0.symm.trans hx501_0)
     injection hv501_0 with hva_ hvn_ hvc_
     rw [hva_] at ge501_0
     rw [hvc_] at ul501_0
     have HL501_0 := ax (show Kd.V (Kd.int .i64) 3 _ w.heap.size _ _ (rd_L2 t498 x9_1) from Kd.V_mk ul501_0 ge501_0)
     clear hva_ hvn_ hvc_ ge501_0 ul501_0 hcc501 hce501
     have HR501_0 := ax hi501_0
     have HC501_0 := ax hl501_0
     clear hi501_0 hl501_0
     replace p501 := eq_true p501
     replace q501 := eq_true q501
     refine start_ (n := 10) (S := fun w' => w'.cell? (ad501.add (x9_1).toNat) = some (.slice A501_0 (rd_L2 t498 x9_1).length c501_0)) (ds := []) (xB 10 0) (by kernel_rfl) rfl (by kernel_rfl) (hx501_0) (fun hHeld => ?_); refine with_tabW spec_l19Pick__2.tab6 spec_l19Pick__2.bits6 (fun HT_ HW_ => ?_)
     generalize wr.drew = w18 at HO_7 HO_8 HB HL501_0 HR501_0 hx501_0 hHeld ⊢
     refine pu (i := 0) (N := some 20) (xB 10 1) HT_.out ?_
     refine pu (i := 1) (N := some 21) (xB 10 3) HT_.out ?_
     refine pu (i := 2) (N := some 22) (xB 10 7) HT_.out ?_
     refine pu (i := 5) (N := some 25) (xB 10 39) HT_.out ?_
     refine tk (i := 3) (N := some 23) (xB 10 47) HT_.out HW_.out hHeld ?_
     refine join_ (σ := Value × Value × Nat) 1 (xB 10 511) (fun s_ => [(24, s_.1), (26, s_.2.1), (10, .pointer (some ⟨s_.2.2, 0, none⟩)), (27, .agg #[.slice A501_0 (rd_L2 t498 x9_1).length c501_0, s_.2.1])]) (fun s_ w' => (w'.cell? (ad501.add (x9_1).toNat) = some (.slice A501_0 (rd_L2 t498 x9_1).length c501_0)) ∧ (Kd.V (Kd.int .i64) 3 w' w.heap.size (fun k_ => (w.heap.size ≤ k_) ∧ some k_ ≠ (s_.2.1 : Value).ownBlock ∧ some k_ ≠ (u7 : Value).ownBlock ∧ some k_ ≠ (.slice (some ad501) t498.length co17 : Value).ownBlock ∧ k_ ≠ s_.2.2) (.slice A501_0 (rd_L2 t498 x9_1).length c501_0) (rd_L2 t498 x9_1)) ∧ (Kd.R (Kd.int .i64) 3 w' w.heap.size (fun k_ => (w.heap.size ≤ k_)) s_.2.1 y505) ∧ (Kd.N (Kd.slice 3 (Kd.int .i64)) 24 w' w.heap.size (fun k_ => (w.heap.size ≤ k_) ∧ some k_ ≠ (s_.2.1 : Value).ownBlock ∧ some k_ ≠ (.slice (some ad501) t498.length co17 : Value).ownBlock ∧ k_ ≠ s_.2.2) u7 x7_1) ∧ (Kd.N (Kd.slice 3 (Kd.int .i64)) 24 w' w.heap.size (fun k_ => (w.heap.size ≤ k_) ∧ some k_ ≠ (s_.2.1 : Value).ownBlock ∧ some k_ ≠ (u7 : Value).ownBlock ∧ k_ ≠ s_.2.2) (.slice (some ad501) t498.length co17) t498) ∧ (w'.heap[s_.2.2]? = some (.cells #[.slice none 0 0, .slice none 0 0] 46 (0, 0))) ∧ (w.heap.size ≤ s_.2.2) ∧ (w.heap.size ≤ s_.2.2) ∧ (Below w.heap.size w w')) ?_ ?_
     rotate_left
     ·intro hCont
      refine two_ (i := 4) (j := 8) (Ni := some 24) (Nj := some 10) (xB 10 63) (xB 10 303) rfl rfl rfl rfl (two_of HT_.out (by kernel_rfl)) (by decide) (by decide) (fun K hK => ?_) (fun K hK => ?_)
      ·skip
       refine Kd.R_lit_step (Kd.int .i64) _ 3 ?hg (N := 24) ?hd (xs := ([] : List Int)) (inner := []) (ok := fun _ => True) (okp := fun _ => True) ?hr ?hp (fun _ hk => hk) trivial (Below.refl _ _) (Nat.le_refl _) (by simp) ?_; (case hd => rfl); (case hg => rfl); (case hr => first | (go_simp; done) | (go_simp; rfl)); (case hp => exact (Reps.none _ _))
       intro v503 w19 ho20 hb hg_ hnew_
       have HS0_ := (hb.cell (World.block_lt_of_cell? _ _ (hHeld))).trans (hHeld)
       clear hg_ hnew_
       (first | rw [← Ny502.out] at ho20 | (simp only [Int.reduceToNat] at ho20; rw [← Ny502.out] at ho20))
       replace HO_7 := ax (Kd.N_elder' (xN HO_7.out) (Kd.R_base ho20) hb); replace HO_8 := ax (Kd.N_elder' (xN HO_8.out) (Kd.R_base ho20) hb); replace HL501_0 := ax (Kd.V_elder' (xV HL501_0.out) (Kd.R_base ho20) hb); have HO504 := ax (Kd.R_lower (Kd.R_newM (M := fun k_ => (w.heap.size ≤ k_)) ho20 (below_size (xb HB.out)) (fun k_ h_ => h_)) (below_size (xb HB.out))); replace HR501_0 := ax (Kd.C_below (xw HR501_0.out) hb); replace HB := ax (below_step (xb HB.out) hb); clear hb ho20
       refine hK.out _ _ (HS0_) (fun hHeld => ?_)
       clear hK K
       refine norm_ (a' := ?_) ?_ ?_
       rotate_left
       ·show Act.put _ (some 24) _ = _
        simp only [Act.put, List.setIfInBounds_toArray, List.set_cons_zero, List.set_cons_succ, i64_w, i32_w]
        rfl
       refine two_ (i := 6) (j := 8) (Ni := some 26) (Nj := some 10) (xB 10 127) (xB 10 319) rfl rfl rfl rfl (two_of HT_.out (by kernel_rfl)) (by decide) (by decide) (fun K hK => ?_) (fun K hK => ?_)
       ·skip
        refine Kd.R_append_rows_step (Kd.int .i64) (w0 := w) w.heap.size (by rfl) (.tmp 24) (.tmp 25) 24 3 (.int .i64 0) 8 rfl Try.underlying24 info3 rfl (by decide) (by omega) v503 y502 l0 _ _ _ (fun k_ => (w.heap.size ≤ k_)) (fun _ => False) rfl rfl ?aO ?aR (fun _ _ h => h) (fun _ h => h.elim) ?aF ?aB ?aS ?aL ?_
        (case aR => exact xz HR0.out (Kd.C_below · HB.out))
        (case aB => exact (xb HB.out))
        (case aF => exact (fun k_ hk => (Nat.le_trans (below_size (xb HB.out)) hk)))
        (case aO => exact (by (with_reducible repeat (first | apply Kd.R_alloc | apply Kd.R_drewN | apply Kd.R_drew)); exact Kd.R_mono HO504.out (fun _ hk => hk.1)))
        (case aS => exact (below_size (xb HB.out)))
        (case aL => have := LMc10.out; omega)
        intro v506 w21 ho hb hg hat
        have HS0_ := cell_grown hg (hHeld) (by first | (rw [add_block]; exact (fun e_ => by obtain ⟨cs_, hc_⟩ := Kd.N_typed HO_8.out _ rfl; exact Kd.R_ne HO504.out hc_ (by decide) e_)) | (show some (Addr.add _ _).block ≠ _; rw [add_block]; exact (fun e_ => by obtain ⟨cs_, hc_⟩ := Kd.N_typed HO_8.out _ rfl; exact Kd.R_ne HO504.out hc_ (by decide) e_)) | exact (fun e_ => by obtain ⟨cs_, hc_⟩ := Kd.N_typed HO_8.out _ rfl; exact Kd.R_ne HO504.out hc_ (by decide) e_))
        rw [← Ny505.out] at ho
        have n0_ := ax (Kd.N_afterv (ok := (fun k_ => (w.heap.size ≤ k_) ∧ some k_ ≠ (.slice (some ad501) t498.length co17 : Value).ownBlock)) (xN HO_7.out) hg hat)
        have n1_ := ax (Kd.N_afterv (ok := (fun k_ => (w.heap.size ≤ k_) ∧ some k_ ≠ (u7 : Value).ownBlock)) (xN HO_8.out) hg hat)
        have n2_ := ax (Kd.V_afterv (ok := (fun k_ => (w.heap.size ≤ k_) ∧ some k_ ≠ (u7 : Value).ownBlock ∧ some k_ ≠ (.slice (some ad501) t498.length co17 : Value).ownBlock)) (by (with_reducible repeat (first | apply Kd.V_alloc | apply Kd.V_drewN | apply Kd.V_drew)); exact Kd.V_mono HL501_0.out (by first | exact (fun _ hk => ⟨⟨hk.1.1.1, ⟨hk.1.1.2, hk.1.2⟩⟩, hk.2⟩) | exact xi)) hg hat)
        have n3_ := ax (hb)
        have n4_ := ax (ho)
        clear HO_7 HO_8 HL501_0 HB HO504
        have HO_7 := n0_
        have HO_8 := n1_
        have HL501_0 := n2_
        have HB := n3_
        have HO507 := n4_
        clear n0_ n1_ n2_ n3_ n4_ ho hb hg hat
        obtain ⟨Ao22, co22, eo22⟩ := Kd.R_slice HO507.out
        (first | subst eo22 | (injection eo22 with f1_ f2_ f3_; have f4_ := f1_.symm; have f5_ := f3_.symm; clear f1_ f2_ f3_; subst f4_; subst f5_))
        refine hK.out _ _ (HS0_) (fun hHeld => ?_)
        clear hK K
        refine norm_ (a' := ?_) ?_ ?_
        rotate_left
        ·show Act.put _ (some 26) _ = _
         simp only [Act.put, List.setIfInBounds_toArray, List.set_cons_zero, List.set_cons_succ, i64_w, i32_w]
         rfl
        refine pu (i := 7) (N := some 27) (xB 10 255) HT_.out ?_
        refine one_ (i := 8) (N := some 10) (xB 10 511) rfl rfl (one_of HT_.out (by kernel_rfl)) (by decide) (fun K hK => ?_)
        refine box_step ?hg (N := 10) ?hd (cs := #[.slice none 0 0, .slice none 0 0]) (t := 46) ?hr ?_; (case hd => rfl); (case hg => rfl); (case hr => first | (go_simp; done) | (go_simp; rfl))
        intro gb508 hg w23 hbox hb
        have HS0_ := (hb.cell (World.block_lt_of_cell? _ _ (hHeld))).trans (hHeld)
        replace HO_7 := ax (Kd.N_below (Kd.N_elderB (xN HO_7.out) gb508 (Nat.le_of_eq hg.symm)) hb); replace HO_8 := ax (Kd.N_below (Kd.N_elderB (xN HO_8.out) gb508 (Nat.le_of_eq hg.symm)) hb); replace HL501_0 := ax (Kd.V_below (Kd.V_elderB (xV HL501_0.out) gb508 (Nat.le_of_eq hg.symm)) hb); replace HO507 := ax (Kd.R_below (xR HO507.out) hb); have BK508 := ax (hbox); have GW508 := ax ((by rw [hg]; exact (below_size (xb HB.out)) : w.heap.size ≤ gb508)); have GE508 := ax ((by rw [hg]; exact (below_size (xb HB.out)) : w.heap.size ≤ gb508)); replace HB := ax (below_step (xb HB.out) hb); clear hb hbox hg
        refine hK.out _ _ (HS0_) (fun hHeld => ?_)
        clear hK K
        refine norm_ (a' := ?_) ?_ ?_
        rotate_left
        ·show Act.put _ (some 10) _ = _
         simp only [Act.put, List.setIfInBounds_toArray, List.set_cons_zero, List.set_cons_succ, i64_w, i32_w]
         rfl
        exact norm_ (by simp only [putAll, Act.put, List.setIfInBounds_toArray, List.set_cons_zero, List.set_cons_succ]) (hCont (v503, .slice Ao22 y505.length co22, gb508) _ ⟨hHeld, (by (with_reducible repeat (first | apply Kd.V_alloc | apply Kd.V_drewN | apply Kd.V_drew)); exact Kd.V_mono HL501_0.out (by first | exact (fun _ hk => ⟨hk.1.1.1, ⟨hk.1.2, ⟨hk.1.1.2.1, ⟨hk.1.1.2.2, hk.2⟩⟩⟩⟩) | exact xi)), (xR HO507.out), (by (with_reducible repeat (first | apply Kd.N_alloc | apply Kd.N_drewN | apply Kd.N_drew)); exact Kd.N_mono HO_7.out (by first | exact (fun _ hk => ⟨hk.1.1.1, ⟨hk.1.2, ⟨hk.1.1.2, hk.2⟩⟩⟩) | exact xi)), (by (with_reducible repeat (first | apply Kd.N_alloc | apply Kd.N_drewN | apply Kd.N_drew)); exact Kd.N_mono HO_8.out (by first | exact (fun _ hk => ⟨hk.1.1.1, ⟨hk.1.2, ⟨hk.1.1.2, hk.2⟩⟩⟩) | exact xi)), (xk BK508.out), GW508.out, GE508.out, (xs HB.out GE508.out)⟩)
       ·skip
        refine box_step ?hg (N := 10) ?hd (cs := #[.slice none 0 0, .slice none 0 0]) (t := 46) ?hr ?_; (case hd => rfl); (case hg => rfl); (case hr => first | (go_simp; done) | (go_simp; rfl))
        intro gb508 hg w21 hbox hb
        have HS0_ := (hb.cell (World.block_lt_of_cell? _ _ (hHeld))).trans (hHeld)
        replace HO_7 := ax (Kd.N_below (Kd.N_elderB (xN HO_7.out) gb508 (Nat.le_of_eq hg.symm)) hb); replace HO_8 := ax (Kd.N_below (Kd.N_elderB (xN HO_8.out) gb508 (Nat.le_of_eq hg.symm)) hb); replace HL501_0 := ax (Kd.V_below (Kd.V_elderB (xV HL501_0.out) gb508 (Nat.le_of_eq hg.symm)) hb); replace HO504 := ax (Kd.R_below (xR HO504.out) hb); replace HR501_0 := ax (Kd.C_below (xw HR501_0.out) hb); have BK508 := ax (hbox); have GW508 := ax ((by rw [hg]; exact (below_size (xb HB.out)) : w.heap.size ≤ gb508)); have GE508 := ax ((by rw [hg]; exact (below_size (xb HB.out)) : w.heap.size ≤ gb508)); replace HB := ax (below_step (xb HB.out) hb); clear hb hbox hg
        refine hK.out _ _ (HS0_) (fun hHeld => ?_)
        clear hK K
        refine norm_ (a' := ?_) ?_ ?_
        rotate_left
        ·show Act.put _ (some 10) _ = _
         simp only [Act.put, List.setIfInBounds_toArray, List.set_cons_zero, List.set_cons_succ, i64_w, i32_w]
         rfl
        refine one_ (i := 6) (N := some 26) (xB 10 383) rfl rfl (one_of HT_.out (by kernel_rfl)) (by decide) (fun K hK => ?_)
        refine Kd.R_append_rows_step (Kd.int .i64) (w0 := w) w.heap.size (by rfl) (.tmp 24) (.tmp 25) 24 3 (.int .i64 0) 8 rfl Try.underlying24 info3 rfl (by decide) (by omega) v503 y502 l0 _ _ _ (fun k_ => (w.heap.size ≤ k_)) (fun _ => False) rfl rfl ?aO ?aR (fun _ _ h => h) (fun _ h => h.elim) ?aF ?aB ?aS ?aL ?_
        (case aR => exact xz HR0.out (Kd.C_below · HB.out))
        (case aB => exact (xs HB.out GE508.out))
        (case aF => exact (fun k_ hk => (Nat.le_trans (below_size (xs HB.out GE508.out)) hk)))
        (case aO => exact (by (with_reducible repeat (first | apply Kd.R_alloc | apply Kd.R_drewN | apply Kd.R_drew)); exact Kd.R_mono HO504.out (fun _ hk => hk.1)))
        (case aS => exact (below_size (xs HB.out GE508.out)))
        (case aL => have := LMc10.out; omega)
        intro v506 w22 ho hb hg hat
        have HS0_ := cell_grown hg (hHeld) (by first | (rw [add_block]; exact (fun e_ => by obtain ⟨cs_, hc_⟩ := Kd.N_typed HO_8.out _ rfl; exact Kd.R_ne HO504.out hc_ (by decide) e_)) | (show some (Addr.add _ _).block ≠ _; rw [add_block]; exact (fun e_ => by obtain ⟨cs_, hc_⟩ := Kd.N_typed HO_8.out _ rfl; exact Kd.R_ne HO504.out hc_ (by decide) e_)) | exact (fun e_ => by obtain ⟨cs_, hc_⟩ := Kd.N_typed HO_8.out _ rfl; exact Kd.R_ne HO504.out hc_ (by decide) e_))
        rw [← Ny505.out] at ho
        have n0_ := ax (Kd.N_afterv (ok := (fun k_ => (w.heap.size ≤ k_) ∧ some k_ ≠ (.slice (some ad501) t498.length co17 : Value).ownBlock ∧ k_ ≠ gb508)) (by (with_reducible repeat (first | apply Kd.N_alloc | apply Kd.N_drewN | apply Kd.N_drew)); exact Kd.N_mono HO_7.out (by first | exact (fun _ hk => ⟨⟨hk.1.1.1, ⟨hk.1.1.2, hk.2⟩⟩, hk.1.2⟩) | exact xi)) hg hat)
        have n1_ := ax (Kd.N_afterv (ok := (fun k_ => (w.heap.size ≤ k_) ∧ some k_ ≠ (u7 : Value).ownBlock ∧ k_ ≠ gb508)) (by (with_reducible repeat (first | apply Kd.N_alloc | apply Kd.N_drewN | apply Kd.N_drew)); exact Kd.N_mono HO_8.out (by first | exact (fun _ hk => ⟨⟨hk.1.1.1, ⟨hk.1.1.2, hk.2⟩⟩, hk.1.2⟩) | exact xi)) hg hat)
        have n2_ := ax (Kd.V_afterv (ok := (fun k_ => (w.heap.size ≤ k_) ∧ some k_ ≠ (u7 : Value).ownBlock ∧ some k_ ≠ (.slice (some ad501) t498.length co17 : Value).ownBlock ∧ k_ ≠ gb508)) (by (with_reducible repeat (first | apply Kd.V_alloc | apply Kd.V_drewN | apply Kd.V_drew)); exact Kd.V_mono HL501_0.out (by first | exact (fun _ hk => ⟨⟨hk.1.1.1.1, ⟨hk.1.1.1.2, ⟨hk.1.1.2, hk.2⟩⟩⟩, hk.1.2⟩) | exact xi)) hg hat)
        have n3_ := ax (blk_grown (g := gb508) (o := .cells #[.slice none 0 0, .slice none 0 0] 46 (0, 0)) (xk BK508.out) hg (Kd.R_ne HO504.out BK508.out (by decide)))
        have n4_ := ax (hb)
        have n5_ := ax (ho)
        clear HO_7 HO_8 HL501_0 BK508 HB HO504
        have HO_7 := n0_
        have HO_8 := n1_
        have HL501_0 := n2_
        have BK508 := n3_
        have HB := n4_
        have HO507 := n5_
        clear n0_ n1_ n2_ n3_ n4_ n5_ ho hb hg hat
        obtain ⟨Ao23, co23, eo23⟩ := Kd.R_slice HO507.out
        (first | subst eo23 | (injection eo23 with f1_ f2_ f3_; have f4_ := f1_.symm; have f5_ := f3_.symm; clear f1_ f2_ f3_; subst f4_; subst f5_))
        refine hK.out _ _ (HS0_) (fun hHeld => ?_)
        clear hK K
        refine norm_ (a' := ?_) ?_ ?_
        rotate_left
        ·show Act.put _ (some 26) _ = _
         simp only [Act.put, List.setIfInBounds_toArray, List.set_cons_zero, List.set_cons_succ, i64_w, i32_w]
         rfl
        refine pu (i := 7) (N := some 27) (xB 10 511) HT_.out ?_
        exact norm_ (by simp only [putAll, Act.put, List.setIfInBounds_toArray, List.set_cons_zero, List.set_cons_succ]) (hCont (v503, .slice Ao23 y505.length co23, gb508) _ ⟨hHeld, (by (with_reducible repeat (first | apply Kd.V_alloc | apply Kd.V_drewN | apply Kd.V_drew)); exact Kd.V_mono HL501_0.out (by first | exact (fun _ hk => ⟨hk.1.1, ⟨hk.2, ⟨hk.1.2.1, ⟨hk.1.2.2.1, hk.1.2.2.2⟩⟩⟩⟩) | exact xi)), (xR HO507.out), (by (with_reducible repeat (first | apply Kd.N_alloc | apply Kd.N_drewN | apply Kd.N_drew)); exact Kd.N_mono HO_7.out (by first | exact (fun _ hk => ⟨hk.1.1, ⟨hk.2, ⟨hk.1.2.1, hk.1.2.2⟩⟩⟩) | exact xi)), (by (with_reducible repeat (first | apply Kd.N_alloc | apply Kd.N_drewN | apply Kd.N_drew)); exact Kd.N_mono HO_8.out (by first | exact (fun _ hk => ⟨hk.1.1, ⟨hk.2, ⟨hk.1.2.1, hk.1.2.2⟩⟩⟩) | exact xi)), (xk BK508.out), GW508.out, GE508.out, (xs HB.out GE508.out)⟩)
      ·skip
       refine box_step ?hg (N := 10) ?hd (cs := #[.slice none 0 0, .slice none 0 0]) (t := 46) ?hr ?_; (case hd => rfl); (case hg => rfl); (case hr => first | (go_simp; done) | (go_simp; rfl))
       intro gb508 hg w19 hbox hb
       have HS0_ := (hb.cell (World.block_lt_of_cell? _ _ (hHeld))).trans (hHeld)
       replace HO_7 := ax (Kd.N_below (Kd.N_elderB (xN HO_7.out) gb508 (Nat.le_of_eq hg.symm)) hb); replace HO_8 := ax (Kd.N_below (Kd.N_elderB (xN HO_8.out) gb508 (Nat.le_of_eq hg.symm)) hb); replace HL501_0 := ax (Kd.V_below (Kd.V_elderB (xV HL501_0.out) gb508 (Nat.le_of_eq hg.symm)) hb); replace HR501_0 := ax (Kd.C_below (xw HR501_0.out) hb); have BK508 := ax (hbox); have GW508 := ax ((by rw [hg]; exact (below_size (xb HB.out)) : w.heap.size ≤ gb508)); have GE508 := ax ((by rw [hg]; exact (below_size (xb HB.out)) : w.heap.size ≤ gb508)); replace HB := ax (below_step (xb HB.out) hb); clear hb hbox hg
       refine hK.out _ _ (HS0_) (fun hHeld => ?_)
       clear hK K
       refine norm_ (a' := ?_) ?_ ?_
       rotate_left
       ·show Act.put _ (some 10) _ = _
        simp only [Act.put, List.setIfInBounds_toArray, List.set_cons_zero, List.set_cons_succ, i64_w, i32_w]
        rfl
       refine one_ (i := 4) (N := some 24) (xB 10 319) rfl rfl (one_of HT_.out (by kernel_rfl)) (by decide) (fun K hK => ?_)
       refine Kd.R_lit_step (Kd.int .i64) _ 3 ?hg (N := 24) ?hd (xs := ([] : List Int)) (inner := []) (ok := fun _ => True) (okp := fun _ => True) ?hr ?hp (fun _ hk => hk) trivial (Below.refl _ _) (Nat.le_refl _) (by simp) ?_; (case hd => rfl); (case hg => rfl); (case hr => first | (go_simp; done) | (go_simp; rfl)); (case hp => exact (Reps.none _ _))
       intro v503 w20 ho21 hb hg_ hnew_
       have HS0_ := (hb.cell (World.block_lt_of_cell? _ _ (hHeld))).trans (hHeld)
       clear hg_ hnew_
       (first | rw [← Ny502.out] at ho21 | (simp only [Int.reduceToNat] at ho21; rw [← Ny502.out] at ho21))
       replace HO_7 := ax (Kd.N_elder' (xN HO_7.out) (Kd.R_base ho21) hb); replace HO_8 := ax (Kd.N_elder' (xN HO_8.out) (Kd.R_base ho21) hb); replace HL501_0 := ax (Kd.V_elder' (xV HL501_0.out) (Kd.R_base ho21) hb); have HO504 := ax (Kd.R_lower (Kd.R_newM (M := fun k_ => (w.heap.size ≤ k_)) ho21 (below_size (xs HB.out GE508.out)) (fun k_ h_ => h_)) (below_size (xs HB.out GE508.out))); replace HR501_0 := ax (Kd.C_below (xw HR501_0.out) hb); replace BK508 := ax (blk_below (g := gb508) (o := .cells #[.slice none 0 0, .slice none 0 0] 46 (0, 0)) (xk BK508.out) hb); replace HB := ax (below_step (xs HB.out GE508.out) hb); clear hb ho21
       refine hK.out _ _ (HS0_) (fun hHeld => ?_)
       clear hK K
       refine norm_ (a' := ?_) ?_ ?_
       rotate_left
       ·show Act.put _ (some 24) _ = _
        simp only [Act.put, List.setIfInBounds_toArray, List.set_cons_zero, List.set_cons_succ, i64_w, i32_w]
        rfl
       refine one_ (i := 6) (N := some 26) (xB 10 383) rfl rfl (one_of HT_.out (by kernel_rfl)) (by decide) (fun K hK => ?_)
       refine Kd.R_append_rows_step (Kd.int .i64) (w0 := w) w.heap.size (by rfl) (.tmp 24) (.tmp 25) 24 3 (.int .i64 0) 8 rfl Try.underlying24 info3 rfl (by decide) (by omega) v503 y502 l0 _ _ _ (fun k_ => (w.heap.size ≤ k_)) (fun _ => False) rfl rfl ?aO ?aR (fun _ _ h => h) (fun _ h => h.elim) ?aF ?aB ?aS ?aL ?_
       (case aR => exact xz HR0.out (Kd.C_below · HB.out))
       (case aB => exact (xs HB.out GE508.out))
       (case aF => exact (fun k_ hk => (Nat.le_trans (below_size (xs HB.out GE508.out)) hk)))
       (case aO => exact (by (with_reducible repeat (first | apply Kd.R_alloc | apply Kd.R_drewN | apply Kd.R_drew)); exact Kd.R_mono HO504.out (fun _ hk => hk.1)))
       (case aS => exact (below_size (xs HB.out GE508.out)))
       (case aL => have := LMc10.out; omega)
       intro v506 w22 ho hb hg hat
       have HS0_ := cell_grown hg (hHeld) (by first | (rw [add_block]; exact (fun e_ => by obtain ⟨cs_, hc_⟩ := Kd.N_typed HO_8.out _ rfl; exact Kd.R_ne HO504.out hc_ (by decide) e_)) | (show some (Addr.add _ _).block ≠ _; rw [add_block]; exact (fun e_ => by obtain ⟨cs_, hc_⟩ := Kd.N_typed HO_8.out _ rfl; exact Kd.R_ne HO504.out hc_ (by decide) e_)) | exact (fun e_ => by obtain ⟨cs_, hc_⟩ := Kd.N_typed HO_8.out _ rfl; exact Kd.R_ne HO504.out hc_ (by decide) e_))
       rw [← Ny505.out] at ho
       have n0_ := ax (Kd.N_afterv (ok := (fun k_ => (w.heap.size ≤ k_) ∧ some k_ ≠ (.slice (some ad501) t498.length co17 : Value).ownBlock ∧ k_ ≠ gb508)) (by (with_reducible repeat (first | apply Kd.N_alloc | apply Kd.N_drewN | apply Kd.N_drew)); exact Kd.N_mono HO_7.out (by first | exact (fun _ hk => ⟨⟨hk.1.1.1, ⟨hk.1.1.2, hk.1.2⟩⟩, hk.2⟩) | exact xi)) hg hat)
       have n1_ := ax (Kd.N_afterv (ok := (fun k_ => (w.heap.size ≤ k_) ∧ some k_ ≠ (u7 : Value).ownBlock ∧ k_ ≠ gb508)) (by (with_reducible repeat (first | apply Kd.N_alloc | apply Kd.N_drewN | apply Kd.N_drew)); exact Kd.N_mono HO_8.out (by first | exact (fun _ hk => ⟨⟨hk.1.1.1, ⟨hk.1.1.2, hk.1.2⟩⟩, hk.2⟩) | exact xi)) hg hat)
       have n2_ := ax (Kd.V_afterv (ok := (fun k_ => (w.heap.size ≤ k_) ∧ some k_ ≠ (u7 : Value).ownBlock ∧ some k_ ≠ (.slice (some ad501) t498.length co17 : Value).ownBlock ∧ k_ ≠ gb508)) (by (with_reducible repeat (first | apply Kd.V_alloc | apply Kd.V_drewN | apply Kd.V_drew)); exact Kd.V_mono HL501_0.out (by first | exact (fun _ hk => ⟨⟨hk.1.1.1.1, ⟨hk.1.1.1.2, ⟨hk.1.1.2, hk.1.2⟩⟩⟩, hk.2⟩) | exact xi)) hg hat)
       have n3_ := ax (blk_grown (g := gb508) (o := .cells #[.slice none 0 0, .slice none 0 0] 46 (0, 0)) (xk BK508.out) hg (Kd.R_ne HO504.out BK508.out (by decide)))
       have n4_ := ax (hb)
       have n5_ := ax (ho)
       clear HO_7 HO_8 HL501_0 BK508 HB HO504
       have HO_7 := n0_
       have HO_8 := n1_
       have HL501_0 := n2_
       have BK508 := n3_
       have HB := n4_
       have HO507 := n5_
       clear n0_ n1_ n2_ n3_ n4_ n5_ ho hb hg hat
       obtain ⟨Ao23, co23, eo23⟩ := Kd.R_slice HO507.out
       (first | subst eo23 | (injection eo23 with f1_ f2_ f3_; have f4_ := f1_.symm; have f5_ := f3_.symm; clear f1_ f2_ f3_; subst f4_; subst f5_))
       refine hK.out _ _ (HS0_) (fun hHeld => ?_)
       clear hK K
       refine norm_ (a' := ?_) ?_ ?_
       rotate_left
       ·show Act.put _ (some 26) _ = _
        simp only [Act.put, List.setIfInBounds_toArray, List.set_cons_zero, List.set_cons_succ, i64_w, i32_w]
        rfl
       refine pu (i := 7) (N := some 27) (xB 10 511) HT_.out ?_
       exact norm_ (by simp only [putAll, Act.put, List.setIfInBounds_toArray, List.set_cons_zero, List.set_cons_succ]) (hCont (v503, .slice Ao23 y505.length co23, gb508) _ ⟨hHeld, (by (with_reducible repeat (first | apply Kd.V_alloc | apply Kd.V_drewN | apply Kd.V_drew)); exact Kd.V_mono HL501_0.out (by first | exact (fun _ hk => ⟨hk.1.1, ⟨hk.2, ⟨hk.1.2.1, ⟨hk.1.2.2.1, hk.1.2.2.2⟩⟩⟩⟩) | exact xi)), (xR HO507.out), (by (with_reducible repeat (first | apply Kd.N_alloc | apply Kd.N_drewN | apply Kd.N_drew)); exact Kd.N_mono HO_7.out (by first | exact (fun _ hk => ⟨hk.1.1, ⟨hk.2, ⟨hk.1.2.1, hk.1.2.2⟩⟩⟩) | exact xi)), (by (with_reducible repeat (first | apply Kd.N_alloc | apply Kd.N_drewN | apply Kd.N_drew)); exact Kd.N_mono HO_8.out (by first | exact (fun _ hk => ⟨hk.1.1, ⟨hk.2, ⟨hk.1.2.1, hk.1.2.2⟩⟩⟩) | exact xi)), (xk BK508.out), GW508.out, GE508.out, (xs HB.out GE508.out)⟩)
     rintro ⟨v503, v506, gb508⟩ w24 ⟨hS_, h0_, h1_, h2_, h3_, h4_, h5_, h6_, h7_⟩
     have n0_ : Aside0 (Kd.V (Kd.int .i64) 3 w24 w.heap.size (fun k_ => (w.heap.size ≤ k_) ∧ some k_ ≠ (v506 : Value).ownBlock ∧ some k_ ≠ (u7 : Value).ownBlock ∧ some k_ ≠ (.slice (some ad501) t498.length co17 : Value).ownBlock ∧ k_ ≠ gb508) (.slice A501_0 (rd_L2 t498 x9_1).length c501_0) (rd_L2 t498 x9_1)) := ⟨h0_⟩
     have n1_ : Aside0 (Kd.R (Kd.int .i64) 3 w24 w.heap.size (fun k_ => (w.heap.size ≤ k_)) v506 y505) := ⟨h1_⟩
     have n2_ : Aside0 (Kd.N (Kd.slice 3 (Kd.int .i64)) 24 w24 w.heap.size (fun k_ => (w.heap.size ≤ k_) ∧ some k_ ≠ (v506 : Value).ownBlock ∧ some k_ ≠ (.slice (some ad501) t498.length co17 : Value).ownBlock ∧ k_ ≠ gb508) u7 x7_1) := ⟨h2_⟩
     have n3_ : Aside0 (Kd.N (Kd.slice 3 (Kd.int .i64)) 24 w24 w.heap.size (fun k_ => (w.heap.size ≤ k_) ∧ some k_ ≠ (v506 : Value).ownBlock ∧ some k_ ≠ (u7 : Value).ownBlock ∧ k_ ≠ gb508) (.slice (some ad501) t498.length co17) t498) := ⟨h3_⟩
     have n4_ : Aside0 (w24.heap[gb508]? = some (.cells #[.slice none 0 0, .slice none 0 0] 46 (0, 0))) := ⟨h4_⟩
     have n5_ : Aside0 (w.heap.size ≤ gb508) := ⟨h5_⟩
     have n6_ : Aside0 (w.heap.size ≤ gb508) := ⟨h6_⟩
     have n7_ : Aside0 (Below w.heap.size w w24) := ⟨h7_⟩
     clear HO_7 HO_8 HB h0_ h1_ h2_ h3_ h4_ h5_ h6_ h7_
     have HL501_0 := n0_
     have HO507 := n1_
     have HO_7 := n2_
     have HO_8 := n3_
     have BK508 := n4_
     have GW508 := n5_
     have GE508 := n6_
     have HB := n7_
     clear n0_ n1_ n2_ n3_ n4_ n5_ n6_ n7_
     have hHeld : w24.cell? (ad501.add (x9_1).toNat) = some (.slice A501_0 (rd_L2 t498 x9_1).length c501_0) := hS_
     obtain ⟨Ao25, co25, eo25⟩ := Kd.R_slice HO507.out
     (first | subst eo25 | (injection eo25 with f1_ f2_ f3_; have f4_ := f1_.symm; have f5_ := f3_.symm; clear f1_ f2_ f3_; subst f4_; subst f5_))
     refine norm_ (a' := ?_) ?_ ?_
     rotate_left
     ·simp only [putAll, Act.put, List.setIfInBounds_toArray, List.set_cons_zero, List.set_cons_succ]
      rfl
     refine one_ (i := 9) (N := none) (xB 10 1023) rfl rfl (one_of HT_.out (by kernel_rfl)) (by decide) (fun K hK => ?_)
     have hs26 : w24.cell? ⟨gb508, 0, none⟩ = some (.slice none 0 0) := (blk_cell BK508.out 0).trans rfl
     have hfs26 := blk_frozen BK508.out 0
     have hs27 : w24.cell? ⟨gb508, 1, none⟩ = some (.slice none 0 0) := (blk_cell BK508.out 1).trans rfl
     have hfs27 := blk_frozen BK508.out 1
     refine skip_ (w1 := ?_) (by rfl) rfl ?_ ?_
     rotate_left
     ·go_simp
      rfl
     refine hK.out _ _ (((cell_far (p := ⟨gb508, _, none⟩) (by first | exact Kd.own_blk (Kd.N_away HO_8.out (fun _ hk => hk.2.2.2)) | (rw [add_block]; exact Kd.own_blk (Kd.N_away HO_8.out (fun _ hk => hk.2.2.2))) | (show (Addr.add _ _).block ≠ _; rw [add_block]; exact Kd.own_blk (Kd.N_away HO_8.out (fun _ hk => hk.2.2.2))) | (dsimp only; exact Kd.own_blk (Kd.N_away HO_8.out (fun _ hk => hk.2.2.2)))) _).trans (((cell_far (p := ⟨gb508, _, none⟩) (by first | exact Kd.own_blk (Kd.N_away HO_8.out (fun _ hk => hk.2.2.2)) | (rw [add_block]; exact Kd.own_blk (Kd.N_away HO_8.out (fun _ hk => hk.2.2.2))) | (show (Addr.add _ _).block ≠ _; rw [add_block]; exact Kd.own_blk (Kd.N_away HO_8.out (fun _ hk => hk.2.2.2))) | (dsimp only; exact Kd.own_blk (Kd.N_away HO_8.out (fun _ hk => hk.2.2.2)))) _).trans (hHeld))))) (fun hHeld => ?_)
     clear hK K
     refine done_ (done_of HT_.out (by kernel_rfl)) ?_
     try go_wp2_with (first | ((with_reducible refine gate_callee (f := 28) rfl ?_); refine goesL_ (some 30) rfl rfl Try.func28 (by kernel_rfl) rfl #[.slice A0 l0.length c0] rfl xm ?_; (with_reducible refine (spec_l2Size.calls k1 _ _ l0 t509 _ ?side1 ?side2 A11.out).mono ?_); (case side1 => exact Kd.C_below HR0.out (xs HB.out GE508.out)); (case side2 => exact HC0.out); rintro e w' ⟨rfl, ⟨nd, rfl⟩⟩; refine ⟨_, rfl, ?_⟩))
     have n0_ : Aside0 (Kd.N (Kd.slice 3 (Kd.int .i64)) 24 ((w24.setCell ⟨gb508, 0, none⟩ (.slice A501_0 (rd_L2 t498 x9_1).length c501_0)).setCell ⟨gb508, 1, none⟩ (.slice Ao25 y505.length co25)) w.heap.size (fun k_ => (w.heap.size ≤ k_) ∧ some k_ ≠ (.slice (some ad501) t498.length co17 : Value).ownBlock ∧ some k_ ≠ (.slice Ao25 y505.length co25 : Value).ownBlock ∧ k_ ≠ gb508) u7 x7_1) := ⟨by (with_reducible repeat (first | apply Kd.N_alloc | apply Kd.N_drewN | apply Kd.N_drew)); exact Kd.N_mono (Kd.N_far (p := ⟨gb508, 1, none⟩) (Kd.N_far (p := ⟨gb508, 0, none⟩) (Kd.N_mono HO_7.out (fun k_ hk => (⟨hk, hk.2.2.2⟩ : _ ∧ k_ ≠ gb508))) (fun _ hk => hk.2) (.slice A501_0 (rd_L2 t498 x9_1).length c501_0)) (fun _ hk => hk.2) (.slice Ao25 y505.length co25)) (fun _ hk => ⟨hk.1.1, ⟨hk.1.2.2.1, ⟨hk.1.2.1, hk.1.2.2.2⟩⟩⟩)⟩
     have n1_ : Aside0 (Kd.N (Kd.slice 3 (Kd.int .i64)) 24 ((w24.setCell ⟨gb508, 0, none⟩ (.slice A501_0 (rd_L2 t498 x9_1).length c501_0)).setCell ⟨gb508, 1, none⟩ (.slice Ao25 y505.length co25)) w.heap.size (fun k_ => (w.heap.size ≤ k_) ∧ some k_ ≠ (u7 : Value).ownBlock ∧ some k_ ≠ (.slice Ao25 y505.length co25 : Value).ownBlock ∧ k_ ≠ gb508) (.slice (some ad501) t498.length co17) t498) := ⟨by (with_reducible repeat (first | apply Kd.N_alloc | apply Kd.N_drewN | apply Kd.N_drew)); exact Kd.N_mono (Kd.N_far (p := ⟨gb508, 1, none⟩) (Kd.N_far (p := ⟨gb508, 0, none⟩) (Kd.N_mono HO_8.out (fun k_ hk => (⟨hk, hk.2.2.2⟩ : _ ∧ k_ ≠ gb508))) (fun _ hk => hk.2) (.slice A501_0 (rd_L2 t498 x9_1).length c501_0)) (fun _ hk => hk.2) (.slice Ao25 y505.length co25)) (fun _ hk => ⟨hk.1.1, ⟨hk.1.2.2.1, ⟨hk.1.2.1, hk.1.2.2.2⟩⟩⟩)⟩
     have n2_ : Aside0 (Kd.V (Kd.int .i64) 3 ((w24.setCell ⟨gb508, 0, none⟩ (.slice A501_0 (rd_L2 t498 x9_1).length c501_0)).setCell ⟨gb508, 1, none⟩ (.slice Ao25 y505.length co25)) w.heap.size (fun k_ => (w.heap.size ≤ k_) ∧ some k_ ≠ (u7 : Value).ownBlock ∧ some k_ ≠ (.slice (some ad501) t498.length co17 : Value).ownBlock ∧ some k_ ≠ (.slice Ao25 y505.length co25 : Value).ownBlock ∧ k_ ≠ gb508) (.slice A501_0 (rd_L2 t498 x9_1).length c501_0) (rd_L2 t498 x9_1)) := ⟨by (with_reducible repeat (first | apply Kd.V_alloc | apply Kd.V_drewN | apply Kd.V_drew)); exact Kd.V_mono (Kd.V_far (p := ⟨gb508, 1, none⟩) (Kd.V_far (p := ⟨gb508, 0, none⟩) (Kd.V_mono HL501_0.out (fun k_ hk => (⟨hk, hk.2.2.2.2⟩ : _ ∧ k_ ≠ gb508))) (fun _ hk => hk.2) (.slice A501_0 (rd_L2 t498 x9_1).length c501_0)) (fun _ hk => hk.2) (.slice Ao25 y505.length co25)) (fun _ hk => ⟨hk.1.1, ⟨hk.1.2.2.1, ⟨hk.1.2.2.2.1, ⟨hk.1.2.1, hk.1.2.2.2.2⟩⟩⟩⟩)⟩
     have n3_ : Aside0 (Kd.R (Kd.int .i64) 3 ((w24.setCell ⟨gb508, 0, none⟩ (.slice A501_0 (rd_L2 t498 x9_1).length c501_0)).setCell ⟨gb508, 1, none⟩ (.slice Ao25 y505.length co25)) w.heap.size (fun k_ => (w.heap.size ≤ k_)) (.slice Ao25 y505.length co25) y505) := ⟨by (with_reducible repeat (first | apply Kd.R_alloc | apply Kd.R_drewN | apply Kd.R_drew)); exact Kd.R_mono (Kd.R_far (p := ⟨gb508, 1, none⟩) (Kd.R_far (p := ⟨gb508, 0, none⟩) (Kd.R_types HO507.out BK508.out (by decide)) (fun _ hk => hk.2) (.slice A501_0 (rd_L2 t498 x9_1).length c501_0)) (fun _ hk => hk.2) (.slice Ao25 y505.length co25)) (fun _ hk => hk.1)⟩
     have n4_ : Aside0 (((w24.setCell ⟨gb508, 0, none⟩ (.slice A501_0 (rd_L2 t498 x9_1).length c501_0)).setCell ⟨gb508, 1, none⟩ (.slice Ao25 y505.length co25)).heap[gb508]? = some (.cells #[.slice A501_0 (rd_L2 t498 x9_1).length c501_0, .slice Ao25 y505.length co25] 46 (0, 0))) := ⟨by (with_reducible repeat (first | refine blk_drewN ?_ _ | refine blk_drew ?_ | refine blk_alloc ?_ _)); refine blk_put (cs := #[.slice A501_0 (rd_L2 t498 x9_1).length c501_0, .slice none 0 0]) ?_ 1 _ rfl; (with_reducible repeat (first | refine blk_drewN ?_ _ | refine blk_drew ?_ | refine blk_alloc ?_ _)); refine blk_put (cs := #[.slice none 0 0, .slice none 0 0]) ?_ 0 _ rfl; (with_reducible repeat (first | refine blk_drewN ?_ _ | refine blk_drew ?_ | refine blk_alloc ?_ _)); exact BK508.out⟩
     have n5_ : Aside0 (Below w.heap.size w ((w24.setCell ⟨gb508, 0, none⟩ (.slice A501_0 (rd_L2 t498 x9_1).length c501_0)).setCell ⟨gb508, 1, none⟩ (.slice Ao25 y505.length co25))) := ⟨xs HB.out GE508.out⟩
     (try clear HO_7)
     (try clear HO_8)
     (try clear HL501_0)
     (try clear HO507)
     (try clear BK508)
     (try clear HB)
     generalize ((w24.setCell ⟨gb508, 0, none⟩ (.slice A501_0 (rd_L2 t498 x9_1).length c501_0)).setCell ⟨gb508, 1, none⟩ (.slice Ao25 y505.length co25)) = w28 at n0_ n1_ n2_ n3_ n4_ n5_ ⊢
     have HO_7 := n0_
     have HO_8 := n1_
     have HL501_0 := n2_
     have HO507 := n3_
     have BK508 := n4_
     have HB := n5_
     clear n0_ n1_ n2_ n3_ n4_ n5_
     (try (rw [drewN_self w28]; generalize hq_ : World.drewN w28 _ = w28; have n0_ : Aside0 (Kd.V (Kd.int .i64) 3 w28 w.heap.size (fun k_ => (w.heap.size ≤ k_) ∧ some k_ ≠ (.slice Ao25 y505.length co25 : Value).ownBlock ∧ some k_ ≠ (u7 : Value).ownBlock ∧ some k_ ≠ (.slice (some ad501) t498.length co17 : Value).ownBlock ∧ k_ ≠ gb508) (.slice A501_0 (rd_L2 t498 x9_1).length c501_0) (rd_L2 t498 x9_1)) := ⟨by rw [← hq_]; exact (by (with_reducible repeat (first | apply Kd.V_alloc | apply Kd.V_drewN | apply Kd.V_drew)); exact Kd.V_mono HL501_0.out (by first | exact (fun _ hk => ⟨hk.1, ⟨hk.2.2.2.1, ⟨hk.2.1, ⟨hk.2.2.1, hk.2.2.2.2⟩⟩⟩⟩) | exact xi))⟩; have n1_ : Aside0 (Kd.R (Kd.int .i64) 3 w28 w.heap.size (fun k_ => (w.heap.size ≤ k_)) (.slice Ao25 y505.length co25) y505) := ⟨by rw [← hq_]; exact (xR HO507.out)⟩; have n2_ : Aside0 (Kd.N (Kd.slice 3 (Kd.int .i64)) 24 w28 w.heap.size (fun k_ => (w.heap.size ≤ k_) ∧ some k_ ≠ (.slice Ao25 y505.length co25 : Value).ownBlock ∧ some k_ ≠ (.slice (some ad501) t498.length co17 : Value).ownBlock ∧ k_ ≠ gb508) u7 x7_1) := ⟨by rw [← hq_]; exact (by (with_reducible repeat (first | apply Kd.N_alloc | apply Kd.N_drewN | apply Kd.N_drew)); exact Kd.N_mono HO_7.out (by first | exact (fun _ hk => ⟨hk.1, ⟨hk.2.2.1, ⟨hk.2.1, hk.2.2.2⟩⟩⟩) | exact xi))⟩; have n3_ : Aside0 (Kd.N (Kd.slice 3 (Kd.int .i64)) 24 w28 w.heap.size (fun k_ => (w.heap.size ≤ k_) ∧ some k_ ≠ (.slice Ao25 y505.length co25 : Value).ownBlock ∧ some k_ ≠ (u7 : Value).ownBlock ∧ k_ ≠ gb508) (.slice (some ad501) t498.length co17) t498) := ⟨by rw [← hq_]; exact (by (with_reducible repeat (first | apply Kd.N_alloc | apply Kd.N_drewN | apply Kd.N_drew)); exact Kd.N_mono HO_8.out (by first | exact (fun _ hk => ⟨hk.1, ⟨hk.2.2.1, ⟨hk.2.1, hk.2.2.2⟩⟩⟩) | exact xi))⟩; have n4_ : Aside0 (w28.heap[gb508]? = some (.cells #[.slice A501_0 (rd_L2 t498 x9_1).length c501_0, .slice Ao25 y505.length co25] 46 (0, 0))) := ⟨by rw [← hq_]; exact (xk BK508.out)⟩; have n5_ : Aside0 (Below w.heap.size w w28) := ⟨by rw [← hq_]; exact (xs HB.out GE508.out)⟩; clear HL501_0 HO507 HO_7 HO_8 BK508 HB hq_; have HL501_0 := n0_; have HO507 := n1_; have HO_7 := n2_; have HO_8 := n3_; have BK508 := n4_; have HB := n5_; clear n0_ n1_ n2_ n3_ n4_ n5_))
     replace HO_7 := ax (Kd.N_drew HO_7.out); replace HO_8 := ax (Kd.N_drew HO_8.out); replace HL501_0 := ax (Kd.V_drew HL501_0.out); replace HO507 := ax (Kd.R_drew HO507.out); replace BK508 := ax (blk_drew BK508.out); replace HB := ax (below_drew1 HB.out)
     have p516 : 0 ≤ (x9_1 : Int) := xd
     have q516 : x9_1 < (t498.length : Int) := xd
     obtain ⟨ad516, A516_0, c516_0, e516, hx516_0, hl516_0, hi516_0⟩ := at_L2 (Kd.N_reads' HO_8.out).2.2 x9_1 p516 q516
     obtain rfl : ad501 = ad516 := (by injection e516)
     obtain ⟨ce516, hce516, hMe516, hcc516⟩ := Kd.N_get HO_8.out [] x9_1 p516 (by first | exact q516 | exact xd | (have e_ := (Kd.N_reads' HO_8.out).1; omega))
     obtain ⟨ua516_0, uc516_0, rfl, ul516_0, ge516_0⟩ := Kd.FK_slice_open hMe516
     have hv516_0 := hcc516 0 _ rfl
     rw [Nat.add_zero, show ((Kd.slice 3 (Kd.int .i64))).sz = 1 from rfl, Nat.mul_one] at hv516_0
     replace hv516_0 := Option.some.inj (hv516_0.symm.trans hx516_0)
     injection hv516_0 with hva_ hvn_ hvc_
     rw [hva_] at ge516_0
     rw [hvc_] at ul516_0
     have HL516_0 := ax (show Kd.V (Kd.int .i64) 3 _ w.heap.size _ _ (rd_L2 t498 x9_1) from Kd.V_mk ul516_0 ge516_0)
     clear hva_ hvn_ hvc_ ge516_0 ul516_0 hcc516 hce516
     have HR516_0 := ax hi516_0
     have HC516_0 := ax hl516_0
     clear hi516_0 hl516_0
     replace p516 := eq_true p516
     replace q516 := eq_true q516
     refine start_ (n := 9) (S := fun w' => w'.cell? (ad501.add (x9_1).toNat) = some (.slice A516_0 (rd_L2 t498 x9_1).length c516_0)) (ds := []) (xB 9 0) (by kernel_rfl) rfl (by kernel_rfl) (hx516_0) (fun hHeld => ?_); refine with_tabW spec_l19Pick__2.tab8 spec_l19Pick__2.bits8 (fun HT_ HW_ => ?_)
     generalize w28.drew = w29 at HO_7 HO_8 HL501_0 HO507 BK508 HB HL516_0 HR516_0 hx516_0 hHeld ⊢
     refine pu (i := 1) (N := some 33) (xB 9 2) HT_.out ?_
     refine pu (i := 3) (N := some 35) (xB 9 10) HT_.out ?_
     refine pu (i := 4) (N := some 36) (xB 9 26) HT_.out ?_
     refine pu (i := 5) (N := some 37) (xB 9 58) HT_.out ?_
     refine tk (i := 6) (N := some 38) (xB 9 122) HT_.out HW_.out hHeld ?_
     refine one_ (i := 0) (N := some 32) (xB 9 123) rfl rfl (one_of HT_.out (by kernel_rfl)) (by decide) (fun K hK => ?_)
     refine Kd.R_lit_step (Kd.int .i64) _ 3 ?hg (N := 32) ?hd (xs := ([] : List Int)) (inner := []) (ok := fun _ => True) (okp := fun _ => True) ?hr ?hp (fun _ hk => hk) trivial (Below.refl _ _) (Nat.le_refl _) (by simp) ?_; (case hd => rfl); (case hg => rfl); (case hr => first | (go_simp; done) | (go_simp; rfl)); (case hp => exact (Reps.none _ _))
     intro v511 w30 ho31 hb hg_ hnew_
     have HS0_ := (hb.cell (World.block_lt_of_cell? _ _ (hHeld))).trans (hHeld)
     clear hg_ hnew_
     (first | rw [← Ny510.out] at ho31 | (simp only [Int.reduceToNat] at ho31; rw [← Ny510.out] at ho31))
     replace HO_7 := ax (Kd.N_elder' (xN HO_7.out) (Kd.R_base ho31) hb); replace HO_8 := ax (Kd.N_elder' (xN HO_8.out) (Kd.R_base ho31) hb); replace HL501_0 := ax (Kd.V_elder' (xV HL501_0.out) (Kd.R_base ho31) hb); replace HL516_0 := ax (Kd.V_elder' (xV HL516_0.out) (Kd.R_base ho31) hb); have HO512 := ax (Kd.R_lower (Kd.R_new' (Kd.R_newM (M := fun k_ => (w.heap.size ≤ k_)) ho31 (below_size (xs HB.out GE508.out)) (fun k_ h_ => h_)) (Kd.R_lt (xR HO507.out))) (below_size (xs HB.out GE508.out))); replace HO507 := ax (Kd.R_elder' (xR HO507.out) (Kd.R_base ho31) hb); replace BK508 := ax (blk_below (g := gb508) (o := .cells #[.slice A501_0 (rd_L2 t498 x9_1).length c501_0, .slice Ao25 y505.length co25] 46 (0, 0)) (xk BK508.out) hb); replace HR516_0 := ax (Kd.C_below (xw HR516_0.out) hb); replace HB := ax (below_step (xs HB.out GE508.out) hb); clear hb ho31
     refine hK.out _ _ (HS0_) (fun hHeld => ?_)
     clear hK K
     refine norm_ (a' := ?_) ?_ ?_
     rotate_left
     ·show Act.put _ (some 32) _ = _
      simp only [Act.put, List.setIfInBounds_toArray, List.set_cons_zero, List.set_cons_succ, i64_w, i32_w]
      rfl
     refine one_ (i := 2) (N := some 34) (xB 9 127) rfl rfl (one_of HT_.out (by kernel_rfl)) (by decide) (fun K hK => ?_)
     refine Kd.R_append_rows_step (Kd.int .i64) (w0 := w) w.heap.size (by rfl) (.tmp 32) (.tmp 33) 24 3 (.int .i64 0) 8 rfl Try.underlying24 info3 rfl (by decide) (by omega) v511 y510 l0 _ _ _ (fun k_ => (w.heap.size ≤ k_) ∧ some k_ ≠ (.slice Ao25 y505.length co25 : Value).ownBlock) (fun _ => False) rfl rfl ?aO ?aR (fun _ _ h => h) (fun _ h => h.elim) ?aF ?aB ?aS ?aL ?_
     (case aR => exact xz HR0.out (Kd.C_below · HB.out))
     (case aB => exact (xs HB.out GE508.out))
     (case aF => exact (fun k_ hk => ⟨(Nat.le_trans (below_size (xs HB.out GE508.out)) hk), Kd.fresh' (Kd.R_lt (xR HO507.out)) k_ hk⟩))
     (case aO => exact (by (with_reducible repeat (first | apply Kd.R_alloc | apply Kd.R_drewN | apply Kd.R_drew)); exact Kd.R_mono HO512.out (by first | exact (fun _ hk => ⟨hk.1.1, hk.2⟩) | exact xi)))
     (case aS => exact (below_size (xs HB.out GE508.out)))
     (case aL => have := LMc13.out; omega)
     intro v514 w32 ho hb hg hat
     have HS0_ := cell_grown hg (hHeld) (by first | (rw [add_block]; exact (fun e_ => by obtain ⟨cs_, hc_⟩ := Kd.N_typed HO_8.out _ rfl; exact Kd.R_ne HO512.out hc_ (by decide) e_)) | (show some (Addr.add _ _).block ≠ _; rw [add_block]; exact (fun e_ => by obtain ⟨cs_, hc_⟩ := Kd.N_typed HO_8.out _ rfl; exact Kd.R_ne HO512.out hc_ (by decide) e_)) | exact (fun e_ => by obtain ⟨cs_, hc_⟩ := Kd.N_typed HO_8.out _ rfl; exact Kd.R_ne HO512.out hc_ (by decide) e_))
     rw [← Ny513.out] at ho
     have n0_ := ax (Kd.N_afterv (ok := (fun k_ => (w.heap.size ≤ k_) ∧ some k_ ≠ (.slice (some ad501) t498.length co17 : Value).ownBlock ∧ some k_ ≠ (.slice Ao25 y505.length co25 : Value).ownBlock ∧ k_ ≠ gb508)) (xN HO_7.out) hg hat)
     have n1_ := ax (Kd.N_afterv (ok := (fun k_ => (w.heap.size ≤ k_) ∧ some k_ ≠ (u7 : Value).ownBlock ∧ some k_ ≠ (.slice Ao25 y505.length co25 : Value).ownBlock ∧ k_ ≠ gb508)) (xN HO_8.out) hg hat)
     have n2_ := ax (Kd.V_afterv (ok := (fun k_ => (w.heap.size ≤ k_) ∧ some k_ ≠ (u7 : Value).ownBlock ∧ some k_ ≠ (.slice (some ad501) t498.length co17 : Value).ownBlock ∧ some k_ ≠ (.slice Ao25 y505.length co25 : Value).ownBlock ∧ k_ ≠ gb508)) (xV HL501_0.out) hg hat)
     have n3_ := ax (Kd.R_after (ok := (fun k_ => (w.heap.size ≤ k_))) (xR HO507.out) hg hat)
     have n4_ := ax (blk_grown (g := gb508) (o := .cells #[.slice A501_0 (rd_L2 t498 x9_1).length c501_0, .slice Ao25 y505.length co25] 46 (0, 0)) (xk BK508.out) hg (Kd.R_ne HO512.out BK508.out (by decide)))
     have n5_ := ax (Kd.V_afterv (ok := (fun k_ => (w.heap.size ≤ k_) ∧ some k_ ≠ (u7 : Value).ownBlock ∧ some k_ ≠ (.slice (some ad501) t498.length co17 : Value).ownBlock ∧ some k_ ≠ (.slice Ao25 y505.length co25 : Value).ownBlock ∧ k_ ≠ gb508)) (by (with_reducible repeat (first | apply Kd.V_alloc | apply Kd.V_drewN | apply Kd.V_drew)); exact Kd.V_mono HL516_0.out (by first | exact (fun _ hk => ⟨⟨hk.1.1.1, ⟨hk.1.1.2.1, ⟨hk.1.2, ⟨hk.1.1.2.2.1, hk.1.1.2.2.2⟩⟩⟩⟩, hk.2⟩) | exact xi)) hg hat)
     have n6_ := ax (hb)
     have n7_ := ax (ho)
     clear HO_7 HO_8 HL501_0 HO507 BK508 HL516_0 HB HO512
     have HO_7 := n0_
     have HO_8 := n1_
     have HL501_0 := n2_
     have HO507 := n3_
     have BK508 := n4_
     have HL516_0 := n5_
     have HB := n6_
     have HO515 := n7_
     clear n0_ n1_ n2_ n3_ n4_ n5_ n6_ n7_ ho hb hg hat
     obtain ⟨Ao33, co33, eo33⟩ := Kd.R_slice HO515.out
     (first | subst eo33 | (injection eo33 with f1_ f2_ f3_; have f4_ := f1_.symm; have f5_ := f3_.symm; clear f1_ f2_ f3_; subst f4_; subst f5_))
     refine hK.out _ _ (HS0_) (fun hHeld => ?_)
     clear hK K
     refine norm_ (a' := ?_) ?_ ?_
     rotate_left
     ·show Act.put _ (some 34) _ = _
      simp only [Act.put, List.setIfInBounds_toArray, List.set_cons_zero, List.set_cons_succ, i64_w, i32_w]
      rfl
     refine pu (i := 7) (N := some 39) (xB 9 255) HT_.out ?_
     refine one_ (i := 8) (N := none) (xB 9 511) rfl rfl (one_of HT_.out (by kernel_rfl)) (by decide) (fun K hK => ?_)
     have hs34 : w32.cell? ⟨gb508, 0, none⟩ = some (.slice A501_0 (rd_L2 t498 x9_1).length c501_0) := (blk_cell BK508.out 0).trans rfl
     have hfs34 := blk_frozen BK508.out 0
     have hs35 : w32.cell? ⟨gb508, 1, none⟩ = some (.slice Ao25 y505.length co25) := (blk_cell BK508.out 1).trans rfl
     have hfs35 := blk_frozen BK508.out 1
     refine skip_ (w1 := ?_) (by rfl) rfl ?_ ?_
     rotate_left
     ·go_simp
      rfl
     refine hK.out _ _ (((cell_far (p := ⟨gb508, _, none⟩) (by first | exact Kd.own_blk (Kd.N_away HO_8.out (fun _ hk => hk.1.2.2.2)) | (rw [add_block]; exact Kd.own_blk (Kd.N_away HO_8.out (fun _ hk => hk.1.2.2.2))) | (show (Addr.add _ _).block ≠ _; rw [add_block]; exact Kd.own_blk (Kd.N_away HO_8.out (fun _ hk => hk.1.2.2.2))) | (dsimp only; exact Kd.own_blk (Kd.N_away HO_8.out (fun _ hk => hk.1.2.2.2)))) _).trans (((cell_far (p := ⟨gb508, _, none⟩) (by first | exact Kd.own_blk (Kd.N_away HO_8.out (fun _ hk => hk.1.2.2.2)) | (rw [add_block]; exact Kd.own_blk (Kd.N_away HO_8.out (fun _ hk => hk.1.2.2.2))) | (show (Addr.add _ _).block ≠ _; rw [add_block]; exact Kd.own_blk (Kd.N_away HO_8.out (fun _ hk => hk.1.2.2.2))) | (dsimp only; exact Kd.own_blk (Kd.N_away HO_8.out (fun _ hk => hk.1.2.2.2)))) _).trans (hHeld))))) (fun hHeld => ?_)
     clear hK K
     refine done_ (done_of HT_.out (by kernel_rfl)) ?_
     have hcz36_0 : w32.cell? ⟨gb508, 0, none⟩ = some (.slice A501_0 (rd_L2 t498 x9_1).length c501_0) := (blk_cell BK508.out 0).trans rfl
     have hcz36_1 : w32.cell? ⟨gb508, 1, none⟩ = some (.slice Ao25 y505.length co25) := (blk_cell BK508.out 1).trans rfl
     have hfz36_0 := blk_frozen BK508.out 0
     have hfz36_1 := blk_frozen BK508.out 1
     try go_wp2_with (first | (go_at_call 67; (with_reducible refine (spec_IsRibbon.calls k1 _ _ y513 _ _ (rd_L2 t498 x9_1) true _ ?side1 ?side2 ?side3 ?side4 A14.out).mono ?_); (case side1 => refine (Kd.R_reads' (e := 3) (base := w.heap.size) (ok := fun k_ => ((w.heap.size ≤ k_) ∧ some k_ ≠ (.slice Ao25 y505.length co25 : Value).ownBlock)) (n := y513.length) (c := co33) ?_).2.2; exact (by (with_reducible repeat (first | apply Kd.R_alloc | apply Kd.R_drewN | apply Kd.R_drew)); exact (Kd.R_mono (Kd.R_far (p := ⟨gb508, 1, none⟩) (Kd.R_far (p := ⟨gb508, 0, none⟩) (Kd.R_types HO515.out BK508.out (by decide)) (fun _ hk => hk.2) (.slice Ao33 y513.length co33)) (fun _ hk => hk.2) (.slice A516_0 (rd_L2 t498 x9_1).length c516_0)) (fun _ h_ => h_.1)))); (case side2 => exact (Kd.R_reads' HO515.out).2.1); (case side3 => repeat (first | exact ((Kd.V_reads' (by (with_reducible repeat (first | apply Kd.V_alloc | apply Kd.V_drewN | apply Kd.V_drew)); exact (Kd.V_mono (Kd.V_far (p := ⟨gb508, 1, none⟩) (Kd.V_far (p := ⟨gb508, 0, none⟩) (Kd.V_mono HL516_0.out (fun k_ hk => (⟨hk, hk.1.2.2.2.2⟩ : _ ∧ k_ ≠ gb508))) (fun _ hk => hk.2) (.slice Ao33 y513.length co33)) (fun _ hk => hk.2) (.slice A516_0 (rd_L2 t498 x9_1).length c516_0)) (fun _ h_ => h_.1)))).2.2) | (with_reducible refine Kd.C_alloc ?_ _) | (with_reducible refine Kd.C_drewN ?_ _) | (with_reducible refine Kd.C_drew ?_))); (case side4 => exact HC516_0.out); rintro e w37 ⟨rfl, hb⟩; replace HO_7 := ax (Kd.N_below (by (with_reducible repeat (first | apply Kd.N_alloc | apply Kd.N_drewN | apply Kd.N_drew)); exact (Kd.N_mono (Kd.N_far (p := ⟨gb508, 1, none⟩) (Kd.N_far (p := ⟨gb508, 0, none⟩) (Kd.N_mono HO_7.out (fun k_ hk => (⟨hk, hk.1.2.2.2⟩ : _ ∧ k_ ≠ gb508))) (fun _ hk => hk.2) (.slice Ao33 y513.length co33)) (fun _ hk => hk.2) (.slice A516_0 (rd_L2 t498 x9_1).length c516_0)) (fun _ h_ => h_.1))) hb); replace HO_8 := ax (Kd.N_below (by (with_reducible repeat (first | apply Kd.N_alloc | apply Kd.N_drewN | apply Kd.N_drew)); exact (Kd.N_mono (Kd.N_far (p := ⟨gb508, 1, none⟩) (Kd.N_far (p := ⟨gb508, 0, none⟩) (Kd.N_mono HO_8.out (fun k_ hk => (⟨hk, hk.1.2.2.2⟩ : _ ∧ k_ ≠ gb508))) (fun _ hk => hk.2) (.slice Ao33 y513.length co33)) (fun _ hk => hk.2) (.slice A516_0 (rd_L2 t498 x9_1).length c516_0)) (fun _ h_ => h_.1))) hb); replace HL501_0 := ax (Kd.V_below (by (with_reducible repeat (first | apply Kd.V_alloc | apply Kd.V_drewN | apply Kd.V_drew)); exact (Kd.V_mono (Kd.V_far (p := ⟨gb508, 1, none⟩) (Kd.V_far (p := ⟨gb508, 0, none⟩) (Kd.V_mono HL501_0.out (fun k_ hk => (⟨hk, hk.1.2.2.2.2⟩ : _ ∧ k_ ≠ gb508))) (fun _ hk => hk.2) (.slice Ao33 y513.length co33)) (fun _ hk => hk.2) (.slice A516_0 (rd_L2 t498 x9_1).length c516_0)) (fun _ h_ => h_.1))) hb); replace HO507 := ax (Kd.R_below (by (with_reducible repeat (first | apply Kd.R_alloc | apply Kd.R_drewN | apply Kd.R_drew)); exact (Kd.R_mono (Kd.R_far (p := ⟨gb508, 1, none⟩) (Kd.R_far (p := ⟨gb508, 0, none⟩) (Kd.R_types HO507.out BK508.out (by decide)) (fun _ hk => hk.2) (.slice Ao33 y513.length co33)) (fun _ hk => hk.2) (.slice A516_0 (rd_L2 t498 x9_1).length c516_0)) (fun _ h_ => h_.1))) hb); replace HL516_0 := ax (Kd.V_below (by (with_reducible repeat (first | apply Kd.V_alloc | apply Kd.V_drewN | apply Kd.V_drew)); exact (Kd.V_mono (Kd.V_far (p := ⟨gb508, 1, none⟩) (Kd.V_far (p := ⟨gb508, 0, none⟩) (Kd.V_mono HL516_0.out (fun k_ hk => (⟨hk, hk.1.2.2.2.2⟩ : _ ∧ k_ ≠ gb508))) (fun _ hk => hk.2) (.slice Ao33 y513.length co33)) (fun _ hk => hk.2) (.slice A516_0 (rd_L2 t498 x9_1).length c516_0)) (fun _ h_ => h_.1))) hb); replace HO515 := ax (Kd.R_below (by (with_reducible repeat (first | apply Kd.R_alloc | apply Kd.R_drewN | apply Kd.R_drew)); exact (Kd.R_mono (Kd.R_far (p := ⟨gb508, 1, none⟩) (Kd.R_far (p := ⟨gb508, 0, none⟩) (Kd.R_types HO515.out BK508.out (by decide)) (fun _ hk => hk.2) (.slice Ao33 y513.length co33)) (fun _ hk => hk.2) (.slice A516_0 (rd_L2 t498 x9_1).length c516_0)) (fun _ h_ => h_.1))) hb); replace BK508 := ax (blk_below (g := gb508) (o := .cells #[.slice Ao33 y513.length co33, .slice A516_0 (rd_L2 t498 x9_1).length c516_0] 46 (0, 0)) (by (with_reducible repeat (first | refine blk_drewN ?_ _ | refine blk_drew ?_ | refine blk_alloc ?_ _)); refine blk_put (cs := #[.slice Ao33 y513.length co33, .slice Ao25 y505.length co25]) ?_ 1 _ rfl; (with_reducible repeat (first | refine blk_drewN ?_ _ | refine blk_drew ?_ | refine blk_alloc ?_ _)); refine blk_put (cs := #[.slice A501_0 (rd_L2 t498 x9_1).length c501_0, .slice Ao25 y505.length co25]) ?_ 0 _ rfl; (with_reducible repeat (first | refine blk_drewN ?_ _ | refine blk_drew ?_ | refine blk_alloc ?_ _)); exact BK508.out) hb); replace HB := ax (below_step (xs HB.out GE508.out) hb); (try clear hb); (try clear hb2); (try clear hk); (try clear hi); have p518 : 0 ≤ (x9_1 : Int) := xd; have q518 : x9_1 < (t498.length : Int) := xd; obtain ⟨ad518, A518_0, c518_0, e518, hx518_0, hl518_0, hi518_0⟩ := at_L2 (Kd.N_reads' HO_8.out).2.2 x9_1 p518 q518; obtain rfl : ad501 = ad518 := (by injection e518); obtain ⟨ce518, hce518, hMe518, hcc518⟩ := Kd.N_get HO_8.out [] x9_1 p518 (by first | exact q518 | exact xd | (have e_ := (Kd.N_reads' HO_8.out).1; omega)); obtain ⟨ua518_0, uc518_0, rfl, ul518_0, ge518_0⟩ := Kd.FK_slice_open hMe518; have hv518_0 := hcc518 0 _ rfl; rw [Nat.add_zero, show ((Kd.slice 3 (Kd.int .i64))).sz = 1 from rfl, Nat.mul_one] at hv518_0; replace hv518_0 := Option.some.inj (hv518_0.symm.trans hx518_0); injection hv518_0 with hva_ hvn_ hvc_; rw [hva_] at ge518_0; rw [hvc_] at ul518_0; have HL518_0 := ax (show Kd.V (Kd.int .i64) 3 _ w.heap.size _ _ (rd_L2 t498 x9_1) from Kd.V_mk ul518_0 ge518_0); clear hva_ hvn_ hvc_ ge518_0 ul518_0; clear hcc518 hce518; have HR518_0 := ax hi518_0; have HC518_0 := ax hl518_0; clear hi518_0 hl518_0; replace p518 := eq_true p518; replace q518 := eq_true q518) | ((with_reducible refine gate_builtin (b := .append) (xs := #[.tmp 62, .tmp 67]) rfl ?_); at_builtin; refine Kd.N_append (Kd.slice 3 (Kd.int .i64)) (w0 := w) w.heap.size rfl (.tmp 62) (.tmp 67) 31 24 (.slice none 0 0) 24 rfl Try.underlying31 info24 rfl (by decide) (by omega) u7 x7_1 (rd_L2 t498 x9_1) [.slice A518_0 (rd_L2 t498 x9_1).length c518_0] (fun k_ => (w.heap.size ≤ k_) ∧ some k_ ≠ (.slice (some ad501) t498.length co17 : Value).ownBlock ∧ some k_ ≠ (.slice Ao25 y505.length co25 : Value).ownBlock ∧ some k_ ≠ (.slice Ao33 y513.length co33 : Value).ownBlock ∧ k_ ≠ gb508) (fun k_ => ((fun k_ => (w.heap.size ≤ k_) ∧ some k_ ≠ (.slice (some ad501) t498.length co17 : Value).ownBlock ∧ some k_ ≠ (.slice Ao25 y505.length co25 : Value).ownBlock ∧ some k_ ≠ (.slice Ao33 y513.length co33 : Value).ownBlock ∧ k_ ≠ gb508)) k_ ∧ some k_ ≠ (u7 : Value).ownBlock) rfl rfl ?aP (fun _ hk => hk) ?aF ?aO ?aB ?aS ?aL ?_; (case aP => exact (Kd.FK_slice_mk (Kd.V_reads' (Kd.V_mono (ok' := (fun k_ => ((fun k_ => (w.heap.size ≤ k_) ∧ some k_ ≠ (.slice (some ad501) t498.length co17 : Value).ownBlock ∧ some k_ ≠ (.slice Ao25 y505.length co25 : Value).ownBlock ∧ some k_ ≠ (.slice Ao33 y513.length co33 : Value).ownBlock ∧ k_ ≠ gb508)) k_ ∧ some k_ ≠ (u7 : Value).ownBlock)) (HL518_0.out) (fun k_ hk => ⟨⟨hk.1.1.1, ⟨hk.2, ⟨hk.1.1.2.2.1, ⟨hk.1.2, hk.1.1.2.2.2⟩⟩⟩⟩, hk.1.1.2.1⟩))).2.1 (Kd.V_F (Kd.V_mono (ok' := (fun k_ => ((fun k_ => (w.heap.size ≤ k_) ∧ some k_ ≠ (.slice (some ad501) t498.length co17 : Value).ownBlock ∧ some k_ ≠ (.slice Ao25 y505.length co25 : Value).ownBlock ∧ some k_ ≠ (.slice Ao33 y513.length co33 : Value).ownBlock ∧ k_ ≠ gb508)) k_ ∧ some k_ ≠ (u7 : Value).ownBlock)) (HL518_0.out) (fun k_ hk => ⟨⟨hk.1.1.1, ⟨hk.2, ⟨hk.1.1.2.2.1, ⟨hk.1.2, hk.1.1.2.2.2⟩⟩⟩⟩, hk.1.1.2.1⟩))))); (case aB => exact (xs HB.out GE508.out)); (case aF => exact (fun k_ hk => ⟨(Nat.le_trans (below_size (xs HB.out GE508.out)) hk), Kd.fresh' (Kd.N_lt (xN HO_8.out)) k_ hk, Kd.fresh' (Kd.R_lt (xR HO507.out)) k_ hk, Kd.fresh' (Kd.R_lt (xR HO515.out)) k_ hk, Kd.freshB (g := gb508) (o := .cells #[.slice Ao33 y513.length co33, .slice A516_0 (rd_L2 t498 x9_1).length c516_0] 46 (0, 0)) (xk BK508.out) k_ hk⟩)); (case aO => exact (by (with_reducible repeat (first | apply Kd.N_alloc | apply Kd.N_drewN | apply Kd.N_drew)); exact Kd.N_mono HO_7.out (by first | exact (fun _ hk => ⟨hk.1.1, ⟨hk.1.2.1, ⟨hk.1.2.2.1, ⟨hk.2, hk.1.2.2.2⟩⟩⟩⟩) | exact xi))); (case aS => exact (below_size (xs HB.out GE508.out))); (case aL => have := LMc16.out; omega); intro v520 w38 ho hb hg hat; rw [← Ny519.out] at ho; have n0_ := ax (Kd.N_afterv (ok := (fun k_ => (w.heap.size ≤ k_) ∧ some k_ ≠ (.slice Ao25 y505.length co25 : Value).ownBlock ∧ some k_ ≠ (.slice Ao33 y513.length co33 : Value).ownBlock ∧ k_ ≠ gb508)) (by (with_reducible repeat (first | apply Kd.N_alloc | apply Kd.N_drewN | apply Kd.N_drew)); exact Kd.N_mono HO_8.out (by first | exact (fun _ hk => ⟨⟨hk.1.1, ⟨hk.1.2.2.1, ⟨hk.2, hk.1.2.2.2⟩⟩⟩, hk.1.2.1⟩) | exact xi)) hg hat); have n1_ := ax (Kd.V_afterv (ok := (fun k_ => (w.heap.size ≤ k_) ∧ some k_ ≠ (.slice (some ad501) t498.length co17 : Value).ownBlock ∧ some k_ ≠ (.slice Ao25 y505.length co25 : Value).ownBlock ∧ some k_ ≠ (.slice Ao33 y513.length co33 : Value).ownBlock ∧ k_ ≠ gb508)) (by (with_reducible repeat (first | apply Kd.V_alloc | apply Kd.V_drewN | apply Kd.V_drew)); exact Kd.V_mono HL501_0.out (by first | exact (fun _ hk => ⟨⟨hk.1.1, ⟨hk.1.2.2.1, ⟨hk.1.2.2.2.1, ⟨hk.2, hk.1.2.2.2.2⟩⟩⟩⟩, hk.1.2.1⟩) | exact xi)) hg hat); have n2_ := ax (Kd.R_over' (xR HO507.out) (Kd.N_typed (xN HO_7.out)) (by decide) hg); have n3_ := ax (blk_grown (g := gb508) (o := .cells #[.slice Ao33 y513.length co33, .slice A516_0 (rd_L2 t498 x9_1).length c516_0] 46 (0, 0)) (xk BK508.out) hg (Kd.N_ne HO_7.out BK508.out (by decide))); have n4_ := ax (Kd.V_afterv (ok := (fun k_ => (w.heap.size ≤ k_) ∧ some k_ ≠ (.slice (some ad501) t498.length co17 : Value).ownBlock ∧ some k_ ≠ (.slice Ao25 y505.length co25 : Value).ownBlock ∧ some k_ ≠ (.slice Ao33 y513.length co33 : Value).ownBlock ∧ k_ ≠ gb508)) (by (with_reducible repeat (first | apply Kd.V_alloc | apply Kd.V_drewN | apply Kd.V_drew)); exact Kd.V_mono HL516_0.out (by first | exact (fun _ hk => ⟨⟨hk.1.1, ⟨hk.1.2.2.1, ⟨hk.1.2.2.2.1, ⟨hk.2, hk.1.2.2.2.2⟩⟩⟩⟩, hk.1.2.1⟩) | exact xi)) hg hat); have n5_ := ax (Kd.R_over' (xR HO515.out) (Kd.N_typed (xN HO_7.out)) (by decide) hg); have n6_ := ax (Kd.V_afterv (ok := (fun k_ => (w.heap.size ≤ k_) ∧ some k_ ≠ (.slice (some ad501) t498.length co17 : Value).ownBlock ∧ some k_ ≠ (.slice Ao25 y505.length co25 : Value).ownBlock ∧ some k_ ≠ (.slice Ao33 y513.length co33 : Value).ownBlock ∧ k_ ≠ gb508)) (by (with_reducible repeat (first | apply Kd.V_alloc | apply Kd.V_drewN | apply Kd.V_drew)); exact Kd.V_mono HL518_0.out (by first | exact (fun _ hk => ⟨⟨hk.1.1.1, ⟨hk.2, ⟨hk.1.1.2.2.1, ⟨hk.1.2, hk.1.1.2.2.2⟩⟩⟩⟩, hk.1.1.2.1⟩) | exact xi)) hg hat); have n7_ := ax (hb); have n8_ := ax (ho); clear HO_8; clear HL501_0; clear HO507; clear BK508; clear HL516_0; clear HO515; clear HL518_0; clear HB; clear HO_7; have HO_8 := n0_; have HL501_0 := n1_; have HO507 := n2_; have BK508 := n3_; have HL516_0 := n4_; have HO515 := n5_; have HL518_0 := n6_; have HB := n7_; have HO521 := n8_; clear n0_ n1_ n2_ n3_ n4_ n5_ n6_ n7_ n8_; clear ho hb hg hat))
     go_roundg k1
     case measure => have := HK1.out; omega
     case rel => exact ⟨(y519), (wrap64 (x9_1 + 1)), xr, H', ⟨by have := HK1.out; omega⟩, ⟨by (with_reducible repeat (first | apply Kd.N_alloc | apply Kd.N_drewN | apply Kd.N_drew)); exact Kd.N_mono HO521.out (fun _ hk => ⟨hk.1, hk.2.1⟩)⟩, ⟨by (with_reducible repeat (first | apply Kd.N_alloc | apply Kd.N_drewN | apply Kd.N_drew)); exact Kd.N_mono HO_8.out (fun _ hk => ⟨hk.1.1, hk.2⟩)⟩, ⟨xs HB.out GE508.out⟩⟩
    ·replace c15 := Bool.eq_false_iff.mpr c15
     subst c15
     rw [if_neg (show ¬ (false = true) by decide)] at H
     have H' := ax H
     clear H
     obtain ⟨Ao39, co39, eo39⟩ := Kd.N_slice HO_8.out
     subst eo39
     try go_wp2
     replace HO_7 := ax (Kd.N_drew HO_7.out); replace HO_8 := ax (Kd.N_drew HO_8.out); replace HB := ax (below_drew1 HB.out)
     have p501 : 0 ≤ (x9_1 : Int) := xd
     have q501 : x9_1 < (t498.length : Int) := xd
     obtain ⟨ad501, A501_0, c501_0, e501, hx501_0, hl501_0, hi501_0⟩ := at_L2 (Kd.N_reads' HO_8.out).2.2 x9_1 p501 q501
     cases e501
     obtain ⟨ce501, hce501, hMe501, hcc501⟩ := Kd.N_get HO_8.out [] x9_1 p501 (by first | exact q501 | exact xd | (have e_ := (Kd.N_reads' HO_8.out).1; omega))
     obtain ⟨ua501_0, uc501_0, rfl, ul501_0, ge501_0⟩ := Kd.FK_slice_open hMe501
     have hv501_0 := hcc501 0 _ rfl
     rw [Nat.add_zero, show ((Kd.slice 3 (Kd.int .i64))).sz = 1 from rfl, Nat.mul_one] at hv501_0
     replace hv501_0 := Option.some.inj (hv501_0.symm.trans hx501_0)
     injection hv501_0 with hva_ hvn_ hvc_
     rw [hva_] at ge501_0
     rw [hvc_] at ul501_0
     have HL501_0 := ax (show Kd.V (Kd.int .i64) 3 _ w.heap.size _ _ (rd_L2 t498 x9_1) from Kd.V_mk ul501_0 ge501_0)
     clear hva_ hvn_ hvc_ ge501_0 ul501_0 hcc501 hce501
     have HR501_0 := ax hi501_0
     have HC501_0 := ax hl501_0
     clear hi501_0 hl501_0
     replace p501 := eq_true p501
     replace q501 := eq_true q501
     refine start_ (n := 10) (S := fun w' => w'.cell? (ad501.add (x9_1).toNat) = some (.slice A501_0 (rd_L2 t498 x9_1).length c501_0)) (ds := []) (xB 10 0) (by kernel_rfl) rfl (by kernel_rfl) (hx501_0) (fun hHeld => ?_); refine with_tabW spec_l19Pick__2.tab6 spec_l19Pick__2.bits6 (fun HT_ HW_ => ?_)
     generalize wr.drew = w40 at HO_7 HO_8 HB HL501_0 HR501_0 hx501_0 hHeld ⊢
     refine pu (i := 0) (N := some 20) (xB 10 1) HT_.out ?_
     refine pu (i := 1) (N := some 21) (xB 10 3) HT_.out ?_
     refine pu (i := 2) (N := some 22) (xB 10 7) HT_.out ?_
     refine pu (i := 5) (N := some 25) (xB 10 39) HT_.out ?_
     refine tk (i := 3) (N := some 23) (xB 10 47) HT_.out HW_.out hHeld ?_
     refine join_ (σ := Value × Value × Nat) 1 (xB 10 511) (fun s_ => [(24, s_.1), (26, s_.2.1), (10, .pointer (some ⟨s_.2.2, 0, none⟩)), (27, .agg #[.slice A501_0 (rd_L2 t498 x9_1).length c501_0, s_.2.1])]) (fun s_ w' => (w'.cell? (ad501.add (x9_1).toNat) = some (.slice A501_0 (rd_L2 t498 x9_1).length c501_0)) ∧ (Kd.V (Kd.int .i64) 3 w' w.heap.size (fun k_ => (w.heap.size ≤ k_) ∧ some k_ ≠ (s_.2.1 : Value).ownBlock ∧ some k_ ≠ (u7 : Value).ownBlock ∧ some k_ ≠ (.slice (some ad501) t498.length co39 : Value).ownBlock ∧ k_ ≠ s_.2.2) (.slice A501_0 (rd_L2 t498 x9_1).length c501_0) (rd_L2 t498 x9_1)) ∧ (Kd.R (Kd.int .i64) 3 w' w.heap.size (fun k_ => (w.heap.size ≤ k_)) s_.2.1 y505) ∧ (Kd.N (Kd.slice 3 (Kd.int .i64)) 24 w' w.heap.size (fun k_ => (w.heap.size ≤ k_) ∧ some k_ ≠ (s_.2.1 : Value).ownBlock ∧ some k_ ≠ (.slice (some ad501) t498.length co39 : Value).ownBlock ∧ k_ ≠ s_.2.2) u7 x7_1) ∧ (Kd.N (Kd.slice 3 (Kd.int .i64)) 24 w' w.heap.size (fun k_ => (w.heap.size ≤ k_) ∧ some k_ ≠ (s_.2.1 : Value).ownBlock ∧ some k_ ≠ (u7 : Value).ownBlock ∧ k_ ≠ s_.2.2) (.slice (some ad501) t498.length co39) t498) ∧ (w'.heap[s_.2.2]? = some (.cells #[.slice none 0 0, .slice none 0 0] 46 (0, 0))) ∧ (w.heap.size ≤ s_.2.2) ∧ (w.heap.size ≤ s_.2.2) ∧ (Below w.heap.size w w')) ?_ ?_
     rotate_left
     ·intro hCont
      refine two_ (i := 4) (j := 8) (Ni := some 24) (Nj := some 10) (xB 10 63) (xB 10 303) rfl rfl rfl rfl (two_of HT_.out (by kernel_rfl)) (by decide) (by decide) (fun K hK => ?_) (fun K hK => ?_)
      ·skip
       refine Kd.R_lit_step (Kd.int .i64) _ 3 ?hg (N := 24) ?hd (xs := ([] : List Int)) (inner := []) (ok := fun _ => True) (okp := fun _ => True) ?hr ?hp (fun _ hk => hk) trivial (Below.refl _ _) (Nat.le_refl _) (by simp) ?_; (case hd => rfl); (case hg => rfl); (case hr => first | (go_simp; done) | (go_simp; rfl)); (case hp => exact (Reps.none _ _))
       intro v503 w41 ho42 hb hg_ hnew_
       have HS0_ := (hb.cell (World.block_lt_of_cell? _ _ (hHeld))).trans (hHeld)
       clear hg_ hnew_
       (first | rw [← Ny502.out] at ho42 | (simp only [Int.reduceToNat] at ho42; rw [← Ny502.out] at ho42))
       replace HO_7 := ax (Kd.N_elder' (xN HO_7.out) (Kd.R_base ho42) hb); replace HO_8 := ax (Kd.N_elder' (xN HO_8.out) (Kd.R_base ho42) hb); replace HL501_0 := ax (Kd.V_elder' (xV HL501_0.out) (Kd.R_base ho42) hb); have HO504 := ax (Kd.R_lower (Kd.R_newM (M := fun k_ => (w.heap.size ≤ k_)) ho42 (below_size (xb HB.out)) (fun k_ h_ => h_)) (below_size (xb HB.out))); replace HR501_0 := ax (Kd.C_below (xw HR501_0.out) hb); replace HB := ax (below_step (xb HB.out) hb); clear hb ho42
       refine hK.out _ _ (HS0_) (fun hHeld => ?_)
       clear hK K
       refine norm_ (a' := ?_) ?_ ?_
       rotate_left
       ·show Act.put _ (some 24) _ = _
        simp only [Act.put, List.setIfInBounds_toArray, List.set_cons_zero, List.set_cons_succ, i64_w, i32_w]
        rfl
       refine two_ (i := 6) (j := 8) (Ni := some 26) (Nj := some 10) (xB 10 127) (xB 10 319) rfl rfl rfl rfl (two_of HT_.out (by kernel_rfl)) (by decide) (by decide) (fun K hK => ?_) (fun K hK => ?_)
       ·skip
        refine Kd.R_append_rows_step (Kd.int .i64) (w0 := w) w.heap.size (by rfl) (.tmp 24) (.tmp 25) 24 3 (.int .i64 0) 8 rfl Try.underlying24 info3 rfl (by decide) (by omega) v503 y502 l0 _ _ _ (fun k_ => (w.heap.size ≤ k_)) (fun _ => False) rfl rfl ?aO ?aR (fun _ _ h => h) (fun _ h => h.elim) ?aF ?aB ?aS ?aL ?_
        (case aR => exact xz HR0.out (Kd.C_below · HB.out))
        (case aB => exact (xb HB.out))
        (case aF => exact (fun k_ hk => (Nat.le_trans (below_size (xb HB.out)) hk)))
        (case aO => exact (by (with_reducible repeat (first | apply Kd.R_alloc | apply Kd.R_drewN | apply Kd.R_drew)); exact Kd.R_mono HO504.out (fun _ hk => hk.1)))
        (case aS => exact (below_size (xb HB.out)))
        (case aL => have := LMc10.out; omega)
        intro v506 w43 ho hb hg hat
        have HS0_ := cell_grown hg (hHeld) (by first | (rw [add_block]; exact (fun e_ => by obtain ⟨cs_, hc_⟩ := Kd.N_typed HO_8.out _ rfl; exact Kd.R_ne HO504.out hc_ (by decide) e_)) | (show some (Addr.add _ _).block ≠ _; rw [add_block]; exact (fun e_ => by obtain ⟨cs_, hc_⟩ := Kd.N_typed HO_8.out _ rfl; exact Kd.R_ne HO504.out hc_ (by decide) e_)) | exact (fun e_ => by obtain ⟨cs_, hc_⟩ := Kd.N_typed HO_8.out _ rfl; exact Kd.R_ne HO504.out hc_ (by decide) e_))
        rw [← Ny505.out] at ho
        have n0_ := ax (Kd.N_afterv (ok := (fun k_ => (w.heap.size ≤ k_) ∧ some k_ ≠ (.slice (some ad501) t498.length co39 : Value).ownBlock)) (xN HO_7.out) hg hat)
        have n1_ := ax (Kd.N_afterv (ok := (fun k_ => (w.heap.size ≤ k_) ∧ some k_ ≠ (u7 : Value).ownBlock)) (xN HO_8.out) hg hat)
        have n2_ := ax (Kd.V_afterv (ok := (fun k_ => (w.heap.size ≤ k_) ∧ some k_ ≠ (u7 : Value).ownBlock ∧ some k_ ≠ (.slice (some ad501) t498.length co39 : Value).ownBlock)) (by (with_reducible repeat (first | apply Kd.V_alloc | apply Kd.V_drewN | apply Kd.V_drew)); exact Kd.V_mono HL501_0.out (by first | exact (fun _ hk => ⟨⟨hk.1.1.1, ⟨hk.1.1.2, hk.1.2⟩⟩, hk.2⟩) | exact xi)) hg hat)
        have n3_ := ax (hb)
        have n4_ := ax (ho)
        clear HO_7 HO_8 HL501_0 HB HO504
        have HO_7 := n0_
        have HO_8 := n1_
        have HL501_0 := n2_
        have HB := n3_
        have HO507 := n4_
        clear n0_ n1_ n2_ n3_ n4_ ho hb hg hat
        obtain ⟨Ao44, co44, eo44⟩ := Kd.R_slice HO507.out
        (first | subst eo44 | (injection eo44 with f1_ f2_ f3_; have f4_ := f1_.symm; have f5_ := f3_.symm; clear f1_ f2_ f3_; subst f4_; subst f5_))
        refine hK.out _ _ (HS0_) (fun hHeld => ?_)
        clear hK K
        refine norm_ (a' := ?_) ?_ ?_
        rotate_left
        ·show Act.put _ (some 26) _ = _
         simp only [Act.put, List.setIfInBounds_toArray, List.set_cons_zero, List.set_cons_succ, i64_w, i32_w]
         rfl
        refine pu (i := 7) (N := some 27) (xB 10 255) HT_.out ?_
        refine one_ (i := 8) (N := some 10) (xB 10 511) rfl rfl (one_of HT_.out (by kernel_rfl)) (by decide) (fun K hK => ?_)
        refine box_step ?hg (N := 10) ?hd (cs := #[.slice none 0 0, .slice none 0 0]) (t := 46) ?hr ?_; (case hd => rfl); (case hg => rfl); (case hr => first | (go_simp; done) | (go_simp; rfl))
        intro gb508 hg w45 hbox hb
        have HS0_ := (hb.cell (World.block_lt_of_cell? _ _ (hHeld))).trans (hHeld)
        replace HO_7 := ax (Kd.N_below (Kd.N_elderB (xN HO_7.out) gb508 (Nat.le_of_eq hg.symm)) hb); replace HO_8 := ax (Kd.N_below (Kd.N_elderB (xN HO_8.out) gb508 (Nat.le_of_eq hg.symm)) hb); replace HL501_0 := ax (Kd.V_below (Kd.V_elderB (xV HL501_0.out) gb508 (Nat.le_of_eq hg.symm)) hb); replace HO507 := ax (Kd.R_below (xR HO507.out) hb); have BK508 := ax (hbox); have GW508 := ax ((by rw [hg]; exact (below_size (xb HB.out)) : w.heap.size ≤ gb508)); have GE508 := ax ((by rw [hg]; exact (below_size (xb HB.out)) : w.heap.size ≤ gb508)); replace HB := ax (below_step (xb HB.out) hb); clear hb hbox hg
        refine hK.out _ _ (HS0_) (fun hHeld => ?_)
        clear hK K
        refine norm_ (a' := ?_) ?_ ?_
        rotate_left
        ·show Act.put _ (some 10) _ = _
         simp only [Act.put, List.setIfInBounds_toArray, List.set_cons_zero, List.set_cons_succ, i64_w, i32_w]
         rfl
        exact norm_ (by simp only [putAll, Act.put, List.setIfInBounds_toArray, List.set_cons_zero, List.set_cons_succ]) (hCont (v503, .slice Ao44 y505.length co44, gb508) _ ⟨hHeld, (by (with_reducible repeat (first | apply Kd.V_alloc | apply Kd.V_drewN | apply Kd.V_drew)); exact Kd.V_mono HL501_0.out (by first | exact (fun _ hk => ⟨hk.1.1.1, ⟨hk.1.2, ⟨hk.1.1.2.1, ⟨hk.1.1.2.2, hk.2⟩⟩⟩⟩) | exact xi)), (xR HO507.out), (by (with_reducible repeat (first | apply Kd.N_alloc | apply Kd.N_drewN | apply Kd.N_drew)); exact Kd.N_mono HO_7.out (by first | exact (fun _ hk => ⟨hk.1.1.1, ⟨hk.1.2, ⟨hk.1.1.2, hk.2⟩⟩⟩) | exact xi)), (by (with_reducible repeat (first | apply Kd.N_alloc | apply Kd.N_drewN | apply Kd.N_drew)); exact Kd.N_mono HO_8.out (by first | exact (fun _ hk => ⟨hk.1.1.1, ⟨hk.1.2, ⟨hk.1.1.2, hk.2⟩⟩⟩) | exact xi)), (xk BK508.out), GW508.out, GE508.out, (xs HB.out GE508.out)⟩)
       ·skip
        refine box_step ?hg (N := 10) ?hd (cs := #[.slice none 0 0, .slice none 0 0]) (t := 46) ?hr ?_; (case hd => rfl); (case hg => rfl); (case hr => first | (go_simp; done) | (go_simp; rfl))
        intro gb508 hg w43 hbox hb
        have HS0_ := (hb.cell (World.block_lt_of_cell? _ _ (hHeld))).trans (hHeld)
        replace HO_7 := ax (Kd.N_below (Kd.N_elderB (xN HO_7.out) gb508 (Nat.le_of_eq hg.symm)) hb); replace HO_8 := ax (Kd.N_below (Kd.N_elderB (xN HO_8.out) gb508 (Nat.le_of_eq hg.symm)) hb); replace HL501_0 := ax (Kd.V_below (Kd.V_elderB (xV HL501_0.out) gb508 (Nat.le_of_eq hg.symm)) hb); replace HO504 := ax (Kd.R_below (xR HO504.out) hb); replace HR501_0 := ax (Kd.C_below (xw HR501_0.out) hb); have BK508 := ax (hbox); have GW508 := ax ((by rw [hg]; exact (below_size (xb HB.out)) : w.heap.size ≤ gb508)); have GE508 := ax ((by rw [hg]; exact (below_size (xb HB.out)) : w.heap.size ≤ gb508)); replace HB := ax (below_step (xb HB.out) hb); clear hb hbox hg
        refine hK.out _ _ (HS0_) (fun hHeld => ?_)
        clear hK K
        refine norm_ (a' := ?_) ?_ ?_
        rotate_left
        ·show Act.put _ (some 10) _ = _
         simp only [Act.put, List.setIfInBounds_toArray, List.set_cons_zero, List.set_cons_succ, i64_w, i32_w]
         rfl
        refine one_ (i := 6) (N := some 26) (xB 10 383) rfl rfl (one_of HT_.out (by kernel_rfl)) (by decide) (fun K hK => ?_)
        refine Kd.R_append_rows_step (Kd.int .i64) (w0 := w) w.heap.size (by rfl) (.tmp 24) (.tmp 25) 24 3 (.int .i64 0) 8 rfl Try.underlying24 info3 rfl (by decide) (by omega) v503 y502 l0 _ _ _ (fun k_ => (w.heap.size ≤ k_)) (fun _ => False) rfl rfl ?aO ?aR (fun _ _ h => h) (fun _ h => h.elim) ?aF ?aB ?aS ?aL ?_
        (case aR => exact xz HR0.out (Kd.C_below · HB.out))
        (case aB => exact (xs HB.out GE508.out))
        (case aF => exact (fun k_ hk => (Nat.le_trans (below_size (xs HB.out GE508.out)) hk)))
        (case aO => exact (by (with_reducible repeat (first | apply Kd.R_alloc | apply Kd.R_drewN | apply Kd.R_drew)); exact Kd.R_mono HO504.out (fun _ hk => hk.1)))
        (case aS => exact (below_size (xs HB.out GE508.out)))
        (case aL => have := LMc10.out; omega)
        intro v506 w44 ho hb hg hat
        have HS0_ := cell_grown hg (hHeld) (by first | (rw [add_block]; exact (fun e_ => by obtain ⟨cs_, hc_⟩ := Kd.N_typed HO_8.out _ rfl; exact Kd.R_ne HO504.out hc_ (by decide) e_)) | (show some (Addr.add _ _).block ≠ _; rw [add_block]; exact (fun e_ => by obtain ⟨cs_, hc_⟩ := Kd.N_typed HO_8.out _ rfl; exact Kd.R_ne HO504.out hc_ (by decide) e_)) | exact (fun e_ => by obtain ⟨cs_, hc_⟩ := Kd.N_typed HO_8.out _ rfl; exact Kd.R_ne HO504.out hc_ (by decide) e_))
        rw [← Ny505.out] at ho
        have n0_ := ax (Kd.N_afterv (ok := (fun k_ => (w.heap.size ≤ k_) ∧ some k_ ≠ (.slice (some ad501) t498.length co39 : Value).ownBlock ∧ k_ ≠ gb508)) (by (with_reducible repeat (first | apply Kd.N_alloc | apply Kd.N_drewN | apply Kd.N_drew)); exact Kd.N_mono HO_7.out (by first | exact (fun _ hk => ⟨⟨hk.1.1.1, ⟨hk.1.1.2, hk.2⟩⟩, hk.1.2⟩) | exact xi)) hg hat)
        have n1_ := ax (Kd.N_afterv (ok := (fun k_ => (w.heap.size ≤ k_) ∧ some k_ ≠ (u7 : Value).ownBlock ∧ k_ ≠ gb508)) (by (with_reducible repeat (first | apply Kd.N_alloc | apply Kd.N_drewN | apply Kd.N_drew)); exact Kd.N_mono HO_8.out (by first | exact (fun _ hk => ⟨⟨hk.1.1.1, ⟨hk.1.1.2, hk.2⟩⟩, hk.1.2⟩) | exact xi)) hg hat)
        have n2_ := ax (Kd.V_afterv (ok := (fun k_ => (w.heap.size ≤ k_) ∧ some k_ ≠ (u7 : Value).ownBlock ∧ some k_ ≠ (.slice (some ad501) t498.length co39 : Value).ownBlock ∧ k_ ≠ gb508)) (by (with_reducible repeat (first | apply Kd.V_alloc | apply Kd.V_drewN | apply Kd.V_drew)); exact Kd.V_mono HL501_0.out (by first | exact (fun _ hk => ⟨⟨hk.1.1.1.1, ⟨hk.1.1.1.2, ⟨hk.1.1.2, hk.2⟩⟩⟩, hk.1.2⟩) | exact xi)) hg hat)
        have n3_ := ax (blk_grown (g := gb508) (o := .cells #[.slice none 0 0, .slice none 0 0] 46 (0, 0)) (xk BK508.out) hg (Kd.R_ne HO504.out BK508.out (by decide)))
        have n4_ := ax (hb)
        have n5_ := ax (ho)
        clear HO_7 HO_8 HL501_0 BK508 HB HO504
        have HO_7 := n0_
        have HO_8 := n1_
        have HL501_0 := n2_
        have BK508 := n3_
        have HB := n4_
        have HO507 := n5_
        clear n0_ n1_ n2_ n3_ n4_ n5_ ho hb hg hat
        obtain ⟨Ao45, co45, eo45⟩ := Kd.R_slice HO507.out
        (first | subst eo45 | (injection eo45 with f1_ f2_ f3_; have f4_ := f1_.symm; have f5_ := f3_.symm; clear f1_ f2_ f3_; subst f4_; subst f5_))
        refine hK.out _ _ (HS0_) (fun hHeld => ?_)
        clear hK K
        refine norm_ (a' := ?_) ?_ ?_
        rotate_left
        ·show Act.put _ (some 26) _ = _
         simp only [Act.put, List.setIfInBounds_toArray, List.set_cons_zero, List.set_cons_succ, i64_w, i32_w]
         rfl
        refine pu (i := 7) (N := some 27) (xB 10 511) HT_.out ?_
        exact norm_ (by simp only [putAll, Act.put, List.setIfInBounds_toArray, List.set_cons_zero, List.set_cons_succ]) (hCont (v503, .slice Ao45 y505.length co45, gb508) _ ⟨hHeld, (by (with_reducible repeat (first | apply Kd.V_alloc | apply Kd.V_drewN | apply Kd.V_drew)); exact Kd.V_mono HL501_0.out (by first | exact (fun _ hk => ⟨hk.1.1, ⟨hk.2, ⟨hk.1.2.1, ⟨hk.1.2.2.1, hk.1.2.2.2⟩⟩⟩⟩) | exact xi)), (xR HO507.out), (by (with_reducible repeat (first | apply Kd.N_alloc | apply Kd.N_drewN | apply Kd.N_drew)); exact Kd.N_mono HO_7.out (by first | exact (fun _ hk => ⟨hk.1.1, ⟨hk.2, ⟨hk.1.2.1, hk.1.2.2⟩⟩⟩) | exact xi)), (by (with_reducible repeat (first | apply Kd.N_alloc | apply Kd.N_drewN | apply Kd.N_drew)); exact Kd.N_mono HO_8.out (by first | exact (fun _ hk => ⟨hk.1.1, ⟨hk.2, ⟨hk.1.2.1, hk.1.2.2⟩⟩⟩) | exact xi)), (xk BK508.out), GW508.out, GE508.out, (xs HB.out GE508.out)⟩)
      ·skip
       refine box_step ?hg (N := 10) ?hd (cs := #[.slice none 0 0, .slice none 0 0]) (t := 46) ?hr ?_; (case hd => rfl); (case hg => rfl); (case hr => first | (go_simp; done) | (go_simp; rfl))
       intro gb508 hg w41 hbox hb
       have HS0_ := (hb.cell (World.block_lt_of_cell? _ _ (hHeld))).trans (hHeld)
       replace HO_7 := ax (Kd.N_below (Kd.N_elderB (xN HO_7.out) gb508 (Nat.le_of_eq hg.symm)) hb); replace HO_8 := ax (Kd.N_below (Kd.N_elderB (xN HO_8.out) gb508 (Nat.le_of_eq hg.symm)) hb); replace HL501_0 := ax (Kd.V_below (Kd.V_elderB (xV HL501_0.out) gb508 (Nat.le_of_eq hg.symm)) hb); replace HR501_0 := ax (Kd.C_below (xw HR501_0.out) hb); have BK508 := ax (hbox); have GW508 := ax ((by rw [hg]; exact (below_size (xb HB.out)) : w.heap.size ≤ gb508)); have GE508 := ax ((by rw [hg]; exact (below_size (xb HB.out)) : w.heap.size ≤ gb508)); replace HB := ax (below_step (xb HB.out) hb); clear hb hbox hg
       refine hK.out _ _ (HS0_) (fun hHeld => ?_)
       clear hK K
       refine norm_ (a' := ?_) ?_ ?_
       rotate_left
       ·show Act.put _ (some 10) _ = _
        simp only [Act.put, List.setIfInBounds_toArray, List.set_cons_zero, List.set_cons_succ, i64_w, i32_w]
        rfl
       refine one_ (i := 4) (N := some 24) (xB 10 319) rfl rfl (one_of HT_.out (by kernel_rfl)) (by decide) (fun K hK => ?_)
       refine Kd.R_lit_step (Kd.int .i64) _ 3 ?hg (N := 24) ?hd (xs := ([] : List Int)) (inner := []) (ok := fun _ => True) (okp := fun _ => True) ?hr ?hp (fun _ hk => hk) trivial (Below.refl _ _) (Nat.le_refl _) (by simp) ?_; (case hd => rfl); (case hg => rfl); (case hr => first | (go_simp; done) | (go_simp; rfl)); (case hp => exact (Reps.none _ _))
       intro v503 w42 ho43 hb hg_ hnew_
       have HS0_ := (hb.cell (World.block_lt_of_cell? _ _ (hHeld))).trans (hHeld)
       clear hg_ hnew_
       (first | rw [← Ny502.out] at ho43 | (simp only [Int.reduceToNat] at ho43; rw [← Ny502.out] at ho43))
       replace HO_7 := ax (Kd.N_elder' (xN HO_7.out) (Kd.R_base ho43) hb); replace HO_8 := ax (Kd.N_elder' (xN HO_8.out) (Kd.R_base ho43) hb); replace HL501_0 := ax (Kd.V_elder' (xV HL501_0.out) (Kd.R_base ho43) hb); have HO504 := ax (Kd.R_lower (Kd.R_newM (M := fun k_ => (w.heap.size ≤ k_)) ho43 (below_size (xs HB.out GE508.out)) (fun k_ h_ => h_)) (below_size (xs HB.out GE508.out))); replace HR501_0 := ax (Kd.C_below (xw HR501_0.out) hb); replace BK508 := ax (blk_below (g := gb508) (o := .cells #[.slice none 0 0, .slice none 0 0] 46 (0, 0)) (xk BK508.out) hb); replace HB := ax (below_step (xs HB.out GE508.out) hb); clear hb ho43
       refine hK.out _ _ (HS0_) (fun hHeld => ?_)
       clear hK K
       refine norm_ (a' := ?_) ?_ ?_
       rotate_left
       ·show Act.put _ (some 24) _ = _
        simp only [Act.put, List.setIfInBounds_toArray, List.set_cons_zero, List.set_cons_succ, i64_w, i32_w]
        rfl
       refine one_ (i := 6) (N := some 26) (xB 10 383) rfl rfl (one_of HT_.out (by kernel_rfl)) (by decide) (fun K hK => ?_)
       refine Kd.R_append_rows_step (Kd.int .i64) (w0 := w) w.heap.size (by rfl) (.tmp 24) (.tmp 25) 24 3 (.int .i64 0) 8 rfl Try.underlying24 info3 rfl (by decide) (by omega) v503 y502 l0 _ _ _ (fun k_ => (w.heap.size ≤ k_)) (fun _ => False) rfl rfl ?aO ?aR (fun _ _ h => h) (fun _ h => h.elim) ?aF ?aB ?aS ?aL ?_
       (case aR => exact xz HR0.out (Kd.C_below · HB.out))
       (case aB => exact (xs HB.out GE508.out))
       (case aF => exact (fun k_ hk => (Nat.le_trans (below_size (xs HB.out GE508.out)) hk)))
       (case aO => exact (by (with_reducible repeat (first | apply Kd.R_alloc | apply Kd.R_drewN | apply Kd.R_drew)); exact Kd.R_mono HO504.out (fun _ hk => hk.1)))
       (case aS => exact (below_size (xs HB.out GE508.out)))
       (case aL => have := LMc10.out; omega)
       intro v506 w44 ho hb hg hat
       have HS0_ := cell_grown hg (hHeld) (by first | (rw [add_block]; exact (fun e_ => by obtain ⟨cs_, hc_⟩ := Kd.N_typed HO_8.out _ rfl; exact Kd.R_ne HO504.out hc_ (by decide) e_)) | (show some (Addr.add _ _).block ≠ _; rw [add_block]; exact (fun e_ => by obtain ⟨cs_, hc_⟩ := Kd.N_typed HO_8.out _ rfl; exact Kd.R_ne HO504.out hc_ (by decide) e_)) | exact (fun e_ => by obtain ⟨cs_, hc_⟩ := Kd.N_typed HO_8.out _ rfl; exact Kd.R_ne HO504.out hc_ (by decide) e_))
       rw [← Ny505.out] at ho
       have n0_ := ax (Kd.N_afterv (ok := (fun k_ => (w.heap.size ≤ k_) ∧ some k_ ≠ (.slice (some ad501) t498.length co39 : Value).ownBlock ∧ k_ ≠ gb508)) (by (with_reducible repeat (first | apply Kd.N_alloc | apply Kd.N_drewN | apply Kd.N_drew)); exact Kd.N_mono HO_7.out (by first | exact (fun _ hk => ⟨⟨hk.1.1.1, ⟨hk.1.1.2, hk.1.2⟩⟩, hk.2⟩) | exact xi)) hg hat)
       have n1_ := ax (Kd.N_afterv (ok := (fun k_ => (w.heap.size ≤ k_) ∧ some k_ ≠ (u7 : Value).ownBlock ∧ k_ ≠ gb508)) (by (with_reducible repeat (first | apply Kd.N_alloc | apply Kd.N_drewN | apply Kd.N_drew)); exact Kd.N_mono HO_8.out (by first | exact (fun _ hk => ⟨⟨hk.1.1.1, ⟨hk.1.1.2, hk.1.2⟩⟩, hk.2⟩) | exact xi)) hg hat)
       have n2_ := ax (Kd.V_afterv (ok := (fun k_ => (w.heap.size ≤ k_) ∧ some k_ ≠ (u7 : Value).ownBlock ∧ some k_ ≠ (.slice (some ad501) t498.length co39 : Value).ownBlock ∧ k_ ≠ gb508)) (by (with_reducible repeat (first | apply Kd.V_alloc | apply Kd.V_drewN | apply Kd.V_drew)); exact Kd.V_mono HL501_0.out (by first | exact (fun _ hk => ⟨⟨hk.1.1.1.1, ⟨hk.1.1.1.2, ⟨hk.1.1.2, hk.1.2⟩⟩⟩, hk.2⟩) | exact xi)) hg hat)
       have n3_ := ax (blk_grown (g := gb508) (o := .cells #[.slice none 0 0, .slice none 0 0] 46 (0, 0)) (xk BK508.out) hg (Kd.R_ne HO504.out BK508.out (by decide)))
       have n4_ := ax (hb)
       have n5_ := ax (ho)
       clear HO_7 HO_8 HL501_0 BK508 HB HO504
       have HO_7 := n0_
       have HO_8 := n1_
       have HL501_0 := n2_
       have BK508 := n3_
       have HB := n4_
       have HO507 := n5_
       clear n0_ n1_ n2_ n3_ n4_ n5_ ho hb hg hat
       obtain ⟨Ao45, co45, eo45⟩ := Kd.R_slice HO507.out
       (first | subst eo45 | (injection eo45 with f1_ f2_ f3_; have f4_ := f1_.symm; have f5_ := f3_.symm; clear f1_ f2_ f3_; subst f4_; subst f5_))
       refine hK.out _ _ (HS0_) (fun hHeld => ?_)
       clear hK K
       refine norm_ (a' := ?_) ?_ ?_
       rotate_left
       ·show Act.put _ (some 26) _ = _
        simp only [Act.put, List.setIfInBounds_toArray, List.set_cons_zero, List.set_cons_succ, i64_w, i32_w]
        rfl
       refine pu (i := 7) (N := some 27) (xB 10 511) HT_.out ?_
       exact norm_ (by simp only [putAll, Act.put, List.setIfInBounds_toArray, List.set_cons_zero, List.set_cons_succ]) (hCont (v503, .slice Ao45 y505.length co45, gb508) _ ⟨hHeld, (by (with_reducible repeat (first | apply Kd.V_alloc | apply Kd.V_drewN | apply Kd.V_drew)); exact Kd.V_mono HL501_0.out (by first | exact (fun _ hk => ⟨hk.1.1, ⟨hk.2, ⟨hk.1.2.1, ⟨hk.1.2.2.1, hk.1.2.2.2⟩⟩⟩⟩) | exact xi)), (xR HO507.out), (by (with_reducible repeat (first | apply Kd.N_alloc | apply Kd.N_drewN | apply Kd.N_drew)); exact Kd.N_mono HO_7.out (by first | exact (fun _ hk => ⟨hk.1.1, ⟨hk.2, ⟨hk.1.2.1, hk.1.2.2⟩⟩⟩) | exact xi)), (by (with_reducible repeat (first | apply Kd.N_alloc | apply Kd.N_drewN | apply Kd.N_drew)); exact Kd.N_mono HO_8.out (by first | exact (fun _ hk => ⟨hk.1.1, ⟨hk.2, ⟨hk.1.2.1, hk.1.2.2⟩⟩⟩) | exact xi)), (xk BK508.out), GW508.out, GE508.out, (xs HB.out GE508.out)⟩)
     rintro ⟨v503, v506, gb508⟩ w46 ⟨hS_, h0_, h1_, h2_, h3_, h4_, h5_, h6_, h7_⟩
     have n0_ : Aside0 (Kd.V (Kd.int .i64) 3 w46 w.heap.size (fun k_ => (w.heap.size ≤ k_) ∧ some k_ ≠ (v506 : Value).ownBlock ∧ some k_ ≠ (u7 : Value).ownBlock ∧ some k_ ≠ (.slice (some ad501) t498.length co39 : Value).ownBlock ∧ k_ ≠ gb508) (.slice A501_0 (rd_L2 t498 x9_1).length c501_0) (rd_L2 t498 x9_1)) := ⟨h0_⟩
     have n1_ : Aside0 (Kd.R (Kd.int .i64) 3 w46 w.heap.size (fun k_ => (w.heap.size ≤ k_)) v506 y505) := ⟨h1_⟩
     have n2_ : Aside0 (Kd.N (Kd.slice 3 (Kd.int .i64)) 24 w46 w.heap.size (fun k_ => (w.heap.size ≤ k_) ∧ some k_ ≠ (v506 : Value).ownBlock ∧ some k_ ≠ (.slice (some ad501) t498.length co39 : Value).ownBlock ∧ k_ ≠ gb508) u7 x7_1) := ⟨h2_⟩
     have n3_ : Aside0 (Kd.N (Kd.slice 3 (Kd.int .i64)) 24 w46 w.heap.size (fun k_ => (w.heap.size ≤ k_) ∧ some k_ ≠ (v506 : Value).ownBlock ∧ some k_ ≠ (u7 : Value).ownBlock ∧ k_ ≠ gb508) (.slice (some ad501) t498.length co39) t498) := ⟨h3_⟩
     have n4_ : Aside0 (w46.heap[gb508]? = some (.cells #[.slice none 0 0, .slice none 0 0] 46 (0, 0))) := ⟨h4_⟩
     have n5_ : Aside0 (w.heap.size ≤ gb508) := ⟨h5_⟩
     have n6_ : Aside0 (w.heap.size ≤ gb508) := ⟨h6_⟩
     have n7_ : Aside0 (Below w.heap.size w w46) := ⟨h7_⟩
     clear HO_7 HO_8 HB h0_ h1_ h2_ h3_ h4_ h5_ h6_ h7_
     have HL501_0 := n0_
     have HO507 := n1_
     have HO_7 := n2_
     have HO_8 := n3_
     have BK508 := n4_
     have GW508 := n5_
     have GE508 := n6_
     have HB := n7_
     clear n0_ n1_ n2_ n3_ n4_ n5_ n6_ n7_
     have hHeld : w46.cell? (ad501.add (x9_1).toNat) = some (.slice A501_0 (rd_L2 t498 x9_1).length c501_0) := hS_
     obtain ⟨Ao47, co47, eo47⟩ := Kd.R_slice HO507.out
     (first | subst eo47 | (injection eo47 with f1_ f2_ f3_; have f4_ := f1_.symm; have f5_ := f3_.symm; clear f1_ f2_ f3_; subst f4_; subst f5_))
     refine norm_ (a' := ?_) ?_ ?_
     rotate_left
     ·simp only [putAll, Act.put, List.setIfInBounds_toArray, List.set_cons_zero, List.set_cons_succ]
      rfl
     refine one_ (i := 9) (N := none) (xB 10 1023) rfl rfl (one_of HT_.out (by kernel_rfl)) (by decide) (fun K hK => ?_)
     have hs48 : w46.cell? ⟨gb508, 0, none⟩ = some (.slice none 0 0) := (blk_cell BK508.out 0).trans rfl
     have hfs48 := blk_frozen BK508.out 0
     have hs49 : w46.cell? ⟨gb508, 1, none⟩ = some (.slice none 0 0) := (blk_cell BK508.out 1).trans rfl
     have hfs49 := blk_frozen BK508.out 1
     refine skip_ (w1 := ?_) (by rfl) rfl ?_ ?_
     rotate_left
     ·go_simp
      rfl
     refine hK.out _ _ (((cell_far (p := ⟨gb508, _, none⟩) (by first | exact Kd.own_blk (Kd.N_away HO_8.out (fun _ hk => hk.2.2.2)) | (rw [add_block]; exact Kd.own_blk (Kd.N_away HO_8.out (fun _ hk => hk.2.2.2))) | (show (Addr.add _ _).block ≠ _; rw [add_block]; exact Kd.own_blk (Kd.N_away HO_8.out (fun _ hk => hk.2.2.2))) | (dsimp only; exact Kd.own_blk (Kd.N_away HO_8.out (fun _ hk => hk.2.2.2)))) _).trans (((cell_far (p := ⟨gb508, _, none⟩) (by first | exact Kd.own_blk (Kd.N_away HO_8.out (fun _ hk => hk.2.2.2)) | (rw [add_block]; exact Kd.own_blk (Kd.N_away HO_8.out (fun _ hk => hk.2.2.2))) | (show (Addr.add _ _).block ≠ _; rw [add_block]; exact Kd.own_blk (Kd.N_away HO_8.out (fun _ hk => hk.2.2.2))) | (dsimp only; exact Kd.own_blk (Kd.N_away HO_8.out (fun _ hk => hk.2.2.2)))) _).trans (hHeld))))) (fun hHeld => ?_)
     clear hK K
     refine done_ (done_of HT_.out (by kernel_rfl)) ?_
     try go_wp2_with (first | ((with_reducible refine gate_callee (f := 28) rfl ?_); refine goesL_ (some 30) rfl rfl Try.func28 (by kernel_rfl) rfl #[.slice A0 l0.length c0] rfl xm ?_; (with_reducible refine (spec_l2Size.calls k1 _ _ l0 t509 _ ?side1 ?side2 A11.out).mono ?_); (case side1 => exact Kd.C_below HR0.out (xs HB.out GE508.out)); (case side2 => exact HC0.out); rintro e w' ⟨rfl, ⟨nd, rfl⟩⟩; refine ⟨_, rfl, ?_⟩))
     have n0_ : Aside0 (Kd.N (Kd.slice 3 (Kd.int .i64)) 24 ((w46.setCell ⟨gb508, 0, none⟩ (.slice A501_0 (rd_L2 t498 x9_1).length c501_0)).setCell ⟨gb508, 1, none⟩ (.slice Ao47 y505.length co47)) w.heap.size (fun k_ => (w.heap.size ≤ k_) ∧ some k_ ≠ (.slice (some ad501) t498.length co39 : Value).ownBlock ∧ some k_ ≠ (.slice Ao47 y505.length co47 : Value).ownBlock ∧ k_ ≠ gb508) u7 x7_1) := ⟨by (with_reducible repeat (first | apply Kd.N_alloc | apply Kd.N_drewN | apply Kd.N_drew)); exact Kd.N_mono (Kd.N_far (p := ⟨gb508, 1, none⟩) (Kd.N_far (p := ⟨gb508, 0, none⟩) (Kd.N_mono HO_7.out (fun k_ hk => (⟨hk, hk.2.2.2⟩ : _ ∧ k_ ≠ gb508))) (fun _ hk => hk.2) (.slice A501_0 (rd_L2 t498 x9_1).length c501_0)) (fun _ hk => hk.2) (.slice Ao47 y505.length co47)) (fun _ hk => ⟨hk.1.1, ⟨hk.1.2.2.1, ⟨hk.1.2.1, hk.1.2.2.2⟩⟩⟩)⟩
     have n1_ : Aside0 (Kd.N (Kd.slice 3 (Kd.int .i64)) 24 ((w46.setCell ⟨gb508, 0, none⟩ (.slice A501_0 (rd_L2 t498 x9_1).length c501_0)).setCell ⟨gb508, 1, none⟩ (.slice Ao47 y505.length co47)) w.heap.size (fun k_ => (w.heap.size ≤ k_) ∧ some k_ ≠ (u7 : Value).ownBlock ∧ some k_ ≠ (.slice Ao47 y505.length co47 : Value).ownBlock ∧ k_ ≠ gb508) (.slice (some ad501) t498.length co39) t498) := ⟨by (with_reducible repeat (first | apply Kd.N_alloc | apply Kd.N_drewN | apply Kd.N_drew)); exact Kd.N_mono (Kd.N_far (p := ⟨gb508, 1, none⟩) (Kd.N_far (p := ⟨gb508, 0, none⟩) (Kd.N_mono HO_8.out (fun k_ hk => (⟨hk, hk.2.2.2⟩ : _ ∧ k_ ≠ gb508))) (fun _ hk => hk.2) (.slice A501_0 (rd_L2 t498 x9_1).length c501_0)) (fun _ hk => hk.2) (.slice Ao47 y505.length co47)) (fun _ hk => ⟨hk.1.1, ⟨hk.1.2.2.1, ⟨hk.1.2.1, hk.1.2.2.2⟩⟩⟩)⟩
     have n2_ : Aside0 (Kd.V (Kd.int .i64) 3 ((w46.setCell ⟨gb508, 0, none⟩ (.slice A501_0 (rd_L2 t498 x9_1).length c501_0)).setCell ⟨gb508, 1, none⟩ (.slice Ao47 y505.length co47)) w.heap.size (fun k_ => (w.heap.size ≤ k_) ∧ some k_ ≠ (u7 : Value).ownBlock ∧ some k_ ≠ (.slice (some ad501) t498.length co39 : Value).ownBlock ∧ some k_ ≠ (.slice Ao47 y505.length co47 : Value).ownBlock ∧ k_ ≠ gb508) (.slice A501_0 (rd_L2 t498 x9_1).length c501_0) (rd_L2 t498 x9_1)) := ⟨by (with_reducible repeat (first | apply Kd.V_alloc | apply Kd.V_drewN | apply Kd.V_drew)); exact Kd.V_mono (Kd.V_far (p := ⟨gb508, 1, none⟩) (Kd.V_far (p := ⟨gb508, 0, none⟩) (Kd.V_mono HL501_0.out (fun k_ hk => (⟨hk, hk.2.2.2.2⟩ : _ ∧ k_ ≠ gb508))) (fun _ hk => hk.2) (.slice A501_0 (rd_L2 t498 x9_1).length c501_0)) (fun _ hk => hk.2) (.slice Ao47 y505.length co47)) (fun _ hk => ⟨hk.1.1, ⟨hk.1.2.2.1, ⟨hk.1.2.2.2.1, ⟨hk.1.2.1, hk.1.2.2.2.2⟩⟩⟩⟩)⟩
     have n3_ : Aside0 (Kd.R (Kd.int .i64) 3 ((w46.setCell ⟨gb508, 0, none⟩ (.slice A501_0 (rd_L2 t498 x9_1).length c501_0)).setCell ⟨gb508, 1, none⟩ (.slice Ao47 y505.length co47)) w.heap.size (fun k_ => (w.heap.size ≤ k_)) (.slice Ao47 y505.length co47) y505) := ⟨by (with_reducible repeat (first | apply Kd.R_alloc | apply Kd.R_drewN | apply Kd.R_drew)); exact Kd.R_mono (Kd.R_far (p := ⟨gb508, 1, none⟩) (Kd.R_far (p := ⟨gb508, 0, none⟩) (Kd.R_types HO507.out BK508.out (by decide)) (fun _ hk => hk.2) (.slice A501_0 (rd_L2 t498 x9_1).length c501_0)) (fun _ hk => hk.2) (.slice Ao47 y505.length co47)) (fun _ hk => hk.1)⟩
     have n4_ : Aside0 (((w46.setCell ⟨gb508, 0, none⟩ (.slice A501_0 (rd_L2 t498 x9_1).length c501_0)).setCell ⟨gb508, 1, none⟩ (.slice Ao47 y505.length co47)).heap[gb508]? = some (.cells #[.slice A501_0 (rd_L2 t498 x9_1).length c501_0, .slice Ao47 y505.length co47] 46 (0, 0))) := ⟨by (with_reducible repeat (first | refine blk_drewN ?_ _ | refine blk_drew ?_ | refine blk_alloc ?_ _)); refine blk_put (cs := #[.slice A501_0 (rd_L2 t498 x9_1).length c501_0, .slice none 0 0]) ?_ 1 _ rfl; (with_reducible repeat (first | refine blk_drewN ?_ _ | refine blk_drew ?_ | refine blk_alloc ?_ _)); refine blk_put (cs := #[.slice none 0 0, .slice none 0 0]) ?_ 0 _ rfl; (with_reducible repeat (first | refine blk_drewN ?_ _ | refine blk_drew ?_ | refine blk_alloc ?_ _)); exact BK508.out⟩
     have n5_ : Aside0 (Below w.heap.size w ((w46.setCell ⟨gb508, 0, none⟩ (.slice A501_0 (rd_L2 t498 x9_1).length c501_0)).setCell ⟨gb508, 1, none⟩ (.slice Ao47 y505.length co47))) := ⟨xs HB.out GE508.out⟩
     (try clear HO_7)
     (try clear HO_8)
     (try clear HL501_0)
     (try clear HO507)
     (try clear BK508)
     (try clear HB)
     generalize ((w46.setCell ⟨gb508, 0, none⟩ (.slice A501_0 (rd_L2 t498 x9_1).length c501_0)).setCell ⟨gb508, 1, none⟩ (.slice Ao47 y505.length co47)) = w50 at n0_ n1_ n2_ n3_ n4_ n5_ ⊢
     have HO_7 := n0_
     have HO_8 := n1_
     have HL501_0 := n2_
     have HO507 := n3_
     have BK508 := n4_
     have HB := n5_
     clear n0_ n1_ n2_ n3_ n4_ n5_
     (try (rw [drewN_self w50]; generalize hq_ : World.drewN w50 _ = w50; have n0_ : Aside0 (Kd.V (Kd.int .i64) 3 w50 w.heap.size (fun k_ => (w.heap.size ≤ k_) ∧ some k_ ≠ (.slice Ao47 y505.length co47 : Value).ownBlock ∧ some k_ ≠ (u7 : Value).ownBlock ∧ some k_ ≠ (.slice (some ad501) t498.length co39 : Value).ownBlock ∧ k_ ≠ gb508) (.slice A501_0 (rd_L2 t498 x9_1).length c501_0) (rd_L2 t498 x9_1)) := ⟨by rw [← hq_]; exact (by (with_reducible repeat (first | apply Kd.V_alloc | apply Kd.V_drewN | apply Kd.V_drew)); exact Kd.V_mono HL501_0.out (by first | exact (fun _ hk => ⟨hk.1, ⟨hk.2.2.2.1, ⟨hk.2.1, ⟨hk.2.2.1, hk.2.2.2.2⟩⟩⟩⟩) | exact xi))⟩; have n1_ : Aside0 (Kd.R (Kd.int .i64) 3 w50 w.heap.size (fun k_ => (w.heap.size ≤ k_)) (.slice Ao47 y505.length co47) y505) := ⟨by rw [← hq_]; exact (xR HO507.out)⟩; have n2_ : Aside0 (Kd.N (Kd.slice 3 (Kd.int .i64)) 24 w50 w.heap.size (fun k_ => (w.heap.size ≤ k_) ∧ some k_ ≠ (.slice Ao47 y505.length co47 : Value).ownBlock ∧ some k_ ≠ (.slice (some ad501) t498.length co39 : Value).ownBlock ∧ k_ ≠ gb508) u7 x7_1) := ⟨by rw [← hq_]; exact (by (with_reducible repeat (first | apply Kd.N_alloc | apply Kd.N_drewN | apply Kd.N_drew)); exact Kd.N_mono HO_7.out (by first | exact (fun _ hk => ⟨hk.1, ⟨hk.2.2.1, ⟨hk.2.1, hk.2.2.2⟩⟩⟩) | exact xi))⟩; have n3_ : Aside0 (Kd.N (Kd.slice 3 (Kd.int .i64)) 24 w50 w.heap.size (fun k_ => (w.heap.size ≤ k_) ∧ some k_ ≠ (.slice Ao47 y505.length co47 : Value).ownBlock ∧ some k_ ≠ (u7 : Value).ownBlock ∧ k_ ≠ gb508) (.slice (some ad501) t498.length co39) t498) := ⟨by rw [← hq_]; exact (by (with_reducible repeat (first | apply Kd.N_alloc | apply Kd.N_drewN | apply Kd.N_drew)); exact Kd.N_mono HO_8.out (by first | exact (fun _ hk => ⟨hk.1, ⟨hk.2.2.1, ⟨hk.2.1, hk.2.2.2⟩⟩⟩) | exact xi))⟩; have n4_ : Aside0 (w50.heap[gb508]? = some (.cells #[.slice A501_0 (rd_L2 t498 x9_1).length c501_0, .slice Ao47 y505.length co47] 46 (0, 0))) := ⟨by rw [← hq_]; exact (xk BK508.out)⟩; have n5_ : Aside0 (Below w.heap.size w w50) := ⟨by rw [← hq_]; exact (xs HB.out GE508.out)⟩; clear HL501_0 HO507 HO_7 HO_8 BK508 HB hq_; have HL501_0 := n0_; have HO507 := n1_; have HO_7 := n2_; have HO_8 := n3_; have BK508 := n4_; have HB := n5_; clear n0_ n1_ n2_ n3_ n4_ n5_))
     replace HO_7 := ax (Kd.N_drew HO_7.out); replace HO_8 := ax (Kd.N_drew HO_8.out); replace HL501_0 := ax (Kd.V_drew HL501_0.out); replace HO507 := ax (Kd.R_drew HO507.out); replace BK508 := ax (blk_drew BK508.out); replace HB := ax (below_drew1 HB.out)
     have p516 : 0 ≤ (x9_1 : Int) := xd
     have q516 : x9_1 < (t498.length : Int) := xd
     obtain ⟨ad516, A516_0, c516_0, e516, hx516_0, hl516_0, hi516_0⟩ := at_L2 (Kd.N_reads' HO_8.out).2.2 x9_1 p516 q516
     obtain rfl : ad501 = ad516 := (by injection e516)
     obtain ⟨ce516, hce516, hMe516, hcc516⟩ := Kd.N_get HO_8.out [] x9_1 p516 (by first | exact q516 | exact xd | (have e_ := (Kd.N_reads' HO_8.out).1; omega))
     obtain ⟨ua516_0, uc516_0, rfl, ul516_0, ge516_0⟩ := Kd.FK_slice_open hMe516
     have hv516_0 := hcc516 0 _ rfl
     rw [Nat.add_zero, show ((Kd.slice 3 (Kd.int .i64))).sz = 1 from rfl, Nat.mul_one] at hv516_0
     replace hv516_0 := Option.some.inj (hv516_0.symm.trans hx516_0)
     injection hv516_0 with hva_ hvn_ hvc_
     rw [hva_] at ge516_0
     rw [hvc_] at ul516_0
     have HL516_0 := ax (show Kd.V (Kd.int .i64) 3 _ w.heap.size _ _ (rd_L2 t498 x9_1) from Kd.V_mk ul516_0 ge516_0)
     clear hva_ hvn_ hvc_ ge516_0 ul516_0 hcc516 hce516
     have HR516_0 := ax hi516_0
     have HC516_0 := ax hl516_0
     clear hi516_0 hl516_0
     replace p516 := eq_true p516
     replace q516 := eq_true q516
     refine start_ (n := 9) (S := fun w' => w'.cell? (ad501.add (x9_1).toNat) = some (.slice A516_0 (rd_L2 t498 x9_1).length c516_0)) (ds := []) (xB 9 0) (by kernel_rfl) rfl (by kernel_rfl) (hx516_0) (fun hHeld => ?_); refine with_tabW spec_l19Pick__2.tab8 spec_l19Pick__2.bits8 (fun HT_ HW_ => ?_)
     generalize w50.drew = w51 at HO_7 HO_8 HL501_0 HO507 BK508 HB HL516_0 HR516_0 hx516_0 hHeld ⊢
     refine pu (i := 1) (N := some 33) (xB 9 2) HT_.out ?_
     refine pu (i := 3) (N := some 35) (xB 9 10) HT_.out ?_
     refine pu (i := 4) (N := some 36) (xB 9 26) HT_.out ?_
     refine pu (i := 5) (N := some 37) (xB 9 58) HT_.out ?_
     refine tk (i := 6) (N := some 38) (xB 9 122) HT_.out HW_.out hHeld ?_
     refine one_ (i := 0) (N := some 32) (xB 9 123) rfl rfl (one_of HT_.out (by kernel_rfl)) (by decide) (fun K hK => ?_)
     refine Kd.R_lit_step (Kd.int .i64) _ 3 ?hg (N := 32) ?hd (xs := ([] : List Int)) (inner := []) (ok := fun _ => True) (okp := fun _ => True) ?hr ?hp (fun _ hk => hk) trivial (Below.refl _ _) (Nat.le_refl _) (by simp) ?_; (case hd => rfl); (case hg => rfl); (case hr => first | (go_simp; done) | (go_simp; rfl)); (case hp => exact (Reps.none _ _))
     intro v511 w52 ho53 hb hg_ hnew_
     have HS0_ := (hb.cell (World.block_lt_of_cell? _ _ (hHeld))).trans (hHeld)
     clear hg_ hnew_
     (first | rw [← Ny510.out] at ho53 | (simp only [Int.reduceToNat] at ho53; rw [← Ny510.out] at ho53))
     replace HO_7 := ax (Kd.N_elder' (xN HO_7.out) (Kd.R_base ho53) hb); replace HO_8 := ax (Kd.N_elder' (xN HO_8.out) (Kd.R_base ho53) hb); replace HL501_0 := ax (Kd.V_elder' (xV HL501_0.out) (Kd.R_base ho53) hb); replace HL516_0 := ax (Kd.V_elder' (xV HL516_0.out) (Kd.R_base ho53) hb); have HO512 := ax (Kd.R_lower (Kd.R_new' (Kd.R_newM (M := fun k_ => (w.heap.size ≤ k_)) ho53 (below_size (xs HB.out GE508.out)) (fun k_ h_ => h_)) (Kd.R_lt (xR HO507.out))) (below_size (xs HB.out GE508.out))); replace HO507 := ax (Kd.R_elder' (xR HO507.out) (Kd.R_base ho53) hb); replace BK508 := ax (blk_below (g := gb508) (o := .cells #[.slice A501_0 (rd_L2 t498 x9_1).length c501_0, .slice Ao47 y505.length co47] 46 (0, 0)) (xk BK508.out) hb); replace HR516_0 := ax (Kd.C_below (xw HR516_0.out) hb); replace HB := ax (below_step (xs HB.out GE508.out) hb); clear hb ho53
     refine hK.out _ _ (HS0_) (fun hHeld => ?_)
     clear hK K
     refine norm_ (a' := ?_) ?_ ?_
     rotate_left
     ·show Act.put _ (some 32) _ = _
      simp only [Act.put, List.setIfInBounds_toArray, List.set_cons_zero, List.set_cons_succ, i64_w, i32_w]
      rfl
     refine one_ (i := 2) (N := some 34) (xB 9 127) rfl rfl (one_of HT_.out (by kernel_rfl)) (by decide) (fun K hK => ?_)
     refine Kd.R_append_rows_step (Kd.int .i64) (w0 := w) w.heap.size (by rfl) (.tmp 32) (.tmp 33) 24 3 (.int .i64 0) 8 rfl Try.underlying24 info3 rfl (by decide) (by omega) v511 y510 l0 _ _ _ (fun k_ => (w.heap.size ≤ k_) ∧ some k_ ≠ (.slice Ao47 y505.length co47 : Value).ownBlock) (fun _ => False) rfl rfl ?aO ?aR (fun _ _ h => h) (fun _ h => h.elim) ?aF ?aB ?aS ?aL ?_
     (case aR => exact xz HR0.out (Kd.C_below · HB.out))
     (case aB => exact (xs HB.out GE508.out))
     (case aF => exact (fun k_ hk => ⟨(Nat.le_trans (below_size (xs HB.out GE508.out)) hk), Kd.fresh' (Kd.R_lt (xR HO507.out)) k_ hk⟩))
     (case aO => exact (by (with_reducible repeat (first | apply Kd.R_alloc | apply Kd.R_drewN | apply Kd.R_drew)); exact Kd.R_mono HO512.out (by first | exact (fun _ hk => ⟨hk.1.1, hk.2⟩) | exact xi)))
     (case aS => exact (below_size (xs HB.out GE508.out)))
     (case aL => have := LMc13.out; omega)
     intro v514 w54 ho hb hg hat
     have HS0_ := cell_grown hg (hHeld) (by first | (rw [add_block]; exact (fun e_ => by obtain ⟨cs_, hc_⟩ := Kd.N_typed HO_8.out _ rfl; exact Kd.R_ne HO512.out hc_ (by decide) e_)) | (show some (Addr.add _ _).block ≠ _; rw [add_block]; exact (fun e_ => by obtain ⟨cs_, hc_⟩ := Kd.N_typed HO_8.out _ rfl; exact Kd.R_ne HO512.out hc_ (by decide) e_)) | exact (fun e_ => by obtain ⟨cs_, hc_⟩ := Kd.N_typed HO_8.out _ rfl; exact Kd.R_ne HO512.out hc_ (by decide) e_))
     rw [← Ny513.out] at ho
     have n0_ := ax (Kd.N_afterv (ok := (fun k_ => (w.heap.size ≤ k_) ∧ some k_ ≠ (.slice (some ad501) t498.length co39 : Value).ownBlock ∧ some k_ ≠ (.slice Ao47 y505.length co47 : Value).ownBlock ∧ k_ ≠ gb508)) (xN HO_7.out) hg hat)
     have n1_ := ax (Kd.N_afterv (ok := (fun k_ => (w.heap.size ≤ k_) ∧ some k_ ≠ (u7 : Value).ownBlock ∧ some k_ ≠ (.slice Ao47 y505.length co47 : Value).ownBlock ∧ k_ ≠ gb508)) (xN HO_8.out) hg hat)
     have n2_ := ax (Kd.V_afterv (ok := (fun k_ => (w.heap.size ≤ k_) ∧ some k_ ≠ (u7 : Value).ownBlock ∧ some k_ ≠ (.slice (some ad501) t498.length co39 : Value).ownBlock ∧ some k_ ≠ (.slice Ao47 y505.length co47 : Value).ownBlock ∧ k_ ≠ gb508)) (xV HL501_0.out) hg hat)
     have n3_ := ax (Kd.R_after (ok := (fun k_ => (w.heap.size ≤ k_))) (xR HO507.out) hg hat)
     have n4_ := ax (blk_grown (g := gb508) (o := .cells #[.slice A501_0 (rd_L2 t498 x9_1).length c501_0, .slice Ao47 y505.length co47] 46 (0, 0)) (xk BK508.out) hg (Kd.R_ne HO512.out BK508.out (by decide)))
     have n5_ := ax (Kd.V_afterv (ok := (fun k_ => (w.heap.size ≤ k_) ∧ some k_ ≠ (u7 : Value).ownBlock ∧ some k_ ≠ (.slice (some ad501) t498.length co39 : Value).ownBlock ∧ some k_ ≠ (.slice Ao47 y505.length co47 : Value).ownBlock ∧ k_ ≠ gb508)) (by (with_reducible repeat (first | apply Kd.V_alloc | apply Kd.V_drewN | apply Kd.V_drew)); exact Kd.V_mono HL516_0.out (by first | exact (fun _ hk => ⟨⟨hk.1.1.1, ⟨hk.1.1.2.1, ⟨hk.1.2, ⟨hk.1.1.2.2.1, hk.1.1.2.2.2⟩⟩⟩⟩, hk.2⟩) | exact xi)) hg hat)
     have n6_ := ax (hb)
     have n7_ := ax (ho)
     clear HO_7 HO_8 HL501_0 HO507 BK508 HL516_0 HB HO512
     have HO_7 := n0_
     have HO_8 := n1_
     have HL501_0 := n2_
     have HO507 := n3_
     have BK508 := n4_
     have HL516_0 := n5_
     have HB := n6_
     have HO515 := n7_
     clear n0_ n1_ n2_ n3_ n4_ n5_ n6_ n7_ ho hb hg hat
     obtain ⟨Ao55, co55, eo55⟩ := Kd.R_slice HO515.out
     (first | subst eo55 | (injection eo55 with f1_ f2_ f3_; have f4_ := f1_.symm; have f5_ := f3_.symm; clear f1_ f2_ f3_; subst f4_; subst f5_))
     refine hK.out _ _ (HS0_) (fun hHeld => ?_)
     clear hK K
     refine norm_ (a' := ?_) ?_ ?_
     rotate_left
     ·show Act.put _ (some 34) _ = _
      simp only [Act.put, List.setIfInBounds_toArray, List.set_cons_zero, List.set_cons_succ, i64_w, i32_w]
      rfl
     refine pu (i := 7) (N := some 39) (xB 9 255) HT_.out ?_
     refine one_ (i := 8) (N := none) (xB 9 511) rfl rfl (one_of HT_.out (by kernel_rfl)) (by decide) (fun K hK => ?_)
     have hs56 : w54.cell? ⟨gb508, 0, none⟩ = some (.slice A501_0 (rd_L2 t498 x9_1).length c501_0) := (blk_cell BK508.out 0).trans rfl
     have hfs56 := blk_frozen BK508.out 0
     have hs57 : w54.cell? ⟨gb508, 1, none⟩ = some (.slice Ao47 y505.length co47) := (blk_cell BK508.out 1).trans rfl
     have hfs57 := blk_frozen BK508.out 1
     refine skip_ (w1 := ?_) (by rfl) rfl ?_ ?_
     rotate_left
     ·go_simp
      rfl
     refine hK.out _ _ (((cell_far (p := ⟨gb508, _, none⟩) (by first | exact Kd.own_blk (Kd.N_away HO_8.out (fun _ hk => hk.1.2.2.2)) | (rw [add_block]; exact Kd.own_blk (Kd.N_away HO_8.out (fun _ hk => hk.1.2.2.2))) | (show (Addr.add _ _).block ≠ _; rw [add_block]; exact Kd.own_blk (Kd.N_away HO_8.out (fun _ hk => hk.1.2.2.2))) | (dsimp only; exact Kd.own_blk (Kd.N_away HO_8.out (fun _ hk => hk.1.2.2.2)))) _).trans (((cell_far (p := ⟨gb508, _, none⟩) (by first | exact Kd.own_blk (Kd.N_away HO_8.out (fun _ hk => hk.1.2.2.2)) | (rw [add_block]; exact Kd.own_blk (Kd.N_away HO_8.out (fun _ hk => hk.1.2.2.2))) | (show (Addr.add _ _).block ≠ _; rw [add_block]; exact Kd.own_blk (Kd.N_away HO_8.out (fun _ hk => hk.1.2.2.2))) | (dsimp only; exact Kd.own_blk (Kd.N_away HO_8.out (fun _ hk => hk.1.2.2.2)))) _).trans (hHeld))))) (fun hHeld => ?_)
     clear hK K
     refine done_ (done_of HT_.out (by kernel_rfl)) ?_
     have hcz58_0 : w54.cell? ⟨gb508, 0, none⟩ = some (.slice A501_0 (rd_L2 t498 x9_1).length c501_0) := (blk_cell BK508.out 0).trans rfl
     have hcz58_1 : w54.cell? ⟨gb508, 1, none⟩ = some (.slice Ao47 y505.length co47) := (blk_cell BK508.out 1).trans rfl
     have hfz58_0 := blk_frozen BK508.out 0
     have hfz58_1 := blk_frozen BK508.out 1
     try go_wp2_with (first | (go_at_call 67; (with_reducible refine (spec_IsRibbon.calls k1 _ _ y513 _ _ (rd_L2 t498 x9_1) false _ ?side1 ?side2 ?side3 ?side4 A14.out).mono ?_); (case side1 => refine (Kd.R_reads' (e := 3) (base := w.heap.size) (ok := fun k_ => ((w.heap.size ≤ k_) ∧ some k_ ≠ (.slice Ao47 y505.length co47 : Value).ownBlock)) (n := y513.length) (c := co55) ?_).2.2; exact (by (with_reducible repeat (first | apply Kd.R_alloc | apply Kd.R_drewN | apply Kd.R_drew)); exact (Kd.R_mono (Kd.R_far (p := ⟨gb508, 1, none⟩) (Kd.R_far (p := ⟨gb508, 0, none⟩) (Kd.R_types HO515.out BK508.out (by decide)) (fun _ hk => hk.2) (.slice Ao55 y513.length co55)) (fun _ hk => hk.2) (.slice A516_0 (rd_L2 t498 x9_1).length c516_0)) (fun _ h_ => h_.1)))); (case side2 => exact (Kd.R_reads' HO515.out).2.1); (case side3 => repeat (first | exact ((Kd.V_reads' (by (with_reducible repeat (first | apply Kd.V_alloc | apply Kd.V_drewN | apply Kd.V_drew)); exact (Kd.V_mono (Kd.V_far (p := ⟨gb508, 1, none⟩) (Kd.V_far (p := ⟨gb508, 0, none⟩) (Kd.V_mono HL516_0.out (fun k_ hk => (⟨hk, hk.1.2.2.2.2⟩ : _ ∧ k_ ≠ gb508))) (fun _ hk => hk.2) (.slice Ao55 y513.length co55)) (fun _ hk => hk.2) (.slice A516_0 (rd_L2 t498 x9_1).length c516_0)) (fun _ h_ => h_.1)))).2.2) | (with_reducible refine Kd.C_alloc ?_ _) | (with_reducible refine Kd.C_drewN ?_ _) | (with_reducible refine Kd.C_drew ?_))); (case side4 => exact HC516_0.out); rintro e w59 ⟨rfl, hb⟩; replace HO_7 := ax (Kd.N_below (by (with_reducible repeat (first | apply Kd.N_alloc | apply Kd.N_drewN | apply Kd.N_drew)); exact (Kd.N_mono (Kd.N_far (p := ⟨gb508, 1, none⟩) (Kd.N_far (p := ⟨gb508, 0, none⟩) (Kd.N_mono HO_7.out (fun k_ hk => (⟨hk, hk.1.2.2.2⟩ : _ ∧ k_ ≠ gb508))) (fun _ hk => hk.2) (.slice Ao55 y513.length co55)) (fun _ hk => hk.2) (.slice A516_0 (rd_L2 t498 x9_1).length c516_0)) (fun _ h_ => h_.1))) hb); replace HO_8 := ax (Kd.N_below (by (with_reducible repeat (first | apply Kd.N_alloc | apply Kd.N_drewN | apply Kd.N_drew)); exact (Kd.N_mono (Kd.N_far (p := ⟨gb508, 1, none⟩) (Kd.N_far (p := ⟨gb508, 0, none⟩) (Kd.N_mono HO_8.out (fun k_ hk => (⟨hk, hk.1.2.2.2⟩ : _ ∧ k_ ≠ gb508))) (fun _ hk => hk.2) (.slice Ao55 y513.length co55)) (fun _ hk => hk.2) (.slice A516_0 (rd_L2 t498 x9_1).length c516_0)) (fun _ h_ => h_.1))) hb); replace HL501_0 := ax (Kd.V_below (by (with_reducible repeat (first | apply Kd.V_alloc | apply Kd.V_drewN | apply Kd.V_drew)); exact (Kd.V_mono (Kd.V_far (p := ⟨gb508, 1, none⟩) (Kd.V_far (p := ⟨gb508, 0, none⟩) (Kd.V_mono HL501_0.out (fun k_ hk => (⟨hk, hk.1.2.2.2.2⟩ : _ ∧ k_ ≠ gb508))) (fun _ hk => hk.2) (.slice Ao55 y513.length co55)) (fun _ hk => hk.2) (.slice A516_0 (rd_L2 t498 x9_1).length c516_0)) (fun _ h_ => h_.1))) hb); replace HO507 := ax (Kd.R_below (by (with_reducible repeat (first | apply Kd.R_alloc | apply Kd.R_drewN | apply Kd.R_drew)); exact (Kd.R_mono (Kd.R_far (p := ⟨gb508, 1, none⟩) (Kd.R_far (p := ⟨gb508, 0, none⟩) (Kd.R_types HO507.out BK508.out (by decide)) (fun _ hk => hk.2) (.slice Ao55 y513.length co55)) (fun _ hk => hk.2) (.slice A516_0 (rd_L2 t498 x9_1).length c516_0)) (fun _ h_ => h_.1))) hb); replace HL516_0 := ax (Kd.V_below (by (with_reducible repeat (first | apply Kd.V_alloc | apply Kd.V_drewN | apply Kd.V_drew)); exact (Kd.V_mono (Kd.V_far (p := ⟨gb508, 1, none⟩) (Kd.V_far (p := ⟨gb508, 0, none⟩) (Kd.V_mono HL516_0.out (fun k_ hk => (⟨hk, hk.1.2.2.2.2⟩ : _ ∧ k_ ≠ gb508))) (fun _ hk => hk.2) (.slice Ao55 y513.length co55)) (fun _ hk => hk.2) (.slice A516_0 (rd_L2 t498 x9_1).length c516_0)) (fun _ h_ => h_.1))) hb); replace HO515 := ax (Kd.R_below (by (with_reducible repeat (first | apply Kd.R_alloc | apply Kd.R_drewN | apply Kd.R_drew)); exact (Kd.R_mono (Kd.R_far (p := ⟨gb508, 1, none⟩) (Kd.R_far (p := ⟨gb508, 0, none⟩) (Kd.R_types HO515.out BK508.out (by decide)) (fun _ hk => hk.2) (.slice Ao55 y513.length co55)) (fun _ hk => hk.2) (.slice A516_0 (rd_L2 t498 x9_1).length c516_0)) (fun _ h_ => h_.1))) hb); replace BK508 := ax (blk_below (g := gb508) (o := .cells #[.slice Ao55 y513.length co55, .slice A516_0 (rd_L2 t498 x9_1).length c516_0] 46 (0, 0)) (by (with_reducible repeat (first | refine blk_drewN ?_ _ | refine blk_drew ?_ | refine blk_alloc ?_ _)); refine blk_put (cs := #[.slice Ao55 y513.length co55, .slice Ao47 y505.length co47]) ?_ 1 _ rfl; (with_reducible repeat (first | refine blk_drewN ?_ _ | refine blk_drew ?_ | refine blk_alloc ?_ _)); refine blk_put (cs := #[.slice A501_0 (rd_L2 t498 x9_1).length c501_0, .slice Ao47 y505.length co47]) ?_ 0 _ rfl; (with_reducible repeat (first | refine blk_drewN ?_ _ | refine blk_drew ?_ | refine blk_alloc ?_ _)); exact BK508.out) hb); replace HB := ax (below_step (xs HB.out GE508.out) hb); (try clear hb); (try clear hb2); (try clear hk); (try clear hi)))
     go_roundg k1
     case measure => have := HK1.out; omega
     case rel => exact ⟨(x7_1), (wrap64 (x9_1 + 1)), xr, H', ⟨by have := HK1.out; omega⟩, ⟨by (with_reducible repeat (first | apply Kd.N_alloc | apply Kd.N_drewN | apply Kd.N_drew)); exact Kd.N_mono HO_7.out (fun _ hk => ⟨hk.1.1, hk.1.2.1⟩)⟩, ⟨by (with_reducible repeat (first | apply Kd.N_alloc | apply Kd.N_drewN | apply Kd.N_drew)); exact Kd.N_mono HO_8.out (fun _ hk => ⟨hk.1.1, hk.1.2.1⟩)⟩, ⟨xs HB.out GE508.out⟩⟩
   ·rw [if_neg c8] at H
    have c8b0 := decide_eq_false c8
    clear c8
    obtain rfl := Option.some.inj H
    obtain ⟨Ao60, co60, eo60⟩ := Kd.N_slice HO_8.out
    subst eo60
    go_wp2
    go_ret
    exact ⟨_, xe, by (with_reducible repeat (first | apply Kd.N_alloc | apply Kd.N_drewN | apply Kd.N_drew)); exact Kd.N_mono HO_7.out (fun _ hk => hk.1), xb HB.out⟩

end Go.Proofs.Ytopmggldaicpaab.PFnCharacters
