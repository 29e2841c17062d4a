import Derived.Test.YtopmggldaicpaacGreatPFnKroneckerx14
import Derived.Test.YtopmggldaicpaacGreatPFnKroneckerx27
namespace Go.Proofs.YtopmggldaicpaacGreat.PFnKronecker
open Go.RowKit Go.Proofs.YtopmggldaicpaacGreatW.PrintWords Go.Proofs.YtopmggldaicpaacGreatW.PrintLast Go.Proofs.YtopmggldaicpaacGreatW.PrintMore
set_option linter.unusedVariables false
set_option linter.unusedSimpArgs false
set_option maxHeartbeats 8000000
set_option maxRecDepth 100000
/-! ### spec_l19Pick__2: function 132 -/
def spec_l19Pick__2.l0 : Nat → List Int → Int → List (List Int) → List (List Int) → Int → Option ((List (List Int)))
 | 0, _, _, _, _, _ => none
 | k + 1, x0, x1, x7, x8, x9 => if x9 < (x8.length : Int) then (if 0 ≤ x9 then (if (([] : List Int)).length + x0.length < 17592186044416 then ((spec_l2Size.f k x0).bind fun t824 => (if x1 < t824 then ((some (([] : List Int) : List Int)).bind fun y825 => (if y825.length + x0.length < 17592186044416 then ((spec_IsRibbon.f k (y825 ++ x0) (rd_L2 x8 x9)).bind fun t832 => (if t832 = true then (if x7.length < 5864062014805 then (spec_l19Pick__2.l0 k x0 x1 (x7 ++ [rd_L2 x8 x9]) x8 (wrap64 (x9 + 1))) else (none)) else (spec_l19Pick__2.l0 k x0 x1 x7 x8 (wrap64 (x9 + 1))))) else (none))) else (none))) else (none)) else (none)) else (some x7)
def spec_l19Pick__2.f (k : Nat) (l0 : List Int) (a1 : Int)  : Option ((List (List Int))) := (spec_PartitionsOf.f k a1).bind fun t813 => (spec_l19Pick__2.l0 k l0 a1 (([] : List (List Int))) t813 0)
theorem spec_l19Pick__2.mono_l : ∀ k, (∀ y0 y1 y2 y3 y4, LeO (spec_l19Pick__2.l0 k y0 y1 y2 y3 y4) (spec_l19Pick__2.l0 (k + 1) y0 y1 y2 y3 y4))
 | 0 => fun _ _ _ _ _ r h => by simp [spec_l19Pick__2.l0] at h
 | k + 1 => by
  have ih0 := spec_l19Pick__2.mono_l k
  ·intro y0 y1 y2 y3 y4
   unfold spec_l19Pick__2.l0
   repeat' with_reducible first | exact ih0 _ _ _ _ _ | exact spec_IsRibbon.mono _ _ _ | exact spec_PartitionsOf.mono _ _ | exact spec_l2Size.mono _ _ | exact xl | refine LeO.ite ?_ ?_ | refine LeO.bind ?_ fun _ => ?_
theorem spec_l19Pick__2.mono : ∀ a0 a1 k, LeO (spec_l19Pick__2.f k a0 a1) (spec_l19Pick__2.f (k + 1) a0 a1) := by
 intro a0 a1 k
 have ih0 := spec_l19Pick__2.mono_l k
 unfold spec_l19Pick__2.f
 repeat' with_reducible first | exact ih0 _ _ _ _ _ | exact spec_IsRibbon.mono _ _ _ | exact spec_PartitionsOf.mono _ _ | exact spec_l2Size.mono _ _ | exact xl | refine LeO.ite ?_ ?_ | refine LeO.bind ?_ fun _ => ?_
def spec_l19Pick__2.T6 : Bool × List (List Nat × List Nat) := (true, [([], []), ([], []), ([0, 1], [0, 1]), ([2], [2]), ([], []), ([], []), ([4, 5], [4, 5]), ([3, 6], [3, 6]), ([], []), ([8, 7, 6, 0, 1, 2, 3, 4, 5, 6, 7, 8], [7, 8])])
def spec_l19Pick__2.B6 : List Nat := [0, 0, 3, 7, 0, 0, 48, 127, 0, 511]
theorem spec_l19Pick__2.tab6 : rtab .any (opsOf Tryz.f84 6) = spec_l19Pick__2.T6 := by kernel_rfl
theorem spec_l19Pick__2.bits6 : waitsOk spec_l19Pick__2.T6.2 spec_l19Pick__2.B6 = true := by kernel_rfl
def spec_l19Pick__2.T8 : Bool × List (List Nat × List Nat) := (true, [([], []), ([], []), ([0, 1], [0, 1]), ([], []), ([], []), ([3, 4], [3, 4]), ([5], [5]), ([2, 6], [2, 6]), ([7, 2, 0, 1, 2, 3, 4, 5, 6, 7], [7])])
def spec_l19Pick__2.B8 : List Nat := [0, 0, 3, 0, 0, 24, 56, 127, 255]
theorem spec_l19Pick__2.tab8 : rtab .any (opsOf Tryz.f84 8) = spec_l19Pick__2.T8 := by kernel_rfl
theorem spec_l19Pick__2.bits8 : waitsOk spec_l19Pick__2.T8.2 spec_l19Pick__2.B8 = true := by kernel_rfl
theorem spec_l19Pick__2.calls (k : Nat) (A0 : Option Addr) (c0 : Nat) (l0 : List Int) (a1 : Int)  (r : List (List Int)) (w : World) (hr0 : Kd.C (Kd.int .i64) w A0 l0.length l0) (hc0 : l0.length ≤ c0) (h : spec_l19Pick__2.f k l0 a1 = some r) :
  Calls Tryz.prog 84 #[.slice A0 l0.length c0, .int .i64 a1, .int .i64 2] w fun e w' => ∃ v0_ : Value, e = .returned (v0_) ∧ Kd.N (Kd.slice 3 (Kd.int .i64)) 24 w' w.heap.size (fun k_ => (w.heap.size ≤ k_)) v0_ r ∧ Below w.heap.size w w' := by
 have hu61 := Tryz.underlying61
 have HR0 := ax hr0
 have HC0 := ax hc0
 clear hr0 hc0
 have HB := ax (Below.refl w.heap.size w)
 have H : ((spec_PartitionsOf.f k a1).bind fun t813 => (spec_l19Pick__2.l0 k l0 a1 (([] : List (List Int))) t813 0)) = some r := h
 clear h
 obtain ⟨y810, hy810⟩ : ∃ y_ : List (List Int), y_ = (([] : List (List Int))) := ⟨_, rfl⟩
 replace H : ((spec_PartitionsOf.f k a1).bind fun t813 => (spec_l19Pick__2.l0 k l0 a1 y810 t813 0)) = some r := xv hy810 H
 have Ny810 := ax hy810
 clear hy810
 obtain ⟨t813, A4, H⟩ := xI H
 have H' := ax H
 clear H
 go_enter Tryz.func84, Tryz.ntmps84
 go_wp2_with (first | ((with_reducible refine gate_dst (N := 11) rfl ?_); refine Kd.N_lit (Kd.slice 3 (Kd.int .i64)) _ 24 ?hg (N' := 11) ?hd (xs := ([] : List (List Int))) (inner := []) (ok := (fun k_ => (w.heap.size ≤ k_))) (okp := (fun k_ => (w.heap.size ≤ k_))) ?hr ?hp (fun _ hk => hk) ((show ∀ k_, w.heap.size ≤ k_ → (fun k_ => (w.heap.size ≤ k_)) k_ from fun k_ hk => (Nat.le_trans (below_size (xb HB.out)) hk)) _ (Nat.le_refl _)) (Below.refl _ _) (Nat.le_refl _) (by simp) ?_; (case hd => rfl); (case hg => rfl); (case hr => first | (go_simp; done) | (go_simp; rfl)); (case hp => exact (Reps.none _ _)); intro v811 w5 ho6 hb hg_ hnew_; clear hg_ hnew_; (first | rw [← Ny810.out] at ho6 | (simp only [Int.reduceToNat] at ho6; rw [← Ny810.out] at ho6)); have HO812 := ax (Kd.N_lower ho6 (below_size (xb HB.out))); replace HB := yB HB hb; clear hb ho6) | ((with_reducible refine gate_callee (f := 21) rfl ?_); refine goesL_ (some 13) rfl rfl Tryz.func21 (by kernel_rfl) rfl #[.int .i64 a1] rfl xm ?_; (with_reducible refine (spec_PartitionsOf.calls k a1 t813 _ A4.out).mono ?_); rintro e w7 ⟨v814, rfl, ho0, hb⟩; refine ⟨_, rfl, ?_⟩; have HO815 := ax (Kd.N_lower (Kd.N_mono (ok' := fun k_ => (w.heap.size ≤ k_) ∧ some k_ ≠ (v811 : Value).ownBlock) (Kd.S_N (Kd.S_bound ho0)) (fun k_ hk_ => ⟨(Nat.le_trans (below_size (xb HB.out)) hk_.2.1), (Kd.fresh' (Kd.N_lt (xN HO812.out)) k_ hk_.2.1)⟩)) (below_size (xb HB.out))); replace HO812 := ax (Kd.N_elder' (xN HO812.out) (by first | exact Kd.N_base ho0 | exact Kd.S_base ho0 | exact Kd.R_base ho0) hb); replace HB := yB HB hb; (try clear hb); (try clear ho0)))
 go_loopg [7, 9] k (fun kq v7 v9 w' => ∃ (x7_1 : List (List Int)) (x9_1 : Int), v9 = .int .i64 x9_1 ∧ Aside0 (spec_l19Pick__2.l0 kq l0 a1 x7_1 t813 x9_1 = some r) ∧ Aside0 (kq ≤ k) ∧ Aside0 (Kd.N (Kd.slice 3 (Kd.int .i64)) 24 w' w.heap.size (fun k_ => (w.heap.size ≤ k_) ∧ some k_ ≠ (v814 : Value).ownBlock) v7 x7_1) ∧ Aside0 (Kd.N (Kd.slice 3 (Kd.int .i64)) 24 w' w.heap.size (fun k_ => (w.heap.size ≤ k_) ∧ some k_ ≠ (v7 : Value).ownBlock) v814 t813) ∧ Aside0 (Below w.heap.size w w'))
 case atStart => exact ⟨(y810), (0), xr, H', ⟨Nat.le_refl _⟩, ⟨xN HO812.out⟩, ⟨xN HO815.out⟩, ⟨xb HB.out⟩⟩
 case round =>
  clear H'
  obtain ⟨x7_1, x9_1, rfl, HA, HK1, HO_7, HO_8, HB⟩ := hrel
  cases gk with
  | zero => exact absurd HA.out (by simp [spec_l19Pick__2.l0])
  | succ k1 =>
   have H := HA.out
   clear HA
   simp only [spec_l19Pick__2.l0] at H
   by_cases c8 : x9_1 < (t813.length : Int)
   ·rw [if_pos c8] at H
    have c8b0 := decide_eq_true c8
    clear c8
    obtain ⟨c9b0, H⟩ := xq H
    obtain ⟨y817, hy817⟩ : ∃ y_ : List Int, y_ = (([] : List Int)) := ⟨_, rfl⟩
    replace H : (if y817.length + l0.length < 17592186044416 then ((spec_l2Size.f k1 l0).bind fun t824 => (if a1 < t824 then ((some (([] : List Int) : List Int)).bind fun y825 => (if y825.length + l0.length < 17592186044416 then ((spec_IsRibbon.f k1 (y825 ++ l0) (rd_L2 t813 x9_1)).bind fun t832 => (if t832 = true then (if x7_1.length < 5864062014805 then (spec_l19Pick__2.l0 k1 l0 a1 (x7_1 ++ [rd_L2 t813 x9_1]) t813 (wrap64 (x9_1 + 1))) else (none)) else (spec_l19Pick__2.l0 k1 l0 a1 x7_1 t813 (wrap64 (x9_1 + 1))))) else (none))) else (none))) else (none)) = some r := xv hy817 H
    have Ny817 := ax hy817
    clear hy817
    obtain ⟨c10, H⟩ := xp H
    have LMc10 := ax c10
    clear c10
    obtain ⟨y820, Ny820⟩ := xy ((y817 ++ l0) : List Int)
    obtain ⟨t824, A11, H⟩ := xI H
    obtain ⟨c12b0, H⟩ := xq H
    obtain ⟨y825, Ny825, H⟩ := xg H
    obtain ⟨c13, H⟩ := xp H
    have LMc13 := ax c13
    clear c13
    obtain ⟨y828, hy828⟩ : ∃ y_ : List Int, y_ = (y825 ++ l0) := ⟨_, rfl⟩
    replace H : ((spec_IsRibbon.f k1 y828 (rd_L2 t813 x9_1)).bind fun t832 => (if t832 = true then (if x7_1.length < 5864062014805 then (spec_l19Pick__2.l0 k1 l0 a1 (x7_1 ++ [rd_L2 t813 x9_1]) t813 (wrap64 (x9_1 + 1))) else (none)) else (spec_l19Pick__2.l0 k1 l0 a1 x7_1 t813 (wrap64 (x9_1 + 1))))) = some r := xv hy828 H
    have Ny828 := ax hy828
    clear hy828
    obtain ⟨t832, A14, H⟩ := xI H
    by_cases c15 : t832 = true
    ·subst c15
     rw [if_pos rfl] at H
     obtain ⟨c16, H⟩ := xp H
     have LMc16 := ax c16
     clear c16
     obtain ⟨y834, hy834⟩ : ∃ y_ : List (List Int), y_ = (x7_1 ++ [rd_L2 t813 x9_1]) := ⟨_, rfl⟩
     replace H : (spec_l19Pick__2.l0 k1 l0 a1 y834 t813 (wrap64 (x9_1 + 1))) = some r := xv hy834 H
     have Ny834 := ax hy834
     clear hy834
     have H' := ax H
     clear H
     obtain ⟨Ao17, co17, eo17⟩ := Kd.N_slice HO_8.out
     subst eo17
     try go_wp2
     replace HO_7 := ax (Kd.N_drew HO_7.out); replace HO_8 := ax (Kd.N_drew HO_8.out); replace HB := ax (below_drew1 HB.out)
     have p816 : 0 ≤ (x9_1 : Int) := xd
     have q816 : x9_1 < (t813.length : Int) := xd
     obtain ⟨ad816, A816_0, c816_0, e816, hx816_0, hl816_0, hi816_0⟩ := at_L2 (Kd.N_reads' HO_8.out).2.2 x9_1 p816 q816
     cases e816
     obtain ⟨ce816, hce816, hMe816, hcc816⟩ := Kd.N_get HO_8.out [] x9_1 p816 (by first | exact q816 | exact xd | (have e_ := (Kd.N_reads' HO_8.out).1; omega))
     obtain ⟨ua816_0, uc816_0, rfl, ul816_0, ge816_0⟩ := Kd.FK_slice_open hMe816
     have hv816_0 := hcc816 0 _ rfl
     rw [Nat.add_zero, show ((Kd.slice 3 (Kd.int .i64))).sz = 1 from rfl, Nat.mul_one] at hv816_0
     replace hv816_0 := Option.some.inj (hv816_0.symm.trans hx816_0)
     injection hv816_0 with hva_ hvn_ hvc_
     rw [hva_] at ge816_0
     rw [hvc_] at ul816_0
     have HL816_0 := ax (show Kd.V (Kd.int .i64) 3 _ w.heap.size _ _ (rd_L2 t813 x9_1) from Kd.V_mk ul816_0 ge816_0)
     clear hva_ hvn_ hvc_ ge816_0 ul816_0 hcc816 hce816
     have HR816_0 := ax hi816_0
     have HC816_0 := ax hl816_0
     clear hi816_0 hl816_0
     replace p816 := eq_true p816
     replace q816 := eq_true q816
     refine start_ (n := 10) (S := fun w' => w'.cell? (ad816.add (x9_1).toNat) = some (.slice A816_0 (rd_L2 t813 x9_1).length c816_0)) (ds := []) (xB 10 0) (by kernel_rfl) rfl (by kernel_rfl) (hx816_0) (fun hHeld => ?_); refine with_tabW spec_l19Pick__2.tab6 spec_l19Pick__2.bits6 (fun HT_ HW_ => ?_)
     generalize wr.drew = w18 at HO_7 HO_8 HB HL816_0 HR816_0 hx816_0 hHeld ⊢
     refine pu (i := 0) (N := some 20) (xB 10 1) HT_.out ?_
     refine pu (i := 1) (N := some 21) (xB 10 3) HT_.out ?_
     refine pu (i := 2) (N := some 22) (xB 10 7) HT_.out ?_
     refine pu (i := 5) (N := some 25) (xB 10 39) HT_.out ?_
     refine tk (i := 3) (N := some 23) (xB 10 47) HT_.out HW_.out hHeld ?_
     refine join_ (σ := Value × Value × Nat) 1 (xB 10 511) (fun s_ => [(24, s_.1), (26, s_.2.1), (10, .pointer (some ⟨s_.2.2, 0, none⟩)), (27, .agg #[.slice A816_0 (rd_L2 t813 x9_1).length c816_0, s_.2.1])]) (fun s_ w' => (w'.cell? (ad816.add (x9_1).toNat) = some (.slice A816_0 (rd_L2 t813 x9_1).length c816_0)) ∧ (Kd.V (Kd.int .i64) 3 w' w.heap.size (fun k_ => (w.heap.size ≤ k_) ∧ some k_ ≠ (s_.2.1 : Value).ownBlock ∧ some k_ ≠ (u7 : Value).ownBlock ∧ some k_ ≠ (.slice (some ad816) t813.length co17 : Value).ownBlock ∧ k_ ≠ s_.2.2) (.slice A816_0 (rd_L2 t813 x9_1).length c816_0) (rd_L2 t813 x9_1)) ∧ (Kd.R (Kd.int .i64) 3 w' w.heap.size (fun k_ => (w.heap.size ≤ k_)) s_.2.1 y820) ∧ (Kd.N (Kd.slice 3 (Kd.int .i64)) 24 w' w.heap.size (fun k_ => (w.heap.size ≤ k_) ∧ some k_ ≠ (s_.2.1 : Value).ownBlock ∧ some k_ ≠ (.slice (some ad816) t813.length co17 : Value).ownBlock ∧ k_ ≠ s_.2.2) u7 x7_1) ∧ (Kd.N (Kd.slice 3 (Kd.int .i64)) 24 w' w.heap.size (fun k_ => (w.heap.size ≤ k_) ∧ some k_ ≠ (s_.2.1 : Value).ownBlock ∧ some k_ ≠ (u7 : Value).ownBlock ∧ k_ ≠ s_.2.2) (.slice (some ad816) t813.length co17) t813) ∧ (w'.heap[s_.2.2]? = some (.cells #[.slice none 0 0, .slice none 0 0] 61 (0, 0))) ∧ (w.heap.size ≤ s_.2.2) ∧ (w.heap.size ≤ s_.2.2) ∧ (Below w.heap.size w w')) ?_ ?_
     rotate_left
     ·intro hCont
      refine two_ (i := 4) (j := 8) (Ni := some 24) (Nj := some 10) (xB 10 63) (xB 10 303) rfl rfl rfl rfl (two_of HT_.out (by kernel_rfl)) (by decide) (by decide) (fun K hK => ?_) (fun K hK => ?_)
      ·skip
       refine Kd.R_lit_step (Kd.int .i64) _ 3 ?hg (N := 24) ?hd (xs := ([] : List Int)) (inner := []) (ok := fun _ => True) (okp := fun _ => True) ?hr ?hp (fun _ hk => hk) trivial (Below.refl _ _) (Nat.le_refl _) (by simp) ?_; (case hd => rfl); (case hg => rfl); (case hr => first | (go_simp; done) | (go_simp; rfl)); (case hp => exact (Reps.none _ _))
       intro v818 w19 ho20 hb hg_ hnew_
       have HS0_ := (hb.cell (World.block_lt_of_cell? _ _ (hHeld))).trans (hHeld)
       clear hg_ hnew_
       (first | rw [← Ny817.out] at ho20 | (simp only [Int.reduceToNat] at ho20; rw [← Ny817.out] at ho20))
       replace HO_7 := ax (Kd.N_elder' (xN HO_7.out) (Kd.R_base ho20) hb); replace HO_8 := ax (Kd.N_elder' (xN HO_8.out) (Kd.R_base ho20) hb); replace HL816_0 := ax (Kd.V_elder' (xV HL816_0.out) (Kd.R_base ho20) hb); have HO819 := ax (Kd.R_lower (Kd.R_newM (M := fun k_ => (w.heap.size ≤ k_)) ho20 (below_size (xb HB.out)) (fun k_ h_ => h_)) (below_size (xb HB.out))); replace HR816_0 := ax (Kd.C_below (xw HR816_0.out) hb); replace HB := yB HB hb; clear hb ho20
       refine hK.out _ _ (HS0_) (fun hHeld => ?_)
       clear hK K
       refine nm ?_
       refine two_ (i := 6) (j := 8) (Ni := some 26) (Nj := some 10) (xB 10 127) (xB 10 319) rfl rfl rfl rfl (two_of HT_.out (by kernel_rfl)) (by decide) (by decide) (fun K hK => ?_) (fun K hK => ?_)
       ·skip
        refine Kd.R_append_rows_step (Kd.int .i64) (w0 := w) w.heap.size (by rfl) (.tmp 24) (.tmp 25) 24 3 (.int .i64 0) 8 rfl Tryz.underlying24 info3 rfl (by decide) (by omega) v818 y817 l0 _ _ _ (fun k_ => (w.heap.size ≤ k_)) (fun _ => False) rfl rfl ?aO ?aR (fun _ _ h => h) (fun _ h => h.elim) ?aF ?aB ?aS ?aL ?_
        (case aR => exact xz HR0.out HB.out)
        (case aB => exact (xb HB.out))
        (case aF => exact (fun k_ hk => (Nat.le_trans (below_size (xb HB.out)) hk)))
        (case aO => exact (by (with_reducible repeat (first | apply Kd.R_alloc | apply Kd.R_drewN | apply Kd.R_drew)); exact Kd.R_mono HO819.out (fun _ hk => hk.1)))
        (case aS => exact (below_size (xb HB.out)))
        (case aL => have := LMc10.out; omega)
        intro v821 w21 ho hb hg hat
        have HS0_ := cell_grown hg (hHeld) (by first | (rw [add_block]; exact (fun e_ => by obtain ⟨cs_, hc_⟩ := Kd.N_typed HO_8.out _ rfl; exact Kd.R_ne HO819.out hc_ (by decide) e_)) | (show some (Addr.add _ _).block ≠ _; rw [add_block]; exact (fun e_ => by obtain ⟨cs_, hc_⟩ := Kd.N_typed HO_8.out _ rfl; exact Kd.R_ne HO819.out hc_ (by decide) e_)) | exact (fun e_ => by obtain ⟨cs_, hc_⟩ := Kd.N_typed HO_8.out _ rfl; exact Kd.R_ne HO819.out hc_ (by decide) e_))
        rw [← Ny820.out] at ho
        have n0_ := ax (Kd.N_afterv (ok := (fun k_ => (w.heap.size ≤ k_) ∧ some k_ ≠ (.slice (some ad816) t813.length co17 : Value).ownBlock)) (xN HO_7.out) hg hat)
        have n1_ := ax (Kd.N_afterv (ok := (fun k_ => (w.heap.size ≤ k_) ∧ some k_ ≠ (u7 : Value).ownBlock)) (xN HO_8.out) hg hat)
        have n2_ := ax (Kd.V_afterv (ok := (fun k_ => (w.heap.size ≤ k_) ∧ some k_ ≠ (u7 : Value).ownBlock ∧ some k_ ≠ (.slice (some ad816) t813.length co17 : Value).ownBlock)) (by (with_reducible repeat (first | apply Kd.V_alloc | apply Kd.V_drewN | apply Kd.V_drew)); exact Kd.V_mono HL816_0.out (by first | exact (fun _ hk => ⟨⟨hk.1.1.1, ⟨hk.1.1.2, hk.1.2⟩⟩, hk.2⟩) | exact xi)) hg hat)
        have n3_ := ax (hb)
        have n4_ := ax (ho)
        clear HO_7 HO_8 HL816_0 HB HO819
        have HO_7 := n0_
        have HO_8 := n1_
        have HL816_0 := n2_
        have HB := n3_
        have HO822 := n4_
        clear n0_ n1_ n2_ n3_ n4_ ho hb hg hat
        obtain ⟨Ao22, co22, eo22⟩ := Kd.R_slice HO822.out
        (first | subst eo22 | (injection eo22 with f1_ f2_ f3_; have f4_ := f1_.symm; have f5_ := f3_.symm; clear f1_ f2_ f3_; subst f4_; subst f5_))
        refine hK.out _ _ (HS0_) (fun hHeld => ?_)
        clear hK K
        refine nm ?_
        refine pu (i := 7) (N := some 27) (xB 10 255) HT_.out ?_
        refine one_ (i := 8) (N := some 10) (xB 10 511) rfl rfl (one_of HT_.out (by kernel_rfl)) (by decide) (fun K hK => ?_)
        refine box_step ?hg (N := 10) ?hd (cs := #[.slice none 0 0, .slice none 0 0]) (t := 61) ?hr ?_; (case hd => rfl); (case hg => rfl); (case hr => first | (go_simp; done) | (go_simp; rfl))
        intro gb823 hg w23 hbox hb
        have HS0_ := (hb.cell (World.block_lt_of_cell? _ _ (hHeld))).trans (hHeld)
        replace HO_7 := ax (Kd.N_below (Kd.N_elderB (xN HO_7.out) gb823 (Nat.le_of_eq hg.symm)) hb); replace HO_8 := ax (Kd.N_below (Kd.N_elderB (xN HO_8.out) gb823 (Nat.le_of_eq hg.symm)) hb); replace HL816_0 := ax (Kd.V_below (Kd.V_elderB (xV HL816_0.out) gb823 (Nat.le_of_eq hg.symm)) hb); replace HO822 := yR HO822 hb; have BK823 := ax (hbox); have GW823 := ax ((by rw [hg]; exact (below_size (xb HB.out)) : w.heap.size ≤ gb823)); have GE823 := ax ((by rw [hg]; exact (below_size (xb HB.out)) : w.heap.size ≤ gb823)); replace HB := yB HB hb; clear hb hbox hg
        refine hK.out _ _ (HS0_) (fun hHeld => ?_)
        clear hK K
        refine nm ?_
        exact norm_ (by simp only [putAll, Act.put, List.setIfInBounds_toArray, List.set_cons_zero, List.set_cons_succ]) (hCont (v818, .slice Ao22 y820.length co22, gb823) _ ⟨hHeld, (by (with_reducible repeat (first | apply Kd.V_alloc | apply Kd.V_drewN | apply Kd.V_drew)); exact Kd.V_mono HL816_0.out (by first | exact (fun _ hk => ⟨hk.1.1.1, ⟨hk.1.2, ⟨hk.1.1.2.1, ⟨hk.1.1.2.2, hk.2⟩⟩⟩⟩) | exact xi)), (xR HO822.out), (by (with_reducible repeat (first | apply Kd.N_alloc | apply Kd.N_drewN | apply Kd.N_drew)); exact Kd.N_mono HO_7.out (by first | exact (fun _ hk => ⟨hk.1.1.1, ⟨hk.1.2, ⟨hk.1.1.2, hk.2⟩⟩⟩) | exact xi)), (by (with_reducible repeat (first | apply Kd.N_alloc | apply Kd.N_drewN | apply Kd.N_drew)); exact Kd.N_mono HO_8.out (by first | exact (fun _ hk => ⟨hk.1.1.1, ⟨hk.1.2, ⟨hk.1.1.2, hk.2⟩⟩⟩) | exact xi)), (xk BK823.out), GW823.out, GE823.out, (xs HB.out GE823.out)⟩)
       ·skip
        refine box_step ?hg (N := 10) ?hd (cs := #[.slice none 0 0, .slice none 0 0]) (t := 61) ?hr ?_; (case hd => rfl); (case hg => rfl); (case hr => first | (go_simp; done) | (go_simp; rfl))
        intro gb823 hg w21 hbox hb
        have HS0_ := (hb.cell (World.block_lt_of_cell? _ _ (hHeld))).trans (hHeld)
        replace HO_7 := ax (Kd.N_below (Kd.N_elderB (xN HO_7.out) gb823 (Nat.le_of_eq hg.symm)) hb); replace HO_8 := ax (Kd.N_below (Kd.N_elderB (xN HO_8.out) gb823 (Nat.le_of_eq hg.symm)) hb); replace HL816_0 := ax (Kd.V_below (Kd.V_elderB (xV HL816_0.out) gb823 (Nat.le_of_eq hg.symm)) hb); replace HO819 := yR HO819 hb; replace HR816_0 := ax (Kd.C_below (xw HR816_0.out) hb); have BK823 := ax (hbox); have GW823 := ax ((by rw [hg]; exact (below_size (xb HB.out)) : w.heap.size ≤ gb823)); have GE823 := ax ((by rw [hg]; exact (below_size (xb HB.out)) : w.heap.size ≤ gb823)); replace HB := yB HB hb; clear hb hbox hg
        refine hK.out _ _ (HS0_) (fun hHeld => ?_)
        clear hK K
        refine nm ?_
        refine one_ (i := 6) (N := some 26) (xB 10 383) rfl rfl (one_of HT_.out (by kernel_rfl)) (by decide) (fun K hK => ?_)
        refine Kd.R_append_rows_step (Kd.int .i64) (w0 := w) w.heap.size (by rfl) (.tmp 24) (.tmp 25) 24 3 (.int .i64 0) 8 rfl Tryz.underlying24 info3 rfl (by decide) (by omega) v818 y817 l0 _ _ _ (fun k_ => (w.heap.size ≤ k_)) (fun _ => False) rfl rfl ?aO ?aR (fun _ _ h => h) (fun _ h => h.elim) ?aF ?aB ?aS ?aL ?_
        (case aR => exact xz HR0.out HB.out)
        (case aB => exact (xs HB.out GE823.out))
        (case aF => exact (fun k_ hk => (Nat.le_trans (below_size (xs HB.out GE823.out)) hk)))
        (case aO => exact (by (with_reducible repeat (first | apply Kd.R_alloc | apply Kd.R_drewN | apply Kd.R_drew)); exact Kd.R_mono HO819.out (fun _ hk => hk.1)))
        (case aS => exact (below_size (xs HB.out GE823.out)))
        (case aL => have := LMc10.out; omega)
        intro v821 w22 ho hb hg hat
        have HS0_ := cell_grown hg (hHeld) (by first | (rw [add_block]; exact (fun e_ => by obtain ⟨cs_, hc_⟩ := Kd.N_typed HO_8.out _ rfl; exact Kd.R_ne HO819.out hc_ (by decide) e_)) | (show some (Addr.add _ _).block ≠ _; rw [add_block]; exact (fun e_ => by obtain ⟨cs_, hc_⟩ := Kd.N_typed HO_8.out _ rfl; exact Kd.R_ne HO819.out hc_ (by decide) e_)) | exact (fun e_ => by obtain ⟨cs_, hc_⟩ := Kd.N_typed HO_8.out _ rfl; exact Kd.R_ne HO819.out hc_ (by decide) e_))
        rw [← Ny820.out] at ho
        have n0_ := ax (Kd.N_afterv (ok := (fun k_ => (w.heap.size ≤ k_) ∧ some k_ ≠ (.slice (some ad816) t813.length co17 : Value).ownBlock ∧ k_ ≠ gb823)) (by (with_reducible repeat (first | apply Kd.N_alloc | apply Kd.N_drewN | apply Kd.N_drew)); exact Kd.N_mono HO_7.out (by first | exact (fun _ hk => ⟨⟨hk.1.1.1, ⟨hk.1.1.2, hk.2⟩⟩, hk.1.2⟩) | exact xi)) hg hat)
        have n1_ := ax (Kd.N_afterv (ok := (fun k_ => (w.heap.size ≤ k_) ∧ some k_ ≠ (u7 : Value).ownBlock ∧ k_ ≠ gb823)) (by (with_reducible repeat (first | apply Kd.N_alloc | apply Kd.N_drewN | apply Kd.N_drew)); exact Kd.N_mono HO_8.out (by first | exact (fun _ hk => ⟨⟨hk.1.1.1, ⟨hk.1.1.2, hk.2⟩⟩, hk.1.2⟩) | exact xi)) hg hat)
        have n2_ := ax (Kd.V_afterv (ok := (fun k_ => (w.heap.size ≤ k_) ∧ some k_ ≠ (u7 : Value).ownBlock ∧ some k_ ≠ (.slice (some ad816) t813.length co17 : Value).ownBlock ∧ k_ ≠ gb823)) (by (with_reducible repeat (first | apply Kd.V_alloc | apply Kd.V_drewN | apply Kd.V_drew)); exact Kd.V_mono HL816_0.out (by first | exact (fun _ hk => ⟨⟨hk.1.1.1.1, ⟨hk.1.1.1.2, ⟨hk.1.1.2, hk.2⟩⟩⟩, hk.1.2⟩) | exact xi)) hg hat)
        have n3_ := ax (blk_grown (g := gb823) (o := .cells #[.slice none 0 0, .slice none 0 0] 61 (0, 0)) (xk BK823.out) hg (Kd.R_ne HO819.out BK823.out (by decide)))
        have n4_ := ax (hb)
        have n5_ := ax (ho)
        clear HO_7 HO_8 HL816_0 BK823 HB HO819
        have HO_7 := n0_
        have HO_8 := n1_
        have HL816_0 := n2_
        have BK823 := n3_
        have HB := n4_
        have HO822 := n5_
        clear n0_ n1_ n2_ n3_ n4_ n5_ ho hb hg hat
        obtain ⟨Ao23, co23, eo23⟩ := Kd.R_slice HO822.out
        (first | subst eo23 | (injection eo23 with f1_ f2_ f3_; have f4_ := f1_.symm; have f5_ := f3_.symm; clear f1_ f2_ f3_; subst f4_; subst f5_))
        refine hK.out _ _ (HS0_) (fun hHeld => ?_)
        clear hK K
        refine nm ?_
        refine pu (i := 7) (N := some 27) (xB 10 511) HT_.out ?_
        exact norm_ (by simp only [putAll, Act.put, List.setIfInBounds_toArray, List.set_cons_zero, List.set_cons_succ]) (hCont (v818, .slice Ao23 y820.length co23, gb823) _ ⟨hHeld, (by (with_reducible repeat (first | apply Kd.V_alloc | apply Kd.V_drewN | apply Kd.V_drew)); exact Kd.V_mono HL816_0.out (by first | exact (fun _ hk => ⟨hk.1.1, ⟨hk.2, ⟨hk.1.2.1, ⟨hk.1.2.2.1, hk.1.2.2.2⟩⟩⟩⟩) | exact xi)), (xR HO822.out), (by (with_reducible repeat (first | apply Kd.N_alloc | apply Kd.N_drewN | apply Kd.N_drew)); exact Kd.N_mono HO_7.out (by first | exact (fun _ hk => ⟨hk.1.1, ⟨hk.2, ⟨hk.1.2.1, hk.1.2.2⟩⟩⟩) | exact xi)), (by (with_reducible repeat (first | apply Kd.N_alloc | apply Kd.N_drewN | apply Kd.N_drew)); exact Kd.N_mono HO_8.out (by first | exact (fun _ hk => ⟨hk.1.1, ⟨hk.2, ⟨hk.1.2.1, hk.1.2.2⟩⟩⟩) | exact xi)), (xk BK823.out), GW823.out, GE823.out, (xs HB.out GE823.out)⟩)
      ·skip
       refine box_step ?hg (N := 10) ?hd (cs := #[.slice none 0 0, .slice none 0 0]) (t := 61) ?hr ?_; (case hd => rfl); (case hg => rfl); (case hr => first | (go_simp; done) | (go_simp; rfl))
       intro gb823 hg w19 hbox hb
       have HS0_ := (hb.cell (World.block_lt_of_cell? _ _ (hHeld))).trans (hHeld)
       replace HO_7 := ax (Kd.N_below (Kd.N_elderB (xN HO_7.out) gb823 (Nat.le_of_eq hg.symm)) hb); replace HO_8 := ax (Kd.N_below (Kd.N_elderB (xN HO_8.out) gb823 (Nat.le_of_eq hg.symm)) hb); replace HL816_0 := ax (Kd.V_below (Kd.V_elderB (xV HL816_0.out) gb823 (Nat.le_of_eq hg.symm)) hb); replace HR816_0 := ax (Kd.C_below (xw HR816_0.out) hb); have BK823 := ax (hbox); have GW823 := ax ((by rw [hg]; exact (below_size (xb HB.out)) : w.heap.size ≤ gb823)); have GE823 := ax ((by rw [hg]; exact (below_size (xb HB.out)) : w.heap.size ≤ gb823)); replace HB := yB HB hb; clear hb hbox hg
       refine hK.out _ _ (HS0_) (fun hHeld => ?_)
       clear hK K
       refine nm ?_
       refine one_ (i := 4) (N := some 24) (xB 10 319) rfl rfl (one_of HT_.out (by kernel_rfl)) (by decide) (fun K hK => ?_)
       refine Kd.R_lit_step (Kd.int .i64) _ 3 ?hg (N := 24) ?hd (xs := ([] : List Int)) (inner := []) (ok := fun _ => True) (okp := fun _ => True) ?hr ?hp (fun _ hk => hk) trivial (Below.refl _ _) (Nat.le_refl _) (by simp) ?_; (case hd => rfl); (case hg => rfl); (case hr => first | (go_simp; done) | (go_simp; rfl)); (case hp => exact (Reps.none _ _))
       intro v818 w20 ho21 hb hg_ hnew_
       have HS0_ := (hb.cell (World.block_lt_of_cell? _ _ (hHeld))).trans (hHeld)
       clear hg_ hnew_
       (first | rw [← Ny817.out] at ho21 | (simp only [Int.reduceToNat] at ho21; rw [← Ny817.out] at ho21))
       replace HO_7 := ax (Kd.N_elder' (xN HO_7.out) (Kd.R_base ho21) hb); replace HO_8 := ax (Kd.N_elder' (xN HO_8.out) (Kd.R_base ho21) hb); replace HL816_0 := ax (Kd.V_elder' (xV HL816_0.out) (Kd.R_base ho21) hb); have HO819 := ax (Kd.R_lower (Kd.R_newM (M := fun k_ => (w.heap.size ≤ k_)) ho21 (below_size (xs HB.out GE823.out)) (fun k_ h_ => h_)) (below_size (xs HB.out GE823.out))); replace HR816_0 := ax (Kd.C_below (xw HR816_0.out) hb); replace BK823 := ax (blk_below (g := gb823) (o := .cells #[.slice none 0 0, .slice none 0 0] 61 (0, 0)) (xk BK823.out) hb); replace HB := ax (below_step (xs HB.out GE823.out) hb); clear hb ho21
       refine hK.out _ _ (HS0_) (fun hHeld => ?_)
       clear hK K
       refine nm ?_
       refine one_ (i := 6) (N := some 26) (xB 10 383) rfl rfl (one_of HT_.out (by kernel_rfl)) (by decide) (fun K hK => ?_)
       refine Kd.R_append_rows_step (Kd.int .i64) (w0 := w) w.heap.size (by rfl) (.tmp 24) (.tmp 25) 24 3 (.int .i64 0) 8 rfl Tryz.underlying24 info3 rfl (by decide) (by omega) v818 y817 l0 _ _ _ (fun k_ => (w.heap.size ≤ k_)) (fun _ => False) rfl rfl ?aO ?aR (fun _ _ h => h) (fun _ h => h.elim) ?aF ?aB ?aS ?aL ?_
       (case aR => exact xz HR0.out HB.out)
       (case aB => exact (xs HB.out GE823.out))
       (case aF => exact (fun k_ hk => (Nat.le_trans (below_size (xs HB.out GE823.out)) hk)))
       (case aO => exact (by (with_reducible repeat (first | apply Kd.R_alloc | apply Kd.R_drewN | apply Kd.R_drew)); exact Kd.R_mono HO819.out (fun _ hk => hk.1)))
       (case aS => exact (below_size (xs HB.out GE823.out)))
       (case aL => have := LMc10.out; omega)
       intro v821 w22 ho hb hg hat
       have HS0_ := cell_grown hg (hHeld) (by first | (rw [add_block]; exact (fun e_ => by obtain ⟨cs_, hc_⟩ := Kd.N_typed HO_8.out _ rfl; exact Kd.R_ne HO819.out hc_ (by decide) e_)) | (show some (Addr.add _ _).block ≠ _; rw [add_block]; exact (fun e_ => by obtain ⟨cs_, hc_⟩ := Kd.N_typed HO_8.out _ rfl; exact Kd.R_ne HO819.out hc_ (by decide) e_)) | exact (fun e_ => by obtain ⟨cs_, hc_⟩ := Kd.N_typed HO_8.out _ rfl; exact Kd.R_ne HO819.out hc_ (by decide) e_))
       rw [← Ny820.out] at ho
       have n0_ := ax (Kd.N_afterv (ok := (fun k_ => (w.heap.size ≤ k_) ∧ some k_ ≠ (.slice (some ad816) t813.length co17 : Value).ownBlock ∧ k_ ≠ gb823)) (by (with_reducible repeat (first | apply Kd.N_alloc | apply Kd.N_drewN | apply Kd.N_drew)); exact Kd.N_mono HO_7.out (by first | exact (fun _ hk => ⟨⟨hk.1.1.1, ⟨hk.1.1.2, hk.1.2⟩⟩, hk.2⟩) | exact xi)) hg hat)
       have n1_ := ax (Kd.N_afterv (ok := (fun k_ => (w.heap.size ≤ k_) ∧ some k_ ≠ (u7 : Value).ownBlock ∧ k_ ≠ gb823)) (by (with_reducible repeat (first | apply Kd.N_alloc | apply Kd.N_drewN | apply Kd.N_drew)); exact Kd.N_mono HO_8.out (by first | exact (fun _ hk => ⟨⟨hk.1.1.1, ⟨hk.1.1.2, hk.1.2⟩⟩, hk.2⟩) | exact xi)) hg hat)
       have n2_ := ax (Kd.V_afterv (ok := (fun k_ => (w.heap.size ≤ k_) ∧ some k_ ≠ (u7 : Value).ownBlock ∧ some k_ ≠ (.slice (some ad816) t813.length co17 : Value).ownBlock ∧ k_ ≠ gb823)) (by (with_reducible repeat (first | apply Kd.V_alloc | apply Kd.V_drewN | apply Kd.V_drew)); exact Kd.V_mono HL816_0.out (by first | exact (fun _ hk => ⟨⟨hk.1.1.1.1, ⟨hk.1.1.1.2, ⟨hk.1.1.2, hk.1.2⟩⟩⟩, hk.2⟩) | exact xi)) hg hat)
       have n3_ := ax (blk_grown (g := gb823) (o := .cells #[.slice none 0 0, .slice none 0 0] 61 (0, 0)) (xk BK823.out) hg (Kd.R_ne HO819.out BK823.out (by decide)))
       have n4_ := ax (hb)
       have n5_ := ax (ho)
       clear HO_7 HO_8 HL816_0 BK823 HB HO819
       have HO_7 := n0_
       have HO_8 := n1_
       have HL816_0 := n2_
       have BK823 := n3_
       have HB := n4_
       have HO822 := n5_
       clear n0_ n1_ n2_ n3_ n4_ n5_ ho hb hg hat
       obtain ⟨Ao23, co23, eo23⟩ := Kd.R_slice HO822.out
       (first | subst eo23 | (injection eo23 with f1_ f2_ f3_; have f4_ := f1_.symm; have f5_ := f3_.symm; clear f1_ f2_ f3_; subst f4_; subst f5_))
       refine hK.out _ _ (HS0_) (fun hHeld => ?_)
       clear hK K
       refine nm ?_
       refine pu (i := 7) (N := some 27) (xB 10 511) HT_.out ?_
       exact norm_ (by simp only [putAll, Act.put, List.setIfInBounds_toArray, List.set_cons_zero, List.set_cons_succ]) (hCont (v818, .slice Ao23 y820.length co23, gb823) _ ⟨hHeld, (by (with_reducible repeat (first | apply Kd.V_alloc | apply Kd.V_drewN | apply Kd.V_drew)); exact Kd.V_mono HL816_0.out (by first | exact (fun _ hk => ⟨hk.1.1, ⟨hk.2, ⟨hk.1.2.1, ⟨hk.1.2.2.1, hk.1.2.2.2⟩⟩⟩⟩) | exact xi)), (xR HO822.out), (by (with_reducible repeat (first | apply Kd.N_alloc | apply Kd.N_drewN | apply Kd.N_drew)); exact Kd.N_mono HO_7.out (by first | exact (fun _ hk => ⟨hk.1.1, ⟨hk.2, ⟨hk.1.2.1, hk.1.2.2⟩⟩⟩) | exact xi)), (by (with_reducible repeat (first | apply Kd.N_alloc | apply Kd.N_drewN | apply Kd.N_drew)); exact Kd.N_mono HO_8.out (by first | exact (fun _ hk => ⟨hk.1.1, ⟨hk.2, ⟨hk.1.2.1, hk.1.2.2⟩⟩⟩) | exact xi)), (xk BK823.out), GW823.out, GE823.out, (xs HB.out GE823.out)⟩)
     rintro ⟨v818, v821, gb823⟩ w24 ⟨hS_, h0_, h1_, h2_, h3_, h4_, h5_, h6_, h7_⟩
     have n0_ : Aside0 (Kd.V (Kd.int .i64) 3 w24 w.heap.size (fun k_ => (w.heap.size ≤ k_) ∧ some k_ ≠ (v821 : Value).ownBlock ∧ some k_ ≠ (u7 : Value).ownBlock ∧ some k_ ≠ (.slice (some ad816) t813.length co17 : Value).ownBlock ∧ k_ ≠ gb823) (.slice A816_0 (rd_L2 t813 x9_1).length c816_0) (rd_L2 t813 x9_1)) := ⟨h0_⟩
     have n1_ : Aside0 (Kd.R (Kd.int .i64) 3 w24 w.heap.size (fun k_ => (w.heap.size ≤ k_)) v821 y820) := ⟨h1_⟩
     have n2_ : Aside0 (Kd.N (Kd.slice 3 (Kd.int .i64)) 24 w24 w.heap.size (fun k_ => (w.heap.size ≤ k_) ∧ some k_ ≠ (v821 : Value).ownBlock ∧ some k_ ≠ (.slice (some ad816) t813.length co17 : Value).ownBlock ∧ k_ ≠ gb823) u7 x7_1) := ⟨h2_⟩
     have n3_ : Aside0 (Kd.N (Kd.slice 3 (Kd.int .i64)) 24 w24 w.heap.size (fun k_ => (w.heap.size ≤ k_) ∧ some k_ ≠ (v821 : Value).ownBlock ∧ some k_ ≠ (u7 : Value).ownBlock ∧ k_ ≠ gb823) (.slice (some ad816) t813.length co17) t813) := ⟨h3_⟩
     have n4_ : Aside0 (w24.heap[gb823]? = some (.cells #[.slice none 0 0, .slice none 0 0] 61 (0, 0))) := ⟨h4_⟩
     have n5_ : Aside0 (w.heap.size ≤ gb823) := ⟨h5_⟩
     have n6_ : Aside0 (w.heap.size ≤ gb823) := ⟨h6_⟩
     have n7_ : Aside0 (Below w.heap.size w w24) := ⟨h7_⟩
     clear HO_7 HO_8 HB h0_ h1_ h2_ h3_ h4_ h5_ h6_ h7_
     have HL816_0 := n0_
     have HO822 := n1_
     have HO_7 := n2_
     have HO_8 := n3_
     have BK823 := n4_
     have GW823 := n5_
     have GE823 := n6_
     have HB := n7_
     clear n0_ n1_ n2_ n3_ n4_ n5_ n6_ n7_
     have hHeld : w24.cell? (ad816.add (x9_1).toNat) = some (.slice A816_0 (rd_L2 t813 x9_1).length c816_0) := hS_
     obtain ⟨Ao25, co25, eo25⟩ := Kd.R_slice HO822.out
     (first | subst eo25 | (injection eo25 with f1_ f2_ f3_; have f4_ := f1_.symm; have f5_ := f3_.symm; clear f1_ f2_ f3_; subst f4_; subst f5_))
     refine norm_ (a' := ?_) ?_ ?_
     rotate_left
     ·simp only [putAll, Act.put, List.setIfInBounds_toArray, List.set_cons_zero, List.set_cons_succ]
      rfl
     refine one_ (i := 9) (N := none) (xB 10 1023) rfl rfl (one_of HT_.out (by kernel_rfl)) (by decide) (fun K hK => ?_)
     have hs26 : w24.cell? ⟨gb823, 0, none⟩ = some (.slice none 0 0) := (blk_cell BK823.out 0).trans rfl
     have hfs26 := blk_frozen BK823.out 0
     have hs27 : w24.cell? ⟨gb823, 1, none⟩ = some (.slice none 0 0) := (blk_cell BK823.out 1).trans rfl
     have hfs27 := blk_frozen BK823.out 1
     refine skip_ (w1 := ?_) (by rfl) rfl ?_ ?_
     rotate_left
     ·go_simp
      rfl
     refine hK.out _ _ (((cell_far (p := ⟨gb823, _, none⟩) (by first | exact Kd.own_blk (Kd.N_away HO_8.out (fun _ hk => hk.2.2.2)) | (rw [add_block]; exact Kd.own_blk (Kd.N_away HO_8.out (fun _ hk => hk.2.2.2))) | (show (Addr.add _ _).block ≠ _; rw [add_block]; exact Kd.own_blk (Kd.N_away HO_8.out (fun _ hk => hk.2.2.2))) | (dsimp only; exact Kd.own_blk (Kd.N_away HO_8.out (fun _ hk => hk.2.2.2)))) _).trans (((cell_far (p := ⟨gb823, _, none⟩) (by first | exact Kd.own_blk (Kd.N_away HO_8.out (fun _ hk => hk.2.2.2)) | (rw [add_block]; exact Kd.own_blk (Kd.N_away HO_8.out (fun _ hk => hk.2.2.2))) | (show (Addr.add _ _).block ≠ _; rw [add_block]; exact Kd.own_blk (Kd.N_away HO_8.out (fun _ hk => hk.2.2.2))) | (dsimp only; exact Kd.own_blk (Kd.N_away HO_8.out (fun _ hk => hk.2.2.2)))) _).trans (hHeld))))) (fun hHeld => ?_)
     clear hK K
     refine done_ (done_of HT_.out (by kernel_rfl)) ?_
     try go_wp2_with (first | ((with_reducible refine gate_callee (f := 36) rfl ?_); refine goesL_ (some 30) rfl rfl Tryz.func36 (by kernel_rfl) rfl #[.slice A0 l0.length c0] rfl xm ?_; (with_reducible refine (spec_l2Size.calls k1 _ _ l0 t824 _ ?side1 ?side2 A11.out).mono ?_); (case side1 => exact Kd.C_below HR0.out (xs HB.out GE823.out)); (case side2 => exact HC0.out); rintro e w' ⟨rfl, ⟨nd, rfl⟩⟩; refine ⟨_, rfl, ?_⟩))
     have n0_ : Aside0 (Kd.N (Kd.slice 3 (Kd.int .i64)) 24 ((w24.setCell ⟨gb823, 0, none⟩ (.slice A816_0 (rd_L2 t813 x9_1).length c816_0)).setCell ⟨gb823, 1, none⟩ (.slice Ao25 y820.length co25)) w.heap.size (fun k_ => (w.heap.size ≤ k_) ∧ some k_ ≠ (.slice (some ad816) t813.length co17 : Value).ownBlock ∧ some k_ ≠ (.slice Ao25 y820.length co25 : Value).ownBlock ∧ k_ ≠ gb823) u7 x7_1) := ⟨by (with_reducible repeat (first | apply Kd.N_alloc | apply Kd.N_drewN | apply Kd.N_drew)); exact Kd.N_mono (Kd.N_far (p := ⟨gb823, 1, none⟩) (Kd.N_far (p := ⟨gb823, 0, none⟩) (Kd.N_mono HO_7.out (fun k_ hk => (⟨hk, hk.2.2.2⟩ : _ ∧ k_ ≠ gb823))) (fun _ hk => hk.2) (.slice A816_0 (rd_L2 t813 x9_1).length c816_0)) (fun _ hk => hk.2) (.slice Ao25 y820.length co25)) (fun _ hk => ⟨hk.1.1, ⟨hk.1.2.2.1, ⟨hk.1.2.1, hk.1.2.2.2⟩⟩⟩)⟩
     have n1_ : Aside0 (Kd.N (Kd.slice 3 (Kd.int .i64)) 24 ((w24.setCell ⟨gb823, 0, none⟩ (.slice A816_0 (rd_L2 t813 x9_1).length c816_0)).setCell ⟨gb823, 1, none⟩ (.slice Ao25 y820.length co25)) w.heap.size (fun k_ => (w.heap.size ≤ k_) ∧ some k_ ≠ (u7 : Value).ownBlock ∧ some k_ ≠ (.slice Ao25 y820.length co25 : Value).ownBlock ∧ k_ ≠ gb823) (.slice (some ad816) t813.length co17) t813) := ⟨by (with_reducible repeat (first | apply Kd.N_alloc | apply Kd.N_drewN | apply Kd.N_drew)); exact Kd.N_mono (Kd.N_far (p := ⟨gb823, 1, none⟩) (Kd.N_far (p := ⟨gb823, 0, none⟩) (Kd.N_mono HO_8.out (fun k_ hk => (⟨hk, hk.2.2.2⟩ : _ ∧ k_ ≠ gb823))) (fun _ hk => hk.2) (.slice A816_0 (rd_L2 t813 x9_1).length c816_0)) (fun _ hk => hk.2) (.slice Ao25 y820.length co25)) (fun _ hk => ⟨hk.1.1, ⟨hk.1.2.2.1, ⟨hk.1.2.1, hk.1.2.2.2⟩⟩⟩)⟩
     have n2_ : Aside0 (Kd.V (Kd.int .i64) 3 ((w24.setCell ⟨gb823, 0, none⟩ (.slice A816_0 (rd_L2 t813 x9_1).length c816_0)).setCell ⟨gb823, 1, none⟩ (.slice Ao25 y820.length co25)) w.heap.size (fun k_ => (w.heap.size ≤ k_) ∧ some k_ ≠ (u7 : Value).ownBlock ∧ some k_ ≠ (.slice (some ad816) t813.length co17 : Value).ownBlock ∧ some k_ ≠ (.slice Ao25 y820.length co25 : Value).ownBlock ∧ k_ ≠ gb823) (.slice A816_0 (rd_L2 t813 x9_1).length c816_0) (rd_L2 t813 x9_1)) := ⟨by (with_reducible repeat (first | apply Kd.V_alloc | apply Kd.V_drewN | apply Kd.V_drew)); exact Kd.V_mono (Kd.V_far (p := ⟨gb823, 1, none⟩) (Kd.V_far (p := ⟨gb823, 0, none⟩) (Kd.V_mono HL816_0.out (fun k_ hk => (⟨hk, hk.2.2.2.2⟩ : _ ∧ k_ ≠ gb823))) (fun _ hk => hk.2) (.slice A816_0 (rd_L2 t813 x9_1).length c816_0)) (fun _ hk => hk.2) (.slice Ao25 y820.length co25)) (fun _ hk => ⟨hk.1.1, ⟨hk.1.2.2.1, ⟨hk.1.2.2.2.1, ⟨hk.1.2.1, hk.1.2.2.2.2⟩⟩⟩⟩)⟩
     have n3_ : Aside0 (Kd.R (Kd.int .i64) 3 ((w24.setCell ⟨gb823, 0, none⟩ (.slice A816_0 (rd_L2 t813 x9_1).length c816_0)).setCell ⟨gb823, 1, none⟩ (.slice Ao25 y820.length co25)) w.heap.size (fun k_ => (w.heap.size ≤ k_)) (.slice Ao25 y820.length co25) y820) := ⟨by (with_reducible repeat (first | apply Kd.R_alloc | apply Kd.R_drewN | apply Kd.R_drew)); exact Kd.R_mono (Kd.R_far (p := ⟨gb823, 1, none⟩) (Kd.R_far (p := ⟨gb823, 0, none⟩) (Kd.R_types HO822.out BK823.out (by decide)) (fun _ hk => hk.2) (.slice A816_0 (rd_L2 t813 x9_1).length c816_0)) (fun _ hk => hk.2) (.slice Ao25 y820.length co25)) (fun _ hk => hk.1)⟩
     have n4_ : Aside0 (((w24.setCell ⟨gb823, 0, none⟩ (.slice A816_0 (rd_L2 t813 x9_1).length c816_0)).setCell ⟨gb823, 1, none⟩ (.slice Ao25 y820.length co25)).heap[gb823]? = some (.cells #[.slice A816_0 (rd_L2 t813 x9_1).length c816_0, .slice Ao25 y820.length co25] 61 (0, 0))) := ⟨by (with_reducible repeat (first | refine blk_drewN ?_ _ | refine blk_drew ?_ | refine blk_alloc ?_ _)); refine blk_put (cs := #[.slice A816_0 (rd_L2 t813 x9_1).length c816_0, .slice none 0 0]) ?_ 1 _ rfl; (with_reducible repeat (first | refine blk_drewN ?_ _ | refine blk_drew ?_ | refine blk_alloc ?_ _)); refine blk_put (cs := #[.slice none 0 0, .slice none 0 0]) ?_ 0 _ rfl; (with_reducible repeat (first | refine blk_drewN ?_ _ | refine blk_drew ?_ | refine blk_alloc ?_ _)); exact BK823.out⟩
     have n5_ : Aside0 (Below w.heap.size w ((w24.setCell ⟨gb823, 0, none⟩ (.slice A816_0 (rd_L2 t813 x9_1).length c816_0)).setCell ⟨gb823, 1, none⟩ (.slice Ao25 y820.length co25))) := ⟨xs HB.out GE823.out⟩
     (try clear HO_7)
     (try clear HO_8)
     (try clear HL816_0)
     (try clear HO822)
     (try clear BK823)
     (try clear HB)
     generalize ((w24.setCell ⟨gb823, 0, none⟩ (.slice A816_0 (rd_L2 t813 x9_1).length c816_0)).setCell ⟨gb823, 1, none⟩ (.slice Ao25 y820.length co25)) = w28 at n0_ n1_ n2_ n3_ n4_ n5_ ⊢
     have HO_7 := n0_
     have HO_8 := n1_
     have HL816_0 := n2_
     have HO822 := n3_
     have BK823 := n4_
     have HB := n5_
     clear n0_ n1_ n2_ n3_ n4_ n5_
     (try (rw [drewN_self w28]; generalize hq_ : World.drewN w28 _ = w28; have n0_ : Aside0 (Kd.V (Kd.int .i64) 3 w28 w.heap.size (fun k_ => (w.heap.size ≤ k_) ∧ some k_ ≠ (.slice Ao25 y820.length co25 : Value).ownBlock ∧ some k_ ≠ (u7 : Value).ownBlock ∧ some k_ ≠ (.slice (some ad816) t813.length co17 : Value).ownBlock ∧ k_ ≠ gb823) (.slice A816_0 (rd_L2 t813 x9_1).length c816_0) (rd_L2 t813 x9_1)) := ⟨by rw [← hq_]; exact (by (with_reducible repeat (first | apply Kd.V_alloc | apply Kd.V_drewN | apply Kd.V_drew)); exact Kd.V_mono HL816_0.out (by first | exact (fun _ hk => ⟨hk.1, ⟨hk.2.2.2.1, ⟨hk.2.1, ⟨hk.2.2.1, hk.2.2.2.2⟩⟩⟩⟩) | exact xi))⟩; have n1_ : Aside0 (Kd.R (Kd.int .i64) 3 w28 w.heap.size (fun k_ => (w.heap.size ≤ k_)) (.slice Ao25 y820.length co25) y820) := ⟨by rw [← hq_]; exact (xR HO822.out)⟩; have n2_ : Aside0 (Kd.N (Kd.slice 3 (Kd.int .i64)) 24 w28 w.heap.size (fun k_ => (w.heap.size ≤ k_) ∧ some k_ ≠ (.slice Ao25 y820.length co25 : Value).ownBlock ∧ some k_ ≠ (.slice (some ad816) t813.length co17 : Value).ownBlock ∧ k_ ≠ gb823) u7 x7_1) := ⟨by rw [← hq_]; exact (by (with_reducible repeat (first | apply Kd.N_alloc | apply Kd.N_drewN | apply Kd.N_drew)); exact Kd.N_mono HO_7.out (by first | exact (fun _ hk => ⟨hk.1, ⟨hk.2.2.1, ⟨hk.2.1, hk.2.2.2⟩⟩⟩) | exact xi))⟩; have n3_ : Aside0 (Kd.N (Kd.slice 3 (Kd.int .i64)) 24 w28 w.heap.size (fun k_ => (w.heap.size ≤ k_) ∧ some k_ ≠ (.slice Ao25 y820.length co25 : Value).ownBlock ∧ some k_ ≠ (u7 : Value).ownBlock ∧ k_ ≠ gb823) (.slice (some ad816) t813.length co17) t813) := ⟨by rw [← hq_]; exact (by (with_reducible repeat (first | apply Kd.N_alloc | apply Kd.N_drewN | apply Kd.N_drew)); exact Kd.N_mono HO_8.out (by first | exact (fun _ hk => ⟨hk.1, ⟨hk.2.2.1, ⟨hk.2.1, hk.2.2.2⟩⟩⟩) | exact xi))⟩; have n4_ : Aside0 (w28.heap[gb823]? = some (.cells #[.slice A816_0 (rd_L2 t813 x9_1).length c816_0, .slice Ao25 y820.length co25] 61 (0, 0))) := ⟨by rw [← hq_]; exact (xk BK823.out)⟩; have n5_ : Aside0 (Below w.heap.size w w28) := ⟨by rw [← hq_]; exact (xs HB.out GE823.out)⟩; clear HL816_0 HO822 HO_7 HO_8 BK823 HB hq_; have HL816_0 := n0_; have HO822 := n1_; have HO_7 := n2_; have HO_8 := n3_; have BK823 := n4_; have HB := n5_; clear n0_ n1_ n2_ n3_ n4_ n5_))
     replace HO_7 := ax (Kd.N_drew HO_7.out); replace HO_8 := ax (Kd.N_drew HO_8.out); replace HL816_0 := ax (Kd.V_drew HL816_0.out); replace HO822 := ax (Kd.R_drew HO822.out); replace BK823 := ax (blk_drew BK823.out); replace HB := ax (below_drew1 HB.out)
     have p831 : 0 ≤ (x9_1 : Int) := xd
     have q831 : x9_1 < (t813.length : Int) := xd
     obtain ⟨ad831, A831_0, c831_0, e831, hx831_0, hl831_0, hi831_0⟩ := at_L2 (Kd.N_reads' HO_8.out).2.2 x9_1 p831 q831
     obtain rfl : ad816 = ad831 := (by injection e831)
     obtain ⟨ce831, hce831, hMe831, hcc831⟩ := Kd.N_get HO_8.out [] x9_1 p831 (by first | exact q831 | exact xd | (have e_ := (Kd.N_reads' HO_8.out).1; omega))
     obtain ⟨ua831_0, uc831_0, rfl, ul831_0, ge831_0⟩ := Kd.FK_slice_open hMe831
     have hv831_0 := hcc831 0 _ rfl
     rw [Nat.add_zero, show ((Kd.slice 3 (Kd.int .i64))).sz = 1 from rfl, Nat.mul_one] at hv831_0
     replace hv831_0 := Option.some.inj (hv831_0.symm.trans hx831_0)
     injection hv831_0 with hva_ hvn_ hvc_
     rw [hva_] at ge831_0
     rw [hvc_] at ul831_0
     have HL831_0 := ax (show Kd.V (Kd.int .i64) 3 _ w.heap.size _ _ (rd_L2 t813 x9_1) from Kd.V_mk ul831_0 ge831_0)
     clear hva_ hvn_ hvc_ ge831_0 ul831_0 hcc831 hce831
     have HR831_0 := ax hi831_0
     have HC831_0 := ax hl831_0
     clear hi831_0 hl831_0
     replace p831 := eq_true p831
     replace q831 := eq_true q831
     refine start_ (n := 9) (S := fun w' => w'.cell? (ad816.add (x9_1).toNat) = some (.slice A831_0 (rd_L2 t813 x9_1).length c831_0)) (ds := []) (xB 9 0) (by kernel_rfl) rfl (by kernel_rfl) (hx831_0) (fun hHeld => ?_); refine with_tabW spec_l19Pick__2.tab8 spec_l19Pick__2.bits8 (fun HT_ HW_ => ?_)
     generalize w28.drew = w29 at HO_7 HO_8 HL816_0 HO822 BK823 HB HL831_0 HR831_0 hx831_0 hHeld ⊢
     refine pu (i := 1) (N := some 33) (xB 9 2) HT_.out ?_
     refine pu (i := 3) (N := some 35) (xB 9 10) HT_.out ?_
     refine pu (i := 4) (N := some 36) (xB 9 26) HT_.out ?_
     refine pu (i := 5) (N := some 37) (xB 9 58) HT_.out ?_
     refine tk (i := 6) (N := some 38) (xB 9 122) HT_.out HW_.out hHeld ?_
     refine one_ (i := 0) (N := some 32) (xB 9 123) rfl rfl (one_of HT_.out (by kernel_rfl)) (by decide) (fun K hK => ?_)
     refine Kd.R_lit_step (Kd.int .i64) _ 3 ?hg (N := 32) ?hd (xs := ([] : List Int)) (inner := []) (ok := fun _ => True) (okp := fun _ => True) ?hr ?hp (fun _ hk => hk) trivial (Below.refl _ _) (Nat.le_refl _) (by simp) ?_; (case hd => rfl); (case hg => rfl); (case hr => first | (go_simp; done) | (go_simp; rfl)); (case hp => exact (Reps.none _ _))
     intro v826 w30 ho31 hb hg_ hnew_
     have HS0_ := (hb.cell (World.block_lt_of_cell? _ _ (hHeld))).trans (hHeld)
     clear hg_ hnew_
     (first | rw [← Ny825.out] at ho31 | (simp only [Int.reduceToNat] at ho31; rw [← Ny825.out] at ho31))
     replace HO_7 := ax (Kd.N_elder' (xN HO_7.out) (Kd.R_base ho31) hb); replace HO_8 := ax (Kd.N_elder' (xN HO_8.out) (Kd.R_base ho31) hb); replace HL816_0 := ax (Kd.V_elder' (xV HL816_0.out) (Kd.R_base ho31) hb); replace HL831_0 := ax (Kd.V_elder' (xV HL831_0.out) (Kd.R_base ho31) hb); have HO827 := ax (Kd.R_lower (Kd.R_new' (Kd.R_newM (M := fun k_ => (w.heap.size ≤ k_)) ho31 (below_size (xs HB.out GE823.out)) (fun k_ h_ => h_)) (Kd.R_lt (xR HO822.out))) (below_size (xs HB.out GE823.out))); replace HO822 := ax (Kd.R_elder' (xR HO822.out) (Kd.R_base ho31) hb); replace BK823 := ax (blk_below (g := gb823) (o := .cells #[.slice A816_0 (rd_L2 t813 x9_1).length c816_0, .slice Ao25 y820.length co25] 61 (0, 0)) (xk BK823.out) hb); replace HR831_0 := ax (Kd.C_below (xw HR831_0.out) hb); replace HB := ax (below_step (xs HB.out GE823.out) hb); clear hb ho31
     refine hK.out _ _ (HS0_) (fun hHeld => ?_)
     clear hK K
     refine nm ?_
     refine one_ (i := 2) (N := some 34) (xB 9 127) rfl rfl (one_of HT_.out (by kernel_rfl)) (by decide) (fun K hK => ?_)
     refine Kd.R_append_rows_step (Kd.int .i64) (w0 := w) w.heap.size (by rfl) (.tmp 32) (.tmp 33) 24 3 (.int .i64 0) 8 rfl Tryz.underlying24 info3 rfl (by decide) (by omega) v826 y825 l0 _ _ _ (fun k_ => (w.heap.size ≤ k_) ∧ some k_ ≠ (.slice Ao25 y820.length co25 : Value).ownBlock) (fun _ => False) rfl rfl ?aO ?aR (fun _ _ h => h) (fun _ h => h.elim) ?aF ?aB ?aS ?aL ?_
     (case aR => exact xz HR0.out HB.out)
     (case aB => exact (xs HB.out GE823.out))
     (case aF => exact (fun k_ hk => ⟨(Nat.le_trans (below_size (xs HB.out GE823.out)) hk), Kd.fresh' (Kd.R_lt (xR HO822.out)) k_ hk⟩))
     (case aO => exact (by (with_reducible repeat (first | apply Kd.R_alloc | apply Kd.R_drewN | apply Kd.R_drew)); exact Kd.R_mono HO827.out (by first | exact (fun _ hk => ⟨hk.1.1, hk.2⟩) | exact xi)))
     (case aS => exact (below_size (xs HB.out GE823.out)))
     (case aL => have := LMc13.out; omega)
     intro v829 w32 ho hb hg hat
     have HS0_ := cell_grown hg (hHeld) (by first | (rw [add_block]; exact (fun e_ => by obtain ⟨cs_, hc_⟩ := Kd.N_typed HO_8.out _ rfl; exact Kd.R_ne HO827.out hc_ (by decide) e_)) | (show some (Addr.add _ _).block ≠ _; rw [add_block]; exact (fun e_ => by obtain ⟨cs_, hc_⟩ := Kd.N_typed HO_8.out _ rfl; exact Kd.R_ne HO827.out hc_ (by decide) e_)) | exact (fun e_ => by obtain ⟨cs_, hc_⟩ := Kd.N_typed HO_8.out _ rfl; exact Kd.R_ne HO827.out hc_ (by decide) e_))
     rw [← Ny828.out] at ho
     have n0_ := ax (Kd.N_afterv (ok := (fun k_ => (w.heap.size ≤ k_) ∧ some k_ ≠ (.slice (some ad816) t813.length co17 : Value).ownBlock ∧ some k_ ≠ (.slice Ao25 y820.length co25 : Value).ownBlock ∧ k_ ≠ gb823)) (xN HO_7.out) hg hat)
     have n1_ := ax (Kd.N_afterv (ok := (fun k_ => (w.heap.size ≤ k_) ∧ some k_ ≠ (u7 : Value).ownBlock ∧ some k_ ≠ (.slice Ao25 y820.length co25 : Value).ownBlock ∧ k_ ≠ gb823)) (xN HO_8.out) hg hat)
     have n2_ := ax (Kd.V_afterv (ok := (fun k_ => (w.heap.size ≤ k_) ∧ some k_ ≠ (u7 : Value).ownBlock ∧ some k_ ≠ (.slice (some ad816) t813.length co17 : Value).ownBlock ∧ some k_ ≠ (.slice Ao25 y820.length co25 : Value).ownBlock ∧ k_ ≠ gb823)) (xV HL816_0.out) hg hat)
     have n3_ := ax (Kd.R_after (ok := (fun k_ => (w.heap.size ≤ k_))) (xR HO822.out) hg hat)
     have n4_ := ax (blk_grown (g := gb823) (o := .cells #[.slice A816_0 (rd_L2 t813 x9_1).length c816_0, .slice Ao25 y820.length co25] 61 (0, 0)) (xk BK823.out) hg (Kd.R_ne HO827.out BK823.out (by decide)))
     have n5_ := ax (Kd.V_afterv (ok := (fun k_ => (w.heap.size ≤ k_) ∧ some k_ ≠ (u7 : Value).ownBlock ∧ some k_ ≠ (.slice (some ad816) t813.length co17 : Value).ownBlock ∧ some k_ ≠ (.slice Ao25 y820.length co25 : Value).ownBlock ∧ k_ ≠ gb823)) (by (with_reducible repeat (first | apply Kd.V_alloc | apply Kd.V_drewN | apply Kd.V_drew)); exact Kd.V_mono HL831_0.out (by first | exact (fun _ hk => ⟨⟨hk.1.1.1, ⟨hk.1.1.2.1, ⟨hk.1.2, ⟨hk.1.1.2.2.1, hk.1.1.2.2.2⟩⟩⟩⟩, hk.2⟩) | exact xi)) hg hat)
     have n6_ := ax (hb)
     have n7_ := ax (ho)
     clear HO_7 HO_8 HL816_0 HO822 BK823 HL831_0 HB HO827
     have HO_7 := n0_
     have HO_8 := n1_
     have HL816_0 := n2_
     have HO822 := n3_
     have BK823 := n4_
     have HL831_0 := n5_
     have HB := n6_
     have HO830 := n7_
     clear n0_ n1_ n2_ n3_ n4_ n5_ n6_ n7_ ho hb hg hat
     obtain ⟨Ao33, co33, eo33⟩ := Kd.R_slice HO830.out
     (first | subst eo33 | (injection eo33 with f1_ f2_ f3_; have f4_ := f1_.symm; have f5_ := f3_.symm; clear f1_ f2_ f3_; subst f4_; subst f5_))
     refine hK.out _ _ (HS0_) (fun hHeld => ?_)
     clear hK K
     refine nm ?_
     refine pu (i := 7) (N := some 39) (xB 9 255) HT_.out ?_
     refine one_ (i := 8) (N := none) (xB 9 511) rfl rfl (one_of HT_.out (by kernel_rfl)) (by decide) (fun K hK => ?_)
     have hs34 : w32.cell? ⟨gb823, 0, none⟩ = some (.slice A816_0 (rd_L2 t813 x9_1).length c816_0) := (blk_cell BK823.out 0).trans rfl
     have hfs34 := blk_frozen BK823.out 0
     have hs35 : w32.cell? ⟨gb823, 1, none⟩ = some (.slice Ao25 y820.length co25) := (blk_cell BK823.out 1).trans rfl
     have hfs35 := blk_frozen BK823.out 1
     refine skip_ (w1 := ?_) (by rfl) rfl ?_ ?_
     rotate_left
     ·go_simp
      rfl
     refine hK.out _ _ (((cell_far (p := ⟨gb823, _, none⟩) (by first | exact Kd.own_blk (Kd.N_away HO_8.out (fun _ hk => hk.1.2.2.2)) | (rw [add_block]; exact Kd.own_blk (Kd.N_away HO_8.out (fun _ hk => hk.1.2.2.2))) | (show (Addr.add _ _).block ≠ _; rw [add_block]; exact Kd.own_blk (Kd.N_away HO_8.out (fun _ hk => hk.1.2.2.2))) | (dsimp only; exact Kd.own_blk (Kd.N_away HO_8.out (fun _ hk => hk.1.2.2.2)))) _).trans (((cell_far (p := ⟨gb823, _, none⟩) (by first | exact Kd.own_blk (Kd.N_away HO_8.out (fun _ hk => hk.1.2.2.2)) | (rw [add_block]; exact Kd.own_blk (Kd.N_away HO_8.out (fun _ hk => hk.1.2.2.2))) | (show (Addr.add _ _).block ≠ _; rw [add_block]; exact Kd.own_blk (Kd.N_away HO_8.out (fun _ hk => hk.1.2.2.2))) | (dsimp only; exact Kd.own_blk (Kd.N_away HO_8.out (fun _ hk => hk.1.2.2.2)))) _).trans (hHeld))))) (fun hHeld => ?_)
     clear hK K
     refine done_ (done_of HT_.out (by kernel_rfl)) ?_
     have hcz36_0 : w32.cell? ⟨gb823, 0, none⟩ = some (.slice A816_0 (rd_L2 t813 x9_1).length c816_0) := (blk_cell BK823.out 0).trans rfl
     have hcz36_1 : w32.cell? ⟨gb823, 1, none⟩ = some (.slice Ao25 y820.length co25) := (blk_cell BK823.out 1).trans rfl
     have hfz36_0 := blk_frozen BK823.out 0
     have hfz36_1 := blk_frozen BK823.out 1
     try go_wp2_with (first | (go_at_call 85; (with_reducible refine (spec_IsRibbon.calls k1 _ _ y828 _ _ (rd_L2 t813 x9_1) true _ ?side1 ?side2 ?side3 ?side4 A14.out).mono ?_); (case side1 => refine (Kd.R_reads' (e := 3) (base := w.heap.size) (ok := fun k_ => ((w.heap.size ≤ k_) ∧ some k_ ≠ (.slice Ao25 y820.length co25 : Value).ownBlock)) (n := y828.length) (c := co33) ?_).2.2; exact (by (with_reducible repeat (first | apply Kd.R_alloc | apply Kd.R_drewN | apply Kd.R_drew)); exact (Kd.R_mono (Kd.R_far (p := ⟨gb823, 1, none⟩) (Kd.R_far (p := ⟨gb823, 0, none⟩) (Kd.R_types HO830.out BK823.out (by decide)) (fun _ hk => hk.2) (.slice Ao33 y828.length co33)) (fun _ hk => hk.2) (.slice A831_0 (rd_L2 t813 x9_1).length c831_0)) (fun _ h_ => h_.1)))); (case side2 => exact (Kd.R_reads' HO830.out).2.1); (case side3 => repeat (first | exact ((Kd.V_reads' (by (with_reducible repeat (first | apply Kd.V_alloc | apply Kd.V_drewN | apply Kd.V_drew)); exact (Kd.V_mono (Kd.V_far (p := ⟨gb823, 1, none⟩) (Kd.V_far (p := ⟨gb823, 0, none⟩) (Kd.V_mono HL831_0.out (fun k_ hk => (⟨hk, hk.1.2.2.2.2⟩ : _ ∧ k_ ≠ gb823))) (fun _ hk => hk.2) (.slice Ao33 y828.length co33)) (fun _ hk => hk.2) (.slice A831_0 (rd_L2 t813 x9_1).length c831_0)) (fun _ h_ => h_.1)))).2.2) | (with_reducible refine Kd.C_alloc ?_ _) | (with_reducible refine Kd.C_drewN ?_ _) | (with_reducible refine Kd.C_drew ?_))); (case side4 => exact HC831_0.out); rintro e w37 ⟨rfl, hb⟩; replace HO_7 := ax (Kd.N_below (by (with_reducible repeat (first | apply Kd.N_alloc | apply Kd.N_drewN | apply Kd.N_drew)); exact (Kd.N_mono (Kd.N_far (p := ⟨gb823, 1, none⟩) (Kd.N_far (p := ⟨gb823, 0, none⟩) (Kd.N_mono HO_7.out (fun k_ hk => (⟨hk, hk.1.2.2.2⟩ : _ ∧ k_ ≠ gb823))) (fun _ hk => hk.2) (.slice Ao33 y828.length co33)) (fun _ hk => hk.2) (.slice A831_0 (rd_L2 t813 x9_1).length c831_0)) (fun _ h_ => h_.1))) hb); replace HO_8 := ax (Kd.N_below (by (with_reducible repeat (first | apply Kd.N_alloc | apply Kd.N_drewN | apply Kd.N_drew)); exact (Kd.N_mono (Kd.N_far (p := ⟨gb823, 1, none⟩) (Kd.N_far (p := ⟨gb823, 0, none⟩) (Kd.N_mono HO_8.out (fun k_ hk => (⟨hk, hk.1.2.2.2⟩ : _ ∧ k_ ≠ gb823))) (fun _ hk => hk.2) (.slice Ao33 y828.length co33)) (fun _ hk => hk.2) (.slice A831_0 (rd_L2 t813 x9_1).length c831_0)) (fun _ h_ => h_.1))) hb); replace HL816_0 := ax (Kd.V_below (by (with_reducible repeat (first | apply Kd.V_alloc | apply Kd.V_drewN | apply Kd.V_drew)); exact (Kd.V_mono (Kd.V_far (p := ⟨gb823, 1, none⟩) (Kd.V_far (p := ⟨gb823, 0, none⟩) (Kd.V_mono HL816_0.out (fun k_ hk => (⟨hk, hk.1.2.2.2.2⟩ : _ ∧ k_ ≠ gb823))) (fun _ hk => hk.2) (.slice Ao33 y828.length co33)) (fun _ hk => hk.2) (.slice A831_0 (rd_L2 t813 x9_1).length c831_0)) (fun _ h_ => h_.1))) hb); replace HO822 := ax (Kd.R_below (by (with_reducible repeat (first | apply Kd.R_alloc | apply Kd.R_drewN | apply Kd.R_drew)); exact (Kd.R_mono (Kd.R_far (p := ⟨gb823, 1, none⟩) (Kd.R_far (p := ⟨gb823, 0, none⟩) (Kd.R_types HO822.out BK823.out (by decide)) (fun _ hk => hk.2) (.slice Ao33 y828.length co33)) (fun _ hk => hk.2) (.slice A831_0 (rd_L2 t813 x9_1).length c831_0)) (fun _ h_ => h_.1))) hb); replace HL831_0 := ax (Kd.V_below (by (with_reducible repeat (first | apply Kd.V_alloc | apply Kd.V_drewN | apply Kd.V_drew)); exact (Kd.V_mono (Kd.V_far (p := ⟨gb823, 1, none⟩) (Kd.V_far (p := ⟨gb823, 0, none⟩) (Kd.V_mono HL831_0.out (fun k_ hk => (⟨hk, hk.1.2.2.2.2⟩ : _ ∧ k_ ≠ gb823))) (fun _ hk => hk.2) (.slice Ao33 y828.length co33)) (fun _ hk => hk.2) (.slice A831_0 (rd_L2 t813 x9_1).length c831_0)) (fun _ h_ => h_.1))) hb); replace HO830 := ax (Kd.R_below (by (with_reducible repeat (first | apply Kd.R_alloc | apply Kd.R_drewN | apply Kd.R_drew)); exact (Kd.R_mono (Kd.R_far (p := ⟨gb823, 1, none⟩) (Kd.R_far (p := ⟨gb823, 0, none⟩) (Kd.R_types HO830.out BK823.out (by decide)) (fun _ hk => hk.2) (.slice Ao33 y828.length co33)) (fun _ hk => hk.2) (.slice A831_0 (rd_L2 t813 x9_1).length c831_0)) (fun _ h_ => h_.1))) hb); replace BK823 := ax (blk_below (g := gb823) (o := .cells #[.slice Ao33 y828.length co33, .slice A831_0 (rd_L2 t813 x9_1).length c831_0] 61 (0, 0)) (by (with_reducible repeat (first | refine blk_drewN ?_ _ | refine blk_drew ?_ | refine blk_alloc ?_ _)); refine blk_put (cs := #[.slice Ao33 y828.length co33, .slice Ao25 y820.length co25]) ?_ 1 _ rfl; (with_reducible repeat (first | refine blk_drewN ?_ _ | refine blk_drew ?_ | refine blk_alloc ?_ _)); refine blk_put (cs := #[.slice A816_0 (rd_L2 t813 x9_1).length c816_0, .slice Ao25 y820.length co25]) ?_ 0 _ rfl; (with_reducible repeat (first | refine blk_drewN ?_ _ | refine blk_drew ?_ | refine blk_alloc ?_ _)); exact BK823.out) hb); replace HB := ax (below_step (xs HB.out GE823.out) hb); (try clear hb); have p833 : 0 ≤ (x9_1 : Int) := xd; have q833 : x9_1 < (t813.length : Int) := xd; obtain ⟨ad833, A833_0, c833_0, e833, hx833_0, hl833_0, hi833_0⟩ := at_L2 (Kd.N_reads' HO_8.out).2.2 x9_1 p833 q833; obtain rfl : ad816 = ad833 := (by injection e833); obtain ⟨ce833, hce833, hMe833, hcc833⟩ := Kd.N_get HO_8.out [] x9_1 p833 (by first | exact q833 | exact xd | (have e_ := (Kd.N_reads' HO_8.out).1; omega)); obtain ⟨ua833_0, uc833_0, rfl, ul833_0, ge833_0⟩ := Kd.FK_slice_open hMe833; have hv833_0 := hcc833 0 _ rfl; rw [Nat.add_zero, show ((Kd.slice 3 (Kd.int .i64))).sz = 1 from rfl, Nat.mul_one] at hv833_0; replace hv833_0 := Option.some.inj (hv833_0.symm.trans hx833_0); injection hv833_0 with hva_ hvn_ hvc_; rw [hva_] at ge833_0; rw [hvc_] at ul833_0; have HL833_0 := ax (show Kd.V (Kd.int .i64) 3 _ w.heap.size _ _ (rd_L2 t813 x9_1) from Kd.V_mk ul833_0 ge833_0); clear hva_ hvn_ hvc_ ge833_0 ul833_0; clear hcc833 hce833; have HR833_0 := ax hi833_0; have HC833_0 := ax hl833_0; clear hi833_0 hl833_0; replace p833 := eq_true p833; replace q833 := eq_true q833) | ((with_reducible refine gate_builtin (b := .append) (xs := #[.tmp 62, .tmp 67]) rfl ?_); at_builtin; refine Kd.N_append (Kd.slice 3 (Kd.int .i64)) (w0 := w) w.heap.size rfl (.tmp 62) (.tmp 67) 36 24 (.slice none 0 0) 24 rfl Tryz.underlying36 info24 rfl (by decide) (by omega) u7 x7_1 (rd_L2 t813 x9_1) [.slice A833_0 (rd_L2 t813 x9_1).length c833_0] (fun k_ => (w.heap.size ≤ k_) ∧ some k_ ≠ (.slice (some ad816) t813.length co17 : Value).ownBlock ∧ some k_ ≠ (.slice Ao25 y820.length co25 : Value).ownBlock ∧ some k_ ≠ (.slice Ao33 y828.length co33 : Value).ownBlock ∧ k_ ≠ gb823) (fun k_ => ((fun k_ => (w.heap.size ≤ k_) ∧ some k_ ≠ (.slice (some ad816) t813.length co17 : Value).ownBlock ∧ some k_ ≠ (.slice Ao25 y820.length co25 : Value).ownBlock ∧ some k_ ≠ (.slice Ao33 y828.length co33 : Value).ownBlock ∧ k_ ≠ gb823)) k_ ∧ some k_ ≠ (u7 : Value).ownBlock) rfl rfl ?aP (fun _ hk => hk) ?aF ?aO ?aB ?aS ?aL ?_; (case aP => exact (Kd.FK_slice_mk (Kd.V_reads' (Kd.V_mono (ok' := (fun k_ => ((fun k_ => (w.heap.size ≤ k_) ∧ some k_ ≠ (.slice (some ad816) t813.length co17 : Value).ownBlock ∧ some k_ ≠ (.slice Ao25 y820.length co25 : Value).ownBlock ∧ some k_ ≠ (.slice Ao33 y828.length co33 : Value).ownBlock ∧ k_ ≠ gb823)) k_ ∧ some k_ ≠ (u7 : Value).ownBlock)) (HL833_0.out) (fun k_ hk => ⟨⟨hk.1.1.1, ⟨hk.2, ⟨hk.1.1.2.2.1, ⟨hk.1.2, hk.1.1.2.2.2⟩⟩⟩⟩, hk.1.1.2.1⟩))).2.1 (Kd.V_F (Kd.V_mono (ok' := (fun k_ => ((fun k_ => (w.heap.size ≤ k_) ∧ some k_ ≠ (.slice (some ad816) t813.length co17 : Value).ownBlock ∧ some k_ ≠ (.slice Ao25 y820.length co25 : Value).ownBlock ∧ some k_ ≠ (.slice Ao33 y828.length co33 : Value).ownBlock ∧ k_ ≠ gb823)) k_ ∧ some k_ ≠ (u7 : Value).ownBlock)) (HL833_0.out) (fun k_ hk => ⟨⟨hk.1.1.1, ⟨hk.2, ⟨hk.1.1.2.2.1, ⟨hk.1.2, hk.1.1.2.2.2⟩⟩⟩⟩, hk.1.1.2.1⟩))))); (case aB => exact (xs HB.out GE823.out)); (case aF => exact (fun k_ hk => ⟨(Nat.le_trans (below_size (xs HB.out GE823.out)) hk), Kd.fresh' (Kd.N_lt (xN HO_8.out)) k_ hk, Kd.fresh' (Kd.R_lt (xR HO822.out)) k_ hk, Kd.fresh' (Kd.R_lt (xR HO830.out)) k_ hk, Kd.freshB (g := gb823) (o := .cells #[.slice Ao33 y828.length co33, .slice A831_0 (rd_L2 t813 x9_1).length c831_0] 61 (0, 0)) (xk BK823.out) k_ hk⟩)); (case aO => exact (by (with_reducible repeat (first | apply Kd.N_alloc | apply Kd.N_drewN | apply Kd.N_drew)); exact Kd.N_mono HO_7.out (by first | exact (fun _ hk => ⟨hk.1.1, ⟨hk.1.2.1, ⟨hk.1.2.2.1, ⟨hk.2, hk.1.2.2.2⟩⟩⟩⟩) | exact xi))); (case aS => exact (below_size (xs HB.out GE823.out))); (case aL => have := LMc16.out; omega); intro v835 w38 ho hb hg hat; rw [← Ny834.out] at ho; have n0_ := ax (Kd.N_afterv (ok := (fun k_ => (w.heap.size ≤ k_) ∧ some k_ ≠ (.slice Ao25 y820.length co25 : Value).ownBlock ∧ some k_ ≠ (.slice Ao33 y828.length co33 : Value).ownBlock ∧ k_ ≠ gb823)) (by (with_reducible repeat (first | apply Kd.N_alloc | apply Kd.N_drewN | apply Kd.N_drew)); exact Kd.N_mono HO_8.out (by first | exact (fun _ hk => ⟨⟨hk.1.1, ⟨hk.1.2.2.1, ⟨hk.2, hk.1.2.2.2⟩⟩⟩, hk.1.2.1⟩) | exact xi)) hg hat); have n1_ := ax (Kd.V_afterv (ok := (fun k_ => (w.heap.size ≤ k_) ∧ some k_ ≠ (.slice (some ad816) t813.length co17 : Value).ownBlock ∧ some k_ ≠ (.slice Ao25 y820.length co25 : Value).ownBlock ∧ some k_ ≠ (.slice Ao33 y828.length co33 : Value).ownBlock ∧ k_ ≠ gb823)) (by (with_reducible repeat (first | apply Kd.V_alloc | apply Kd.V_drewN | apply Kd.V_drew)); exact Kd.V_mono HL816_0.out (by first | exact (fun _ hk => ⟨⟨hk.1.1, ⟨hk.1.2.2.1, ⟨hk.1.2.2.2.1, ⟨hk.2, hk.1.2.2.2.2⟩⟩⟩⟩, hk.1.2.1⟩) | exact xi)) hg hat); have n2_ := ax (Kd.R_over' (xR HO822.out) (Kd.N_typed (xN HO_7.out)) (by decide) hg); have n3_ := ax (blk_grown (g := gb823) (o := .cells #[.slice Ao33 y828.length co33, .slice A831_0 (rd_L2 t813 x9_1).length c831_0] 61 (0, 0)) (xk BK823.out) hg (Kd.N_ne HO_7.out BK823.out (by decide))); have n4_ := ax (Kd.V_afterv (ok := (fun k_ => (w.heap.size ≤ k_) ∧ some k_ ≠ (.slice (some ad816) t813.length co17 : Value).ownBlock ∧ some k_ ≠ (.slice Ao25 y820.length co25 : Value).ownBlock ∧ some k_ ≠ (.slice Ao33 y828.length co33 : Value).ownBlock ∧ k_ ≠ gb823)) (by (with_reducible repeat (first | apply Kd.V_alloc | apply Kd.V_drewN | apply Kd.V_drew)); exact Kd.V_mono HL831_0.out (by first | exact (fun _ hk => ⟨⟨hk.1.1, ⟨hk.1.2.2.1, ⟨hk.1.2.2.2.1, ⟨hk.2, hk.1.2.2.2.2⟩⟩⟩⟩, hk.1.2.1⟩) | exact xi)) hg hat); have n5_ := ax (Kd.R_over' (xR HO830.out) (Kd.N_typed (xN HO_7.out)) (by decide) hg); have n6_ := ax (Kd.V_afterv (ok := (fun k_ => (w.heap.size ≤ k_) ∧ some k_ ≠ (.slice (some ad816) t813.length co17 : Value).ownBlock ∧ some k_ ≠ (.slice Ao25 y820.length co25 : Value).ownBlock ∧ some k_ ≠ (.slice Ao33 y828.length co33 : Value).ownBlock ∧ k_ ≠ gb823)) (by (with_reducible repeat (first | apply Kd.V_alloc | apply Kd.V_drewN | apply Kd.V_drew)); exact Kd.V_mono HL833_0.out (by first | exact (fun _ hk => ⟨⟨hk.1.1.1, ⟨hk.2, ⟨hk.1.1.2.2.1, ⟨hk.1.2, hk.1.1.2.2.2⟩⟩⟩⟩, hk.1.1.2.1⟩) | exact xi)) hg hat); have n7_ := ax (hb); have n8_ := ax (ho); clear HO_8; clear HL816_0; clear HO822; clear BK823; clear HL831_0; clear HO830; clear HL833_0; clear HB; clear HO_7; have HO_8 := n0_; have HL816_0 := n1_; have HO822 := n2_; have BK823 := n3_; have HL831_0 := n4_; have HO830 := n5_; have HL833_0 := n6_; have HB := n7_; have HO836 := n8_; clear n0_ n1_ n2_ n3_ n4_ n5_ n6_ n7_ n8_; clear ho hb hg hat))
     go_roundg k1
     case measure => have := HK1.out; omega
     case rel => exact ⟨(y834), (wrap64 (x9_1 + 1)), xr, H', ⟨by have := HK1.out; omega⟩, ⟨by (with_reducible repeat (first | apply Kd.N_alloc | apply Kd.N_drewN | apply Kd.N_drew)); exact Kd.N_mono HO836.out (fun _ hk => ⟨hk.1, hk.2.1⟩)⟩, ⟨by (with_reducible repeat (first | apply Kd.N_alloc | apply Kd.N_drewN | apply Kd.N_drew)); exact Kd.N_mono HO_8.out (fun _ hk => ⟨hk.1.1, hk.2⟩)⟩, ⟨xs HB.out GE823.out⟩⟩
    ·replace c15 := Bool.eq_false_iff.mpr c15
     subst c15
     rw [if_neg (show ¬ (false = true) by decide)] at H
     have H' := ax H
     clear H
     obtain ⟨Ao39, co39, eo39⟩ := Kd.N_slice HO_8.out
     subst eo39
     try go_wp2
     replace HO_7 := ax (Kd.N_drew HO_7.out); replace HO_8 := ax (Kd.N_drew HO_8.out); replace HB := ax (below_drew1 HB.out)
     have p816 : 0 ≤ (x9_1 : Int) := xd
     have q816 : x9_1 < (t813.length : Int) := xd
     obtain ⟨ad816, A816_0, c816_0, e816, hx816_0, hl816_0, hi816_0⟩ := at_L2 (Kd.N_reads' HO_8.out).2.2 x9_1 p816 q816
     cases e816
     obtain ⟨ce816, hce816, hMe816, hcc816⟩ := Kd.N_get HO_8.out [] x9_1 p816 (by first | exact q816 | exact xd | (have e_ := (Kd.N_reads' HO_8.out).1; omega))
     obtain ⟨ua816_0, uc816_0, rfl, ul816_0, ge816_0⟩ := Kd.FK_slice_open hMe816
     have hv816_0 := hcc816 0 _ rfl
     rw [Nat.add_zero, show ((Kd.slice 3 (Kd.int .i64))).sz = 1 from rfl, Nat.mul_one] at hv816_0
     replace hv816_0 := Option.some.inj (hv816_0.symm.trans hx816_0)
     injection hv816_0 with hva_ hvn_ hvc_
     rw [hva_] at ge816_0
     rw [hvc_] at ul816_0
     have HL816_0 := ax (show Kd.V (Kd.int .i64) 3 _ w.heap.size _ _ (rd_L2 t813 x9_1) from Kd.V_mk ul816_0 ge816_0)
     clear hva_ hvn_ hvc_ ge816_0 ul816_0 hcc816 hce816
     have HR816_0 := ax hi816_0
     have HC816_0 := ax hl816_0
     clear hi816_0 hl816_0
     replace p816 := eq_true p816
     replace q816 := eq_true q816
     refine start_ (n := 10) (S := fun w' => w'.cell? (ad816.add (x9_1).toNat) = some (.slice A816_0 (rd_L2 t813 x9_1).length c816_0)) (ds := []) (xB 10 0) (by kernel_rfl) rfl (by kernel_rfl) (hx816_0) (fun hHeld => ?_); refine with_tabW spec_l19Pick__2.tab6 spec_l19Pick__2.bits6 (fun HT_ HW_ => ?_)
     generalize wr.drew = w40 at HO_7 HO_8 HB HL816_0 HR816_0 hx816_0 hHeld ⊢
     refine pu (i := 0) (N := some 20) (xB 10 1) HT_.out ?_
     refine pu (i := 1) (N := some 21) (xB 10 3) HT_.out ?_
     refine pu (i := 2) (N := some 22) (xB 10 7) HT_.out ?_
     refine pu (i := 5) (N := some 25) (xB 10 39) HT_.out ?_
     refine tk (i := 3) (N := some 23) (xB 10 47) HT_.out HW_.out hHeld ?_
     refine join_ (σ := Value × Value × Nat) 1 (xB 10 511) (fun s_ => [(24, s_.1), (26, s_.2.1), (10, .pointer (some ⟨s_.2.2, 0, none⟩)), (27, .agg #[.slice A816_0 (rd_L2 t813 x9_1).length c816_0, s_.2.1])]) (fun s_ w' => (w'.cell? (ad816.add (x9_1).toNat) = some (.slice A816_0 (rd_L2 t813 x9_1).length c816_0)) ∧ (Kd.V (Kd.int .i64) 3 w' w.heap.size (fun k_ => (w.heap.size ≤ k_) ∧ some k_ ≠ (s_.2.1 : Value).ownBlock ∧ some k_ ≠ (u7 : Value).ownBlock ∧ some k_ ≠ (.slice (some ad816) t813.length co39 : Value).ownBlock ∧ k_ ≠ s_.2.2) (.slice A816_0 (rd_L2 t813 x9_1).length c816_0) (rd_L2 t813 x9_1)) ∧ (Kd.R (Kd.int .i64) 3 w' w.heap.size (fun k_ => (w.heap.size ≤ k_)) s_.2.1 y820) ∧ (Kd.N (Kd.slice 3 (Kd.int .i64)) 24 w' w.heap.size (fun k_ => (w.heap.size ≤ k_) ∧ some k_ ≠ (s_.2.1 : Value).ownBlock ∧ some k_ ≠ (.slice (some ad816) t813.length co39 : Value).ownBlock ∧ k_ ≠ s_.2.2) u7 x7_1) ∧ (Kd.N (Kd.slice 3 (Kd.int .i64)) 24 w' w.heap.size (fun k_ => (w.heap.size ≤ k_) ∧ some k_ ≠ (s_.2.1 : Value).ownBlock ∧ some k_ ≠ (u7 : Value).ownBlock ∧ k_ ≠ s_.2.2) (.slice (some ad816) t813.length co39) t813) ∧ (w'.heap[s_.2.2]? = some (.cells #[.slice none 0 0, .slice none 0 0] 61 (0, 0))) ∧ (w.heap.size ≤ s_.2.2) ∧ (w.heap.size ≤ s_.2.2) ∧ (Below w.heap.size w w')) ?_ ?_
     rotate_left
     ·intro hCont
      refine two_ (i := 4) (j := 8) (Ni := some 24) (Nj := some 10) (xB 10 63) (xB 10 303) rfl rfl rfl rfl (two_of HT_.out (by kernel_rfl)) (by decide) (by decide) (fun K hK => ?_) (fun K hK => ?_)
      ·skip
       refine Kd.R_lit_step (Kd.int .i64) _ 3 ?hg (N := 24) ?hd (xs := ([] : List Int)) (inner := []) (ok := fun _ => True) (okp := fun _ => True) ?hr ?hp (fun _ hk => hk) trivial (Below.refl _ _) (Nat.le_refl _) (by simp) ?_; (case hd => rfl); (case hg => rfl); (case hr => first | (go_simp; done) | (go_simp; rfl)); (case hp => exact (Reps.none _ _))
       intro v818 w41 ho42 hb hg_ hnew_
       have HS0_ := (hb.cell (World.block_lt_of_cell? _ _ (hHeld))).trans (hHeld)
       clear hg_ hnew_
       (first | rw [← Ny817.out] at ho42 | (simp only [Int.reduceToNat] at ho42; rw [← Ny817.out] at ho42))
       replace HO_7 := ax (Kd.N_elder' (xN HO_7.out) (Kd.R_base ho42) hb); replace HO_8 := ax (Kd.N_elder' (xN HO_8.out) (Kd.R_base ho42) hb); replace HL816_0 := ax (Kd.V_elder' (xV HL816_0.out) (Kd.R_base ho42) hb); have HO819 := ax (Kd.R_lower (Kd.R_newM (M := fun k_ => (w.heap.size ≤ k_)) ho42 (below_size (xb HB.out)) (fun k_ h_ => h_)) (below_size (xb HB.out))); replace HR816_0 := ax (Kd.C_below (xw HR816_0.out) hb); replace HB := yB HB hb; clear hb ho42
       refine hK.out _ _ (HS0_) (fun hHeld => ?_)
       clear hK K
       refine nm ?_
       refine two_ (i := 6) (j := 8) (Ni := some 26) (Nj := some 10) (xB 10 127) (xB 10 319) rfl rfl rfl rfl (two_of HT_.out (by kernel_rfl)) (by decide) (by decide) (fun K hK => ?_) (fun K hK => ?_)
       ·skip
        refine Kd.R_append_rows_step (Kd.int .i64) (w0 := w) w.heap.size (by rfl) (.tmp 24) (.tmp 25) 24 3 (.int .i64 0) 8 rfl Tryz.underlying24 info3 rfl (by decide) (by omega) v818 y817 l0 _ _ _ (fun k_ => (w.heap.size ≤ k_)) (fun _ => False) rfl rfl ?aO ?aR (fun _ _ h => h) (fun _ h => h.elim) ?aF ?aB ?aS ?aL ?_
        (case aR => exact xz HR0.out HB.out)
        (case aB => exact (xb HB.out))
        (case aF => exact (fun k_ hk => (Nat.le_trans (below_size (xb HB.out)) hk)))
        (case aO => exact (by (with_reducible repeat (first | apply Kd.R_alloc | apply Kd.R_drewN | apply Kd.R_drew)); exact Kd.R_mono HO819.out (fun _ hk => hk.1)))
        (case aS => exact (below_size (xb HB.out)))
        (case aL => have := LMc10.out; omega)
        intro v821 w43 ho hb hg hat
        have HS0_ := cell_grown hg (hHeld) (by first | (rw [add_block]; exact (fun e_ => by obtain ⟨cs_, hc_⟩ := Kd.N_typed HO_8.out _ rfl; exact Kd.R_ne HO819.out hc_ (by decide) e_)) | (show some (Addr.add _ _).block ≠ _; rw [add_block]; exact (fun e_ => by obtain ⟨cs_, hc_⟩ := Kd.N_typed HO_8.out _ rfl; exact Kd.R_ne HO819.out hc_ (by decide) e_)) | exact (fun e_ => by obtain ⟨cs_, hc_⟩ := Kd.N_typed HO_8.out _ rfl; exact Kd.R_ne HO819.out hc_ (by decide) e_))
        rw [← Ny820.out] at ho
        have n0_ := ax (Kd.N_afterv (ok := (fun k_ => (w.heap.size ≤ k_) ∧ some k_ ≠ (.slice (some ad816) t813.length co39 : Value).ownBlock)) (xN HO_7.out) hg hat)
        have n1_ := ax (Kd.N_afterv (ok := (fun k_ => (w.heap.size ≤ k_) ∧ some k_ ≠ (u7 : Value).ownBlock)) (xN HO_8.out) hg hat)
        have n2_ := ax (Kd.V_afterv (ok := (fun k_ => (w.heap.size ≤ k_) ∧ some k_ ≠ (u7 : Value).ownBlock ∧ some k_ ≠ (.slice (some ad816) t813.length co39 : Value).ownBlock)) (by (with_reducible repeat (first | apply Kd.V_alloc | apply Kd.V_drewN | apply Kd.V_drew)); exact Kd.V_mono HL816_0.out (by first | exact (fun _ hk => ⟨⟨hk.1.1.1, ⟨hk.1.1.2, hk.1.2⟩⟩, hk.2⟩) | exact xi)) hg hat)
        have n3_ := ax (hb)
        have n4_ := ax (ho)
        clear HO_7 HO_8 HL816_0 HB HO819
        have HO_7 := n0_
        have HO_8 := n1_
        have HL816_0 := n2_
        have HB := n3_
        have HO822 := n4_
        clear n0_ n1_ n2_ n3_ n4_ ho hb hg hat
        obtain ⟨Ao44, co44, eo44⟩ := Kd.R_slice HO822.out
        (first | subst eo44 | (injection eo44 with f1_ f2_ f3_; have f4_ := f1_.symm; have f5_ := f3_.symm; clear f1_ f2_ f3_; subst f4_; subst f5_))
        refine hK.out _ _ (HS0_) (fun hHeld => ?_)
        clear hK K
        refine nm ?_
        refine pu (i := 7) (N := some 27) (xB 10 255) HT_.out ?_
        refine one_ (i := 8) (N := some 10) (xB 10 511) rfl rfl (one_of HT_.out (by kernel_rfl)) (by decide) (fun K hK => ?_)
        refine box_step ?hg (N := 10) ?hd (cs := #[.slice none 0 0, .slice none 0 0]) (t := 61) ?hr ?_; (case hd => rfl); (case hg => rfl); (case hr => first | (go_simp; done) | (go_simp; rfl))
        intro gb823 hg w45 hbox hb
        have HS0_ := (hb.cell (World.block_lt_of_cell? _ _ (hHeld))).trans (hHeld)
        replace HO_7 := ax (Kd.N_below (Kd.N_elderB (xN HO_7.out) gb823 (Nat.le_of_eq hg.symm)) hb); replace HO_8 := ax (Kd.N_below (Kd.N_elderB (xN HO_8.out) gb823 (Nat.le_of_eq hg.symm)) hb); replace HL816_0 := ax (Kd.V_below (Kd.V_elderB (xV HL816_0.out) gb823 (Nat.le_of_eq hg.symm)) hb); replace HO822 := yR HO822 hb; have BK823 := ax (hbox); have GW823 := ax ((by rw [hg]; exact (below_size (xb HB.out)) : w.heap.size ≤ gb823)); have GE823 := ax ((by rw [hg]; exact (below_size (xb HB.out)) : w.heap.size ≤ gb823)); replace HB := yB HB hb; clear hb hbox hg
        refine hK.out _ _ (HS0_) (fun hHeld => ?_)
        clear hK K
        refine nm ?_
        exact norm_ (by simp only [putAll, Act.put, List.setIfInBounds_toArray, List.set_cons_zero, List.set_cons_succ]) (hCont (v818, .slice Ao44 y820.length co44, gb823) _ ⟨hHeld, (by (with_reducible repeat (first | apply Kd.V_alloc | apply Kd.V_drewN | apply Kd.V_drew)); exact Kd.V_mono HL816_0.out (by first | exact (fun _ hk => ⟨hk.1.1.1, ⟨hk.1.2, ⟨hk.1.1.2.1, ⟨hk.1.1.2.2, hk.2⟩⟩⟩⟩) | exact xi)), (xR HO822.out), (by (with_reducible repeat (first | apply Kd.N_alloc | apply Kd.N_drewN | apply Kd.N_drew)); exact Kd.N_mono HO_7.out (by first | exact (fun _ hk => ⟨hk.1.1.1, ⟨hk.1.2, ⟨hk.1.1.2, hk.2⟩⟩⟩) | exact xi)), (by (with_reducible repeat (first | apply Kd.N_alloc | apply Kd.N_drewN | apply Kd.N_drew)); exact Kd.N_mono HO_8.out (by first | exact (fun _ hk => ⟨hk.1.1.1, ⟨hk.1.2, ⟨hk.1.1.2, hk.2⟩⟩⟩) | exact xi)), (xk BK823.out), GW823.out, GE823.out, (xs HB.out GE823.out)⟩)
       ·skip
        refine box_step ?hg (N := 10) ?hd (cs := #[.slice none 0 0, .slice none 0 0]) (t := 61) ?hr ?_; (case hd => rfl); (case hg => rfl); (case hr => first | (go_simp; done) | (go_simp; rfl))
        intro gb823 hg w43 hbox hb
        have HS0_ := (hb.cell (World.block_lt_of_cell? _ _ (hHeld))).trans (hHeld)
        replace HO_7 := ax (Kd.N_below (Kd.N_elderB (xN HO_7.out) gb823 (Nat.le_of_eq hg.symm)) hb); replace HO_8 := ax (Kd.N_below (Kd.N_elderB (xN HO_8.out) gb823 (Nat.le_of_eq hg.symm)) hb); replace HL816_0 := ax (Kd.V_below (Kd.V_elderB (xV HL816_0.out) gb823 (Nat.le_of_eq hg.symm)) hb); replace HO819 := yR HO819 hb; replace HR816_0 := ax (Kd.C_below (xw HR816_0.out) hb); have BK823 := ax (hbox); have GW823 := ax ((by rw [hg]; exact (below_size (xb HB.out)) : w.heap.size ≤ gb823)); have GE823 := ax ((by rw [hg]; exact (below_size (xb HB.out)) : w.heap.size ≤ gb823)); replace HB := yB HB hb; clear hb hbox hg
        refine hK.out _ _ (HS0_) (fun hHeld => ?_)
        clear hK K
        refine nm ?_
        refine one_ (i := 6) (N := some 26) (xB 10 383) rfl rfl (one_of HT_.out (by kernel_rfl)) (by decide) (fun K hK => ?_)
        refine Kd.R_append_rows_step (Kd.int .i64) (w0 := w) w.heap.size (by rfl) (.tmp 24) (.tmp 25) 24 3 (.int .i64 0) 8 rfl Tryz.underlying24 info3 rfl (by decide) (by omega) v818 y817 l0 _ _ _ (fun k_ => (w.heap.size ≤ k_)) (fun _ => False) rfl rfl ?aO ?aR (fun _ _ h => h) (fun _ h => h.elim) ?aF ?aB ?aS ?aL ?_
        (case aR => exact xz HR0.out HB.out)
        (case aB => exact (xs HB.out GE823.out))
        (case aF => exact (fun k_ hk => (Nat.le_trans (below_size (xs HB.out GE823.out)) hk)))
        (case aO => exact (by (with_reducible repeat (first | apply Kd.R_alloc | apply Kd.R_drewN | apply Kd.R_drew)); exact Kd.R_mono HO819.out (fun _ hk => hk.1)))
        (case aS => exact (below_size (xs HB.out GE823.out)))
        (case aL => have := LMc10.out; omega)
        intro v821 w44 ho hb hg hat
        have HS0_ := cell_grown hg (hHeld) (by first | (rw [add_block]; exact (fun e_ => by obtain ⟨cs_, hc_⟩ := Kd.N_typed HO_8.out _ rfl; exact Kd.R_ne HO819.out hc_ (by decide) e_)) | (show some (Addr.add _ _).block ≠ _; rw [add_block]; exact (fun e_ => by obtain ⟨cs_, hc_⟩ := Kd.N_typed HO_8.out _ rfl; exact Kd.R_ne HO819.out hc_ (by decide) e_)) | exact (fun e_ => by obtain ⟨cs_, hc_⟩ := Kd.N_typed HO_8.out _ rfl; exact Kd.R_ne HO819.out hc_ (by decide) e_))
        rw [← Ny820.out] at ho
        have n0_ := ax (Kd.N_afterv (ok := (fun k_ => (w.heap.size ≤ k_) ∧ some k_ ≠ (.slice (some ad816) t813.length co39 : Value).ownBlock ∧ k_ ≠ gb823)) (by (with_reducible repeat (first | apply Kd.N_alloc | apply Kd.N_drewN | apply Kd.N_drew)); exact Kd.N_mono HO_7.out (by first | exact (fun _ hk => ⟨⟨hk.1.1.1, ⟨hk.1.1.2, hk.2⟩⟩, hk.1.2⟩) | exact xi)) hg hat)
        have n1_ := ax (Kd.N_afterv (ok := (fun k_ => (w.heap.size ≤ k_) ∧ some k_ ≠ (u7 : Value).ownBlock ∧ k_ ≠ gb823)) (by (with_reducible repeat (first | apply Kd.N_alloc | apply Kd.N_drewN | apply Kd.N_drew)); exact Kd.N_mono HO_8.out (by first | exact (fun _ hk => ⟨⟨hk.1.1.1, ⟨hk.1.1.2, hk.2⟩⟩, hk.1.2⟩) | exact xi)) hg hat)
        have n2_ := ax (Kd.V_afterv (ok := (fun k_ => (w.heap.size ≤ k_) ∧ some k_ ≠ (u7 : Value).ownBlock ∧ some k_ ≠ (.slice (some ad816) t813.length co39 : Value).ownBlock ∧ k_ ≠ gb823)) (by (with_reducible repeat (first | apply Kd.V_alloc | apply Kd.V_drewN | apply Kd.V_drew)); exact Kd.V_mono HL816_0.out (by first | exact (fun _ hk => ⟨⟨hk.1.1.1.1, ⟨hk.1.1.1.2, ⟨hk.1.1.2, hk.2⟩⟩⟩, hk.1.2⟩) | exact xi)) hg hat)
        have n3_ := ax (blk_grown (g := gb823) (o := .cells #[.slice none 0 0, .slice none 0 0] 61 (0, 0)) (xk BK823.out) hg (Kd.R_ne HO819.out BK823.out (by decide)))
        have n4_ := ax (hb)
        have n5_ := ax (ho)
        clear HO_7 HO_8 HL816_0 BK823 HB HO819
        have HO_7 := n0_
        have HO_8 := n1_
        have HL816_0 := n2_
        have BK823 := n3_
        have HB := n4_
        have HO822 := n5_
        clear n0_ n1_ n2_ n3_ n4_ n5_ ho hb hg hat
        obtain ⟨Ao45, co45, eo45⟩ := Kd.R_slice HO822.out
        (first | subst eo45 | (injection eo45 with f1_ f2_ f3_; have f4_ := f1_.symm; have f5_ := f3_.symm; clear f1_ f2_ f3_; subst f4_; subst f5_))
        refine hK.out _ _ (HS0_) (fun hHeld => ?_)
        clear hK K
        refine nm ?_
        refine pu (i := 7) (N := some 27) (xB 10 511) HT_.out ?_
        exact norm_ (by simp only [putAll, Act.put, List.setIfInBounds_toArray, List.set_cons_zero, List.set_cons_succ]) (hCont (v818, .slice Ao45 y820.length co45, gb823) _ ⟨hHeld, (by (with_reducible repeat (first | apply Kd.V_alloc | apply Kd.V_drewN | apply Kd.V_drew)); exact Kd.V_mono HL816_0.out (by first | exact (fun _ hk => ⟨hk.1.1, ⟨hk.2, ⟨hk.1.2.1, ⟨hk.1.2.2.1, hk.1.2.2.2⟩⟩⟩⟩) | exact xi)), (xR HO822.out), (by (with_reducible repeat (first | apply Kd.N_alloc | apply Kd.N_drewN | apply Kd.N_drew)); exact Kd.N_mono HO_7.out (by first | exact (fun _ hk => ⟨hk.1.1, ⟨hk.2, ⟨hk.1.2.1, hk.1.2.2⟩⟩⟩) | exact xi)), (by (with_reducible repeat (first | apply Kd.N_alloc | apply Kd.N_drewN | apply Kd.N_drew)); exact Kd.N_mono HO_8.out (by first | exact (fun _ hk => ⟨hk.1.1, ⟨hk.2, ⟨hk.1.2.1, hk.1.2.2⟩⟩⟩) | exact xi)), (xk BK823.out), GW823.out, GE823.out, (xs HB.out GE823.out)⟩)
      ·skip
       refine box_step ?hg (N := 10) ?hd (cs := #[.slice none 0 0, .slice none 0 0]) (t := 61) ?hr ?_; (case hd => rfl); (case hg => rfl); (case hr => first | (go_simp; done) | (go_simp; rfl))
       intro gb823 hg w41 hbox hb
       have HS0_ := (hb.cell (World.block_lt_of_cell? _ _ (hHeld))).trans (hHeld)
       replace HO_7 := ax (Kd.N_below (Kd.N_elderB (xN HO_7.out) gb823 (Nat.le_of_eq hg.symm)) hb); replace HO_8 := ax (Kd.N_below (Kd.N_elderB (xN HO_8.out) gb823 (Nat.le_of_eq hg.symm)) hb); replace HL816_0 := ax (Kd.V_below (Kd.V_elderB (xV HL816_0.out) gb823 (Nat.le_of_eq hg.symm)) hb); replace HR816_0 := ax (Kd.C_below (xw HR816_0.out) hb); have BK823 := ax (hbox); have GW823 := ax ((by rw [hg]; exact (below_size (xb HB.out)) : w.heap.size ≤ gb823)); have GE823 := ax ((by rw [hg]; exact (below_size (xb HB.out)) : w.heap.size ≤ gb823)); replace HB := yB HB hb; clear hb hbox hg
       refine hK.out _ _ (HS0_) (fun hHeld => ?_)
       clear hK K
       refine nm ?_
       refine one_ (i := 4) (N := some 24) (xB 10 319) rfl rfl (one_of HT_.out (by kernel_rfl)) (by decide) (fun K hK => ?_)
       refine Kd.R_lit_step (Kd.int .i64) _ 3 ?hg (N := 24) ?hd (xs := ([] : List Int)) (inner := []) (ok := fun _ => True) (okp := fun _ => True) ?hr ?hp (fun _ hk => hk) trivial (Below.refl _ _) (Nat.le_refl _) (by simp) ?_; (case hd => rfl); (case hg => rfl); (case hr => first | (go_simp; done) | (go_simp; rfl)); (case hp => exact (Reps.none _ _))
       intro v818 w42 ho43 hb hg_ hnew_
       have HS0_ := (hb.cell (World.block_lt_of_cell? _ _ (hHeld))).trans (hHeld)
       clear hg_ hnew_
       (first | rw [← Ny817.out] at ho43 | (simp only [Int.reduceToNat] at ho43; rw [← Ny817.out] at ho43))
       replace HO_7 := ax (Kd.N_elder' (xN HO_7.out) (Kd.R_base ho43) hb); replace HO_8 := ax (Kd.N_elder' (xN HO_8.out) (Kd.R_base ho43) hb); replace HL816_0 := ax (Kd.V_elder' (xV HL816_0.out) (Kd.R_base ho43) hb); have HO819 := ax (Kd.R_lower (Kd.R_newM (M := fun k_ => (w.heap.size ≤ k_)) ho43 (below_size (xs HB.out GE823.out)) (fun k_ h_ => h_)) (below_size (xs HB.out GE823.out))); replace HR816_0 := ax (Kd.C_below (xw HR816_0.out) hb); replace BK823 := ax (blk_below (g := gb823) (o := .cells #[.slice none 0 0, .slice none 0 0] 61 (0, 0)) (xk BK823.out) hb); replace HB := ax (below_step (xs HB.out GE823.out) hb); clear hb ho43
       refine hK.out _ _ (HS0_) (fun hHeld => ?_)
       clear hK K
       refine nm ?_
       refine one_ (i := 6) (N := some 26) (xB 10 383) rfl rfl (one_of HT_.out (by kernel_rfl)) (by decide) (fun K hK => ?_)
       refine Kd.R_append_rows_step (Kd.int .i64) (w0 := w) w.heap.size (by rfl) (.tmp 24) (.tmp 25) 24 3 (.int .i64 0) 8 rfl Tryz.underlying24 info3 rfl (by decide) (by omega) v818 y817 l0 _ _ _ (fun k_ => (w.heap.size ≤ k_)) (fun _ => False) rfl rfl ?aO ?aR (fun _ _ h => h) (fun _ h => h.elim) ?aF ?aB ?aS ?aL ?_
       (case aR => exact xz HR0.out HB.out)
       (case aB => exact (xs HB.out GE823.out))
       (case aF => exact (fun k_ hk => (Nat.le_trans (below_size (xs HB.out GE823.out)) hk)))
       (case aO => exact (by (with_reducible repeat (first | apply Kd.R_alloc | apply Kd.R_drewN | apply Kd.R_drew)); exact Kd.R_mono HO819.out (fun _ hk => hk.1)))
       (case aS => exact (below_size (xs HB.out GE823.out)))
       (case aL => have := LMc10.out; omega)
       intro v821 w44 ho hb hg hat
       have HS0_ := cell_grown hg (hHeld) (by first | (rw [add_block]; exact (fun e_ => by obtain ⟨cs_, hc_⟩ := Kd.N_typed HO_8.out _ rfl; exact Kd.R_ne HO819.out hc_ (by decide) e_)) | (show some (Addr.add _ _).block ≠ _; rw [add_block]; exact (fun e_ => by obtain ⟨cs_, hc_⟩ := Kd.N_typed HO_8.out _ rfl; exact Kd.R_ne HO819.out hc_ (by decide) e_)) | exact (fun e_ => by obtain ⟨cs_, hc_⟩ := Kd.N_typed HO_8.out _ rfl; exact Kd.R_ne HO819.out hc_ (by decide) e_))
       rw [← Ny820.out] at ho
       have n0_ := ax (Kd.N_afterv (ok := (fun k_ => (w.heap.size ≤ k_) ∧ some k_ ≠ (.slice (some ad816) t813.length co39 : Value).ownBlock ∧ k_ ≠ gb823)) (by (with_reducible repeat (first | apply Kd.N_alloc | apply Kd.N_drewN | apply Kd.N_drew)); exact Kd.N_mono HO_7.out (by first | exact (fun _ hk => ⟨⟨hk.1.1.1, ⟨hk.1.1.2, hk.1.2⟩⟩, hk.2⟩) | exact xi)) hg hat)
       have n1_ := ax (Kd.N_afterv (ok := (fun k_ => (w.heap.size ≤ k_) ∧ some k_ ≠ (u7 : Value).ownBlock ∧ k_ ≠ gb823)) (by (with_reducible repeat (first | apply Kd.N_alloc | apply Kd.N_drewN | apply Kd.N_drew)); exact Kd.N_mono HO_8.out (by first | exact (fun _ hk => ⟨⟨hk.1.1.1, ⟨hk.1.1.2, hk.1.2⟩⟩, hk.2⟩) | exact xi)) hg hat)
       have n2_ := ax (Kd.V_afterv (ok := (fun k_ => (w.heap.size ≤ k_) ∧ some k_ ≠ (u7 : Value).ownBlock ∧ some k_ ≠ (.slice (some ad816) t813.length co39 : Value).ownBlock ∧ k_ ≠ gb823)) (by (with_reducible repeat (first | apply Kd.V_alloc | apply Kd.V_drewN | apply Kd.V_drew)); exact Kd.V_mono HL816_0.out (by first | exact (fun _ hk => ⟨⟨hk.1.1.1.1, ⟨hk.1.1.1.2, ⟨hk.1.1.2, hk.1.2⟩⟩⟩, hk.2⟩) | exact xi)) hg hat)
       have n3_ := ax (blk_grown (g := gb823) (o := .cells #[.slice none 0 0, .slice none 0 0] 61 (0, 0)) (xk BK823.out) hg (Kd.R_ne HO819.out BK823.out (by decide)))
       have n4_ := ax (hb)
       have n5_ := ax (ho)
       clear HO_7 HO_8 HL816_0 BK823 HB HO819
       have HO_7 := n0_
       have HO_8 := n1_
       have HL816_0 := n2_
       have BK823 := n3_
       have HB := n4_
       have HO822 := n5_
       clear n0_ n1_ n2_ n3_ n4_ n5_ ho hb hg hat
       obtain ⟨Ao45, co45, eo45⟩ := Kd.R_slice HO822.out
       (first | subst eo45 | (injection eo45 with f1_ f2_ f3_; have f4_ := f1_.symm; have f5_ := f3_.symm; clear f1_ f2_ f3_; subst f4_; subst f5_))
       refine hK.out _ _ (HS0_) (fun hHeld => ?_)
       clear hK K
       refine nm ?_
       refine pu (i := 7) (N := some 27) (xB 10 511) HT_.out ?_
       exact norm_ (by simp only [putAll, Act.put, List.setIfInBounds_toArray, List.set_cons_zero, List.set_cons_succ]) (hCont (v818, .slice Ao45 y820.length co45, gb823) _ ⟨hHeld, (by (with_reducible repeat (first | apply Kd.V_alloc | apply Kd.V_drewN | apply Kd.V_drew)); exact Kd.V_mono HL816_0.out (by first | exact (fun _ hk => ⟨hk.1.1, ⟨hk.2, ⟨hk.1.2.1, ⟨hk.1.2.2.1, hk.1.2.2.2⟩⟩⟩⟩) | exact xi)), (xR HO822.out), (by (with_reducible repeat (first | apply Kd.N_alloc | apply Kd.N_drewN | apply Kd.N_drew)); exact Kd.N_mono HO_7.out (by first | exact (fun _ hk => ⟨hk.1.1, ⟨hk.2, ⟨hk.1.2.1, hk.1.2.2⟩⟩⟩) | exact xi)), (by (with_reducible repeat (first | apply Kd.N_alloc | apply Kd.N_drewN | apply Kd.N_drew)); exact Kd.N_mono HO_8.out (by first | exact (fun _ hk => ⟨hk.1.1, ⟨hk.2, ⟨hk.1.2.1, hk.1.2.2⟩⟩⟩) | exact xi)), (xk BK823.out), GW823.out, GE823.out, (xs HB.out GE823.out)⟩)
     rintro ⟨v818, v821, gb823⟩ w46 ⟨hS_, h0_, h1_, h2_, h3_, h4_, h5_, h6_, h7_⟩
     have n0_ : Aside0 (Kd.V (Kd.int .i64) 3 w46 w.heap.size (fun k_ => (w.heap.size ≤ k_) ∧ some k_ ≠ (v821 : Value).ownBlock ∧ some k_ ≠ (u7 : Value).ownBlock ∧ some k_ ≠ (.slice (some ad816) t813.length co39 : Value).ownBlock ∧ k_ ≠ gb823) (.slice A816_0 (rd_L2 t813 x9_1).length c816_0) (rd_L2 t813 x9_1)) := ⟨h0_⟩
     have n1_ : Aside0 (Kd.R (Kd.int .i64) 3 w46 w.heap.size (fun k_ => (w.heap.size ≤ k_)) v821 y820) := ⟨h1_⟩
     have n2_ : Aside0 (Kd.N (Kd.slice 3 (Kd.int .i64)) 24 w46 w.heap.size (fun k_ => (w.heap.size ≤ k_) ∧ some k_ ≠ (v821 : Value).ownBlock ∧ some k_ ≠ (.slice (some ad816) t813.length co39 : Value).ownBlock ∧ k_ ≠ gb823) u7 x7_1) := ⟨h2_⟩
     have n3_ : Aside0 (Kd.N (Kd.slice 3 (Kd.int .i64)) 24 w46 w.heap.size (fun k_ => (w.heap.size ≤ k_) ∧ some k_ ≠ (v821 : Value).ownBlock ∧ some k_ ≠ (u7 : Value).ownBlock ∧ k_ ≠ gb823) (.slice (some ad816) t813.length co39) t813) := ⟨h3_⟩
     have n4_ : Aside0 (w46.heap[gb823]? = some (.cells #[.slice none 0 0, .slice none 0 0] 61 (0, 0))) := ⟨h4_⟩
     have n5_ : Aside0 (w.heap.size ≤ gb823) := ⟨h5_⟩
     have n6_ : Aside0 (w.heap.size ≤ gb823) := ⟨h6_⟩
     have n7_ : Aside0 (Below w.heap.size w w46) := ⟨h7_⟩
     clear HO_7 HO_8 HB h0_ h1_ h2_ h3_ h4_ h5_ h6_ h7_
     have HL816_0 := n0_
     have HO822 := n1_
     have HO_7 := n2_
     have HO_8 := n3_
     have BK823 := n4_
     have GW823 := n5_
     have GE823 := n6_
     have HB := n7_
     clear n0_ n1_ n2_ n3_ n4_ n5_ n6_ n7_
     have hHeld : w46.cell? (ad816.add (x9_1).toNat) = some (.slice A816_0 (rd_L2 t813 x9_1).length c816_0) := hS_
     obtain ⟨Ao47, co47, eo47⟩ := Kd.R_slice HO822.out
     (first | subst eo47 | (injection eo47 with f1_ f2_ f3_; have f4_ := f1_.symm; have f5_ := f3_.symm; clear f1_ f2_ f3_; subst f4_; subst f5_))
     refine norm_ (a' := ?_) ?_ ?_
     rotate_left
     ·simp only [putAll, Act.put, List.setIfInBounds_toArray, List.set_cons_zero, List.set_cons_succ]
      rfl
     refine one_ (i := 9) (N := none) (xB 10 1023) rfl rfl (one_of HT_.out (by kernel_rfl)) (by decide) (fun K hK => ?_)
     have hs48 : w46.cell? ⟨gb823, 0, none⟩ = some (.slice none 0 0) := (blk_cell BK823.out 0).trans rfl
     have hfs48 := blk_frozen BK823.out 0
     have hs49 : w46.cell? ⟨gb823, 1, none⟩ = some (.slice none 0 0) := (blk_cell BK823.out 1).trans rfl
     have hfs49 := blk_frozen BK823.out 1
     refine skip_ (w1 := ?_) (by rfl) rfl ?_ ?_
     rotate_left
     ·go_simp
      rfl
     refine hK.out _ _ (((cell_far (p := ⟨gb823, _, none⟩) (by first | exact Kd.own_blk (Kd.N_away HO_8.out (fun _ hk => hk.2.2.2)) | (rw [add_block]; exact Kd.own_blk (Kd.N_away HO_8.out (fun _ hk => hk.2.2.2))) | (show (Addr.add _ _).block ≠ _; rw [add_block]; exact Kd.own_blk (Kd.N_away HO_8.out (fun _ hk => hk.2.2.2))) | (dsimp only; exact Kd.own_blk (Kd.N_away HO_8.out (fun _ hk => hk.2.2.2)))) _).trans (((cell_far (p := ⟨gb823, _, none⟩) (by first | exact Kd.own_blk (Kd.N_away HO_8.out (fun _ hk => hk.2.2.2)) | (rw [add_block]; exact Kd.own_blk (Kd.N_away HO_8.out (fun _ hk => hk.2.2.2))) | (show (Addr.add _ _).block ≠ _; rw [add_block]; exact Kd.own_blk (Kd.N_away HO_8.out (fun _ hk => hk.2.2.2))) | (dsimp only; exact Kd.own_blk (Kd.N_away HO_8.out (fun _ hk => hk.2.2.2)))) _).trans (hHeld))))) (fun hHeld => ?_)
     clear hK K
     refine done_ (done_of HT_.out (by kernel_rfl)) ?_
     try go_wp2_with (first | ((with_reducible refine gate_callee (f := 36) rfl ?_); refine goesL_ (some 30) rfl rfl Tryz.func36 (by kernel_rfl) rfl #[.slice A0 l0.length c0] rfl xm ?_; (with_reducible refine (spec_l2Size.calls k1 _ _ l0 t824 _ ?side1 ?side2 A11.out).mono ?_); (case side1 => exact Kd.C_below HR0.out (xs HB.out GE823.out)); (case side2 => exact HC0.out); rintro e w' ⟨rfl, ⟨nd, rfl⟩⟩; refine ⟨_, rfl, ?_⟩))
     have n0_ : Aside0 (Kd.N (Kd.slice 3 (Kd.int .i64)) 24 ((w46.setCell ⟨gb823, 0, none⟩ (.slice A816_0 (rd_L2 t813 x9_1).length c816_0)).setCell ⟨gb823, 1, none⟩ (.slice Ao47 y820.length co47)) w.heap.size (fun k_ => (w.heap.size ≤ k_) ∧ some k_ ≠ (.slice (some ad816) t813.length co39 : Value).ownBlock ∧ some k_ ≠ (.slice Ao47 y820.length co47 : Value).ownBlock ∧ k_ ≠ gb823) u7 x7_1) := ⟨by (with_reducible repeat (first | apply Kd.N_alloc | apply Kd.N_drewN | apply Kd.N_drew)); exact Kd.N_mono (Kd.N_far (p := ⟨gb823, 1, none⟩) (Kd.N_far (p := ⟨gb823, 0, none⟩) (Kd.N_mono HO_7.out (fun k_ hk => (⟨hk, hk.2.2.2⟩ : _ ∧ k_ ≠ gb823))) (fun _ hk => hk.2) (.slice A816_0 (rd_L2 t813 x9_1).length c816_0)) (fun _ hk => hk.2) (.slice Ao47 y820.length co47)) (fun _ hk => ⟨hk.1.1, ⟨hk.1.2.2.1, ⟨hk.1.2.1, hk.1.2.2.2⟩⟩⟩)⟩
     have n1_ : Aside0 (Kd.N (Kd.slice 3 (Kd.int .i64)) 24 ((w46.setCell ⟨gb823, 0, none⟩ (.slice A816_0 (rd_L2 t813 x9_1).length c816_0)).setCell ⟨gb823, 1, none⟩ (.slice Ao47 y820.length co47)) w.heap.size (fun k_ => (w.heap.size ≤ k_) ∧ some k_ ≠ (u7 : Value).ownBlock ∧ some k_ ≠ (.slice Ao47 y820.length co47 : Value).ownBlock ∧ k_ ≠ gb823) (.slice (some ad816) t813.length co39) t813) := ⟨by (with_reducible repeat (first | apply Kd.N_alloc | apply Kd.N_drewN | apply Kd.N_drew)); exact Kd.N_mono (Kd.N_far (p := ⟨gb823, 1, none⟩) (Kd.N_far (p := ⟨gb823, 0, none⟩) (Kd.N_mono HO_8.out (fun k_ hk => (⟨hk, hk.2.2.2⟩ : _ ∧ k_ ≠ gb823))) (fun _ hk => hk.2) (.slice A816_0 (rd_L2 t813 x9_1).length c816_0)) (fun _ hk => hk.2) (.slice Ao47 y820.length co47)) (fun _ hk => ⟨hk.1.1, ⟨hk.1.2.2.1, ⟨hk.1.2.1, hk.1.2.2.2⟩⟩⟩)⟩
     have n2_ : Aside0 (Kd.V (Kd.int .i64) 3 ((w46.setCell ⟨gb823, 0, none⟩ (.slice A816_0 (rd_L2 t813 x9_1).length c816_0)).setCell ⟨gb823, 1, none⟩ (.slice Ao47 y820.length co47)) w.heap.size (fun k_ => (w.heap.size ≤ k_) ∧ some k_ ≠ (u7 : Value).ownBlock ∧ some k_ ≠ (.slice (some ad816) t813.length co39 : Value).ownBlock ∧ some k_ ≠ (.slice Ao47 y820.length co47 : Value).ownBlock ∧ k_ ≠ gb823) (.slice A816_0 (rd_L2 t813 x9_1).length c816_0) (rd_L2 t813 x9_1)) := ⟨by (with_reducible repeat (first | apply Kd.V_alloc | apply Kd.V_drewN | apply Kd.V_drew)); exact Kd.V_mono (Kd.V_far (p := ⟨gb823, 1, none⟩) (Kd.V_far (p := ⟨gb823, 0, none⟩) (Kd.V_mono HL816_0.out (fun k_ hk => (⟨hk, hk.2.2.2.2⟩ : _ ∧ k_ ≠ gb823))) (fun _ hk => hk.2) (.slice A816_0 (rd_L2 t813 x9_1).length c816_0)) (fun _ hk => hk.2) (.slice Ao47 y820.length co47)) (fun _ hk => ⟨hk.1.1, ⟨hk.1.2.2.1, ⟨hk.1.2.2.2.1, ⟨hk.1.2.1, hk.1.2.2.2.2⟩⟩⟩⟩)⟩
     have n3_ : Aside0 (Kd.R (Kd.int .i64) 3 ((w46.setCell ⟨gb823, 0, none⟩ (.slice A816_0 (rd_L2 t813 x9_1).length c816_0)).setCell ⟨gb823, 1, none⟩ (.slice Ao47 y820.length co47)) w.heap.size (fun k_ => (w.heap.size ≤ k_)) (.slice Ao47 y820.length co47) y820) := ⟨by (with_reducible repeat (first | apply Kd.R_alloc | apply Kd.R_drewN | apply Kd.R_drew)); exact Kd.R_mono (Kd.R_far (p := ⟨gb823, 1, none⟩) (Kd.R_far (p := ⟨gb823, 0, none⟩) (Kd.R_types HO822.out BK823.out (by decide)) (fun _ hk => hk.2) (.slice A816_0 (rd_L2 t813 x9_1).length c816_0)) (fun _ hk => hk.2) (.slice Ao47 y820.length co47)) (fun _ hk => hk.1)⟩
     have n4_ : Aside0 (((w46.setCell ⟨gb823, 0, none⟩ (.slice A816_0 (rd_L2 t813 x9_1).length c816_0)).setCell ⟨gb823, 1, none⟩ (.slice Ao47 y820.length co47)).heap[gb823]? = some (.cells #[.slice A816_0 (rd_L2 t813 x9_1).length c816_0, .slice Ao47 y820.length co47] 61 (0, 0))) := ⟨by (with_reducible repeat (first | refine blk_drewN ?_ _ | refine blk_drew ?_ | refine blk_alloc ?_ _)); refine blk_put (cs := #[.slice A816_0 (rd_L2 t813 x9_1).length c816_0, .slice none 0 0]) ?_ 1 _ rfl; (with_reducible repeat (first | refine blk_drewN ?_ _ | refine blk_drew ?_ | refine blk_alloc ?_ _)); refine blk_put (cs := #[.slice none 0 0, .slice none 0 0]) ?_ 0 _ rfl; (with_reducible repeat (first | refine blk_drewN ?_ _ | refine blk_drew ?_ | refine blk_alloc ?_ _)); exact BK823.out⟩
     have n5_ : Aside0 (Below w.heap.size w ((w46.setCell ⟨gb823, 0, none⟩ (.slice A816_0 (rd_L2 t813 x9_1).length c816_0)).setCell ⟨gb823, 1, none⟩ (.slice Ao47 y820.length co47))) := ⟨xs HB.out GE823.out⟩
     (try clear HO_7)
     (try clear HO_8)
     (try clear HL816_0)
     (try clear HO822)
     (try clear BK823)
     (try clear HB)
     generalize ((w46.setCell ⟨gb823, 0, none⟩ (.slice A816_0 (rd_L2 t813 x9_1).length c816_0)).setCell ⟨gb823, 1, none⟩ (.slice Ao47 y820.length co47)) = w50 at n0_ n1_ n2_ n3_ n4_ n5_ ⊢
     have HO_7 := n0_
     have HO_8 := n1_
     have HL816_0 := n2_
     have HO822 := n3_
     have BK823 := n4_
     have HB := n5_
     clear n0_ n1_ n2_ n3_ n4_ n5_
     (try (rw [drewN_self w50]; generalize hq_ : World.drewN w50 _ = w50; have n0_ : Aside0 (Kd.V (Kd.int .i64) 3 w50 w.heap.size (fun k_ => (w.heap.size ≤ k_) ∧ some k_ ≠ (.slice Ao47 y820.length co47 : Value).ownBlock ∧ some k_ ≠ (u7 : Value).ownBlock ∧ some k_ ≠ (.slice (some ad816) t813.length co39 : Value).ownBlock ∧ k_ ≠ gb823) (.slice A816_0 (rd_L2 t813 x9_1).length c816_0) (rd_L2 t813 x9_1)) := ⟨by rw [← hq_]; exact (by (with_reducible repeat (first | apply Kd.V_alloc | apply Kd.V_drewN | apply Kd.V_drew)); exact Kd.V_mono HL816_0.out (by first | exact (fun _ hk => ⟨hk.1, ⟨hk.2.2.2.1, ⟨hk.2.1, ⟨hk.2.2.1, hk.2.2.2.2⟩⟩⟩⟩) | exact xi))⟩; have n1_ : Aside0 (Kd.R (Kd.int .i64) 3 w50 w.heap.size (fun k_ => (w.heap.size ≤ k_)) (.slice Ao47 y820.length co47) y820) := ⟨by rw [← hq_]; exact (xR HO822.out)⟩; have n2_ : Aside0 (Kd.N (Kd.slice 3 (Kd.int .i64)) 24 w50 w.heap.size (fun k_ => (w.heap.size ≤ k_) ∧ some k_ ≠ (.slice Ao47 y820.length co47 : Value).ownBlock ∧ some k_ ≠ (.slice (some ad816) t813.length co39 : Value).ownBlock ∧ k_ ≠ gb823) u7 x7_1) := ⟨by rw [← hq_]; exact (by (with_reducible repeat (first | apply Kd.N_alloc | apply Kd.N_drewN | apply Kd.N_drew)); exact Kd.N_mono HO_7.out (by first | exact (fun _ hk => ⟨hk.1, ⟨hk.2.2.1, ⟨hk.2.1, hk.2.2.2⟩⟩⟩) | exact xi))⟩; have n3_ : Aside0 (Kd.N (Kd.slice 3 (Kd.int .i64)) 24 w50 w.heap.size (fun k_ => (w.heap.size ≤ k_) ∧ some k_ ≠ (.slice Ao47 y820.length co47 : Value).ownBlock ∧ some k_ ≠ (u7 : Value).ownBlock ∧ k_ ≠ gb823) (.slice (some ad816) t813.length co39) t813) := ⟨by rw [← hq_]; exact (by (with_reducible repeat (first | apply Kd.N_alloc | apply Kd.N_drewN | apply Kd.N_drew)); exact Kd.N_mono HO_8.out (by first | exact (fun _ hk => ⟨hk.1, ⟨hk.2.2.1, ⟨hk.2.1, hk.2.2.2⟩⟩⟩) | exact xi))⟩; have n4_ : Aside0 (w50.heap[gb823]? = some (.cells #[.slice A816_0 (rd_L2 t813 x9_1).length c816_0, .slice Ao47 y820.length co47] 61 (0, 0))) := ⟨by rw [← hq_]; exact (xk BK823.out)⟩; have n5_ : Aside0 (Below w.heap.size w w50) := ⟨by rw [← hq_]; exact (xs HB.out GE823.out)⟩; clear HL816_0 HO822 HO_7 HO_8 BK823 HB hq_; have HL816_0 := n0_; have HO822 := n1_; have HO_7 := n2_; have HO_8 := n3_; have BK823 := n4_; have HB := n5_; clear n0_ n1_ n2_ n3_ n4_ n5_))
     replace HO_7 := ax (Kd.N_drew HO_7.out); replace HO_8 := ax (Kd.N_drew HO_8.out); replace HL816_0 := ax (Kd.V_drew HL816_0.out); replace HO822 := ax (Kd.R_drew HO822.out); replace BK823 := ax (blk_drew BK823.out); replace HB := ax (below_drew1 HB.out)
     have p831 : 0 ≤ (x9_1 : Int) := xd
     have q831 : x9_1 < (t813.length : Int) := xd
     obtain ⟨ad831, A831_0, c831_0, e831, hx831_0, hl831_0, hi831_0⟩ := at_L2 (Kd.N_reads' HO_8.out).2.2 x9_1 p831 q831
     obtain rfl : ad816 = ad831 := (by injection e831)
     obtain ⟨ce831, hce831, hMe831, hcc831⟩ := Kd.N_get HO_8.out [] x9_1 p831 (by first | exact q831 | exact xd | (have e_ := (Kd.N_reads' HO_8.out).1; omega))
     obtain ⟨ua831_0, uc831_0, rfl, ul831_0, ge831_0⟩ := Kd.FK_slice_open hMe831
     have hv831_0 := hcc831 0 _ rfl
     rw [Nat.add_zero, show ((Kd.slice 3 (Kd.int .i64))).sz = 1 from rfl, Nat.mul_one] at hv831_0
     replace hv831_0 := Option.some.inj (hv831_0.symm.trans hx831_0)
     injection hv831_0 with hva_ hvn_ hvc_
     rw [hva_] at ge831_0
     rw [hvc_] at ul831_0
     have HL831_0 := ax (show Kd.V (Kd.int .i64) 3 _ w.heap.size _ _ (rd_L2 t813 x9_1) from Kd.V_mk ul831_0 ge831_0)
     clear hva_ hvn_ hvc_ ge831_0 ul831_0 hcc831 hce831
     have HR831_0 := ax hi831_0
     have HC831_0 := ax hl831_0
     clear hi831_0 hl831_0
     replace p831 := eq_true p831
     replace q831 := eq_true q831
     refine start_ (n := 9) (S := fun w' => w'.cell? (ad816.add (x9_1).toNat) = some (.slice A831_0 (rd_L2 t813 x9_1).length c831_0)) (ds := []) (xB 9 0) (by kernel_rfl) rfl (by kernel_rfl) (hx831_0) (fun hHeld => ?_); refine with_tabW spec_l19Pick__2.tab8 spec_l19Pick__2.bits8 (fun HT_ HW_ => ?_)
     generalize w50.drew = w51 at HO_7 HO_8 HL816_0 HO822 BK823 HB HL831_0 HR831_0 hx831_0 hHeld ⊢
     refine pu (i := 1) (N := some 33) (xB 9 2) HT_.out ?_
     refine pu (i := 3) (N := some 35) (xB 9 10) HT_.out ?_
     refine pu (i := 4) (N := some 36) (xB 9 26) HT_.out ?_
     refine pu (i := 5) (N := some 37) (xB 9 58) HT_.out ?_
     refine tk (i := 6) (N := some 38) (xB 9 122) HT_.out HW_.out hHeld ?_
     refine one_ (i := 0) (N := some 32) (xB 9 123) rfl rfl (one_of HT_.out (by kernel_rfl)) (by decide) (fun K hK => ?_)
     refine Kd.R_lit_step (Kd.int .i64) _ 3 ?hg (N := 32) ?hd (xs := ([] : List Int)) (inner := []) (ok := fun _ => True) (okp := fun _ => True) ?hr ?hp (fun _ hk => hk) trivial (Below.refl _ _) (Nat.le_refl _) (by simp) ?_; (case hd => rfl); (case hg => rfl); (case hr => first | (go_simp; done) | (go_simp; rfl)); (case hp => exact (Reps.none _ _))
     intro v826 w52 ho53 hb hg_ hnew_
     have HS0_ := (hb.cell (World.block_lt_of_cell? _ _ (hHeld))).trans (hHeld)
     clear hg_ hnew_
     (first | rw [← Ny825.out] at ho53 | (simp only [Int.reduceToNat] at ho53; rw [← Ny825.out] at ho53))
     replace HO_7 := ax (Kd.N_elder' (xN HO_7.out) (Kd.R_base ho53) hb); replace HO_8 := ax (Kd.N_elder' (xN HO_8.out) (Kd.R_base ho53) hb); replace HL816_0 := ax (Kd.V_elder' (xV HL816_0.out) (Kd.R_base ho53) hb); replace HL831_0 := ax (Kd.V_elder' (xV HL831_0.out) (Kd.R_base ho53) hb); have HO827 := ax (Kd.R_lower (Kd.R_new' (Kd.R_newM (M := fun k_ => (w.heap.size ≤ k_)) ho53 (below_size (xs HB.out GE823.out)) (fun k_ h_ => h_)) (Kd.R_lt (xR HO822.out))) (below_size (xs HB.out GE823.out))); replace HO822 := ax (Kd.R_elder' (xR HO822.out) (Kd.R_base ho53) hb); replace BK823 := ax (blk_below (g := gb823) (o := .cells #[.slice A816_0 (rd_L2 t813 x9_1).length c816_0, .slice Ao47 y820.length co47] 61 (0, 0)) (xk BK823.out) hb); replace HR831_0 := ax (Kd.C_below (xw HR831_0.out) hb); replace HB := ax (below_step (xs HB.out GE823.out) hb); clear hb ho53
     refine hK.out _ _ (HS0_) (fun hHeld => ?_)
     clear hK K
     refine nm ?_
     refine one_ (i := 2) (N := some 34) (xB 9 127) rfl rfl (one_of HT_.out (by kernel_rfl)) (by decide) (fun K hK => ?_)
     refine Kd.R_append_rows_step (Kd.int .i64) (w0 := w) w.heap.size (by rfl) (.tmp 32) (.tmp 33) 24 3 (.int .i64 0) 8 rfl Tryz.underlying24 info3 rfl (by decide) (by omega) v826 y825 l0 _ _ _ (fun k_ => (w.heap.size ≤ k_) ∧ some k_ ≠ (.slice Ao47 y820.length co47 : Value).ownBlock) (fun _ => False) rfl rfl ?aO ?aR (fun _ _ h => h) (fun _ h => h.elim) ?aF ?aB ?aS ?aL ?_
     (case aR => exact xz HR0.out HB.out)
     (case aB => exact (xs HB.out GE823.out))
     (case aF => exact (fun k_ hk => ⟨(Nat.le_trans (below_size (xs HB.out GE823.out)) hk), Kd.fresh' (Kd.R_lt (xR HO822.out)) k_ hk⟩))
     (case aO => exact (by (with_reducible repeat (first | apply Kd.R_alloc | apply Kd.R_drewN | apply Kd.R_drew)); exact Kd.R_mono HO827.out (by first | exact (fun _ hk => ⟨hk.1.1, hk.2⟩) | exact xi)))
     (case aS => exact (below_size (xs HB.out GE823.out)))
     (case aL => have := LMc13.out; omega)
     intro v829 w54 ho hb hg hat
     have HS0_ := cell_grown hg (hHeld) (by first | (rw [add_block]; exact (fun e_ => by obtain ⟨cs_, hc_⟩ := Kd.N_typed HO_8.out _ rfl; exact Kd.R_ne HO827.out hc_ (by decide) e_)) | (show some (Addr.add _ _).block ≠ _; rw [add_block]; exact (fun e_ => by obtain ⟨cs_, hc_⟩ := Kd.N_typed HO_8.out _ rfl; exact Kd.R_ne HO827.out hc_ (by decide) e_)) | exact (fun e_ => by obtain ⟨cs_, hc_⟩ := Kd.N_typed HO_8.out _ rfl; exact Kd.R_ne HO827.out hc_ (by decide) e_))
     rw [← Ny828.out] at ho
     have n0_ := ax (Kd.N_afterv (ok := (fun k_ => (w.heap.size ≤ k_) ∧ some k_ ≠ (.slice (some ad816) t813.length co39 : Value).ownBlock ∧ some k_ ≠ (.slice Ao47 y820.length co47 : Value).ownBlock ∧ k_ ≠ gb823)) (xN HO_7.out) hg hat)
     have n1_ := ax (Kd.N_afterv (ok := (fun k_ => (w.heap.size ≤ k_) ∧ some k_ ≠ (u7 : Value).ownBlock ∧ some k_ ≠ (.slice Ao47 y820.length co47 : Value).ownBlock ∧ k_ ≠ gb823)) (xN HO_8.out) hg hat)
     have n2_ := ax (Kd.V_afterv (ok := (fun k_ => (w.heap.size ≤ k_) ∧ some k_ ≠ (u7 : Value).ownBlock ∧ some k_ ≠ (.slice (some ad816) t813.length co39 : Value).ownBlock ∧ some k_ ≠ (.slice Ao47 y820.length co47 : Value).ownBlock ∧ k_ ≠ gb823)) (xV HL816_0.out) hg hat)
     have n3_ := ax (Kd.R_after (ok := (fun k_ => (w.heap.size ≤ k_))) (xR HO822.out) hg hat)
     have n4_ := ax (blk_grown (g := gb823) (o := .cells #[.slice A816_0 (rd_L2 t813 x9_1).length c816_0, .slice Ao47 y820.length co47] 61 (0, 0)) (xk BK823.out) hg (Kd.R_ne HO827.out BK823.out (by decide)))
     have n5_ := ax (Kd.V_afterv (ok := (fun k_ => (w.heap.size ≤ k_) ∧ some k_ ≠ (u7 : Value).ownBlock ∧ some k_ ≠ (.slice (some ad816) t813.length co39 : Value).ownBlock ∧ some k_ ≠ (.slice Ao47 y820.length co47 : Value).ownBlock ∧ k_ ≠ gb823)) (by (with_reducible repeat (first | apply Kd.V_alloc | apply Kd.V_drewN | apply Kd.V_drew)); exact Kd.V_mono HL831_0.out (by first | exact (fun _ hk => ⟨⟨hk.1.1.1, ⟨hk.1.1.2.1, ⟨hk.1.2, ⟨hk.1.1.2.2.1, hk.1.1.2.2.2⟩⟩⟩⟩, hk.2⟩) | exact xi)) hg hat)
     have n6_ := ax (hb)
     have n7_ := ax (ho)
     clear HO_7 HO_8 HL816_0 HO822 BK823 HL831_0 HB HO827
     have HO_7 := n0_
     have HO_8 := n1_
     have HL816_0 := n2_
     have HO822 := n3_
     have BK823 := n4_
     have HL831_0 := n5_
     have HB := n6_
     have HO830 := n7_
     clear n0_ n1_ n2_ n3_ n4_ n5_ n6_ n7_ ho hb hg hat
     obtain ⟨Ao55, co55, eo55⟩ := Kd.R_slice HO830.out
     (first | subst eo55 | (injection eo55 with f1_ f2_ f3_; have f4_ := f1_.symm; have f5_ := f3_.symm; clear f1_ f2_ f3_; subst f4_; subst f5_))
     refine hK.out _ _ (HS0_) (fun hHeld => ?_)
     clear hK K
     refine nm ?_
     refine pu (i := 7) (N := some 39) (xB 9 255) HT_.out ?_
     refine one_ (i := 8) (N := none) (xB 9 511) rfl rfl (one_of HT_.out (by kernel_rfl)) (by decide) (fun K hK => ?_)
     have hs56 : w54.cell? ⟨gb823, 0, none⟩ = some (.slice A816_0 (rd_L2 t813 x9_1).length c816_0) := (blk_cell BK823.out 0).trans rfl
     have hfs56 := blk_frozen BK823.out 0
     have hs57 : w54.cell? ⟨gb823, 1, none⟩ = some (.slice Ao47 y820.length co47) := (blk_cell BK823.out 1).trans rfl
     have hfs57 := blk_frozen BK823.out 1
     refine skip_ (w1 := ?_) (by rfl) rfl ?_ ?_
     rotate_left
     ·go_simp
      rfl
     refine hK.out _ _ (((cell_far (p := ⟨gb823, _, none⟩) (by first | exact Kd.own_blk (Kd.N_away HO_8.out (fun _ hk => hk.1.2.2.2)) | (rw [add_block]; exact Kd.own_blk (Kd.N_away HO_8.out (fun _ hk => hk.1.2.2.2))) | (show (Addr.add _ _).block ≠ _; rw [add_block]; exact Kd.own_blk (Kd.N_away HO_8.out (fun _ hk => hk.1.2.2.2))) | (dsimp only; exact Kd.own_blk (Kd.N_away HO_8.out (fun _ hk => hk.1.2.2.2)))) _).trans (((cell_far (p := ⟨gb823, _, none⟩) (by first | exact Kd.own_blk (Kd.N_away HO_8.out (fun _ hk => hk.1.2.2.2)) | (rw [add_block]; exact Kd.own_blk (Kd.N_away HO_8.out (fun _ hk => hk.1.2.2.2))) | (show (Addr.add _ _).block ≠ _; rw [add_block]; exact Kd.own_blk (Kd.N_away HO_8.out (fun _ hk => hk.1.2.2.2))) | (dsimp only; exact Kd.own_blk (Kd.N_away HO_8.out (fun _ hk => hk.1.2.2.2)))) _).trans (hHeld))))) (fun hHeld => ?_)
     clear hK K
     refine done_ (done_of HT_.out (by kernel_rfl)) ?_
     have hcz58_0 : w54.cell? ⟨gb823, 0, none⟩ = some (.slice A816_0 (rd_L2 t813 x9_1).length c816_0) := (blk_cell BK823.out 0).trans rfl
     have hcz58_1 : w54.cell? ⟨gb823, 1, none⟩ = some (.slice Ao47 y820.length co47) := (blk_cell BK823.out 1).trans rfl
     have hfz58_0 := blk_frozen BK823.out 0
     have hfz58_1 := blk_frozen BK823.out 1
     try go_wp2_with (first | (go_at_call 85; (with_reducible refine (spec_IsRibbon.calls k1 _ _ y828 _ _ (rd_L2 t813 x9_1) false _ ?side1 ?side2 ?side3 ?side4 A14.out).mono ?_); (case side1 => refine (Kd.R_reads' (e := 3) (base := w.heap.size) (ok := fun k_ => ((w.heap.size ≤ k_) ∧ some k_ ≠ (.slice Ao47 y820.length co47 : Value).ownBlock)) (n := y828.length) (c := co55) ?_).2.2; exact (by (with_reducible repeat (first | apply Kd.R_alloc | apply Kd.R_drewN | apply Kd.R_drew)); exact (Kd.R_mono (Kd.R_far (p := ⟨gb823, 1, none⟩) (Kd.R_far (p := ⟨gb823, 0, none⟩) (Kd.R_types HO830.out BK823.out (by decide)) (fun _ hk => hk.2) (.slice Ao55 y828.length co55)) (fun _ hk => hk.2) (.slice A831_0 (rd_L2 t813 x9_1).length c831_0)) (fun _ h_ => h_.1)))); (case side2 => exact (Kd.R_reads' HO830.out).2.1); (case side3 => repeat (first | exact ((Kd.V_reads' (by (with_reducible repeat (first | apply Kd.V_alloc | apply Kd.V_drewN | apply Kd.V_drew)); exact (Kd.V_mono (Kd.V_far (p := ⟨gb823, 1, none⟩) (Kd.V_far (p := ⟨gb823, 0, none⟩) (Kd.V_mono HL831_0.out (fun k_ hk => (⟨hk, hk.1.2.2.2.2⟩ : _ ∧ k_ ≠ gb823))) (fun _ hk => hk.2) (.slice Ao55 y828.length co55)) (fun _ hk => hk.2) (.slice A831_0 (rd_L2 t813 x9_1).length c831_0)) (fun _ h_ => h_.1)))).2.2) | (with_reducible refine Kd.C_alloc ?_ _) | (with_reducible refine Kd.C_drewN ?_ _) | (with_reducible refine Kd.C_drew ?_))); (case side4 => exact HC831_0.out); rintro e w59 ⟨rfl, hb⟩; replace HO_7 := ax (Kd.N_below (by (with_reducible repeat (first | apply Kd.N_alloc | apply Kd.N_drewN | apply Kd.N_drew)); exact (Kd.N_mono (Kd.N_far (p := ⟨gb823, 1, none⟩) (Kd.N_far (p := ⟨gb823, 0, none⟩) (Kd.N_mono HO_7.out (fun k_ hk => (⟨hk, hk.1.2.2.2⟩ : _ ∧ k_ ≠ gb823))) (fun _ hk => hk.2) (.slice Ao55 y828.length co55)) (fun _ hk => hk.2) (.slice A831_0 (rd_L2 t813 x9_1).length c831_0)) (fun _ h_ => h_.1))) hb); replace HO_8 := ax (Kd.N_below (by (with_reducible repeat (first | apply Kd.N_alloc | apply Kd.N_drewN | apply Kd.N_drew)); exact (Kd.N_mono (Kd.N_far (p := ⟨gb823, 1, none⟩) (Kd.N_far (p := ⟨gb823, 0, none⟩) (Kd.N_mono HO_8.out (fun k_ hk => (⟨hk, hk.1.2.2.2⟩ : _ ∧ k_ ≠ gb823))) (fun _ hk => hk.2) (.slice Ao55 y828.length co55)) (fun _ hk => hk.2) (.slice A831_0 (rd_L2 t813 x9_1).length c831_0)) (fun _ h_ => h_.1))) hb); replace HL816_0 := ax (Kd.V_below (by (with_reducible repeat (first | apply Kd.V_alloc | apply Kd.V_drewN | apply Kd.V_drew)); exact (Kd.V_mono (Kd.V_far (p := ⟨gb823, 1, none⟩) (Kd.V_far (p := ⟨gb823, 0, none⟩) (Kd.V_mono HL816_0.out (fun k_ hk => (⟨hk, hk.1.2.2.2.2⟩ : _ ∧ k_ ≠ gb823))) (fun _ hk => hk.2) (.slice Ao55 y828.length co55)) (fun _ hk => hk.2) (.slice A831_0 (rd_L2 t813 x9_1).length c831_0)) (fun _ h_ => h_.1))) hb); replace HO822 := ax (Kd.R_below (by (with_reducible repeat (first | apply Kd.R_alloc | apply Kd.R_drewN | apply Kd.R_drew)); exact (Kd.R_mono (Kd.R_far (p := ⟨gb823, 1, none⟩) (Kd.R_far (p := ⟨gb823, 0, none⟩) (Kd.R_types HO822.out BK823.out (by decide)) (fun _ hk => hk.2) (.slice Ao55 y828.length co55)) (fun _ hk => hk.2) (.slice A831_0 (rd_L2 t813 x9_1).length c831_0)) (fun _ h_ => h_.1))) hb); replace HL831_0 := ax (Kd.V_below (by (with_reducible repeat (first | apply Kd.V_alloc | apply Kd.V_drewN | apply Kd.V_drew)); exact (Kd.V_mono (Kd.V_far (p := ⟨gb823, 1, none⟩) (Kd.V_far (p := ⟨gb823, 0, none⟩) (Kd.V_mono HL831_0.out (fun k_ hk => (⟨hk, hk.1.2.2.2.2⟩ : _ ∧ k_ ≠ gb823))) (fun _ hk => hk.2) (.slice Ao55 y828.length co55)) (fun _ hk => hk.2) (.slice A831_0 (rd_L2 t813 x9_1).length c831_0)) (fun _ h_ => h_.1))) hb); replace HO830 := ax (Kd.R_below (by (with_reducible repeat (first | apply Kd.R_alloc | apply Kd.R_drewN | apply Kd.R_drew)); exact (Kd.R_mono (Kd.R_far (p := ⟨gb823, 1, none⟩) (Kd.R_far (p := ⟨gb823, 0, none⟩) (Kd.R_types HO830.out BK823.out (by decide)) (fun _ hk => hk.2) (.slice Ao55 y828.length co55)) (fun _ hk => hk.2) (.slice A831_0 (rd_L2 t813 x9_1).length c831_0)) (fun _ h_ => h_.1))) hb); replace BK823 := ax (blk_below (g := gb823) (o := .cells #[.slice Ao55 y828.length co55, .slice A831_0 (rd_L2 t813 x9_1).length c831_0] 61 (0, 0)) (by (with_reducible repeat (first | refine blk_drewN ?_ _ | refine blk_drew ?_ | refine blk_alloc ?_ _)); refine blk_put (cs := #[.slice Ao55 y828.length co55, .slice Ao47 y820.length co47]) ?_ 1 _ rfl; (with_reducible repeat (first | refine blk_drewN ?_ _ | refine blk_drew ?_ | refine blk_alloc ?_ _)); refine blk_put (cs := #[.slice A816_0 (rd_L2 t813 x9_1).length c816_0, .slice Ao47 y820.length co47]) ?_ 0 _ rfl; (with_reducible repeat (first | refine blk_drewN ?_ _ | refine blk_drew ?_ | refine blk_alloc ?_ _)); exact BK823.out) hb); replace HB := ax (below_step (xs HB.out GE823.out) hb); (try clear hb)))
     go_roundg k1
     case measure => have := HK1.out; omega
     case rel => exact ⟨(x7_1), (wrap64 (x9_1 + 1)), xr, H', ⟨by have := HK1.out; omega⟩, ⟨by (with_reducible repeat (first | apply Kd.N_alloc | apply Kd.N_drewN | apply Kd.N_drew)); exact Kd.N_mono HO_7.out (fun _ hk => ⟨hk.1.1, hk.1.2.1⟩)⟩, ⟨by (with_reducible repeat (first | apply Kd.N_alloc | apply Kd.N_drewN | apply Kd.N_drew)); exact Kd.N_mono HO_8.out (fun _ hk => ⟨hk.1.1, hk.1.2.1⟩)⟩, ⟨xs HB.out GE823.out⟩⟩
   ·rw [if_neg c8] at H
    have c8b0 := decide_eq_false c8
    clear c8
    obtain rfl := Option.some.inj H
    obtain ⟨Ao60, co60, eo60⟩ := Kd.N_slice HO_8.out
    subst eo60
    go_wp2
    go_ret
    exact ⟨_, xe, by (with_reducible repeat (first | apply Kd.N_alloc | apply Kd.N_drewN | apply Kd.N_drew)); exact Kd.N_mono HO_7.out (fun _ hk => hk.1), xb HB.out⟩

end Go.Proofs.YtopmggldaicpaacGreat.PFnKronecker
