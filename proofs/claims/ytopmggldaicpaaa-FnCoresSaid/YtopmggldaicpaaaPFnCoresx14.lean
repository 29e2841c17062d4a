import Derived.Test.YtopmggldaicpaaaPFnCoresx12
namespace Go.Proofs.Ytopmggldaicpaaa.PFnCores
open Go.RowKit Go.Proofs.YtopmggldaicpaaaW.PrintWords Go.Proofs.YtopmggldaicpaaaW.PrintLast Go.Proofs.YtopmggldaicpaaaW.PrintMore
set_option linter.unusedVariables false
set_option linter.unusedSimpArgs false
set_option maxHeartbeats 8000000
set_option maxRecDepth 100000
/-! ### spec_l19Pick__2: function 89 -/
def spec_l19Pick__2.l0 : Nat → List Int → Int → List (List Int) → List (List Int) → Int → Option ((List (List Int)))
 | 0, _, _, _, _, _ => none
 | k + 1, x0, x1, x7, x8, x9 => if x9 < (x8.length : Int) then (if 0 ≤ x9 then (if (([] : List Int)).length + x0.length < 17592186044416 then ((spec_l2Size.f k x0).bind fun t549 => (if x1 < t549 then ((some (([] : List Int) : List Int)).bind fun y550 => (if y550.length + x0.length < 17592186044416 then ((spec_IsRibbon.f k (y550 ++ x0) (rd_L2 x8 x9)).bind fun t557 => (if t557 = true then (if x7.length < 5864062014805 then (spec_l19Pick__2.l0 k x0 x1 (x7 ++ [rd_L2 x8 x9]) x8 (wrap64 (x9 + 1))) else (none)) else (spec_l19Pick__2.l0 k x0 x1 x7 x8 (wrap64 (x9 + 1))))) else (none))) else (none))) else (none)) else (none)) else (some x7)
def spec_l19Pick__2.f (k : Nat) (l0 : List Int) (a1 : Int)  : Option ((List (List Int))) := (spec_PartitionsOf.f k a1).bind fun t538 => (spec_l19Pick__2.l0 k l0 a1 (([] : List (List Int))) t538 0)
theorem spec_l19Pick__2.mono_l : ∀ k, (∀ y0 y1 y2 y3 y4, LeO (spec_l19Pick__2.l0 k y0 y1 y2 y3 y4) (spec_l19Pick__2.l0 (k + 1) y0 y1 y2 y3 y4))
 | 0 => fun _ _ _ _ _ r h => by simp [spec_l19Pick__2.l0] at h
 | k + 1 => by
  have ih0 := spec_l19Pick__2.mono_l k
  ·intro y0 y1 y2 y3 y4
   unfold spec_l19Pick__2.l0
   repeat' with_reducible first | exact ih0 _ _ _ _ _ | exact spec_IsRibbon.mono _ _ _ | exact spec_PartitionsOf.mono _ _ | exact spec_l2Size.mono _ _ | exact xl | refine LeO.ite ?_ ?_ | refine LeO.bind ?_ fun _ => ?_
theorem spec_l19Pick__2.mono : ∀ a0 a1 k, LeO (spec_l19Pick__2.f k a0 a1) (spec_l19Pick__2.f (k + 1) a0 a1) := by
 intro a0 a1 k
 have ih0 := spec_l19Pick__2.mono_l k
 unfold spec_l19Pick__2.f
 repeat' with_reducible first | exact ih0 _ _ _ _ _ | exact spec_IsRibbon.mono _ _ _ | exact spec_PartitionsOf.mono _ _ | exact spec_l2Size.mono _ _ | exact xl | refine LeO.ite ?_ ?_ | refine LeO.bind ?_ fun _ => ?_
def spec_l19Pick__2.T6 : Bool × List (List Nat × List Nat) := (true, [([], []), ([], []), ([0, 1], [0, 1]), ([2], [2]), ([], []), ([], []), ([4, 5], [4, 5]), ([3, 6], [3, 6]), ([], []), ([8, 7, 6, 0, 1, 2, 3, 4, 5, 6, 7, 8], [7, 8])])
def spec_l19Pick__2.B6 : List Nat := [0, 0, 3, 7, 0, 0, 48, 127, 0, 511]
theorem spec_l19Pick__2.tab6 : rtab .any (opsOf Try.f44 6) = spec_l19Pick__2.T6 := by kernel_rfl
theorem spec_l19Pick__2.bits6 : waitsOk spec_l19Pick__2.T6.2 spec_l19Pick__2.B6 = true := by kernel_rfl
def spec_l19Pick__2.T8 : Bool × List (List Nat × List Nat) := (true, [([], []), ([], []), ([0, 1], [0, 1]), ([], []), ([], []), ([3, 4], [3, 4]), ([5], [5]), ([2, 6], [2, 6]), ([7, 2, 0, 1, 2, 3, 4, 5, 6, 7], [7])])
def spec_l19Pick__2.B8 : List Nat := [0, 0, 3, 0, 0, 24, 56, 127, 255]
theorem spec_l19Pick__2.tab8 : rtab .any (opsOf Try.f44 8) = spec_l19Pick__2.T8 := by kernel_rfl
theorem spec_l19Pick__2.bits8 : waitsOk spec_l19Pick__2.T8.2 spec_l19Pick__2.B8 = true := by kernel_rfl
theorem spec_l19Pick__2.calls (k : Nat) (A0 : Option Addr) (c0 : Nat) (l0 : List Int) (a1 : Int)  (r : List (List Int)) (w : World) (hr0 : Kd.C (Kd.int .i64) w A0 l0.length l0) (hc0 : l0.length ≤ c0) (h : spec_l19Pick__2.f k l0 a1 = some r) :
  Calls Try.prog 44 #[.slice A0 l0.length c0, .int .i64 a1, .int .i64 2] w fun e w' => ∃ v0_ : Value, e = .returned (v0_) ∧ Kd.N (Kd.slice 3 (Kd.int .i64)) 24 w' w.heap.size (fun k_ => (w.heap.size ≤ k_)) v0_ r ∧ Below w.heap.size w w' := by
 have hu41 := Try.underlying41
 have HR0 := ax hr0
 have HC0 := ax hc0
 clear hr0 hc0
 have HB := ax (Below.refl w.heap.size w)
 have H : ((spec_PartitionsOf.f k a1).bind fun t538 => (spec_l19Pick__2.l0 k l0 a1 (([] : List (List Int))) t538 0)) = some r := h
 clear h
 obtain ⟨y535, hy535⟩ : ∃ y_ : List (List Int), y_ = (([] : List (List Int))) := ⟨_, rfl⟩
 replace H : ((spec_PartitionsOf.f k a1).bind fun t538 => (spec_l19Pick__2.l0 k l0 a1 y535 t538 0)) = some r := xv hy535 H
 have Ny535 := ax hy535
 clear hy535
 obtain ⟨t538, A4, H⟩ := xI H
 have H' := ax H
 clear H
 go_enter Try.func44, Try.ntmps44
 go_wp2_with (first | ((with_reducible refine gate_dst (N := 11) rfl ?_); refine Kd.N_lit (Kd.slice 3 (Kd.int .i64)) _ 24 ?hg (N' := 11) ?hd (xs := ([] : List (List Int))) (inner := []) (ok := (fun k_ => (w.heap.size ≤ k_))) (okp := (fun k_ => (w.heap.size ≤ k_))) ?hr ?hp (fun _ hk => hk) ((show ∀ k_, w.heap.size ≤ k_ → (fun k_ => (w.heap.size ≤ k_)) k_ from fun k_ hk => (Nat.le_trans (below_size (xb HB.out)) hk)) _ (Nat.le_refl _)) (Below.refl _ _) (Nat.le_refl _) (by simp) ?_; (case hd => rfl); (case hg => rfl); (case hr => first | (go_simp; done) | (go_simp; rfl)); (case hp => exact (Reps.none _ _)); intro v536 w5 ho6 hb hg_ hnew_; clear hg_ hnew_; (first | rw [← Ny535.out] at ho6 | (simp only [Int.reduceToNat] at ho6; rw [← Ny535.out] at ho6)); have HO537 := ax (Kd.N_lower ho6 (below_size (xb HB.out))); replace HB := yB HB hb; clear hb ho6) | ((with_reducible refine gate_callee (f := 51) rfl ?_); refine goesL_ (some 13) rfl rfl Try.func51 (by kernel_rfl) rfl #[.int .i64 a1] rfl xm ?_; (with_reducible refine (spec_PartitionsOf.calls k a1 t538 _ A4.out).mono ?_); rintro e w7 ⟨v539, rfl, ho0, hb⟩; refine ⟨_, rfl, ?_⟩; have HO540 := ax (Kd.N_lower (Kd.N_mono (ok' := fun k_ => (w.heap.size ≤ k_) ∧ some k_ ≠ (v536 : Value).ownBlock) (Kd.S_N (Kd.S_bound ho0)) (fun k_ hk_ => ⟨(Nat.le_trans (below_size (xb HB.out)) hk_.2.1), (Kd.fresh' (Kd.N_lt (xN HO537.out)) k_ hk_.2.1)⟩)) (below_size (xb HB.out))); replace HO537 := ax (Kd.N_elder' (xN HO537.out) (by first | exact Kd.N_base ho0 | exact Kd.S_base ho0 | exact Kd.R_base ho0) hb); replace HB := yB HB hb; (try clear hb); (try clear ho0)))
 go_loopg [7, 9] k (fun kq v7 v9 w' => ∃ (x7_1 : List (List Int)) (x9_1 : Int), v9 = .int .i64 x9_1 ∧ Aside0 (spec_l19Pick__2.l0 kq l0 a1 x7_1 t538 x9_1 = some r) ∧ Aside0 (kq ≤ k) ∧ Aside0 (Kd.N (Kd.slice 3 (Kd.int .i64)) 24 w' w.heap.size (fun k_ => (w.heap.size ≤ k_) ∧ some k_ ≠ (v539 : Value).ownBlock) v7 x7_1) ∧ Aside0 (Kd.N (Kd.slice 3 (Kd.int .i64)) 24 w' w.heap.size (fun k_ => (w.heap.size ≤ k_) ∧ some k_ ≠ (v7 : Value).ownBlock) v539 t538) ∧ Aside0 (Below w.heap.size w w'))
 case atStart => exact ⟨(y535), (0), xr, H', ⟨Nat.le_refl _⟩, ⟨xN HO537.out⟩, ⟨xN HO540.out⟩, ⟨xb HB.out⟩⟩
 case round =>
  clear H'
  obtain ⟨x7_1, x9_1, rfl, HA, HK1, HO_7, HO_8, HB⟩ := hrel
  cases gk with
  | zero => exact absurd HA.out (by simp [spec_l19Pick__2.l0])
  | succ k1 =>
   have H := HA.out
   clear HA
   simp only [spec_l19Pick__2.l0] at H
   by_cases c8 : x9_1 < (t538.length : Int)
   ·rw [if_pos c8] at H
    have c8b0 := decide_eq_true c8
    clear c8
    obtain ⟨c9b0, H⟩ := xq H
    obtain ⟨y542, hy542⟩ : ∃ y_ : List Int, y_ = (([] : List Int)) := ⟨_, rfl⟩
    replace H : (if y542.length + l0.length < 17592186044416 then ((spec_l2Size.f k1 l0).bind fun t549 => (if a1 < t549 then ((some (([] : List Int) : List Int)).bind fun y550 => (if y550.length + l0.length < 17592186044416 then ((spec_IsRibbon.f k1 (y550 ++ l0) (rd_L2 t538 x9_1)).bind fun t557 => (if t557 = true then (if x7_1.length < 5864062014805 then (spec_l19Pick__2.l0 k1 l0 a1 (x7_1 ++ [rd_L2 t538 x9_1]) t538 (wrap64 (x9_1 + 1))) else (none)) else (spec_l19Pick__2.l0 k1 l0 a1 x7_1 t538 (wrap64 (x9_1 + 1))))) else (none))) else (none))) else (none)) = some r := xv hy542 H
    have Ny542 := ax hy542
    clear hy542
    obtain ⟨c10, H⟩ := xp H
    have LMc10 := ax c10
    clear c10
    obtain ⟨y545, Ny545⟩ := xy ((y542 ++ l0) : List Int)
    obtain ⟨t549, A11, H⟩ := xI H
    obtain ⟨c12b0, H⟩ := xq H
    obtain ⟨y550, Ny550, H⟩ := xg H
    obtain ⟨c13, H⟩ := xp H
    have LMc13 := ax c13
    clear c13
    obtain ⟨y553, hy553⟩ : ∃ y_ : List Int, y_ = (y550 ++ l0) := ⟨_, rfl⟩
    replace H : ((spec_IsRibbon.f k1 y553 (rd_L2 t538 x9_1)).bind fun t557 => (if t557 = true then (if x7_1.length < 5864062014805 then (spec_l19Pick__2.l0 k1 l0 a1 (x7_1 ++ [rd_L2 t538 x9_1]) t538 (wrap64 (x9_1 + 1))) else (none)) else (spec_l19Pick__2.l0 k1 l0 a1 x7_1 t538 (wrap64 (x9_1 + 1))))) = some r := xv hy553 H
    have Ny553 := ax hy553
    clear hy553
    obtain ⟨t557, A14, H⟩ := xI H
    by_cases c15 : t557 = true
    ·subst c15
     rw [if_pos rfl] at H
     obtain ⟨c16, H⟩ := xp H
     have LMc16 := ax c16
     clear c16
     obtain ⟨y559, hy559⟩ : ∃ y_ : List (List Int), y_ = (x7_1 ++ [rd_L2 t538 x9_1]) := ⟨_, rfl⟩
     replace H : (spec_l19Pick__2.l0 k1 l0 a1 y559 t538 (wrap64 (x9_1 + 1))) = some r := xv hy559 H
     have Ny559 := ax hy559
     clear hy559
     have H' := ax H
     clear H
     obtain ⟨Ao17, co17, eo17⟩ := Kd.N_slice HO_8.out
     subst eo17
     try go_wp2
     replace HO_7 := ax (Kd.N_drew HO_7.out); replace HO_8 := ax (Kd.N_drew HO_8.out); replace HB := ax (below_drew1 HB.out)
     have p541 : 0 ≤ (x9_1 : Int) := xd
     have q541 : x9_1 < (t538.length : Int) := xd
     obtain ⟨ad541, A541_0, c541_0, e541, hx541_0, hl541_0, hi541_0⟩ := at_L2 (Kd.N_reads' HO_8.out).2.2 x9_1 p541 q541
     cases e541
     obtain ⟨ce541, hce541, hMe541, hcc541⟩ := Kd.N_get HO_8.out [] x9_1 p541 (by first | exact q541 | exact xd | (have e_ := (Kd.N_reads' HO_8.out).1; omega))
     obtain ⟨ua541_0, uc541_0, rfl, ul541_0, ge541_0⟩ := Kd.FK_slice_open hMe541
     have hv541_0 := hcc541 0 _ rfl
     rw [Nat.add_zero, show ((Kd.slice 3 (Kd.int .i64))).sz = 1 from rfl, Nat.mul_one] at hv541_0
     replace hv541_0 := Option.some.inj (hv541_0.symm.trans hx541_0)
     injection hv541_0 with hva_ hvn_ hvc_
     rw [hva_] at ge541_0
     rw [hvc_] at ul541_0
     have HL541_0 := ax (show Kd.V (Kd.int .i64) 3 _ w.heap.size _ _ (rd_L2 t538 x9_1) from Kd.V_mk ul541_0 ge541_0)
     clear hva_ hvn_ hvc_ ge541_0 ul541_0 hcc541 hce541
     have HR541_0 := ax hi541_0
     have HC541_0 := ax hl541_0
     clear hi541_0 hl541_0
     replace p541 := eq_true p541
     replace q541 := eq_true q541
     refine start_ (n := 10) (S := fun w' => w'.cell? (ad541.add (x9_1).toNat) = some (.slice A541_0 (rd_L2 t538 x9_1).length c541_0)) (ds := []) (xB 10 0) (by kernel_rfl) rfl (by kernel_rfl) (hx541_0) (fun hHeld => ?_); refine with_tabW spec_l19Pick__2.tab6 spec_l19Pick__2.bits6 (fun HT_ HW_ => ?_)
     generalize wr.drew = w18 at HO_7 HO_8 HB HL541_0 HR541_0 hx541_0 hHeld ⊢
     refine pu (i := 0) (N := some 20) (xB 10 1) HT_.out ?_
     refine pu (i := 1) (N := some 21) (xB 10 3) HT_.out ?_
     refine pu (i := 2) (N := some 22) (xB 10 7) HT_.out ?_
     refine pu (i := 5) (N := some 25) (xB 10 39) HT_.out ?_
     refine tk (i := 3) (N := some 23) (xB 10 47) HT_.out HW_.out hHeld ?_
     refine join_ (σ := Value × Value × Nat) 1 (xB 10 511) (fun s_ => [(24, s_.1), (26, s_.2.1), (10, .pointer (some ⟨s_.2.2, 0, none⟩)), (27, .agg #[.slice A541_0 (rd_L2 t538 x9_1).length c541_0, s_.2.1])]) (fun s_ w' => (w'.cell? (ad541.add (x9_1).toNat) = some (.slice A541_0 (rd_L2 t538 x9_1).length c541_0)) ∧ (Kd.V (Kd.int .i64) 3 w' w.heap.size (fun k_ => (w.heap.size ≤ k_) ∧ some k_ ≠ (s_.2.1 : Value).ownBlock ∧ some k_ ≠ (u7 : Value).ownBlock ∧ some k_ ≠ (.slice (some ad541) t538.length co17 : Value).ownBlock ∧ k_ ≠ s_.2.2) (.slice A541_0 (rd_L2 t538 x9_1).length c541_0) (rd_L2 t538 x9_1)) ∧ (Kd.R (Kd.int .i64) 3 w' w.heap.size (fun k_ => (w.heap.size ≤ k_)) s_.2.1 y545) ∧ (Kd.N (Kd.slice 3 (Kd.int .i64)) 24 w' w.heap.size (fun k_ => (w.heap.size ≤ k_) ∧ some k_ ≠ (s_.2.1 : Value).ownBlock ∧ some k_ ≠ (.slice (some ad541) t538.length co17 : Value).ownBlock ∧ k_ ≠ s_.2.2) u7 x7_1) ∧ (Kd.N (Kd.slice 3 (Kd.int .i64)) 24 w' w.heap.size (fun k_ => (w.heap.size ≤ k_) ∧ some k_ ≠ (s_.2.1 : Value).ownBlock ∧ some k_ ≠ (u7 : Value).ownBlock ∧ k_ ≠ s_.2.2) (.slice (some ad541) t538.length co17) t538) ∧ (w'.heap[s_.2.2]? = some (.cells #[.slice none 0 0, .slice none 0 0] 41 (0, 0))) ∧ (w.heap.size ≤ s_.2.2) ∧ (w.heap.size ≤ s_.2.2) ∧ (Below w.heap.size w w')) ?_ ?_
     rotate_left
     ·intro hCont
      refine two_ (i := 4) (j := 8) (Ni := some 24) (Nj := some 10) (xB 10 63) (xB 10 303) rfl rfl rfl rfl (two_of HT_.out (by kernel_rfl)) (by decide) (by decide) (fun K hK => ?_) (fun K hK => ?_)
      ·skip
       refine Kd.R_lit_step (Kd.int .i64) _ 3 ?hg (N := 24) ?hd (xs := ([] : List Int)) (inner := []) (ok := fun _ => True) (okp := fun _ => True) ?hr ?hp (fun _ hk => hk) trivial (Below.refl _ _) (Nat.le_refl _) (by simp) ?_; (case hd => rfl); (case hg => rfl); (case hr => first | (go_simp; done) | (go_simp; rfl)); (case hp => exact (Reps.none _ _))
       intro v543 w19 ho20 hb hg_ hnew_
       have HS0_ := (hb.cell (World.block_lt_of_cell? _ _ (hHeld))).trans (hHeld)
       clear hg_ hnew_
       (first | rw [← Ny542.out] at ho20 | (simp only [Int.reduceToNat] at ho20; rw [← Ny542.out] at ho20))
       replace HO_7 := ax (Kd.N_elder' (xN HO_7.out) (Kd.R_base ho20) hb); replace HO_8 := ax (Kd.N_elder' (xN HO_8.out) (Kd.R_base ho20) hb); replace HL541_0 := ax (Kd.V_elder' (xV HL541_0.out) (Kd.R_base ho20) hb); have HO544 := ax (Kd.R_lower (Kd.R_newM (M := fun k_ => (w.heap.size ≤ k_)) ho20 (below_size (xb HB.out)) (fun k_ h_ => h_)) (below_size (xb HB.out))); replace HR541_0 := ax (Kd.C_below (xw HR541_0.out) hb); replace HB := yB HB hb; clear hb ho20
       refine hK.out _ _ (HS0_) (fun hHeld => ?_)
       clear hK K
       refine nm ?_
       refine two_ (i := 6) (j := 8) (Ni := some 26) (Nj := some 10) (xB 10 127) (xB 10 319) rfl rfl rfl rfl (two_of HT_.out (by kernel_rfl)) (by decide) (by decide) (fun K hK => ?_) (fun K hK => ?_)
       ·skip
        refine Kd.R_append_rows_step (Kd.int .i64) (w0 := w) w.heap.size (by rfl) (.tmp 24) (.tmp 25) 24 3 (.int .i64 0) 8 rfl Try.underlying24 info3 rfl (by decide) (by omega) v543 y542 l0 _ _ _ (fun k_ => (w.heap.size ≤ k_)) (fun _ => False) rfl rfl ?aO ?aR (fun _ _ h => h) (fun _ h => h.elim) ?aF ?aB ?aS ?aL ?_
        (case aR => exact xz HR0.out HB.out)
        (case aB => exact (xb HB.out))
        (case aF => exact (fun k_ hk => (Nat.le_trans (below_size (xb HB.out)) hk)))
        (case aO => exact (by (with_reducible repeat (first | apply Kd.R_alloc | apply Kd.R_drewN | apply Kd.R_drew)); exact Kd.R_mono HO544.out (fun _ hk => hk.1)))
        (case aS => exact (below_size (xb HB.out)))
        (case aL => have := LMc10.out; omega)
        intro v546 w21 ho hb hg hat
        have HS0_ := cell_grown hg (hHeld) (by first | (rw [add_block]; exact (fun e_ => by obtain ⟨cs_, hc_⟩ := Kd.N_typed HO_8.out _ rfl; exact Kd.R_ne HO544.out hc_ (by decide) e_)) | (show some (Addr.add _ _).block ≠ _; rw [add_block]; exact (fun e_ => by obtain ⟨cs_, hc_⟩ := Kd.N_typed HO_8.out _ rfl; exact Kd.R_ne HO544.out hc_ (by decide) e_)) | exact (fun e_ => by obtain ⟨cs_, hc_⟩ := Kd.N_typed HO_8.out _ rfl; exact Kd.R_ne HO544.out hc_ (by decide) e_))
        rw [← Ny545.out] at ho
        have n0_ := ax (Kd.N_afterv (ok := (fun k_ => (w.heap.size ≤ k_) ∧ some k_ ≠ (.slice (some ad541) t538.length co17 : Value).ownBlock)) (xN HO_7.out) hg hat)
        have n1_ := ax (Kd.N_afterv (ok := (fun k_ => (w.heap.size ≤ k_) ∧ some k_ ≠ (u7 : Value).ownBlock)) (xN HO_8.out) hg hat)
        have n2_ := ax (Kd.V_afterv (ok := (fun k_ => (w.heap.size ≤ k_) ∧ some k_ ≠ (u7 : Value).ownBlock ∧ some k_ ≠ (.slice (some ad541) t538.length co17 : Value).ownBlock)) (by (with_reducible repeat (first | apply Kd.V_alloc | apply Kd.V_drewN | apply Kd.V_drew)); exact Kd.V_mono HL541_0.out (by first | exact (fun _ hk => ⟨⟨hk.1.1.1, ⟨hk.1.1.2, hk.1.2⟩⟩, hk.2⟩) | exact xi)) hg hat)
        have n3_ := ax (hb)
        have n4_ := ax (ho)
        clear HO_7 HO_8 HL541_0 HB HO544
        have HO_7 := n0_
        have HO_8 := n1_
        have HL541_0 := n2_
        have HB := n3_
        have HO547 := n4_
        clear n0_ n1_ n2_ n3_ n4_ ho hb hg hat
        obtain ⟨Ao22, co22, eo22⟩ := Kd.R_slice HO547.out
        (first | subst eo22 | (injection eo22 with f1_ f2_ f3_; have f4_ := f1_.symm; have f5_ := f3_.symm; clear f1_ f2_ f3_; subst f4_; subst f5_))
        refine hK.out _ _ (HS0_) (fun hHeld => ?_)
        clear hK K
        refine nm ?_
        refine pu (i := 7) (N := some 27) (xB 10 255) HT_.out ?_
        refine one_ (i := 8) (N := some 10) (xB 10 511) rfl rfl (one_of HT_.out (by kernel_rfl)) (by decide) (fun K hK => ?_)
        refine box_step ?hg (N := 10) ?hd (cs := #[.slice none 0 0, .slice none 0 0]) (t := 41) ?hr ?_; (case hd => rfl); (case hg => rfl); (case hr => first | (go_simp; done) | (go_simp; rfl))
        intro gb548 hg w23 hbox hb
        have HS0_ := (hb.cell (World.block_lt_of_cell? _ _ (hHeld))).trans (hHeld)
        replace HO_7 := ax (Kd.N_below (Kd.N_elderB (xN HO_7.out) gb548 (Nat.le_of_eq hg.symm)) hb); replace HO_8 := ax (Kd.N_below (Kd.N_elderB (xN HO_8.out) gb548 (Nat.le_of_eq hg.symm)) hb); replace HL541_0 := ax (Kd.V_below (Kd.V_elderB (xV HL541_0.out) gb548 (Nat.le_of_eq hg.symm)) hb); replace HO547 := yR HO547 hb; have BK548 := ax (hbox); have GW548 := ax ((by rw [hg]; exact (below_size (xb HB.out)) : w.heap.size ≤ gb548)); have GE548 := ax ((by rw [hg]; exact (below_size (xb HB.out)) : w.heap.size ≤ gb548)); replace HB := yB HB hb; clear hb hbox hg
        refine hK.out _ _ (HS0_) (fun hHeld => ?_)
        clear hK K
        refine nm ?_
        exact norm_ (by simp only [putAll, Act.put, List.setIfInBounds_toArray, List.set_cons_zero, List.set_cons_succ]) (hCont (v543, .slice Ao22 y545.length co22, gb548) _ ⟨hHeld, (by (with_reducible repeat (first | apply Kd.V_alloc | apply Kd.V_drewN | apply Kd.V_drew)); exact Kd.V_mono HL541_0.out (by first | exact (fun _ hk => ⟨hk.1.1.1, ⟨hk.1.2, ⟨hk.1.1.2.1, ⟨hk.1.1.2.2, hk.2⟩⟩⟩⟩) | exact xi)), (xR HO547.out), (by (with_reducible repeat (first | apply Kd.N_alloc | apply Kd.N_drewN | apply Kd.N_drew)); exact Kd.N_mono HO_7.out (by first | exact (fun _ hk => ⟨hk.1.1.1, ⟨hk.1.2, ⟨hk.1.1.2, hk.2⟩⟩⟩) | exact xi)), (by (with_reducible repeat (first | apply Kd.N_alloc | apply Kd.N_drewN | apply Kd.N_drew)); exact Kd.N_mono HO_8.out (by first | exact (fun _ hk => ⟨hk.1.1.1, ⟨hk.1.2, ⟨hk.1.1.2, hk.2⟩⟩⟩) | exact xi)), (xk BK548.out), GW548.out, GE548.out, (xs HB.out GE548.out)⟩)
       ·skip
        refine box_step ?hg (N := 10) ?hd (cs := #[.slice none 0 0, .slice none 0 0]) (t := 41) ?hr ?_; (case hd => rfl); (case hg => rfl); (case hr => first | (go_simp; done) | (go_simp; rfl))
        intro gb548 hg w21 hbox hb
        have HS0_ := (hb.cell (World.block_lt_of_cell? _ _ (hHeld))).trans (hHeld)
        replace HO_7 := ax (Kd.N_below (Kd.N_elderB (xN HO_7.out) gb548 (Nat.le_of_eq hg.symm)) hb); replace HO_8 := ax (Kd.N_below (Kd.N_elderB (xN HO_8.out) gb548 (Nat.le_of_eq hg.symm)) hb); replace HL541_0 := ax (Kd.V_below (Kd.V_elderB (xV HL541_0.out) gb548 (Nat.le_of_eq hg.symm)) hb); replace HO544 := yR HO544 hb; replace HR541_0 := ax (Kd.C_below (xw HR541_0.out) hb); have BK548 := ax (hbox); have GW548 := ax ((by rw [hg]; exact (below_size (xb HB.out)) : w.heap.size ≤ gb548)); have GE548 := ax ((by rw [hg]; exact (below_size (xb HB.out)) : w.heap.size ≤ gb548)); replace HB := yB HB hb; clear hb hbox hg
        refine hK.out _ _ (HS0_) (fun hHeld => ?_)
        clear hK K
        refine nm ?_
        refine one_ (i := 6) (N := some 26) (xB 10 383) rfl rfl (one_of HT_.out (by kernel_rfl)) (by decide) (fun K hK => ?_)
        refine Kd.R_append_rows_step (Kd.int .i64) (w0 := w) w.heap.size (by rfl) (.tmp 24) (.tmp 25) 24 3 (.int .i64 0) 8 rfl Try.underlying24 info3 rfl (by decide) (by omega) v543 y542 l0 _ _ _ (fun k_ => (w.heap.size ≤ k_)) (fun _ => False) rfl rfl ?aO ?aR (fun _ _ h => h) (fun _ h => h.elim) ?aF ?aB ?aS ?aL ?_
        (case aR => exact xz HR0.out HB.out)
        (case aB => exact (xs HB.out GE548.out))
        (case aF => exact (fun k_ hk => (Nat.le_trans (below_size (xs HB.out GE548.out)) hk)))
        (case aO => exact (by (with_reducible repeat (first | apply Kd.R_alloc | apply Kd.R_drewN | apply Kd.R_drew)); exact Kd.R_mono HO544.out (fun _ hk => hk.1)))
        (case aS => exact (below_size (xs HB.out GE548.out)))
        (case aL => have := LMc10.out; omega)
        intro v546 w22 ho hb hg hat
        have HS0_ := cell_grown hg (hHeld) (by first | (rw [add_block]; exact (fun e_ => by obtain ⟨cs_, hc_⟩ := Kd.N_typed HO_8.out _ rfl; exact Kd.R_ne HO544.out hc_ (by decide) e_)) | (show some (Addr.add _ _).block ≠ _; rw [add_block]; exact (fun e_ => by obtain ⟨cs_, hc_⟩ := Kd.N_typed HO_8.out _ rfl; exact Kd.R_ne HO544.out hc_ (by decide) e_)) | exact (fun e_ => by obtain ⟨cs_, hc_⟩ := Kd.N_typed HO_8.out _ rfl; exact Kd.R_ne HO544.out hc_ (by decide) e_))
        rw [← Ny545.out] at ho
        have n0_ := ax (Kd.N_afterv (ok := (fun k_ => (w.heap.size ≤ k_) ∧ some k_ ≠ (.slice (some ad541) t538.length co17 : Value).ownBlock ∧ k_ ≠ gb548)) (by (with_reducible repeat (first | apply Kd.N_alloc | apply Kd.N_drewN | apply Kd.N_drew)); exact Kd.N_mono HO_7.out (by first | exact (fun _ hk => ⟨⟨hk.1.1.1, ⟨hk.1.1.2, hk.2⟩⟩, hk.1.2⟩) | exact xi)) hg hat)
        have n1_ := ax (Kd.N_afterv (ok := (fun k_ => (w.heap.size ≤ k_) ∧ some k_ ≠ (u7 : Value).ownBlock ∧ k_ ≠ gb548)) (by (with_reducible repeat (first | apply Kd.N_alloc | apply Kd.N_drewN | apply Kd.N_drew)); exact Kd.N_mono HO_8.out (by first | exact (fun _ hk => ⟨⟨hk.1.1.1, ⟨hk.1.1.2, hk.2⟩⟩, hk.1.2⟩) | exact xi)) hg hat)
        have n2_ := ax (Kd.V_afterv (ok := (fun k_ => (w.heap.size ≤ k_) ∧ some k_ ≠ (u7 : Value).ownBlock ∧ some k_ ≠ (.slice (some ad541) t538.length co17 : Value).ownBlock ∧ k_ ≠ gb548)) (by (with_reducible repeat (first | apply Kd.V_alloc | apply Kd.V_drewN | apply Kd.V_drew)); exact Kd.V_mono HL541_0.out (by first | exact (fun _ hk => ⟨⟨hk.1.1.1.1, ⟨hk.1.1.1.2, ⟨hk.1.1.2, hk.2⟩⟩⟩, hk.1.2⟩) | exact xi)) hg hat)
        have n3_ := ax (blk_grown (g := gb548) (o := .cells #[.slice none 0 0, .slice none 0 0] 41 (0, 0)) (xk BK548.out) hg (Kd.R_ne HO544.out BK548.out (by decide)))
        have n4_ := ax (hb)
        have n5_ := ax (ho)
        clear HO_7 HO_8 HL541_0 BK548 HB HO544
        have HO_7 := n0_
        have HO_8 := n1_
        have HL541_0 := n2_
        have BK548 := n3_
        have HB := n4_
        have HO547 := n5_
        clear n0_ n1_ n2_ n3_ n4_ n5_ ho hb hg hat
        obtain ⟨Ao23, co23, eo23⟩ := Kd.R_slice HO547.out
        (first | subst eo23 | (injection eo23 with f1_ f2_ f3_; have f4_ := f1_.symm; have f5_ := f3_.symm; clear f1_ f2_ f3_; subst f4_; subst f5_))
        refine hK.out _ _ (HS0_) (fun hHeld => ?_)
        clear hK K
        refine nm ?_
        refine pu (i := 7) (N := some 27) (xB 10 511) HT_.out ?_
        exact norm_ (by simp only [putAll, Act.put, List.setIfInBounds_toArray, List.set_cons_zero, List.set_cons_succ]) (hCont (v543, .slice Ao23 y545.length co23, gb548) _ ⟨hHeld, (by (with_reducible repeat (first | apply Kd.V_alloc | apply Kd.V_drewN | apply Kd.V_drew)); exact Kd.V_mono HL541_0.out (by first | exact (fun _ hk => ⟨hk.1.1, ⟨hk.2, ⟨hk.1.2.1, ⟨hk.1.2.2.1, hk.1.2.2.2⟩⟩⟩⟩) | exact xi)), (xR HO547.out), (by (with_reducible repeat (first | apply Kd.N_alloc | apply Kd.N_drewN | apply Kd.N_drew)); exact Kd.N_mono HO_7.out (by first | exact (fun _ hk => ⟨hk.1.1, ⟨hk.2, ⟨hk.1.2.1, hk.1.2.2⟩⟩⟩) | exact xi)), (by (with_reducible repeat (first | apply Kd.N_alloc | apply Kd.N_drewN | apply Kd.N_drew)); exact Kd.N_mono HO_8.out (by first | exact (fun _ hk => ⟨hk.1.1, ⟨hk.2, ⟨hk.1.2.1, hk.1.2.2⟩⟩⟩) | exact xi)), (xk BK548.out), GW548.out, GE548.out, (xs HB.out GE548.out)⟩)
      ·skip
       refine box_step ?hg (N := 10) ?hd (cs := #[.slice none 0 0, .slice none 0 0]) (t := 41) ?hr ?_; (case hd => rfl); (case hg => rfl); (case hr => first | (go_simp; done) | (go_simp; rfl))
       intro gb548 hg w19 hbox hb
       have HS0_ := (hb.cell (World.block_lt_of_cell? _ _ (hHeld))).trans (hHeld)
       replace HO_7 := ax (Kd.N_below (Kd.N_elderB (xN HO_7.out) gb548 (Nat.le_of_eq hg.symm)) hb); replace HO_8 := ax (Kd.N_below (Kd.N_elderB (xN HO_8.out) gb548 (Nat.le_of_eq hg.symm)) hb); replace HL541_0 := ax (Kd.V_below (Kd.V_elderB (xV HL541_0.out) gb548 (Nat.le_of_eq hg.symm)) hb); replace HR541_0 := ax (Kd.C_below (xw HR541_0.out) hb); have BK548 := ax (hbox); have GW548 := ax ((by rw [hg]; exact (below_size (xb HB.out)) : w.heap.size ≤ gb548)); have GE548 := ax ((by rw [hg]; exact (below_size (xb HB.out)) : w.heap.size ≤ gb548)); replace HB := yB HB hb; clear hb hbox hg
       refine hK.out _ _ (HS0_) (fun hHeld => ?_)
       clear hK K
       refine nm ?_
       refine one_ (i := 4) (N := some 24) (xB 10 319) rfl rfl (one_of HT_.out (by kernel_rfl)) (by decide) (fun K hK => ?_)
       refine Kd.R_lit_step (Kd.int .i64) _ 3 ?hg (N := 24) ?hd (xs := ([] : List Int)) (inner := []) (ok := fun _ => True) (okp := fun _ => True) ?hr ?hp (fun _ hk => hk) trivial (Below.refl _ _) (Nat.le_refl _) (by simp) ?_; (case hd => rfl); (case hg => rfl); (case hr => first | (go_simp; done) | (go_simp; rfl)); (case hp => exact (Reps.none _ _))
       intro v543 w20 ho21 hb hg_ hnew_
       have HS0_ := (hb.cell (World.block_lt_of_cell? _ _ (hHeld))).trans (hHeld)
       clear hg_ hnew_
       (first | rw [← Ny542.out] at ho21 | (simp only [Int.reduceToNat] at ho21; rw [← Ny542.out] at ho21))
       replace HO_7 := ax (Kd.N_elder' (xN HO_7.out) (Kd.R_base ho21) hb); replace HO_8 := ax (Kd.N_elder' (xN HO_8.out) (Kd.R_base ho21) hb); replace HL541_0 := ax (Kd.V_elder' (xV HL541_0.out) (Kd.R_base ho21) hb); have HO544 := ax (Kd.R_lower (Kd.R_newM (M := fun k_ => (w.heap.size ≤ k_)) ho21 (below_size (xs HB.out GE548.out)) (fun k_ h_ => h_)) (below_size (xs HB.out GE548.out))); replace HR541_0 := ax (Kd.C_below (xw HR541_0.out) hb); replace BK548 := ax (blk_below (g := gb548) (o := .cells #[.slice none 0 0, .slice none 0 0] 41 (0, 0)) (xk BK548.out) hb); replace HB := ax (below_step (xs HB.out GE548.out) hb); clear hb ho21
       refine hK.out _ _ (HS0_) (fun hHeld => ?_)
       clear hK K
       refine nm ?_
       refine one_ (i := 6) (N := some 26) (xB 10 383) rfl rfl (one_of HT_.out (by kernel_rfl)) (by decide) (fun K hK => ?_)
       refine Kd.R_append_rows_step (Kd.int .i64) (w0 := w) w.heap.size (by rfl) (.tmp 24) (.tmp 25) 24 3 (.int .i64 0) 8 rfl Try.underlying24 info3 rfl (by decide) (by omega) v543 y542 l0 _ _ _ (fun k_ => (w.heap.size ≤ k_)) (fun _ => False) rfl rfl ?aO ?aR (fun _ _ h => h) (fun _ h => h.elim) ?aF ?aB ?aS ?aL ?_
       (case aR => exact xz HR0.out HB.out)
       (case aB => exact (xs HB.out GE548.out))
       (case aF => exact (fun k_ hk => (Nat.le_trans (below_size (xs HB.out GE548.out)) hk)))
       (case aO => exact (by (with_reducible repeat (first | apply Kd.R_alloc | apply Kd.R_drewN | apply Kd.R_drew)); exact Kd.R_mono HO544.out (fun _ hk => hk.1)))
       (case aS => exact (below_size (xs HB.out GE548.out)))
       (case aL => have := LMc10.out; omega)
       intro v546 w22 ho hb hg hat
       have HS0_ := cell_grown hg (hHeld) (by first | (rw [add_block]; exact (fun e_ => by obtain ⟨cs_, hc_⟩ := Kd.N_typed HO_8.out _ rfl; exact Kd.R_ne HO544.out hc_ (by decide) e_)) | (show some (Addr.add _ _).block ≠ _; rw [add_block]; exact (fun e_ => by obtain ⟨cs_, hc_⟩ := Kd.N_typed HO_8.out _ rfl; exact Kd.R_ne HO544.out hc_ (by decide) e_)) | exact (fun e_ => by obtain ⟨cs_, hc_⟩ := Kd.N_typed HO_8.out _ rfl; exact Kd.R_ne HO544.out hc_ (by decide) e_))
       rw [← Ny545.out] at ho
       have n0_ := ax (Kd.N_afterv (ok := (fun k_ => (w.heap.size ≤ k_) ∧ some k_ ≠ (.slice (some ad541) t538.length co17 : Value).ownBlock ∧ k_ ≠ gb548)) (by (with_reducible repeat (first | apply Kd.N_alloc | apply Kd.N_drewN | apply Kd.N_drew)); exact Kd.N_mono HO_7.out (by first | exact (fun _ hk => ⟨⟨hk.1.1.1, ⟨hk.1.1.2, hk.1.2⟩⟩, hk.2⟩) | exact xi)) hg hat)
       have n1_ := ax (Kd.N_afterv (ok := (fun k_ => (w.heap.size ≤ k_) ∧ some k_ ≠ (u7 : Value).ownBlock ∧ k_ ≠ gb548)) (by (with_reducible repeat (first | apply Kd.N_alloc | apply Kd.N_drewN | apply Kd.N_drew)); exact Kd.N_mono HO_8.out (by first | exact (fun _ hk => ⟨⟨hk.1.1.1, ⟨hk.1.1.2, hk.1.2⟩⟩, hk.2⟩) | exact xi)) hg hat)
       have n2_ := ax (Kd.V_afterv (ok := (fun k_ => (w.heap.size ≤ k_) ∧ some k_ ≠ (u7 : Value).ownBlock ∧ some k_ ≠ (.slice (some ad541) t538.length co17 : Value).ownBlock ∧ k_ ≠ gb548)) (by (with_reducible repeat (first | apply Kd.V_alloc | apply Kd.V_drewN | apply Kd.V_drew)); exact Kd.V_mono HL541_0.out (by first | exact (fun _ hk => ⟨⟨hk.1.1.1.1, ⟨hk.1.1.1.2, ⟨hk.1.1.2, hk.1.2⟩⟩⟩, hk.2⟩) | exact xi)) hg hat)
       have n3_ := ax (blk_grown (g := gb548) (o := .cells #[.slice none 0 0, .slice none 0 0] 41 (0, 0)) (xk BK548.out) hg (Kd.R_ne HO544.out BK548.out (by decide)))
       have n4_ := ax (hb)
       have n5_ := ax (ho)
       clear HO_7 HO_8 HL541_0 BK548 HB HO544
       have HO_7 := n0_
       have HO_8 := n1_
       have HL541_0 := n2_
       have BK548 := n3_
       have HB := n4_
       have HO547 := n5_
       clear n0_ n1_ n2_ n3_ n4_ n5_ ho hb hg hat
       obtain ⟨Ao23, co23, eo23⟩ := Kd.R_slice HO547.out
       (first | subst eo23 | (injection eo23 with f1_ f2_ f3_; have f4_ := f1_.symm; have f5_ := f3_.symm; clear f1_ f2_ f3_; subst f4_; subst f5_))
       refine hK.out _ _ (HS0_) (fun hHeld => ?_)
       clear hK K
       refine nm ?_
       refine pu (i := 7) (N := some 27) (xB 10 511) HT_.out ?_
       exact norm_ (by simp only [putAll, Act.put, List.setIfInBounds_toArray, List.set_cons_zero, List.set_cons_succ]) (hCont (v543, .slice Ao23 y545.length co23, gb548) _ ⟨hHeld, (by (with_reducible repeat (first | apply Kd.V_alloc | apply Kd.V_drewN | apply Kd.V_drew)); exact Kd.V_mono HL541_0.out (by first | exact (fun _ hk => ⟨hk.1.1, ⟨hk.2, ⟨hk.1.2.1, ⟨hk.1.2.2.1, hk.1.2.2.2⟩⟩⟩⟩) | exact xi)), (xR HO547.out), (by (with_reducible repeat (first | apply Kd.N_alloc | apply Kd.N_drewN | apply Kd.N_drew)); exact Kd.N_mono HO_7.out (by first | exact (fun _ hk => ⟨hk.1.1, ⟨hk.2, ⟨hk.1.2.1, hk.1.2.2⟩⟩⟩) | exact xi)), (by (with_reducible repeat (first | apply Kd.N_alloc | apply Kd.N_drewN | apply Kd.N_drew)); exact Kd.N_mono HO_8.out (by first | exact (fun _ hk => ⟨hk.1.1, ⟨hk.2, ⟨hk.1.2.1, hk.1.2.2⟩⟩⟩) | exact xi)), (xk BK548.out), GW548.out, GE548.out, (xs HB.out GE548.out)⟩)
     rintro ⟨v543, v546, gb548⟩ w24 ⟨hS_, h0_, h1_, h2_, h3_, h4_, h5_, h6_, h7_⟩
     have n0_ : Aside0 (Kd.V (Kd.int .i64) 3 w24 w.heap.size (fun k_ => (w.heap.size ≤ k_) ∧ some k_ ≠ (v546 : Value).ownBlock ∧ some k_ ≠ (u7 : Value).ownBlock ∧ some k_ ≠ (.slice (some ad541) t538.length co17 : Value).ownBlock ∧ k_ ≠ gb548) (.slice A541_0 (rd_L2 t538 x9_1).length c541_0) (rd_L2 t538 x9_1)) := ⟨h0_⟩
     have n1_ : Aside0 (Kd.R (Kd.int .i64) 3 w24 w.heap.size (fun k_ => (w.heap.size ≤ k_)) v546 y545) := ⟨h1_⟩
     have n2_ : Aside0 (Kd.N (Kd.slice 3 (Kd.int .i64)) 24 w24 w.heap.size (fun k_ => (w.heap.size ≤ k_) ∧ some k_ ≠ (v546 : Value).ownBlock ∧ some k_ ≠ (.slice (some ad541) t538.length co17 : Value).ownBlock ∧ k_ ≠ gb548) u7 x7_1) := ⟨h2_⟩
     have n3_ : Aside0 (Kd.N (Kd.slice 3 (Kd.int .i64)) 24 w24 w.heap.size (fun k_ => (w.heap.size ≤ k_) ∧ some k_ ≠ (v546 : Value).ownBlock ∧ some k_ ≠ (u7 : Value).ownBlock ∧ k_ ≠ gb548) (.slice (some ad541) t538.length co17) t538) := ⟨h3_⟩
     have n4_ : Aside0 (w24.heap[gb548]? = some (.cells #[.slice none 0 0, .slice none 0 0] 41 (0, 0))) := ⟨h4_⟩
     have n5_ : Aside0 (w.heap.size ≤ gb548) := ⟨h5_⟩
     have n6_ : Aside0 (w.heap.size ≤ gb548) := ⟨h6_⟩
     have n7_ : Aside0 (Below w.heap.size w w24) := ⟨h7_⟩
     clear HO_7 HO_8 HB h0_ h1_ h2_ h3_ h4_ h5_ h6_ h7_
     have HL541_0 := n0_
     have HO547 := n1_
     have HO_7 := n2_
     have HO_8 := n3_
     have BK548 := n4_
     have GW548 := n5_
     have GE548 := n6_
     have HB := n7_
     clear n0_ n1_ n2_ n3_ n4_ n5_ n6_ n7_
     have hHeld : w24.cell? (ad541.add (x9_1).toNat) = some (.slice A541_0 (rd_L2 t538 x9_1).length c541_0) := hS_
     obtain ⟨Ao25, co25, eo25⟩ := Kd.R_slice HO547.out
     (first | subst eo25 | (injection eo25 with f1_ f2_ f3_; have f4_ := f1_.symm; have f5_ := f3_.symm; clear f1_ f2_ f3_; subst f4_; subst f5_))
     refine norm_ (a' := ?_) ?_ ?_
     rotate_left
     ·simp only [putAll, Act.put, List.setIfInBounds_toArray, List.set_cons_zero, List.set_cons_succ]
      rfl
     refine one_ (i := 9) (N := none) (xB 10 1023) rfl rfl (one_of HT_.out (by kernel_rfl)) (by decide) (fun K hK => ?_)
     have hs26 : w24.cell? ⟨gb548, 0, none⟩ = some (.slice none 0 0) := (blk_cell BK548.out 0).trans rfl
     have hfs26 := blk_frozen BK548.out 0
     have hs27 : w24.cell? ⟨gb548, 1, none⟩ = some (.slice none 0 0) := (blk_cell BK548.out 1).trans rfl
     have hfs27 := blk_frozen BK548.out 1
     refine skip_ (w1 := ?_) (by rfl) rfl ?_ ?_
     rotate_left
     ·go_simp
      rfl
     refine hK.out _ _ (((cell_far (p := ⟨gb548, _, none⟩) (by first | exact Kd.own_blk (Kd.N_away HO_8.out (fun _ hk => hk.2.2.2)) | (rw [add_block]; exact Kd.own_blk (Kd.N_away HO_8.out (fun _ hk => hk.2.2.2))) | (show (Addr.add _ _).block ≠ _; rw [add_block]; exact Kd.own_blk (Kd.N_away HO_8.out (fun _ hk => hk.2.2.2))) | (dsimp only; exact Kd.own_blk (Kd.N_away HO_8.out (fun _ hk => hk.2.2.2)))) _).trans (((cell_far (p := ⟨gb548, _, none⟩) (by first | exact Kd.own_blk (Kd.N_away HO_8.out (fun _ hk => hk.2.2.2)) | (rw [add_block]; exact Kd.own_blk (Kd.N_away HO_8.out (fun _ hk => hk.2.2.2))) | (show (Addr.add _ _).block ≠ _; rw [add_block]; exact Kd.own_blk (Kd.N_away HO_8.out (fun _ hk => hk.2.2.2))) | (dsimp only; exact Kd.own_blk (Kd.N_away HO_8.out (fun _ hk => hk.2.2.2)))) _).trans (hHeld))))) (fun hHeld => ?_)
     clear hK K
     refine done_ (done_of HT_.out (by kernel_rfl)) ?_
     try go_wp2_with (first | ((with_reducible refine gate_callee (f := 43) rfl ?_); refine goesL_ (some 30) rfl rfl Try.func43 (by kernel_rfl) rfl #[.slice A0 l0.length c0] rfl xm ?_; (with_reducible refine (spec_l2Size.calls k1 _ _ l0 t549 _ ?side1 ?side2 A11.out).mono ?_); (case side1 => exact Kd.C_below HR0.out (xs HB.out GE548.out)); (case side2 => exact HC0.out); rintro e w' ⟨rfl, ⟨nd, rfl⟩⟩; refine ⟨_, rfl, ?_⟩))
     have n0_ : Aside0 (Kd.N (Kd.slice 3 (Kd.int .i64)) 24 ((w24.setCell ⟨gb548, 0, none⟩ (.slice A541_0 (rd_L2 t538 x9_1).length c541_0)).setCell ⟨gb548, 1, none⟩ (.slice Ao25 y545.length co25)) w.heap.size (fun k_ => (w.heap.size ≤ k_) ∧ some k_ ≠ (.slice (some ad541) t538.length co17 : Value).ownBlock ∧ some k_ ≠ (.slice Ao25 y545.length co25 : Value).ownBlock ∧ k_ ≠ gb548) u7 x7_1) := ⟨by (with_reducible repeat (first | apply Kd.N_alloc | apply Kd.N_drewN | apply Kd.N_drew)); exact Kd.N_mono (Kd.N_far (p := ⟨gb548, 1, none⟩) (Kd.N_far (p := ⟨gb548, 0, none⟩) (Kd.N_mono HO_7.out (fun k_ hk => (⟨hk, hk.2.2.2⟩ : _ ∧ k_ ≠ gb548))) (fun _ hk => hk.2) (.slice A541_0 (rd_L2 t538 x9_1).length c541_0)) (fun _ hk => hk.2) (.slice Ao25 y545.length co25)) (fun _ hk => ⟨hk.1.1, ⟨hk.1.2.2.1, ⟨hk.1.2.1, hk.1.2.2.2⟩⟩⟩)⟩
     have n1_ : Aside0 (Kd.N (Kd.slice 3 (Kd.int .i64)) 24 ((w24.setCell ⟨gb548, 0, none⟩ (.slice A541_0 (rd_L2 t538 x9_1).length c541_0)).setCell ⟨gb548, 1, none⟩ (.slice Ao25 y545.length co25)) w.heap.size (fun k_ => (w.heap.size ≤ k_) ∧ some k_ ≠ (u7 : Value).ownBlock ∧ some k_ ≠ (.slice Ao25 y545.length co25 : Value).ownBlock ∧ k_ ≠ gb548) (.slice (some ad541) t538.length co17) t538) := ⟨by (with_reducible repeat (first | apply Kd.N_alloc | apply Kd.N_drewN | apply Kd.N_drew)); exact Kd.N_mono (Kd.N_far (p := ⟨gb548, 1, none⟩) (Kd.N_far (p := ⟨gb548, 0, none⟩) (Kd.N_mono HO_8.out (fun k_ hk => (⟨hk, hk.2.2.2⟩ : _ ∧ k_ ≠ gb548))) (fun _ hk => hk.2) (.slice A541_0 (rd_L2 t538 x9_1).length c541_0)) (fun _ hk => hk.2) (.slice Ao25 y545.length co25)) (fun _ hk => ⟨hk.1.1, ⟨hk.1.2.2.1, ⟨hk.1.2.1, hk.1.2.2.2⟩⟩⟩)⟩
     have n2_ : Aside0 (Kd.V (Kd.int .i64) 3 ((w24.setCell ⟨gb548, 0, none⟩ (.slice A541_0 (rd_L2 t538 x9_1).length c541_0)).setCell ⟨gb548, 1, none⟩ (.slice Ao25 y545.length co25)) w.heap.size (fun k_ => (w.heap.size ≤ k_) ∧ some k_ ≠ (u7 : Value).ownBlock ∧ some k_ ≠ (.slice (some ad541) t538.length co17 : Value).ownBlock ∧ some k_ ≠ (.slice Ao25 y545.length co25 : Value).ownBlock ∧ k_ ≠ gb548) (.slice A541_0 (rd_L2 t538 x9_1).length c541_0) (rd_L2 t538 x9_1)) := ⟨by (with_reducible repeat (first | apply Kd.V_alloc | apply Kd.V_drewN | apply Kd.V_drew)); exact Kd.V_mono (Kd.V_far (p := ⟨gb548, 1, none⟩) (Kd.V_far (p := ⟨gb548, 0, none⟩) (Kd.V_mono HL541_0.out (fun k_ hk => (⟨hk, hk.2.2.2.2⟩ : _ ∧ k_ ≠ gb548))) (fun _ hk => hk.2) (.slice A541_0 (rd_L2 t538 x9_1).length c541_0)) (fun _ hk => hk.2) (.slice Ao25 y545.length co25)) (fun _ hk => ⟨hk.1.1, ⟨hk.1.2.2.1, ⟨hk.1.2.2.2.1, ⟨hk.1.2.1, hk.1.2.2.2.2⟩⟩⟩⟩)⟩
     have n3_ : Aside0 (Kd.R (Kd.int .i64) 3 ((w24.setCell ⟨gb548, 0, none⟩ (.slice A541_0 (rd_L2 t538 x9_1).length c541_0)).setCell ⟨gb548, 1, none⟩ (.slice Ao25 y545.length co25)) w.heap.size (fun k_ => (w.heap.size ≤ k_)) (.slice Ao25 y545.length co25) y545) := ⟨by (with_reducible repeat (first | apply Kd.R_alloc | apply Kd.R_drewN | apply Kd.R_drew)); exact Kd.R_mono (Kd.R_far (p := ⟨gb548, 1, none⟩) (Kd.R_far (p := ⟨gb548, 0, none⟩) (Kd.R_types HO547.out BK548.out (by decide)) (fun _ hk => hk.2) (.slice A541_0 (rd_L2 t538 x9_1).length c541_0)) (fun _ hk => hk.2) (.slice Ao25 y545.length co25)) (fun _ hk => hk.1)⟩
     have n4_ : Aside0 (((w24.setCell ⟨gb548, 0, none⟩ (.slice A541_0 (rd_L2 t538 x9_1).length c541_0)).setCell ⟨gb548, 1, none⟩ (.slice Ao25 y545.length co25)).heap[gb548]? = some (.cells #[.slice A541_0 (rd_L2 t538 x9_1).length c541_0, .slice Ao25 y545.length co25] 41 (0, 0))) := ⟨by (with_reducible repeat (first | refine blk_drewN ?_ _ | refine blk_drew ?_ | refine blk_alloc ?_ _)); refine blk_put (cs := #[.slice A541_0 (rd_L2 t538 x9_1).length c541_0, .slice none 0 0]) ?_ 1 _ rfl; (with_reducible repeat (first | refine blk_drewN ?_ _ | refine blk_drew ?_ | refine blk_alloc ?_ _)); refine blk_put (cs := #[.slice none 0 0, .slice none 0 0]) ?_ 0 _ rfl; (with_reducible repeat (first | refine blk_drewN ?_ _ | refine blk_drew ?_ | refine blk_alloc ?_ _)); exact BK548.out⟩
     have n5_ : Aside0 (Below w.heap.size w ((w24.setCell ⟨gb548, 0, none⟩ (.slice A541_0 (rd_L2 t538 x9_1).length c541_0)).setCell ⟨gb548, 1, none⟩ (.slice Ao25 y545.length co25))) := ⟨xs HB.out GE548.out⟩
     (try clear HO_7)
     (try clear HO_8)
     (try clear HL541_0)
     (try clear HO547)
     (try clear BK548)
     (try clear HB)
     generalize ((w24.setCell ⟨gb548, 0, none⟩ (.slice A541_0 (rd_L2 t538 x9_1).length c541_0)).setCell ⟨gb548, 1, none⟩ (.slice Ao25 y545.length co25)) = w28 at n0_ n1_ n2_ n3_ n4_ n5_ ⊢
     have HO_7 := n0_
     have HO_8 := n1_
     have HL541_0 := n2_
     have HO547 := n3_
     have BK548 := n4_
     have HB := n5_
     clear n0_ n1_ n2_ n3_ n4_ n5_
     (try (rw [drewN_self w28]; generalize hq_ : World.drewN w28 _ = w28; have n0_ : Aside0 (Kd.V (Kd.int .i64) 3 w28 w.heap.size (fun k_ => (w.heap.size ≤ k_) ∧ some k_ ≠ (.slice Ao25 y545.length co25 : Value).ownBlock ∧ some k_ ≠ (u7 : Value).ownBlock ∧ some k_ ≠ (.slice (some ad541) t538.length co17 : Value).ownBlock ∧ k_ ≠ gb548) (.slice A541_0 (rd_L2 t538 x9_1).length c541_0) (rd_L2 t538 x9_1)) := ⟨by rw [← hq_]; exact (by (with_reducible repeat (first | apply Kd.V_alloc | apply Kd.V_drewN | apply Kd.V_drew)); exact Kd.V_mono HL541_0.out (by first | exact (fun _ hk => ⟨hk.1, ⟨hk.2.2.2.1, ⟨hk.2.1, ⟨hk.2.2.1, hk.2.2.2.2⟩⟩⟩⟩) | exact xi))⟩; have n1_ : Aside0 (Kd.R (Kd.int .i64) 3 w28 w.heap.size (fun k_ => (w.heap.size ≤ k_)) (.slice Ao25 y545.length co25) y545) := ⟨by rw [← hq_]; exact (xR HO547.out)⟩; have n2_ : Aside0 (Kd.N (Kd.slice 3 (Kd.int .i64)) 24 w28 w.heap.size (fun k_ => (w.heap.size ≤ k_) ∧ some k_ ≠ (.slice Ao25 y545.length co25 : Value).ownBlock ∧ some k_ ≠ (.slice (some ad541) t538.length co17 : Value).ownBlock ∧ k_ ≠ gb548) u7 x7_1) := ⟨by rw [← hq_]; exact (by (with_reducible repeat (first | apply Kd.N_alloc | apply Kd.N_drewN | apply Kd.N_drew)); exact Kd.N_mono HO_7.out (by first | exact (fun _ hk => ⟨hk.1, ⟨hk.2.2.1, ⟨hk.2.1, hk.2.2.2⟩⟩⟩) | exact xi))⟩; have n3_ : Aside0 (Kd.N (Kd.slice 3 (Kd.int .i64)) 24 w28 w.heap.size (fun k_ => (w.heap.size ≤ k_) ∧ some k_ ≠ (.slice Ao25 y545.length co25 : Value).ownBlock ∧ some k_ ≠ (u7 : Value).ownBlock ∧ k_ ≠ gb548) (.slice (some ad541) t538.length co17) t538) := ⟨by rw [← hq_]; exact (by (with_reducible repeat (first | apply Kd.N_alloc | apply Kd.N_drewN | apply Kd.N_drew)); exact Kd.N_mono HO_8.out (by first | exact (fun _ hk => ⟨hk.1, ⟨hk.2.2.1, ⟨hk.2.1, hk.2.2.2⟩⟩⟩) | exact xi))⟩; have n4_ : Aside0 (w28.heap[gb548]? = some (.cells #[.slice A541_0 (rd_L2 t538 x9_1).length c541_0, .slice Ao25 y545.length co25] 41 (0, 0))) := ⟨by rw [← hq_]; exact (xk BK548.out)⟩; have n5_ : Aside0 (Below w.heap.size w w28) := ⟨by rw [← hq_]; exact (xs HB.out GE548.out)⟩; clear HL541_0 HO547 HO_7 HO_8 BK548 HB hq_; have HL541_0 := n0_; have HO547 := n1_; have HO_7 := n2_; have HO_8 := n3_; have BK548 := n4_; have HB := n5_; clear n0_ n1_ n2_ n3_ n4_ n5_))
     replace HO_7 := ax (Kd.N_drew HO_7.out); replace HO_8 := ax (Kd.N_drew HO_8.out); replace HL541_0 := ax (Kd.V_drew HL541_0.out); replace HO547 := ax (Kd.R_drew HO547.out); replace BK548 := ax (blk_drew BK548.out); replace HB := ax (below_drew1 HB.out)
     have p556 : 0 ≤ (x9_1 : Int) := xd
     have q556 : x9_1 < (t538.length : Int) := xd
     obtain ⟨ad556, A556_0, c556_0, e556, hx556_0, hl556_0, hi556_0⟩ := at_L2 (Kd.N_reads' HO_8.out).2.2 x9_1 p556 q556
     obtain rfl : ad541 = ad556 := (by injection e556)
     obtain ⟨ce556, hce556, hMe556, hcc556⟩ := Kd.N_get HO_8.out [] x9_1 p556 (by first | exact q556 | exact xd | (have e_ := (Kd.N_reads' HO_8.out).1; omega))
     obtain ⟨ua556_0, uc556_0, rfl, ul556_0, ge556_0⟩ := Kd.FK_slice_open hMe556
     have hv556_0 := hcc556 0 _ rfl
     rw [Nat.add_zero, show ((Kd.slice 3 (Kd.int .i64))).sz = 1 from rfl, Nat.mul_one] at hv556_0
     replace hv556_0 := Option.some.inj (hv556_0.symm.trans hx556_0)
     injection hv556_0 with hva_ hvn_ hvc_
     rw [hva_] at ge556_0
     rw [hvc_] at ul556_0
     have HL556_0 := ax (show Kd.V (Kd.int .i64) 3 _ w.heap.size _ _ (rd_L2 t538 x9_1) from Kd.V_mk ul556_0 ge556_0)
     clear hva_ hvn_ hvc_ ge556_0 ul556_0 hcc556 hce556
     have HR556_0 := ax hi556_0
     have HC556_0 := ax hl556_0
     clear hi556_0 hl556_0
     replace p556 := eq_true p556
     replace q556 := eq_true q556
     refine start_ (n := 9) (S := fun w' => w'.cell? (ad541.add (x9_1).toNat) = some (.slice A556_0 (rd_L2 t538 x9_1).length c556_0)) (ds := []) (xB 9 0) (by kernel_rfl) rfl (by kernel_rfl) (hx556_0) (fun hHeld => ?_); refine with_tabW spec_l19Pick__2.tab8 spec_l19Pick__2.bits8 (fun HT_ HW_ => ?_)
     generalize w28.drew = w29 at HO_7 HO_8 HL541_0 HO547 BK548 HB HL556_0 HR556_0 hx556_0 hHeld ⊢
     refine pu (i := 1) (N := some 33) (xB 9 2) HT_.out ?_
     refine pu (i := 3) (N := some 35) (xB 9 10) HT_.out ?_
     refine pu (i := 4) (N := some 36) (xB 9 26) HT_.out ?_
     refine pu (i := 5) (N := some 37) (xB 9 58) HT_.out ?_
     refine tk (i := 6) (N := some 38) (xB 9 122) HT_.out HW_.out hHeld ?_
     refine one_ (i := 0) (N := some 32) (xB 9 123) rfl rfl (one_of HT_.out (by kernel_rfl)) (by decide) (fun K hK => ?_)
     refine Kd.R_lit_step (Kd.int .i64) _ 3 ?hg (N := 32) ?hd (xs := ([] : List Int)) (inner := []) (ok := fun _ => True) (okp := fun _ => True) ?hr ?hp (fun _ hk => hk) trivial (Below.refl _ _) (Nat.le_refl _) (by simp) ?_; (case hd => rfl); (case hg => rfl); (case hr => first | (go_simp; done) | (go_simp; rfl)); (case hp => exact (Reps.none _ _))
     intro v551 w30 ho31 hb hg_ hnew_
     have HS0_ := (hb.cell (World.block_lt_of_cell? _ _ (hHeld))).trans (hHeld)
     clear hg_ hnew_
     (first | rw [← Ny550.out] at ho31 | (simp only [Int.reduceToNat] at ho31; rw [← Ny550.out] at ho31))
     replace HO_7 := ax (Kd.N_elder' (xN HO_7.out) (Kd.R_base ho31) hb); replace HO_8 := ax (Kd.N_elder' (xN HO_8.out) (Kd.R_base ho31) hb); replace HL541_0 := ax (Kd.V_elder' (xV HL541_0.out) (Kd.R_base ho31) hb); replace HL556_0 := ax (Kd.V_elder' (xV HL556_0.out) (Kd.R_base ho31) hb); have HO552 := ax (Kd.R_lower (Kd.R_new' (Kd.R_newM (M := fun k_ => (w.heap.size ≤ k_)) ho31 (below_size (xs HB.out GE548.out)) (fun k_ h_ => h_)) (Kd.R_lt (xR HO547.out))) (below_size (xs HB.out GE548.out))); replace HO547 := ax (Kd.R_elder' (xR HO547.out) (Kd.R_base ho31) hb); replace BK548 := ax (blk_below (g := gb548) (o := .cells #[.slice A541_0 (rd_L2 t538 x9_1).length c541_0, .slice Ao25 y545.length co25] 41 (0, 0)) (xk BK548.out) hb); replace HR556_0 := ax (Kd.C_below (xw HR556_0.out) hb); replace HB := ax (below_step (xs HB.out GE548.out) hb); clear hb ho31
     refine hK.out _ _ (HS0_) (fun hHeld => ?_)
     clear hK K
     refine nm ?_
     refine one_ (i := 2) (N := some 34) (xB 9 127) rfl rfl (one_of HT_.out (by kernel_rfl)) (by decide) (fun K hK => ?_)
     refine Kd.R_append_rows_step (Kd.int .i64) (w0 := w) w.heap.size (by rfl) (.tmp 32) (.tmp 33) 24 3 (.int .i64 0) 8 rfl Try.underlying24 info3 rfl (by decide) (by omega) v551 y550 l0 _ _ _ (fun k_ => (w.heap.size ≤ k_) ∧ some k_ ≠ (.slice Ao25 y545.length co25 : Value).ownBlock) (fun _ => False) rfl rfl ?aO ?aR (fun _ _ h => h) (fun _ h => h.elim) ?aF ?aB ?aS ?aL ?_
     (case aR => exact xz HR0.out HB.out)
     (case aB => exact (xs HB.out GE548.out))
     (case aF => exact (fun k_ hk => ⟨(Nat.le_trans (below_size (xs HB.out GE548.out)) hk), Kd.fresh' (Kd.R_lt (xR HO547.out)) k_ hk⟩))
     (case aO => exact (by (with_reducible repeat (first | apply Kd.R_alloc | apply Kd.R_drewN | apply Kd.R_drew)); exact Kd.R_mono HO552.out (by first | exact (fun _ hk => ⟨hk.1.1, hk.2⟩) | exact xi)))
     (case aS => exact (below_size (xs HB.out GE548.out)))
     (case aL => have := LMc13.out; omega)
     intro v554 w32 ho hb hg hat
     have HS0_ := cell_grown hg (hHeld) (by first | (rw [add_block]; exact (fun e_ => by obtain ⟨cs_, hc_⟩ := Kd.N_typed HO_8.out _ rfl; exact Kd.R_ne HO552.out hc_ (by decide) e_)) | (show some (Addr.add _ _).block ≠ _; rw [add_block]; exact (fun e_ => by obtain ⟨cs_, hc_⟩ := Kd.N_typed HO_8.out _ rfl; exact Kd.R_ne HO552.out hc_ (by decide) e_)) | exact (fun e_ => by obtain ⟨cs_, hc_⟩ := Kd.N_typed HO_8.out _ rfl; exact Kd.R_ne HO552.out hc_ (by decide) e_))
     rw [← Ny553.out] at ho
     have n0_ := ax (Kd.N_afterv (ok := (fun k_ => (w.heap.size ≤ k_) ∧ some k_ ≠ (.slice (some ad541) t538.length co17 : Value).ownBlock ∧ some k_ ≠ (.slice Ao25 y545.length co25 : Value).ownBlock ∧ k_ ≠ gb548)) (xN HO_7.out) hg hat)
     have n1_ := ax (Kd.N_afterv (ok := (fun k_ => (w.heap.size ≤ k_) ∧ some k_ ≠ (u7 : Value).ownBlock ∧ some k_ ≠ (.slice Ao25 y545.length co25 : Value).ownBlock ∧ k_ ≠ gb548)) (xN HO_8.out) hg hat)
     have n2_ := ax (Kd.V_afterv (ok := (fun k_ => (w.heap.size ≤ k_) ∧ some k_ ≠ (u7 : Value).ownBlock ∧ some k_ ≠ (.slice (some ad541) t538.length co17 : Value).ownBlock ∧ some k_ ≠ (.slice Ao25 y545.length co25 : Value).ownBlock ∧ k_ ≠ gb548)) (xV HL541_0.out) hg hat)
     have n3_ := ax (Kd.R_after (ok := (fun k_ => (w.heap.size ≤ k_))) (xR HO547.out) hg hat)
     have n4_ := ax (blk_grown (g := gb548) (o := .cells #[.slice A541_0 (rd_L2 t538 x9_1).length c541_0, .slice Ao25 y545.length co25] 41 (0, 0)) (xk BK548.out) hg (Kd.R_ne HO552.out BK548.out (by decide)))
     have n5_ := ax (Kd.V_afterv (ok := (fun k_ => (w.heap.size ≤ k_) ∧ some k_ ≠ (u7 : Value).ownBlock ∧ some k_ ≠ (.slice (some ad541) t538.length co17 : Value).ownBlock ∧ some k_ ≠ (.slice Ao25 y545.length co25 : Value).ownBlock ∧ k_ ≠ gb548)) (by (with_reducible repeat (first | apply Kd.V_alloc | apply Kd.V_drewN | apply Kd.V_drew)); exact Kd.V_mono HL556_0.out (by first | exact (fun _ hk => ⟨⟨hk.1.1.1, ⟨hk.1.1.2.1, ⟨hk.1.2, ⟨hk.1.1.2.2.1, hk.1.1.2.2.2⟩⟩⟩⟩, hk.2⟩) | exact xi)) hg hat)
     have n6_ := ax (hb)
     have n7_ := ax (ho)
     clear HO_7 HO_8 HL541_0 HO547 BK548 HL556_0 HB HO552
     have HO_7 := n0_
     have HO_8 := n1_
     have HL541_0 := n2_
     have HO547 := n3_
     have BK548 := n4_
     have HL556_0 := n5_
     have HB := n6_
     have HO555 := n7_
     clear n0_ n1_ n2_ n3_ n4_ n5_ n6_ n7_ ho hb hg hat
     obtain ⟨Ao33, co33, eo33⟩ := Kd.R_slice HO555.out
     (first | subst eo33 | (injection eo33 with f1_ f2_ f3_; have f4_ := f1_.symm; have f5_ := f3_.symm; clear f1_ f2_ f3_; subst f4_; subst f5_))
     refine hK.out _ _ (HS0_) (fun hHeld => ?_)
     clear hK K
     refine nm ?_
     refine pu (i := 7) (N := some 39) (xB 9 255) HT_.out ?_
     refine one_ (i := 8) (N := none) (xB 9 511) rfl rfl (one_of HT_.out (by kernel_rfl)) (by decide) (fun K hK => ?_)
     have hs34 : w32.cell? ⟨gb548, 0, none⟩ = some (.slice A541_0 (rd_L2 t538 x9_1).length c541_0) := (blk_cell BK548.out 0).trans rfl
     have hfs34 := blk_frozen BK548.out 0
     have hs35 : w32.cell? ⟨gb548, 1, none⟩ = some (.slice Ao25 y545.length co25) := (blk_cell BK548.out 1).trans rfl
     have hfs35 := blk_frozen BK548.out 1
     refine skip_ (w1 := ?_) (by rfl) rfl ?_ ?_
     rotate_left
     ·go_simp
      rfl
     refine hK.out _ _ (((cell_far (p := ⟨gb548, _, none⟩) (by first | exact Kd.own_blk (Kd.N_away HO_8.out (fun _ hk => hk.1.2.2.2)) | (rw [add_block]; exact Kd.own_blk (Kd.N_away HO_8.out (fun _ hk => hk.1.2.2.2))) | (show (Addr.add _ _).block ≠ _; rw [add_block]; exact Kd.own_blk (Kd.N_away HO_8.out (fun _ hk => hk.1.2.2.2))) | (dsimp only; exact Kd.own_blk (Kd.N_away HO_8.out (fun _ hk => hk.1.2.2.2)))) _).trans (((cell_far (p := ⟨gb548, _, none⟩) (by first | exact Kd.own_blk (Kd.N_away HO_8.out (fun _ hk => hk.1.2.2.2)) | (rw [add_block]; exact Kd.own_blk (Kd.N_away HO_8.out (fun _ hk => hk.1.2.2.2))) | (show (Addr.add _ _).block ≠ _; rw [add_block]; exact Kd.own_blk (Kd.N_away HO_8.out (fun _ hk => hk.1.2.2.2))) | (dsimp only; exact Kd.own_blk (Kd.N_away HO_8.out (fun _ hk => hk.1.2.2.2)))) _).trans (hHeld))))) (fun hHeld => ?_)
     clear hK K
     refine done_ (done_of HT_.out (by kernel_rfl)) ?_
     have hcz36_0 : w32.cell? ⟨gb548, 0, none⟩ = some (.slice A541_0 (rd_L2 t538 x9_1).length c541_0) := (blk_cell BK548.out 0).trans rfl
     have hcz36_1 : w32.cell? ⟨gb548, 1, none⟩ = some (.slice Ao25 y545.length co25) := (blk_cell BK548.out 1).trans rfl
     have hfz36_0 := blk_frozen BK548.out 0
     have hfz36_1 := blk_frozen BK548.out 1
     try go_wp2_with (first | (go_at_call 54; (with_reducible refine (spec_IsRibbon.calls k1 _ _ y553 _ _ (rd_L2 t538 x9_1) true _ ?side1 ?side2 ?side3 ?side4 A14.out).mono ?_); (case side1 => refine (Kd.R_reads' (e := 3) (base := w.heap.size) (ok := fun k_ => ((w.heap.size ≤ k_) ∧ some k_ ≠ (.slice Ao25 y545.length co25 : Value).ownBlock)) (n := y553.length) (c := co33) ?_).2.2; exact (by (with_reducible repeat (first | apply Kd.R_alloc | apply Kd.R_drewN | apply Kd.R_drew)); exact (Kd.R_mono (Kd.R_far (p := ⟨gb548, 1, none⟩) (Kd.R_far (p := ⟨gb548, 0, none⟩) (Kd.R_types HO555.out BK548.out (by decide)) (fun _ hk => hk.2) (.slice Ao33 y553.length co33)) (fun _ hk => hk.2) (.slice A556_0 (rd_L2 t538 x9_1).length c556_0)) (fun _ h_ => h_.1)))); (case side2 => exact (Kd.R_reads' HO555.out).2.1); (case side3 => repeat (first | exact ((Kd.V_reads' (by (with_reducible repeat (first | apply Kd.V_alloc | apply Kd.V_drewN | apply Kd.V_drew)); exact (Kd.V_mono (Kd.V_far (p := ⟨gb548, 1, none⟩) (Kd.V_far (p := ⟨gb548, 0, none⟩) (Kd.V_mono HL556_0.out (fun k_ hk => (⟨hk, hk.1.2.2.2.2⟩ : _ ∧ k_ ≠ gb548))) (fun _ hk => hk.2) (.slice Ao33 y553.length co33)) (fun _ hk => hk.2) (.slice A556_0 (rd_L2 t538 x9_1).length c556_0)) (fun _ h_ => h_.1)))).2.2) | (with_reducible refine Kd.C_alloc ?_ _) | (with_reducible refine Kd.C_drewN ?_ _) | (with_reducible refine Kd.C_drew ?_))); (case side4 => exact HC556_0.out); rintro e w37 ⟨rfl, hb⟩; replace HO_7 := ax (Kd.N_below (by (with_reducible repeat (first | apply Kd.N_alloc | apply Kd.N_drewN | apply Kd.N_drew)); exact (Kd.N_mono (Kd.N_far (p := ⟨gb548, 1, none⟩) (Kd.N_far (p := ⟨gb548, 0, none⟩) (Kd.N_mono HO_7.out (fun k_ hk => (⟨hk, hk.1.2.2.2⟩ : _ ∧ k_ ≠ gb548))) (fun _ hk => hk.2) (.slice Ao33 y553.length co33)) (fun _ hk => hk.2) (.slice A556_0 (rd_L2 t538 x9_1).length c556_0)) (fun _ h_ => h_.1))) hb); replace HO_8 := ax (Kd.N_below (by (with_reducible repeat (first | apply Kd.N_alloc | apply Kd.N_drewN | apply Kd.N_drew)); exact (Kd.N_mono (Kd.N_far (p := ⟨gb548, 1, none⟩) (Kd.N_far (p := ⟨gb548, 0, none⟩) (Kd.N_mono HO_8.out (fun k_ hk => (⟨hk, hk.1.2.2.2⟩ : _ ∧ k_ ≠ gb548))) (fun _ hk => hk.2) (.slice Ao33 y553.length co33)) (fun _ hk => hk.2) (.slice A556_0 (rd_L2 t538 x9_1).length c556_0)) (fun _ h_ => h_.1))) hb); replace HL541_0 := ax (Kd.V_below (by (with_reducible repeat (first | apply Kd.V_alloc | apply Kd.V_drewN | apply Kd.V_drew)); exact (Kd.V_mono (Kd.V_far (p := ⟨gb548, 1, none⟩) (Kd.V_far (p := ⟨gb548, 0, none⟩) (Kd.V_mono HL541_0.out (fun k_ hk => (⟨hk, hk.1.2.2.2.2⟩ : _ ∧ k_ ≠ gb548))) (fun _ hk => hk.2) (.slice Ao33 y553.length co33)) (fun _ hk => hk.2) (.slice A556_0 (rd_L2 t538 x9_1).length c556_0)) (fun _ h_ => h_.1))) hb); replace HO547 := ax (Kd.R_below (by (with_reducible repeat (first | apply Kd.R_alloc | apply Kd.R_drewN | apply Kd.R_drew)); exact (Kd.R_mono (Kd.R_far (p := ⟨gb548, 1, none⟩) (Kd.R_far (p := ⟨gb548, 0, none⟩) (Kd.R_types HO547.out BK548.out (by decide)) (fun _ hk => hk.2) (.slice Ao33 y553.length co33)) (fun _ hk => hk.2) (.slice A556_0 (rd_L2 t538 x9_1).length c556_0)) (fun _ h_ => h_.1))) hb); replace HL556_0 := ax (Kd.V_below (by (with_reducible repeat (first | apply Kd.V_alloc | apply Kd.V_drewN | apply Kd.V_drew)); exact (Kd.V_mono (Kd.V_far (p := ⟨gb548, 1, none⟩) (Kd.V_far (p := ⟨gb548, 0, none⟩) (Kd.V_mono HL556_0.out (fun k_ hk => (⟨hk, hk.1.2.2.2.2⟩ : _ ∧ k_ ≠ gb548))) (fun _ hk => hk.2) (.slice Ao33 y553.length co33)) (fun _ hk => hk.2) (.slice A556_0 (rd_L2 t538 x9_1).length c556_0)) (fun _ h_ => h_.1))) hb); replace HO555 := ax (Kd.R_below (by (with_reducible repeat (first | apply Kd.R_alloc | apply Kd.R_drewN | apply Kd.R_drew)); exact (Kd.R_mono (Kd.R_far (p := ⟨gb548, 1, none⟩) (Kd.R_far (p := ⟨gb548, 0, none⟩) (Kd.R_types HO555.out BK548.out (by decide)) (fun _ hk => hk.2) (.slice Ao33 y553.length co33)) (fun _ hk => hk.2) (.slice A556_0 (rd_L2 t538 x9_1).length c556_0)) (fun _ h_ => h_.1))) hb); replace BK548 := ax (blk_below (g := gb548) (o := .cells #[.slice Ao33 y553.length co33, .slice A556_0 (rd_L2 t538 x9_1).length c556_0] 41 (0, 0)) (by (with_reducible repeat (first | refine blk_drewN ?_ _ | refine blk_drew ?_ | refine blk_alloc ?_ _)); refine blk_put (cs := #[.slice Ao33 y553.length co33, .slice Ao25 y545.length co25]) ?_ 1 _ rfl; (with_reducible repeat (first | refine blk_drewN ?_ _ | refine blk_drew ?_ | refine blk_alloc ?_ _)); refine blk_put (cs := #[.slice A541_0 (rd_L2 t538 x9_1).length c541_0, .slice Ao25 y545.length co25]) ?_ 0 _ rfl; (with_reducible repeat (first | refine blk_drewN ?_ _ | refine blk_drew ?_ | refine blk_alloc ?_ _)); exact BK548.out) hb); replace HB := ax (below_step (xs HB.out GE548.out) hb); (try clear hb); have p558 : 0 ≤ (x9_1 : Int) := xd; have q558 : x9_1 < (t538.length : Int) := xd; obtain ⟨ad558, A558_0, c558_0, e558, hx558_0, hl558_0, hi558_0⟩ := at_L2 (Kd.N_reads' HO_8.out).2.2 x9_1 p558 q558; obtain rfl : ad541 = ad558 := (by injection e558); obtain ⟨ce558, hce558, hMe558, hcc558⟩ := Kd.N_get HO_8.out [] x9_1 p558 (by first | exact q558 | exact xd | (have e_ := (Kd.N_reads' HO_8.out).1; omega)); obtain ⟨ua558_0, uc558_0, rfl, ul558_0, ge558_0⟩ := Kd.FK_slice_open hMe558; have hv558_0 := hcc558 0 _ rfl; rw [Nat.add_zero, show ((Kd.slice 3 (Kd.int .i64))).sz = 1 from rfl, Nat.mul_one] at hv558_0; replace hv558_0 := Option.some.inj (hv558_0.symm.trans hx558_0); injection hv558_0 with hva_ hvn_ hvc_; rw [hva_] at ge558_0; rw [hvc_] at ul558_0; have HL558_0 := ax (show Kd.V (Kd.int .i64) 3 _ w.heap.size _ _ (rd_L2 t538 x9_1) from Kd.V_mk ul558_0 ge558_0); clear hva_ hvn_ hvc_ ge558_0 ul558_0; clear hcc558 hce558; have HR558_0 := ax hi558_0; have HC558_0 := ax hl558_0; clear hi558_0 hl558_0; replace p558 := eq_true p558; replace q558 := eq_true q558) | ((with_reducible refine gate_builtin (b := .append) (xs := #[.tmp 62, .tmp 67]) rfl ?_); at_builtin; refine Kd.N_append (Kd.slice 3 (Kd.int .i64)) (w0 := w) w.heap.size rfl (.tmp 62) (.tmp 67) 29 24 (.slice none 0 0) 24 rfl Try.underlying29 info24 rfl (by decide) (by omega) u7 x7_1 (rd_L2 t538 x9_1) [.slice A558_0 (rd_L2 t538 x9_1).length c558_0] (fun k_ => (w.heap.size ≤ k_) ∧ some k_ ≠ (.slice (some ad541) t538.length co17 : Value).ownBlock ∧ some k_ ≠ (.slice Ao25 y545.length co25 : Value).ownBlock ∧ some k_ ≠ (.slice Ao33 y553.length co33 : Value).ownBlock ∧ k_ ≠ gb548) (fun k_ => ((fun k_ => (w.heap.size ≤ k_) ∧ some k_ ≠ (.slice (some ad541) t538.length co17 : Value).ownBlock ∧ some k_ ≠ (.slice Ao25 y545.length co25 : Value).ownBlock ∧ some k_ ≠ (.slice Ao33 y553.length co33 : Value).ownBlock ∧ k_ ≠ gb548)) k_ ∧ some k_ ≠ (u7 : Value).ownBlock) rfl rfl ?aP (fun _ hk => hk) ?aF ?aO ?aB ?aS ?aL ?_; (case aP => exact (Kd.FK_slice_mk (Kd.V_reads' (Kd.V_mono (ok' := (fun k_ => ((fun k_ => (w.heap.size ≤ k_) ∧ some k_ ≠ (.slice (some ad541) t538.length co17 : Value).ownBlock ∧ some k_ ≠ (.slice Ao25 y545.length co25 : Value).ownBlock ∧ some k_ ≠ (.slice Ao33 y553.length co33 : Value).ownBlock ∧ k_ ≠ gb548)) k_ ∧ some k_ ≠ (u7 : Value).ownBlock)) (HL558_0.out) (fun k_ hk => ⟨⟨hk.1.1.1, ⟨hk.2, ⟨hk.1.1.2.2.1, ⟨hk.1.2, hk.1.1.2.2.2⟩⟩⟩⟩, hk.1.1.2.1⟩))).2.1 (Kd.V_F (Kd.V_mono (ok' := (fun k_ => ((fun k_ => (w.heap.size ≤ k_) ∧ some k_ ≠ (.slice (some ad541) t538.length co17 : Value).ownBlock ∧ some k_ ≠ (.slice Ao25 y545.length co25 : Value).ownBlock ∧ some k_ ≠ (.slice Ao33 y553.length co33 : Value).ownBlock ∧ k_ ≠ gb548)) k_ ∧ some k_ ≠ (u7 : Value).ownBlock)) (HL558_0.out) (fun k_ hk => ⟨⟨hk.1.1.1, ⟨hk.2, ⟨hk.1.1.2.2.1, ⟨hk.1.2, hk.1.1.2.2.2⟩⟩⟩⟩, hk.1.1.2.1⟩))))); (case aB => exact (xs HB.out GE548.out)); (case aF => exact (fun k_ hk => ⟨(Nat.le_trans (below_size (xs HB.out GE548.out)) hk), Kd.fresh' (Kd.N_lt (xN HO_8.out)) k_ hk, Kd.fresh' (Kd.R_lt (xR HO547.out)) k_ hk, Kd.fresh' (Kd.R_lt (xR HO555.out)) k_ hk, Kd.freshB (g := gb548) (o := .cells #[.slice Ao33 y553.length co33, .slice A556_0 (rd_L2 t538 x9_1).length c556_0] 41 (0, 0)) (xk BK548.out) k_ hk⟩)); (case aO => exact (by (with_reducible repeat (first | apply Kd.N_alloc | apply Kd.N_drewN | apply Kd.N_drew)); exact Kd.N_mono HO_7.out (by first | exact (fun _ hk => ⟨hk.1.1, ⟨hk.1.2.1, ⟨hk.1.2.2.1, ⟨hk.2, hk.1.2.2.2⟩⟩⟩⟩) | exact xi))); (case aS => exact (below_size (xs HB.out GE548.out))); (case aL => have := LMc16.out; omega); intro v560 w38 ho hb hg hat; rw [← Ny559.out] at ho; have n0_ := ax (Kd.N_afterv (ok := (fun k_ => (w.heap.size ≤ k_) ∧ some k_ ≠ (.slice Ao25 y545.length co25 : Value).ownBlock ∧ some k_ ≠ (.slice Ao33 y553.length co33 : Value).ownBlock ∧ k_ ≠ gb548)) (by (with_reducible repeat (first | apply Kd.N_alloc | apply Kd.N_drewN | apply Kd.N_drew)); exact Kd.N_mono HO_8.out (by first | exact (fun _ hk => ⟨⟨hk.1.1, ⟨hk.1.2.2.1, ⟨hk.2, hk.1.2.2.2⟩⟩⟩, hk.1.2.1⟩) | exact xi)) hg hat); have n1_ := ax (Kd.V_afterv (ok := (fun k_ => (w.heap.size ≤ k_) ∧ some k_ ≠ (.slice (some ad541) t538.length co17 : Value).ownBlock ∧ some k_ ≠ (.slice Ao25 y545.length co25 : Value).ownBlock ∧ some k_ ≠ (.slice Ao33 y553.length co33 : Value).ownBlock ∧ k_ ≠ gb548)) (by (with_reducible repeat (first | apply Kd.V_alloc | apply Kd.V_drewN | apply Kd.V_drew)); exact Kd.V_mono HL541_0.out (by first | exact (fun _ hk => ⟨⟨hk.1.1, ⟨hk.1.2.2.1, ⟨hk.1.2.2.2.1, ⟨hk.2, hk.1.2.2.2.2⟩⟩⟩⟩, hk.1.2.1⟩) | exact xi)) hg hat); have n2_ := ax (Kd.R_over' (xR HO547.out) (Kd.N_typed (xN HO_7.out)) (by decide) hg); have n3_ := ax (blk_grown (g := gb548) (o := .cells #[.slice Ao33 y553.length co33, .slice A556_0 (rd_L2 t538 x9_1).length c556_0] 41 (0, 0)) (xk BK548.out) hg (Kd.N_ne HO_7.out BK548.out (by decide))); have n4_ := ax (Kd.V_afterv (ok := (fun k_ => (w.heap.size ≤ k_) ∧ some k_ ≠ (.slice (some ad541) t538.length co17 : Value).ownBlock ∧ some k_ ≠ (.slice Ao25 y545.length co25 : Value).ownBlock ∧ some k_ ≠ (.slice Ao33 y553.length co33 : Value).ownBlock ∧ k_ ≠ gb548)) (by (with_reducible repeat (first | apply Kd.V_alloc | apply Kd.V_drewN | apply Kd.V_drew)); exact Kd.V_mono HL556_0.out (by first | exact (fun _ hk => ⟨⟨hk.1.1, ⟨hk.1.2.2.1, ⟨hk.1.2.2.2.1, ⟨hk.2, hk.1.2.2.2.2⟩⟩⟩⟩, hk.1.2.1⟩) | exact xi)) hg hat); have n5_ := ax (Kd.R_over' (xR HO555.out) (Kd.N_typed (xN HO_7.out)) (by decide) hg); have n6_ := ax (Kd.V_afterv (ok := (fun k_ => (w.heap.size ≤ k_) ∧ some k_ ≠ (.slice (some ad541) t538.length co17 : Value).ownBlock ∧ some k_ ≠ (.slice Ao25 y545.length co25 : Value).ownBlock ∧ some k_ ≠ (.slice Ao33 y553.length co33 : Value).ownBlock ∧ k_ ≠ gb548)) (by (with_reducible repeat (first | apply Kd.V_alloc | apply Kd.V_drewN | apply Kd.V_drew)); exact Kd.V_mono HL558_0.out (by first | exact (fun _ hk => ⟨⟨hk.1.1.1, ⟨hk.2, ⟨hk.1.1.2.2.1, ⟨hk.1.2, hk.1.1.2.2.2⟩⟩⟩⟩, hk.1.1.2.1⟩) | exact xi)) hg hat); have n7_ := ax (hb); have n8_ := ax (ho); clear HO_8; clear HL541_0; clear HO547; clear BK548; clear HL556_0; clear HO555; clear HL558_0; clear HB; clear HO_7; have HO_8 := n0_; have HL541_0 := n1_; have HO547 := n2_; have BK548 := n3_; have HL556_0 := n4_; have HO555 := n5_; have HL558_0 := n6_; have HB := n7_; have HO561 := n8_; clear n0_ n1_ n2_ n3_ n4_ n5_ n6_ n7_ n8_; clear ho hb hg hat))
     go_roundg k1
     case measure => have := HK1.out; omega
     case rel => exact ⟨(y559), (wrap64 (x9_1 + 1)), xr, H', ⟨by have := HK1.out; omega⟩, ⟨by (with_reducible repeat (first | apply Kd.N_alloc | apply Kd.N_drewN | apply Kd.N_drew)); exact Kd.N_mono HO561.out (fun _ hk => ⟨hk.1, hk.2.1⟩)⟩, ⟨by (with_reducible repeat (first | apply Kd.N_alloc | apply Kd.N_drewN | apply Kd.N_drew)); exact Kd.N_mono HO_8.out (fun _ hk => ⟨hk.1.1, hk.2⟩)⟩, ⟨xs HB.out GE548.out⟩⟩
    ·replace c15 := Bool.eq_false_iff.mpr c15
     subst c15
     rw [if_neg (show ¬ (false = true) by decide)] at H
     have H' := ax H
     clear H
     obtain ⟨Ao39, co39, eo39⟩ := Kd.N_slice HO_8.out
     subst eo39
     try go_wp2
     replace HO_7 := ax (Kd.N_drew HO_7.out); replace HO_8 := ax (Kd.N_drew HO_8.out); replace HB := ax (below_drew1 HB.out)
     have p541 : 0 ≤ (x9_1 : Int) := xd
     have q541 : x9_1 < (t538.length : Int) := xd
     obtain ⟨ad541, A541_0, c541_0, e541, hx541_0, hl541_0, hi541_0⟩ := at_L2 (Kd.N_reads' HO_8.out).2.2 x9_1 p541 q541
     cases e541
     obtain ⟨ce541, hce541, hMe541, hcc541⟩ := Kd.N_get HO_8.out [] x9_1 p541 (by first | exact q541 | exact xd | (have e_ := (Kd.N_reads' HO_8.out).1; omega))
     obtain ⟨ua541_0, uc541_0, rfl, ul541_0, ge541_0⟩ := Kd.FK_slice_open hMe541
     have hv541_0 := hcc541 0 _ rfl
     rw [Nat.add_zero, show ((Kd.slice 3 (Kd.int .i64))).sz = 1 from rfl, Nat.mul_one] at hv541_0
     replace hv541_0 := Option.some.inj (hv541_0.symm.trans hx541_0)
     injection hv541_0 with hva_ hvn_ hvc_
     rw [hva_] at ge541_0
     rw [hvc_] at ul541_0
     have HL541_0 := ax (show Kd.V (Kd.int .i64) 3 _ w.heap.size _ _ (rd_L2 t538 x9_1) from Kd.V_mk ul541_0 ge541_0)
     clear hva_ hvn_ hvc_ ge541_0 ul541_0 hcc541 hce541
     have HR541_0 := ax hi541_0
     have HC541_0 := ax hl541_0
     clear hi541_0 hl541_0
     replace p541 := eq_true p541
     replace q541 := eq_true q541
     refine start_ (n := 10) (S := fun w' => w'.cell? (ad541.add (x9_1).toNat) = some (.slice A541_0 (rd_L2 t538 x9_1).length c541_0)) (ds := []) (xB 10 0) (by kernel_rfl) rfl (by kernel_rfl) (hx541_0) (fun hHeld => ?_); refine with_tabW spec_l19Pick__2.tab6 spec_l19Pick__2.bits6 (fun HT_ HW_ => ?_)
     generalize wr.drew = w40 at HO_7 HO_8 HB HL541_0 HR541_0 hx541_0 hHeld ⊢
     refine pu (i := 0) (N := some 20) (xB 10 1) HT_.out ?_
     refine pu (i := 1) (N := some 21) (xB 10 3) HT_.out ?_
     refine pu (i := 2) (N := some 22) (xB 10 7) HT_.out ?_
     refine pu (i := 5) (N := some 25) (xB 10 39) HT_.out ?_
     refine tk (i := 3) (N := some 23) (xB 10 47) HT_.out HW_.out hHeld ?_
     refine join_ (σ := Value × Value × Nat) 1 (xB 10 511) (fun s_ => [(24, s_.1), (26, s_.2.1), (10, .pointer (some ⟨s_.2.2, 0, none⟩)), (27, .agg #[.slice A541_0 (rd_L2 t538 x9_1).length c541_0, s_.2.1])]) (fun s_ w' => (w'.cell? (ad541.add (x9_1).toNat) = some (.slice A541_0 (rd_L2 t538 x9_1).length c541_0)) ∧ (Kd.V (Kd.int .i64) 3 w' w.heap.size (fun k_ => (w.heap.size ≤ k_) ∧ some k_ ≠ (s_.2.1 : Value).ownBlock ∧ some k_ ≠ (u7 : Value).ownBlock ∧ some k_ ≠ (.slice (some ad541) t538.length co39 : Value).ownBlock ∧ k_ ≠ s_.2.2) (.slice A541_0 (rd_L2 t538 x9_1).length c541_0) (rd_L2 t538 x9_1)) ∧ (Kd.R (Kd.int .i64) 3 w' w.heap.size (fun k_ => (w.heap.size ≤ k_)) s_.2.1 y545) ∧ (Kd.N (Kd.slice 3 (Kd.int .i64)) 24 w' w.heap.size (fun k_ => (w.heap.size ≤ k_) ∧ some k_ ≠ (s_.2.1 : Value).ownBlock ∧ some k_ ≠ (.slice (some ad541) t538.length co39 : Value).ownBlock ∧ k_ ≠ s_.2.2) u7 x7_1) ∧ (Kd.N (Kd.slice 3 (Kd.int .i64)) 24 w' w.heap.size (fun k_ => (w.heap.size ≤ k_) ∧ some k_ ≠ (s_.2.1 : Value).ownBlock ∧ some k_ ≠ (u7 : Value).ownBlock ∧ k_ ≠ s_.2.2) (.slice (some ad541) t538.length co39) t538) ∧ (w'.heap[s_.2.2]? = some (.cells #[.slice none 0 0, .slice none 0 0] 41 (0, 0))) ∧ (w.heap.size ≤ s_.2.2) ∧ (w.heap.size ≤ s_.2.2) ∧ (Below w.heap.size w w')) ?_ ?_
     rotate_left
     ·intro hCont
      refine two_ (i := 4) (j := 8) (Ni := some 24) (Nj := some 10) (xB 10 63) (xB 10 303) rfl rfl rfl rfl (two_of HT_.out (by kernel_rfl)) (by decide) (by decide) (fun K hK => ?_) (fun K hK => ?_)
      ·skip
       refine Kd.R_lit_step (Kd.int .i64) _ 3 ?hg (N := 24) ?hd (xs := ([] : List Int)) (inner := []) (ok := fun _ => True) (okp := fun _ => True) ?hr ?hp (fun _ hk => hk) trivial (Below.refl _ _) (Nat.le_refl _) (by simp) ?_; (case hd => rfl); (case hg => rfl); (case hr => first | (go_simp; done) | (go_simp; rfl)); (case hp => exact (Reps.none _ _))
       intro v543 w41 ho42 hb hg_ hnew_
       have HS0_ := (hb.cell (World.block_lt_of_cell? _ _ (hHeld))).trans (hHeld)
       clear hg_ hnew_
       (first | rw [← Ny542.out] at ho42 | (simp only [Int.reduceToNat] at ho42; rw [← Ny542.out] at ho42))
       replace HO_7 := ax (Kd.N_elder' (xN HO_7.out) (Kd.R_base ho42) hb); replace HO_8 := ax (Kd.N_elder' (xN HO_8.out) (Kd.R_base ho42) hb); replace HL541_0 := ax (Kd.V_elder' (xV HL541_0.out) (Kd.R_base ho42) hb); have HO544 := ax (Kd.R_lower (Kd.R_newM (M := fun k_ => (w.heap.size ≤ k_)) ho42 (below_size (xb HB.out)) (fun k_ h_ => h_)) (below_size (xb HB.out))); replace HR541_0 := ax (Kd.C_below (xw HR541_0.out) hb); replace HB := yB HB hb; clear hb ho42
       refine hK.out _ _ (HS0_) (fun hHeld => ?_)
       clear hK K
       refine nm ?_
       refine two_ (i := 6) (j := 8) (Ni := some 26) (Nj := some 10) (xB 10 127) (xB 10 319) rfl rfl rfl rfl (two_of HT_.out (by kernel_rfl)) (by decide) (by decide) (fun K hK => ?_) (fun K hK => ?_)
       ·skip
        refine Kd.R_append_rows_step (Kd.int .i64) (w0 := w) w.heap.size (by rfl) (.tmp 24) (.tmp 25) 24 3 (.int .i64 0) 8 rfl Try.underlying24 info3 rfl (by decide) (by omega) v543 y542 l0 _ _ _ (fun k_ => (w.heap.size ≤ k_)) (fun _ => False) rfl rfl ?aO ?aR (fun _ _ h => h) (fun _ h => h.elim) ?aF ?aB ?aS ?aL ?_
        (case aR => exact xz HR0.out HB.out)
        (case aB => exact (xb HB.out))
        (case aF => exact (fun k_ hk => (Nat.le_trans (below_size (xb HB.out)) hk)))
        (case aO => exact (by (with_reducible repeat (first | apply Kd.R_alloc | apply Kd.R_drewN | apply Kd.R_drew)); exact Kd.R_mono HO544.out (fun _ hk => hk.1)))
        (case aS => exact (below_size (xb HB.out)))
        (case aL => have := LMc10.out; omega)
        intro v546 w43 ho hb hg hat
        have HS0_ := cell_grown hg (hHeld) (by first | (rw [add_block]; exact (fun e_ => by obtain ⟨cs_, hc_⟩ := Kd.N_typed HO_8.out _ rfl; exact Kd.R_ne HO544.out hc_ (by decide) e_)) | (show some (Addr.add _ _).block ≠ _; rw [add_block]; exact (fun e_ => by obtain ⟨cs_, hc_⟩ := Kd.N_typed HO_8.out _ rfl; exact Kd.R_ne HO544.out hc_ (by decide) e_)) | exact (fun e_ => by obtain ⟨cs_, hc_⟩ := Kd.N_typed HO_8.out _ rfl; exact Kd.R_ne HO544.out hc_ (by decide) e_))
        rw [← Ny545.out] at ho
        have n0_ := ax (Kd.N_afterv (ok := (fun k_ => (w.heap.size ≤ k_) ∧ some k_ ≠ (.slice (some ad541) t538.length co39 : Value).ownBlock)) (xN HO_7.out) hg hat)
        have n1_ := ax (Kd.N_afterv (ok := (fun k_ => (w.heap.size ≤ k_) ∧ some k_ ≠ (u7 : Value).ownBlock)) (xN HO_8.out) hg hat)
        have n2_ := ax (Kd.V_afterv (ok := (fun k_ => (w.heap.size ≤ k_) ∧ some k_ ≠ (u7 : Value).ownBlock ∧ some k_ ≠ (.slice (some ad541) t538.length co39 : Value).ownBlock)) (by (with_reducible repeat (first | apply Kd.V_alloc | apply Kd.V_drewN | apply Kd.V_drew)); exact Kd.V_mono HL541_0.out (by first | exact (fun _ hk => ⟨⟨hk.1.1.1, ⟨hk.1.1.2, hk.1.2⟩⟩, hk.2⟩) | exact xi)) hg hat)
        have n3_ := ax (hb)
        have n4_ := ax (ho)
        clear HO_7 HO_8 HL541_0 HB HO544
        have HO_7 := n0_
        have HO_8 := n1_
        have HL541_0 := n2_
        have HB := n3_
        have HO547 := n4_
        clear n0_ n1_ n2_ n3_ n4_ ho hb hg hat
        obtain ⟨Ao44, co44, eo44⟩ := Kd.R_slice HO547.out
        (first | subst eo44 | (injection eo44 with f1_ f2_ f3_; have f4_ := f1_.symm; have f5_ := f3_.symm; clear f1_ f2_ f3_; subst f4_; subst f5_))
        refine hK.out _ _ (HS0_) (fun hHeld => ?_)
        clear hK K
        refine nm ?_
        refine pu (i := 7) (N := some 27) (xB 10 255) HT_.out ?_
        refine one_ (i := 8) (N := some 10) (xB 10 511) rfl rfl (one_of HT_.out (by kernel_rfl)) (by decide) (fun K hK => ?_)
        refine box_step ?hg (N := 10) ?hd (cs := #[.slice none 0 0, .slice none 0 0]) (t := 41) ?hr ?_; (case hd => rfl); (case hg => rfl); (case hr => first | (go_simp; done) | (go_simp; rfl))
        intro gb548 hg w45 hbox hb
        have HS0_ := (hb.cell (World.block_lt_of_cell? _ _ (hHeld))).trans (hHeld)
        replace HO_7 := ax (Kd.N_below (Kd.N_elderB (xN HO_7.out) gb548 (Nat.le_of_eq hg.symm)) hb); replace HO_8 := ax (Kd.N_below (Kd.N_elderB (xN HO_8.out) gb548 (Nat.le_of_eq hg.symm)) hb); replace HL541_0 := ax (Kd.V_below (Kd.V_elderB (xV HL541_0.out) gb548 (Nat.le_of_eq hg.symm)) hb); replace HO547 := yR HO547 hb; have BK548 := ax (hbox); have GW548 := ax ((by rw [hg]; exact (below_size (xb HB.out)) : w.heap.size ≤ gb548)); have GE548 := ax ((by rw [hg]; exact (below_size (xb HB.out)) : w.heap.size ≤ gb548)); replace HB := yB HB hb; clear hb hbox hg
        refine hK.out _ _ (HS0_) (fun hHeld => ?_)
        clear hK K
        refine nm ?_
        exact norm_ (by simp only [putAll, Act.put, List.setIfInBounds_toArray, List.set_cons_zero, List.set_cons_succ]) (hCont (v543, .slice Ao44 y545.length co44, gb548) _ ⟨hHeld, (by (with_reducible repeat (first | apply Kd.V_alloc | apply Kd.V_drewN | apply Kd.V_drew)); exact Kd.V_mono HL541_0.out (by first | exact (fun _ hk => ⟨hk.1.1.1, ⟨hk.1.2, ⟨hk.1.1.2.1, ⟨hk.1.1.2.2, hk.2⟩⟩⟩⟩) | exact xi)), (xR HO547.out), (by (with_reducible repeat (first | apply Kd.N_alloc | apply Kd.N_drewN | apply Kd.N_drew)); exact Kd.N_mono HO_7.out (by first | exact (fun _ hk => ⟨hk.1.1.1, ⟨hk.1.2, ⟨hk.1.1.2, hk.2⟩⟩⟩) | exact xi)), (by (with_reducible repeat (first | apply Kd.N_alloc | apply Kd.N_drewN | apply Kd.N_drew)); exact Kd.N_mono HO_8.out (by first | exact (fun _ hk => ⟨hk.1.1.1, ⟨hk.1.2, ⟨hk.1.1.2, hk.2⟩⟩⟩) | exact xi)), (xk BK548.out), GW548.out, GE548.out, (xs HB.out GE548.out)⟩)
       ·skip
        refine box_step ?hg (N := 10) ?hd (cs := #[.slice none 0 0, .slice none 0 0]) (t := 41) ?hr ?_; (case hd => rfl); (case hg => rfl); (case hr => first | (go_simp; done) | (go_simp; rfl))
        intro gb548 hg w43 hbox hb
        have HS0_ := (hb.cell (World.block_lt_of_cell? _ _ (hHeld))).trans (hHeld)
        replace HO_7 := ax (Kd.N_below (Kd.N_elderB (xN HO_7.out) gb548 (Nat.le_of_eq hg.symm)) hb); replace HO_8 := ax (Kd.N_below (Kd.N_elderB (xN HO_8.out) gb548 (Nat.le_of_eq hg.symm)) hb); replace HL541_0 := ax (Kd.V_below (Kd.V_elderB (xV HL541_0.out) gb548 (Nat.le_of_eq hg.symm)) hb); replace HO544 := yR HO544 hb; replace HR541_0 := ax (Kd.C_below (xw HR541_0.out) hb); have BK548 := ax (hbox); have GW548 := ax ((by rw [hg]; exact (below_size (xb HB.out)) : w.heap.size ≤ gb548)); have GE548 := ax ((by rw [hg]; exact (below_size (xb HB.out)) : w.heap.size ≤ gb548)); replace HB := yB HB hb; clear hb hbox hg
        refine hK.out _ _ (HS0_) (fun hHeld => ?_)
        clear hK K
        refine nm ?_
        refine one_ (i := 6) (N := some 26) (xB 10 383) rfl rfl (one_of HT_.out (by kernel_rfl)) (by decide) (fun K hK => ?_)
        refine Kd.R_append_rows_step (Kd.int .i64) (w0 := w) w.heap.size (by rfl) (.tmp 24) (.tmp 25) 24 3 (.int .i64 0) 8 rfl Try.underlying24 info3 rfl (by decide) (by omega) v543 y542 l0 _ _ _ (fun k_ => (w.heap.size ≤ k_)) (fun _ => False) rfl rfl ?aO ?aR (fun _ _ h => h) (fun _ h => h.elim) ?aF ?aB ?aS ?aL ?_
        (case aR => exact xz HR0.out HB.out)
        (case aB => exact (xs HB.out GE548.out))
        (case aF => exact (fun k_ hk => (Nat.le_trans (below_size (xs HB.out GE548.out)) hk)))
        (case aO => exact (by (with_reducible repeat (first | apply Kd.R_alloc | apply Kd.R_drewN | apply Kd.R_drew)); exact Kd.R_mono HO544.out (fun _ hk => hk.1)))
        (case aS => exact (below_size (xs HB.out GE548.out)))
        (case aL => have := LMc10.out; omega)
        intro v546 w44 ho hb hg hat
        have HS0_ := cell_grown hg (hHeld) (by first | (rw [add_block]; exact (fun e_ => by obtain ⟨cs_, hc_⟩ := Kd.N_typed HO_8.out _ rfl; exact Kd.R_ne HO544.out hc_ (by decide) e_)) | (show some (Addr.add _ _).block ≠ _; rw [add_block]; exact (fun e_ => by obtain ⟨cs_, hc_⟩ := Kd.N_typed HO_8.out _ rfl; exact Kd.R_ne HO544.out hc_ (by decide) e_)) | exact (fun e_ => by obtain ⟨cs_, hc_⟩ := Kd.N_typed HO_8.out _ rfl; exact Kd.R_ne HO544.out hc_ (by decide) e_))
        rw [← Ny545.out] at ho
        have n0_ := ax (Kd.N_afterv (ok := (fun k_ => (w.heap.size ≤ k_) ∧ some k_ ≠ (.slice (some ad541) t538.length co39 : Value).ownBlock ∧ k_ ≠ gb548)) (by (with_reducible repeat (first | apply Kd.N_alloc | apply Kd.N_drewN | apply Kd.N_drew)); exact Kd.N_mono HO_7.out (by first | exact (fun _ hk => ⟨⟨hk.1.1.1, ⟨hk.1.1.2, hk.2⟩⟩, hk.1.2⟩) | exact xi)) hg hat)
        have n1_ := ax (Kd.N_afterv (ok := (fun k_ => (w.heap.size ≤ k_) ∧ some k_ ≠ (u7 : Value).ownBlock ∧ k_ ≠ gb548)) (by (with_reducible repeat (first | apply Kd.N_alloc | apply Kd.N_drewN | apply Kd.N_drew)); exact Kd.N_mono HO_8.out (by first | exact (fun _ hk => ⟨⟨hk.1.1.1, ⟨hk.1.1.2, hk.2⟩⟩, hk.1.2⟩) | exact xi)) hg hat)
        have n2_ := ax (Kd.V_afterv (ok := (fun k_ => (w.heap.size ≤ k_) ∧ some k_ ≠ (u7 : Value).ownBlock ∧ some k_ ≠ (.slice (some ad541) t538.length co39 : Value).ownBlock ∧ k_ ≠ gb548)) (by (with_reducible repeat (first | apply Kd.V_alloc | apply Kd.V_drewN | apply Kd.V_drew)); exact Kd.V_mono HL541_0.out (by first | exact (fun _ hk => ⟨⟨hk.1.1.1.1, ⟨hk.1.1.1.2, ⟨hk.1.1.2, hk.2⟩⟩⟩, hk.1.2⟩) | exact xi)) hg hat)
        have n3_ := ax (blk_grown (g := gb548) (o := .cells #[.slice none 0 0, .slice none 0 0] 41 (0, 0)) (xk BK548.out) hg (Kd.R_ne HO544.out BK548.out (by decide)))
        have n4_ := ax (hb)
        have n5_ := ax (ho)
        clear HO_7 HO_8 HL541_0 BK548 HB HO544
        have HO_7 := n0_
        have HO_8 := n1_
        have HL541_0 := n2_
        have BK548 := n3_
        have HB := n4_
        have HO547 := n5_
        clear n0_ n1_ n2_ n3_ n4_ n5_ ho hb hg hat
        obtain ⟨Ao45, co45, eo45⟩ := Kd.R_slice HO547.out
        (first | subst eo45 | (injection eo45 with f1_ f2_ f3_; have f4_ := f1_.symm; have f5_ := f3_.symm; clear f1_ f2_ f3_; subst f4_; subst f5_))
        refine hK.out _ _ (HS0_) (fun hHeld => ?_)
        clear hK K
        refine nm ?_
        refine pu (i := 7) (N := some 27) (xB 10 511) HT_.out ?_
        exact norm_ (by simp only [putAll, Act.put, List.setIfInBounds_toArray, List.set_cons_zero, List.set_cons_succ]) (hCont (v543, .slice Ao45 y545.length co45, gb548) _ ⟨hHeld, (by (with_reducible repeat (first | apply Kd.V_alloc | apply Kd.V_drewN | apply Kd.V_drew)); exact Kd.V_mono HL541_0.out (by first | exact (fun _ hk => ⟨hk.1.1, ⟨hk.2, ⟨hk.1.2.1, ⟨hk.1.2.2.1, hk.1.2.2.2⟩⟩⟩⟩) | exact xi)), (xR HO547.out), (by (with_reducible repeat (first | apply Kd.N_alloc | apply Kd.N_drewN | apply Kd.N_drew)); exact Kd.N_mono HO_7.out (by first | exact (fun _ hk => ⟨hk.1.1, ⟨hk.2, ⟨hk.1.2.1, hk.1.2.2⟩⟩⟩) | exact xi)), (by (with_reducible repeat (first | apply Kd.N_alloc | apply Kd.N_drewN | apply Kd.N_drew)); exact Kd.N_mono HO_8.out (by first | exact (fun _ hk => ⟨hk.1.1, ⟨hk.2, ⟨hk.1.2.1, hk.1.2.2⟩⟩⟩) | exact xi)), (xk BK548.out), GW548.out, GE548.out, (xs HB.out GE548.out)⟩)
      ·skip
       refine box_step ?hg (N := 10) ?hd (cs := #[.slice none 0 0, .slice none 0 0]) (t := 41) ?hr ?_; (case hd => rfl); (case hg => rfl); (case hr => first | (go_simp; done) | (go_simp; rfl))
       intro gb548 hg w41 hbox hb
       have HS0_ := (hb.cell (World.block_lt_of_cell? _ _ (hHeld))).trans (hHeld)
       replace HO_7 := ax (Kd.N_below (Kd.N_elderB (xN HO_7.out) gb548 (Nat.le_of_eq hg.symm)) hb); replace HO_8 := ax (Kd.N_below (Kd.N_elderB (xN HO_8.out) gb548 (Nat.le_of_eq hg.symm)) hb); replace HL541_0 := ax (Kd.V_below (Kd.V_elderB (xV HL541_0.out) gb548 (Nat.le_of_eq hg.symm)) hb); replace HR541_0 := ax (Kd.C_below (xw HR541_0.out) hb); have BK548 := ax (hbox); have GW548 := ax ((by rw [hg]; exact (below_size (xb HB.out)) : w.heap.size ≤ gb548)); have GE548 := ax ((by rw [hg]; exact (below_size (xb HB.out)) : w.heap.size ≤ gb548)); replace HB := yB HB hb; clear hb hbox hg
       refine hK.out _ _ (HS0_) (fun hHeld => ?_)
       clear hK K
       refine nm ?_
       refine one_ (i := 4) (N := some 24) (xB 10 319) rfl rfl (one_of HT_.out (by kernel_rfl)) (by decide) (fun K hK => ?_)
       refine Kd.R_lit_step (Kd.int .i64) _ 3 ?hg (N := 24) ?hd (xs := ([] : List Int)) (inner := []) (ok := fun _ => True) (okp := fun _ => True) ?hr ?hp (fun _ hk => hk) trivial (Below.refl _ _) (Nat.le_refl _) (by simp) ?_; (case hd => rfl); (case hg => rfl); (case hr => first | (go_simp; done) | (go_simp; rfl)); (case hp => exact (Reps.none _ _))
       intro v543 w42 ho43 hb hg_ hnew_
       have HS0_ := (hb.cell (World.block_lt_of_cell? _ _ (hHeld))).trans (hHeld)
       clear hg_ hnew_
       (first | rw [← Ny542.out] at ho43 | (simp only [Int.reduceToNat] at ho43; rw [← Ny542.out] at ho43))
       replace HO_7 := ax (Kd.N_elder' (xN HO_7.out) (Kd.R_base ho43) hb); replace HO_8 := ax (Kd.N_elder' (xN HO_8.out) (Kd.R_base ho43) hb); replace HL541_0 := ax (Kd.V_elder' (xV HL541_0.out) (Kd.R_base ho43) hb); have HO544 := ax (Kd.R_lower (Kd.R_newM (M := fun k_ => (w.heap.size ≤ k_)) ho43 (below_size (xs HB.out GE548.out)) (fun k_ h_ => h_)) (below_size (xs HB.out GE548.out))); replace HR541_0 := ax (Kd.C_below (xw HR541_0.out) hb); replace BK548 := ax (blk_below (g := gb548) (o := .cells #[.slice none 0 0, .slice none 0 0] 41 (0, 0)) (xk BK548.out) hb); replace HB := ax (below_step (xs HB.out GE548.out) hb); clear hb ho43
       refine hK.out _ _ (HS0_) (fun hHeld => ?_)
       clear hK K
       refine nm ?_
       refine one_ (i := 6) (N := some 26) (xB 10 383) rfl rfl (one_of HT_.out (by kernel_rfl)) (by decide) (fun K hK => ?_)
       refine Kd.R_append_rows_step (Kd.int .i64) (w0 := w) w.heap.size (by rfl) (.tmp 24) (.tmp 25) 24 3 (.int .i64 0) 8 rfl Try.underlying24 info3 rfl (by decide) (by omega) v543 y542 l0 _ _ _ (fun k_ => (w.heap.size ≤ k_)) (fun _ => False) rfl rfl ?aO ?aR (fun _ _ h => h) (fun _ h => h.elim) ?aF ?aB ?aS ?aL ?_
       (case aR => exact xz HR0.out HB.out)
       (case aB => exact (xs HB.out GE548.out))
       (case aF => exact (fun k_ hk => (Nat.le_trans (below_size (xs HB.out GE548.out)) hk)))
       (case aO => exact (by (with_reducible repeat (first | apply Kd.R_alloc | apply Kd.R_drewN | apply Kd.R_drew)); exact Kd.R_mono HO544.out (fun _ hk => hk.1)))
       (case aS => exact (below_size (xs HB.out GE548.out)))
       (case aL => have := LMc10.out; omega)
       intro v546 w44 ho hb hg hat
       have HS0_ := cell_grown hg (hHeld) (by first | (rw [add_block]; exact (fun e_ => by obtain ⟨cs_, hc_⟩ := Kd.N_typed HO_8.out _ rfl; exact Kd.R_ne HO544.out hc_ (by decide) e_)) | (show some (Addr.add _ _).block ≠ _; rw [add_block]; exact (fun e_ => by obtain ⟨cs_, hc_⟩ := Kd.N_typed HO_8.out _ rfl; exact Kd.R_ne HO544.out hc_ (by decide) e_)) | exact (fun e_ => by obtain ⟨cs_, hc_⟩ := Kd.N_typed HO_8.out _ rfl; exact Kd.R_ne HO544.out hc_ (by decide) e_))
       rw [← Ny545.out] at ho
       have n0_ := ax (Kd.N_afterv (ok := (fun k_ => (w.heap.size ≤ k_) ∧ some k_ ≠ (.slice (some ad541) t538.length co39 : Value).ownBlock ∧ k_ ≠ gb548)) (by (with_reducible repeat (first | apply Kd.N_alloc | apply Kd.N_drewN | apply Kd.N_drew)); exact Kd.N_mono HO_7.out (by first | exact (fun _ hk => ⟨⟨hk.1.1.1, ⟨hk.1.1.2, hk.1.2⟩⟩, hk.2⟩) | exact xi)) hg hat)
       have n1_ := ax (Kd.N_afterv (ok := (fun k_ => (w.heap.size ≤ k_) ∧ some k_ ≠ (u7 : Value).ownBlock ∧ k_ ≠ gb548)) (by (with_reducible repeat (first | apply Kd.N_alloc | apply Kd.N_drewN | apply Kd.N_drew)); exact Kd.N_mono HO_8.out (by first | exact (fun _ hk => ⟨⟨hk.1.1.1, ⟨hk.1.1.2, hk.1.2⟩⟩, hk.2⟩) | exact xi)) hg hat)
       have n2_ := ax (Kd.V_afterv (ok := (fun k_ => (w.heap.size ≤ k_) ∧ some k_ ≠ (u7 : Value).ownBlock ∧ some k_ ≠ (.slice (some ad541) t538.length co39 : Value).ownBlock ∧ k_ ≠ gb548)) (by (with_reducible repeat (first | apply Kd.V_alloc | apply Kd.V_drewN | apply Kd.V_drew)); exact Kd.V_mono HL541_0.out (by first | exact (fun _ hk => ⟨⟨hk.1.1.1.1, ⟨hk.1.1.1.2, ⟨hk.1.1.2, hk.1.2⟩⟩⟩, hk.2⟩) | exact xi)) hg hat)
       have n3_ := ax (blk_grown (g := gb548) (o := .cells #[.slice none 0 0, .slice none 0 0] 41 (0, 0)) (xk BK548.out) hg (Kd.R_ne HO544.out BK548.out (by decide)))
       have n4_ := ax (hb)
       have n5_ := ax (ho)
       clear HO_7 HO_8 HL541_0 BK548 HB HO544
       have HO_7 := n0_
       have HO_8 := n1_
       have HL541_0 := n2_
       have BK548 := n3_
       have HB := n4_
       have HO547 := n5_
       clear n0_ n1_ n2_ n3_ n4_ n5_ ho hb hg hat
       obtain ⟨Ao45, co45, eo45⟩ := Kd.R_slice HO547.out
       (first | subst eo45 | (injection eo45 with f1_ f2_ f3_; have f4_ := f1_.symm; have f5_ := f3_.symm; clear f1_ f2_ f3_; subst f4_; subst f5_))
       refine hK.out _ _ (HS0_) (fun hHeld => ?_)
       clear hK K
       refine nm ?_
       refine pu (i := 7) (N := some 27) (xB 10 511) HT_.out ?_
       exact norm_ (by simp only [putAll, Act.put, List.setIfInBounds_toArray, List.set_cons_zero, List.set_cons_succ]) (hCont (v543, .slice Ao45 y545.length co45, gb548) _ ⟨hHeld, (by (with_reducible repeat (first | apply Kd.V_alloc | apply Kd.V_drewN | apply Kd.V_drew)); exact Kd.V_mono HL541_0.out (by first | exact (fun _ hk => ⟨hk.1.1, ⟨hk.2, ⟨hk.1.2.1, ⟨hk.1.2.2.1, hk.1.2.2.2⟩⟩⟩⟩) | exact xi)), (xR HO547.out), (by (with_reducible repeat (first | apply Kd.N_alloc | apply Kd.N_drewN | apply Kd.N_drew)); exact Kd.N_mono HO_7.out (by first | exact (fun _ hk => ⟨hk.1.1, ⟨hk.2, ⟨hk.1.2.1, hk.1.2.2⟩⟩⟩) | exact xi)), (by (with_reducible repeat (first | apply Kd.N_alloc | apply Kd.N_drewN | apply Kd.N_drew)); exact Kd.N_mono HO_8.out (by first | exact (fun _ hk => ⟨hk.1.1, ⟨hk.2, ⟨hk.1.2.1, hk.1.2.2⟩⟩⟩) | exact xi)), (xk BK548.out), GW548.out, GE548.out, (xs HB.out GE548.out)⟩)
     rintro ⟨v543, v546, gb548⟩ w46 ⟨hS_, h0_, h1_, h2_, h3_, h4_, h5_, h6_, h7_⟩
     have n0_ : Aside0 (Kd.V (Kd.int .i64) 3 w46 w.heap.size (fun k_ => (w.heap.size ≤ k_) ∧ some k_ ≠ (v546 : Value).ownBlock ∧ some k_ ≠ (u7 : Value).ownBlock ∧ some k_ ≠ (.slice (some ad541) t538.length co39 : Value).ownBlock ∧ k_ ≠ gb548) (.slice A541_0 (rd_L2 t538 x9_1).length c541_0) (rd_L2 t538 x9_1)) := ⟨h0_⟩
     have n1_ : Aside0 (Kd.R (Kd.int .i64) 3 w46 w.heap.size (fun k_ => (w.heap.size ≤ k_)) v546 y545) := ⟨h1_⟩
     have n2_ : Aside0 (Kd.N (Kd.slice 3 (Kd.int .i64)) 24 w46 w.heap.size (fun k_ => (w.heap.size ≤ k_) ∧ some k_ ≠ (v546 : Value).ownBlock ∧ some k_ ≠ (.slice (some ad541) t538.length co39 : Value).ownBlock ∧ k_ ≠ gb548) u7 x7_1) := ⟨h2_⟩
     have n3_ : Aside0 (Kd.N (Kd.slice 3 (Kd.int .i64)) 24 w46 w.heap.size (fun k_ => (w.heap.size ≤ k_) ∧ some k_ ≠ (v546 : Value).ownBlock ∧ some k_ ≠ (u7 : Value).ownBlock ∧ k_ ≠ gb548) (.slice (some ad541) t538.length co39) t538) := ⟨h3_⟩
     have n4_ : Aside0 (w46.heap[gb548]? = some (.cells #[.slice none 0 0, .slice none 0 0] 41 (0, 0))) := ⟨h4_⟩
     have n5_ : Aside0 (w.heap.size ≤ gb548) := ⟨h5_⟩
     have n6_ : Aside0 (w.heap.size ≤ gb548) := ⟨h6_⟩
     have n7_ : Aside0 (Below w.heap.size w w46) := ⟨h7_⟩
     clear HO_7 HO_8 HB h0_ h1_ h2_ h3_ h4_ h5_ h6_ h7_
     have HL541_0 := n0_
     have HO547 := n1_
     have HO_7 := n2_
     have HO_8 := n3_
     have BK548 := n4_
     have GW548 := n5_
     have GE548 := n6_
     have HB := n7_
     clear n0_ n1_ n2_ n3_ n4_ n5_ n6_ n7_
     have hHeld : w46.cell? (ad541.add (x9_1).toNat) = some (.slice A541_0 (rd_L2 t538 x9_1).length c541_0) := hS_
     obtain ⟨Ao47, co47, eo47⟩ := Kd.R_slice HO547.out
     (first | subst eo47 | (injection eo47 with f1_ f2_ f3_; have f4_ := f1_.symm; have f5_ := f3_.symm; clear f1_ f2_ f3_; subst f4_; subst f5_))
     refine norm_ (a' := ?_) ?_ ?_
     rotate_left
     ·simp only [putAll, Act.put, List.setIfInBounds_toArray, List.set_cons_zero, List.set_cons_succ]
      rfl
     refine one_ (i := 9) (N := none) (xB 10 1023) rfl rfl (one_of HT_.out (by kernel_rfl)) (by decide) (fun K hK => ?_)
     have hs48 : w46.cell? ⟨gb548, 0, none⟩ = some (.slice none 0 0) := (blk_cell BK548.out 0).trans rfl
     have hfs48 := blk_frozen BK548.out 0
     have hs49 : w46.cell? ⟨gb548, 1, none⟩ = some (.slice none 0 0) := (blk_cell BK548.out 1).trans rfl
     have hfs49 := blk_frozen BK548.out 1
     refine skip_ (w1 := ?_) (by rfl) rfl ?_ ?_
     rotate_left
     ·go_simp
      rfl
     refine hK.out _ _ (((cell_far (p := ⟨gb548, _, none⟩) (by first | exact Kd.own_blk (Kd.N_away HO_8.out (fun _ hk => hk.2.2.2)) | (rw [add_block]; exact Kd.own_blk (Kd.N_away HO_8.out (fun _ hk => hk.2.2.2))) | (show (Addr.add _ _).block ≠ _; rw [add_block]; exact Kd.own_blk (Kd.N_away HO_8.out (fun _ hk => hk.2.2.2))) | (dsimp only; exact Kd.own_blk (Kd.N_away HO_8.out (fun _ hk => hk.2.2.2)))) _).trans (((cell_far (p := ⟨gb548, _, none⟩) (by first | exact Kd.own_blk (Kd.N_away HO_8.out (fun _ hk => hk.2.2.2)) | (rw [add_block]; exact Kd.own_blk (Kd.N_away HO_8.out (fun _ hk => hk.2.2.2))) | (show (Addr.add _ _).block ≠ _; rw [add_block]; exact Kd.own_blk (Kd.N_away HO_8.out (fun _ hk => hk.2.2.2))) | (dsimp only; exact Kd.own_blk (Kd.N_away HO_8.out (fun _ hk => hk.2.2.2)))) _).trans (hHeld))))) (fun hHeld => ?_)
     clear hK K
     refine done_ (done_of HT_.out (by kernel_rfl)) ?_
     try go_wp2_with (first | ((with_reducible refine gate_callee (f := 43) rfl ?_); refine goesL_ (some 30) rfl rfl Try.func43 (by kernel_rfl) rfl #[.slice A0 l0.length c0] rfl xm ?_; (with_reducible refine (spec_l2Size.calls k1 _ _ l0 t549 _ ?side1 ?side2 A11.out).mono ?_); (case side1 => exact Kd.C_below HR0.out (xs HB.out GE548.out)); (case side2 => exact HC0.out); rintro e w' ⟨rfl, ⟨nd, rfl⟩⟩; refine ⟨_, rfl, ?_⟩))
     have n0_ : Aside0 (Kd.N (Kd.slice 3 (Kd.int .i64)) 24 ((w46.setCell ⟨gb548, 0, none⟩ (.slice A541_0 (rd_L2 t538 x9_1).length c541_0)).setCell ⟨gb548, 1, none⟩ (.slice Ao47 y545.length co47)) w.heap.size (fun k_ => (w.heap.size ≤ k_) ∧ some k_ ≠ (.slice (some ad541) t538.length co39 : Value).ownBlock ∧ some k_ ≠ (.slice Ao47 y545.length co47 : Value).ownBlock ∧ k_ ≠ gb548) u7 x7_1) := ⟨by (with_reducible repeat (first | apply Kd.N_alloc | apply Kd.N_drewN | apply Kd.N_drew)); exact Kd.N_mono (Kd.N_far (p := ⟨gb548, 1, none⟩) (Kd.N_far (p := ⟨gb548, 0, none⟩) (Kd.N_mono HO_7.out (fun k_ hk => (⟨hk, hk.2.2.2⟩ : _ ∧ k_ ≠ gb548))) (fun _ hk => hk.2) (.slice A541_0 (rd_L2 t538 x9_1).length c541_0)) (fun _ hk => hk.2) (.slice Ao47 y545.length co47)) (fun _ hk => ⟨hk.1.1, ⟨hk.1.2.2.1, ⟨hk.1.2.1, hk.1.2.2.2⟩⟩⟩)⟩
     have n1_ : Aside0 (Kd.N (Kd.slice 3 (Kd.int .i64)) 24 ((w46.setCell ⟨gb548, 0, none⟩ (.slice A541_0 (rd_L2 t538 x9_1).length c541_0)).setCell ⟨gb548, 1, none⟩ (.slice Ao47 y545.length co47)) w.heap.size (fun k_ => (w.heap.size ≤ k_) ∧ some k_ ≠ (u7 : Value).ownBlock ∧ some k_ ≠ (.slice Ao47 y545.length co47 : Value).ownBlock ∧ k_ ≠ gb548) (.slice (some ad541) t538.length co39) t538) := ⟨by (with_reducible repeat (first | apply Kd.N_alloc | apply Kd.N_drewN | apply Kd.N_drew)); exact Kd.N_mono (Kd.N_far (p := ⟨gb548, 1, none⟩) (Kd.N_far (p := ⟨gb548, 0, none⟩) (Kd.N_mono HO_8.out (fun k_ hk => (⟨hk, hk.2.2.2⟩ : _ ∧ k_ ≠ gb548))) (fun _ hk => hk.2) (.slice A541_0 (rd_L2 t538 x9_1).length c541_0)) (fun _ hk => hk.2) (.slice Ao47 y545.length co47)) (fun _ hk => ⟨hk.1.1, ⟨hk.1.2.2.1, ⟨hk.1.2.1, hk.1.2.2.2⟩⟩⟩)⟩
     have n2_ : Aside0 (Kd.V (Kd.int .i64) 3 ((w46.setCell ⟨gb548, 0, none⟩ (.slice A541_0 (rd_L2 t538 x9_1).length c541_0)).setCell ⟨gb548, 1, none⟩ (.slice Ao47 y545.length co47)) w.heap.size (fun k_ => (w.heap.size ≤ k_) ∧ some k_ ≠ (u7 : Value).ownBlock ∧ some k_ ≠ (.slice (some ad541) t538.length co39 : Value).ownBlock ∧ some k_ ≠ (.slice Ao47 y545.length co47 : Value).ownBlock ∧ k_ ≠ gb548) (.slice A541_0 (rd_L2 t538 x9_1).length c541_0) (rd_L2 t538 x9_1)) := ⟨by (with_reducible repeat (first | apply Kd.V_alloc | apply Kd.V_drewN | apply Kd.V_drew)); exact Kd.V_mono (Kd.V_far (p := ⟨gb548, 1, none⟩) (Kd.V_far (p := ⟨gb548, 0, none⟩) (Kd.V_mono HL541_0.out (fun k_ hk => (⟨hk, hk.2.2.2.2⟩ : _ ∧ k_ ≠ gb548))) (fun _ hk => hk.2) (.slice A541_0 (rd_L2 t538 x9_1).length c541_0)) (fun _ hk => hk.2) (.slice Ao47 y545.length co47)) (fun _ hk => ⟨hk.1.1, ⟨hk.1.2.2.1, ⟨hk.1.2.2.2.1, ⟨hk.1.2.1, hk.1.2.2.2.2⟩⟩⟩⟩)⟩
     have n3_ : Aside0 (Kd.R (Kd.int .i64) 3 ((w46.setCell ⟨gb548, 0, none⟩ (.slice A541_0 (rd_L2 t538 x9_1).length c541_0)).setCell ⟨gb548, 1, none⟩ (.slice Ao47 y545.length co47)) w.heap.size (fun k_ => (w.heap.size ≤ k_)) (.slice Ao47 y545.length co47) y545) := ⟨by (with_reducible repeat (first | apply Kd.R_alloc | apply Kd.R_drewN | apply Kd.R_drew)); exact Kd.R_mono (Kd.R_far (p := ⟨gb548, 1, none⟩) (Kd.R_far (p := ⟨gb548, 0, none⟩) (Kd.R_types HO547.out BK548.out (by decide)) (fun _ hk => hk.2) (.slice A541_0 (rd_L2 t538 x9_1).length c541_0)) (fun _ hk => hk.2) (.slice Ao47 y545.length co47)) (fun _ hk => hk.1)⟩
     have n4_ : Aside0 (((w46.setCell ⟨gb548, 0, none⟩ (.slice A541_0 (rd_L2 t538 x9_1).length c541_0)).setCell ⟨gb548, 1, none⟩ (.slice Ao47 y545.length co47)).heap[gb548]? = some (.cells #[.slice A541_0 (rd_L2 t538 x9_1).length c541_0, .slice Ao47 y545.length co47] 41 (0, 0))) := ⟨by (with_reducible repeat (first | refine blk_drewN ?_ _ | refine blk_drew ?_ | refine blk_alloc ?_ _)); refine blk_put (cs := #[.slice A541_0 (rd_L2 t538 x9_1).length c541_0, .slice none 0 0]) ?_ 1 _ rfl; (with_reducible repeat (first | refine blk_drewN ?_ _ | refine blk_drew ?_ | refine blk_alloc ?_ _)); refine blk_put (cs := #[.slice none 0 0, .slice none 0 0]) ?_ 0 _ rfl; (with_reducible repeat (first | refine blk_drewN ?_ _ | refine blk_drew ?_ | refine blk_alloc ?_ _)); exact BK548.out⟩
     have n5_ : Aside0 (Below w.heap.size w ((w46.setCell ⟨gb548, 0, none⟩ (.slice A541_0 (rd_L2 t538 x9_1).length c541_0)).setCell ⟨gb548, 1, none⟩ (.slice Ao47 y545.length co47))) := ⟨xs HB.out GE548.out⟩
     (try clear HO_7)
     (try clear HO_8)
     (try clear HL541_0)
     (try clear HO547)
     (try clear BK548)
     (try clear HB)
     generalize ((w46.setCell ⟨gb548, 0, none⟩ (.slice A541_0 (rd_L2 t538 x9_1).length c541_0)).setCell ⟨gb548, 1, none⟩ (.slice Ao47 y545.length co47)) = w50 at n0_ n1_ n2_ n3_ n4_ n5_ ⊢
     have HO_7 := n0_
     have HO_8 := n1_
     have HL541_0 := n2_
     have HO547 := n3_
     have BK548 := n4_
     have HB := n5_
     clear n0_ n1_ n2_ n3_ n4_ n5_
     (try (rw [drewN_self w50]; generalize hq_ : World.drewN w50 _ = w50; have n0_ : Aside0 (Kd.V (Kd.int .i64) 3 w50 w.heap.size (fun k_ => (w.heap.size ≤ k_) ∧ some k_ ≠ (.slice Ao47 y545.length co47 : Value).ownBlock ∧ some k_ ≠ (u7 : Value).ownBlock ∧ some k_ ≠ (.slice (some ad541) t538.length co39 : Value).ownBlock ∧ k_ ≠ gb548) (.slice A541_0 (rd_L2 t538 x9_1).length c541_0) (rd_L2 t538 x9_1)) := ⟨by rw [← hq_]; exact (by (with_reducible repeat (first | apply Kd.V_alloc | apply Kd.V_drewN | apply Kd.V_drew)); exact Kd.V_mono HL541_0.out (by first | exact (fun _ hk => ⟨hk.1, ⟨hk.2.2.2.1, ⟨hk.2.1, ⟨hk.2.2.1, hk.2.2.2.2⟩⟩⟩⟩) | exact xi))⟩; have n1_ : Aside0 (Kd.R (Kd.int .i64) 3 w50 w.heap.size (fun k_ => (w.heap.size ≤ k_)) (.slice Ao47 y545.length co47) y545) := ⟨by rw [← hq_]; exact (xR HO547.out)⟩; have n2_ : Aside0 (Kd.N (Kd.slice 3 (Kd.int .i64)) 24 w50 w.heap.size (fun k_ => (w.heap.size ≤ k_) ∧ some k_ ≠ (.slice Ao47 y545.length co47 : Value).ownBlock ∧ some k_ ≠ (.slice (some ad541) t538.length co39 : Value).ownBlock ∧ k_ ≠ gb548) u7 x7_1) := ⟨by rw [← hq_]; exact (by (with_reducible repeat (first | apply Kd.N_alloc | apply Kd.N_drewN | apply Kd.N_drew)); exact Kd.N_mono HO_7.out (by first | exact (fun _ hk => ⟨hk.1, ⟨hk.2.2.1, ⟨hk.2.1, hk.2.2.2⟩⟩⟩) | exact xi))⟩; have n3_ : Aside0 (Kd.N (Kd.slice 3 (Kd.int .i64)) 24 w50 w.heap.size (fun k_ => (w.heap.size ≤ k_) ∧ some k_ ≠ (.slice Ao47 y545.length co47 : Value).ownBlock ∧ some k_ ≠ (u7 : Value).ownBlock ∧ k_ ≠ gb548) (.slice (some ad541) t538.length co39) t538) := ⟨by rw [← hq_]; exact (by (with_reducible repeat (first | apply Kd.N_alloc | apply Kd.N_drewN | apply Kd.N_drew)); exact Kd.N_mono HO_8.out (by first | exact (fun _ hk => ⟨hk.1, ⟨hk.2.2.1, ⟨hk.2.1, hk.2.2.2⟩⟩⟩) | exact xi))⟩; have n4_ : Aside0 (w50.heap[gb548]? = some (.cells #[.slice A541_0 (rd_L2 t538 x9_1).length c541_0, .slice Ao47 y545.length co47] 41 (0, 0))) := ⟨by rw [← hq_]; exact (xk BK548.out)⟩; have n5_ : Aside0 (Below w.heap.size w w50) := ⟨by rw [← hq_]; exact (xs HB.out GE548.out)⟩; clear HL541_0 HO547 HO_7 HO_8 BK548 HB hq_; have HL541_0 := n0_; have HO547 := n1_; have HO_7 := n2_; have HO_8 := n3_; have BK548 := n4_; have HB := n5_; clear n0_ n1_ n2_ n3_ n4_ n5_))
     replace HO_7 := ax (Kd.N_drew HO_7.out); replace HO_8 := ax (Kd.N_drew HO_8.out); replace HL541_0 := ax (Kd.V_drew HL541_0.out); replace HO547 := ax (Kd.R_drew HO547.out); replace BK548 := ax (blk_drew BK548.out); replace HB := ax (below_drew1 HB.out)
     have p556 : 0 ≤ (x9_1 : Int) := xd
     have q556 : x9_1 < (t538.length : Int) := xd
     obtain ⟨ad556, A556_0, c556_0, e556, hx556_0, hl556_0, hi556_0⟩ := at_L2 (Kd.N_reads' HO_8.out).2.2 x9_1 p556 q556
     obtain rfl : ad541 = ad556 := (by injection e556)
     obtain ⟨ce556, hce556, hMe556, hcc556⟩ := Kd.N_get HO_8.out [] x9_1 p556 (by first | exact q556 | exact xd | (have e_ := (Kd.N_reads' HO_8.out).1; omega))
     obtain ⟨ua556_0, uc556_0, rfl, ul556_0, ge556_0⟩ := Kd.FK_slice_open hMe556
     have hv556_0 := hcc556 0 _ rfl
     rw [Nat.add_zero, show ((Kd.slice 3 (Kd.int .i64))).sz = 1 from rfl, Nat.mul_one] at hv556_0
     replace hv556_0 := Option.some.inj (hv556_0.symm.trans hx556_0)
     injection hv556_0 with hva_ hvn_ hvc_
     rw [hva_] at ge556_0
     rw [hvc_] at ul556_0
     have HL556_0 := ax (show Kd.V (Kd.int .i64) 3 _ w.heap.size _ _ (rd_L2 t538 x9_1) from Kd.V_mk ul556_0 ge556_0)
     clear hva_ hvn_ hvc_ ge556_0 ul556_0 hcc556 hce556
     have HR556_0 := ax hi556_0
     have HC556_0 := ax hl556_0
     clear hi556_0 hl556_0
     replace p556 := eq_true p556
     replace q556 := eq_true q556
     refine start_ (n := 9) (S := fun w' => w'.cell? (ad541.add (x9_1).toNat) = some (.slice A556_0 (rd_L2 t538 x9_1).length c556_0)) (ds := []) (xB 9 0) (by kernel_rfl) rfl (by kernel_rfl) (hx556_0) (fun hHeld => ?_); refine with_tabW spec_l19Pick__2.tab8 spec_l19Pick__2.bits8 (fun HT_ HW_ => ?_)
     generalize w50.drew = w51 at HO_7 HO_8 HL541_0 HO547 BK548 HB HL556_0 HR556_0 hx556_0 hHeld ⊢
     refine pu (i := 1) (N := some 33) (xB 9 2) HT_.out ?_
     refine pu (i := 3) (N := some 35) (xB 9 10) HT_.out ?_
     refine pu (i := 4) (N := some 36) (xB 9 26) HT_.out ?_
     refine pu (i := 5) (N := some 37) (xB 9 58) HT_.out ?_
     refine tk (i := 6) (N := some 38) (xB 9 122) HT_.out HW_.out hHeld ?_
     refine one_ (i := 0) (N := some 32) (xB 9 123) rfl rfl (one_of HT_.out (by kernel_rfl)) (by decide) (fun K hK => ?_)
     refine Kd.R_lit_step (Kd.int .i64) _ 3 ?hg (N := 32) ?hd (xs := ([] : List Int)) (inner := []) (ok := fun _ => True) (okp := fun _ => True) ?hr ?hp (fun _ hk => hk) trivial (Below.refl _ _) (Nat.le_refl _) (by simp) ?_; (case hd => rfl); (case hg => rfl); (case hr => first | (go_simp; done) | (go_simp; rfl)); (case hp => exact (Reps.none _ _))
     intro v551 w52 ho53 hb hg_ hnew_
     have HS0_ := (hb.cell (World.block_lt_of_cell? _ _ (hHeld))).trans (hHeld)
     clear hg_ hnew_
     (first | rw [← Ny550.out] at ho53 | (simp only [Int.reduceToNat] at ho53; rw [← Ny550.out] at ho53))
     replace HO_7 := ax (Kd.N_elder' (xN HO_7.out) (Kd.R_base ho53) hb); replace HO_8 := ax (Kd.N_elder' (xN HO_8.out) (Kd.R_base ho53) hb); replace HL541_0 := ax (Kd.V_elder' (xV HL541_0.out) (Kd.R_base ho53) hb); replace HL556_0 := ax (Kd.V_elder' (xV HL556_0.out) (Kd.R_base ho53) hb); have HO552 := ax (Kd.R_lower (Kd.R_new' (Kd.R_newM (M := fun k_ => (w.heap.size ≤ k_)) ho53 (below_size (xs HB.out GE548.out)) (fun k_ h_ => h_)) (Kd.R_lt (xR HO547.out))) (below_size (xs HB.out GE548.out))); replace HO547 := ax (Kd.R_elder' (xR HO547.out) (Kd.R_base ho53) hb); replace BK548 := ax (blk_below (g := gb548) (o := .cells #[.slice A541_0 (rd_L2 t538 x9_1).length c541_0, .slice Ao47 y545.length co47] 41 (0, 0)) (xk BK548.out) hb); replace HR556_0 := ax (Kd.C_below (xw HR556_0.out) hb); replace HB := ax (below_step (xs HB.out GE548.out) hb); clear hb ho53
     refine hK.out _ _ (HS0_) (fun hHeld => ?_)
     clear hK K
     refine nm ?_
     refine one_ (i := 2) (N := some 34) (xB 9 127) rfl rfl (one_of HT_.out (by kernel_rfl)) (by decide) (fun K hK => ?_)
     refine Kd.R_append_rows_step (Kd.int .i64) (w0 := w) w.heap.size (by rfl) (.tmp 32) (.tmp 33) 24 3 (.int .i64 0) 8 rfl Try.underlying24 info3 rfl (by decide) (by omega) v551 y550 l0 _ _ _ (fun k_ => (w.heap.size ≤ k_) ∧ some k_ ≠ (.slice Ao47 y545.length co47 : Value).ownBlock) (fun _ => False) rfl rfl ?aO ?aR (fun _ _ h => h) (fun _ h => h.elim) ?aF ?aB ?aS ?aL ?_
     (case aR => exact xz HR0.out HB.out)
     (case aB => exact (xs HB.out GE548.out))
     (case aF => exact (fun k_ hk => ⟨(Nat.le_trans (below_size (xs HB.out GE548.out)) hk), Kd.fresh' (Kd.R_lt (xR HO547.out)) k_ hk⟩))
     (case aO => exact (by (with_reducible repeat (first | apply Kd.R_alloc | apply Kd.R_drewN | apply Kd.R_drew)); exact Kd.R_mono HO552.out (by first | exact (fun _ hk => ⟨hk.1.1, hk.2⟩) | exact xi)))
     (case aS => exact (below_size (xs HB.out GE548.out)))
     (case aL => have := LMc13.out; omega)
     intro v554 w54 ho hb hg hat
     have HS0_ := cell_grown hg (hHeld) (by first | (rw [add_block]; exact (fun e_ => by obtain ⟨cs_, hc_⟩ := Kd.N_typed HO_8.out _ rfl; exact Kd.R_ne HO552.out hc_ (by decide) e_)) | (show some (Addr.add _ _).block ≠ _; rw [add_block]; exact (fun e_ => by obtain ⟨cs_, hc_⟩ := Kd.N_typed HO_8.out _ rfl; exact Kd.R_ne HO552.out hc_ (by decide) e_)) | exact (fun e_ => by obtain ⟨cs_, hc_⟩ := Kd.N_typed HO_8.out _ rfl; exact Kd.R_ne HO552.out hc_ (by decide) e_))
     rw [← Ny553.out] at ho
     have n0_ := ax (Kd.N_afterv (ok := (fun k_ => (w.heap.size ≤ k_) ∧ some k_ ≠ (.slice (some ad541) t538.length co39 : Value).ownBlock ∧ some k_ ≠ (.slice Ao47 y545.length co47 : Value).ownBlock ∧ k_ ≠ gb548)) (xN HO_7.out) hg hat)
     have n1_ := ax (Kd.N_afterv (ok := (fun k_ => (w.heap.size ≤ k_) ∧ some k_ ≠ (u7 : Value).ownBlock ∧ some k_ ≠ (.slice Ao47 y545.length co47 : Value).ownBlock ∧ k_ ≠ gb548)) (xN HO_8.out) hg hat)
     have n2_ := ax (Kd.V_afterv (ok := (fun k_ => (w.heap.size ≤ k_) ∧ some k_ ≠ (u7 : Value).ownBlock ∧ some k_ ≠ (.slice (some ad541) t538.length co39 : Value).ownBlock ∧ some k_ ≠ (.slice Ao47 y545.length co47 : Value).ownBlock ∧ k_ ≠ gb548)) (xV HL541_0.out) hg hat)
     have n3_ := ax (Kd.R_after (ok := (fun k_ => (w.heap.size ≤ k_))) (xR HO547.out) hg hat)
     have n4_ := ax (blk_grown (g := gb548) (o := .cells #[.slice A541_0 (rd_L2 t538 x9_1).length c541_0, .slice Ao47 y545.length co47] 41 (0, 0)) (xk BK548.out) hg (Kd.R_ne HO552.out BK548.out (by decide)))
     have n5_ := ax (Kd.V_afterv (ok := (fun k_ => (w.heap.size ≤ k_) ∧ some k_ ≠ (u7 : Value).ownBlock ∧ some k_ ≠ (.slice (some ad541) t538.length co39 : Value).ownBlock ∧ some k_ ≠ (.slice Ao47 y545.length co47 : Value).ownBlock ∧ k_ ≠ gb548)) (by (with_reducible repeat (first | apply Kd.V_alloc | apply Kd.V_drewN | apply Kd.V_drew)); exact Kd.V_mono HL556_0.out (by first | exact (fun _ hk => ⟨⟨hk.1.1.1, ⟨hk.1.1.2.1, ⟨hk.1.2, ⟨hk.1.1.2.2.1, hk.1.1.2.2.2⟩⟩⟩⟩, hk.2⟩) | exact xi)) hg hat)
     have n6_ := ax (hb)
     have n7_ := ax (ho)
     clear HO_7 HO_8 HL541_0 HO547 BK548 HL556_0 HB HO552
     have HO_7 := n0_
     have HO_8 := n1_
     have HL541_0 := n2_
     have HO547 := n3_
     have BK548 := n4_
     have HL556_0 := n5_
     have HB := n6_
     have HO555 := n7_
     clear n0_ n1_ n2_ n3_ n4_ n5_ n6_ n7_ ho hb hg hat
     obtain ⟨Ao55, co55, eo55⟩ := Kd.R_slice HO555.out
     (first | subst eo55 | (injection eo55 with f1_ f2_ f3_; have f4_ := f1_.symm; have f5_ := f3_.symm; clear f1_ f2_ f3_; subst f4_; subst f5_))
     refine hK.out _ _ (HS0_) (fun hHeld => ?_)
     clear hK K
     refine nm ?_
     refine pu (i := 7) (N := some 39) (xB 9 255) HT_.out ?_
     refine one_ (i := 8) (N := none) (xB 9 511) rfl rfl (one_of HT_.out (by kernel_rfl)) (by decide) (fun K hK => ?_)
     have hs56 : w54.cell? ⟨gb548, 0, none⟩ = some (.slice A541_0 (rd_L2 t538 x9_1).length c541_0) := (blk_cell BK548.out 0).trans rfl
     have hfs56 := blk_frozen BK548.out 0
     have hs57 : w54.cell? ⟨gb548, 1, none⟩ = some (.slice Ao47 y545.length co47) := (blk_cell BK548.out 1).trans rfl
     have hfs57 := blk_frozen BK548.out 1
     refine skip_ (w1 := ?_) (by rfl) rfl ?_ ?_
     rotate_left
     ·go_simp
      rfl
     refine hK.out _ _ (((cell_far (p := ⟨gb548, _, none⟩) (by first | exact Kd.own_blk (Kd.N_away HO_8.out (fun _ hk => hk.1.2.2.2)) | (rw [add_block]; exact Kd.own_blk (Kd.N_away HO_8.out (fun _ hk => hk.1.2.2.2))) | (show (Addr.add _ _).block ≠ _; rw [add_block]; exact Kd.own_blk (Kd.N_away HO_8.out (fun _ hk => hk.1.2.2.2))) | (dsimp only; exact Kd.own_blk (Kd.N_away HO_8.out (fun _ hk => hk.1.2.2.2)))) _).trans (((cell_far (p := ⟨gb548, _, none⟩) (by first | exact Kd.own_blk (Kd.N_away HO_8.out (fun _ hk => hk.1.2.2.2)) | (rw [add_block]; exact Kd.own_blk (Kd.N_away HO_8.out (fun _ hk => hk.1.2.2.2))) | (show (Addr.add _ _).block ≠ _; rw [add_block]; exact Kd.own_blk (Kd.N_away HO_8.out (fun _ hk => hk.1.2.2.2))) | (dsimp only; exact Kd.own_blk (Kd.N_away HO_8.out (fun _ hk => hk.1.2.2.2)))) _).trans (hHeld))))) (fun hHeld => ?_)
     clear hK K
     refine done_ (done_of HT_.out (by kernel_rfl)) ?_
     have hcz58_0 : w54.cell? ⟨gb548, 0, none⟩ = some (.slice A541_0 (rd_L2 t538 x9_1).length c541_0) := (blk_cell BK548.out 0).trans rfl
     have hcz58_1 : w54.cell? ⟨gb548, 1, none⟩ = some (.slice Ao47 y545.length co47) := (blk_cell BK548.out 1).trans rfl
     have hfz58_0 := blk_frozen BK548.out 0
     have hfz58_1 := blk_frozen BK548.out 1
     try go_wp2_with (first | (go_at_call 54; (with_reducible refine (spec_IsRibbon.calls k1 _ _ y553 _ _ (rd_L2 t538 x9_1) false _ ?side1 ?side2 ?side3 ?side4 A14.out).mono ?_); (case side1 => refine (Kd.R_reads' (e := 3) (base := w.heap.size) (ok := fun k_ => ((w.heap.size ≤ k_) ∧ some k_ ≠ (.slice Ao47 y545.length co47 : Value).ownBlock)) (n := y553.length) (c := co55) ?_).2.2; exact (by (with_reducible repeat (first | apply Kd.R_alloc | apply Kd.R_drewN | apply Kd.R_drew)); exact (Kd.R_mono (Kd.R_far (p := ⟨gb548, 1, none⟩) (Kd.R_far (p := ⟨gb548, 0, none⟩) (Kd.R_types HO555.out BK548.out (by decide)) (fun _ hk => hk.2) (.slice Ao55 y553.length co55)) (fun _ hk => hk.2) (.slice A556_0 (rd_L2 t538 x9_1).length c556_0)) (fun _ h_ => h_.1)))); (case side2 => exact (Kd.R_reads' HO555.out).2.1); (case side3 => repeat (first | exact ((Kd.V_reads' (by (with_reducible repeat (first | apply Kd.V_alloc | apply Kd.V_drewN | apply Kd.V_drew)); exact (Kd.V_mono (Kd.V_far (p := ⟨gb548, 1, none⟩) (Kd.V_far (p := ⟨gb548, 0, none⟩) (Kd.V_mono HL556_0.out (fun k_ hk => (⟨hk, hk.1.2.2.2.2⟩ : _ ∧ k_ ≠ gb548))) (fun _ hk => hk.2) (.slice Ao55 y553.length co55)) (fun _ hk => hk.2) (.slice A556_0 (rd_L2 t538 x9_1).length c556_0)) (fun _ h_ => h_.1)))).2.2) | (with_reducible refine Kd.C_alloc ?_ _) | (with_reducible refine Kd.C_drewN ?_ _) | (with_reducible refine Kd.C_drew ?_))); (case side4 => exact HC556_0.out); rintro e w59 ⟨rfl, hb⟩; replace HO_7 := ax (Kd.N_below (by (with_reducible repeat (first | apply Kd.N_alloc | apply Kd.N_drewN | apply Kd.N_drew)); exact (Kd.N_mono (Kd.N_far (p := ⟨gb548, 1, none⟩) (Kd.N_far (p := ⟨gb548, 0, none⟩) (Kd.N_mono HO_7.out (fun k_ hk => (⟨hk, hk.1.2.2.2⟩ : _ ∧ k_ ≠ gb548))) (fun _ hk => hk.2) (.slice Ao55 y553.length co55)) (fun _ hk => hk.2) (.slice A556_0 (rd_L2 t538 x9_1).length c556_0)) (fun _ h_ => h_.1))) hb); replace HO_8 := ax (Kd.N_below (by (with_reducible repeat (first | apply Kd.N_alloc | apply Kd.N_drewN | apply Kd.N_drew)); exact (Kd.N_mono (Kd.N_far (p := ⟨gb548, 1, none⟩) (Kd.N_far (p := ⟨gb548, 0, none⟩) (Kd.N_mono HO_8.out (fun k_ hk => (⟨hk, hk.1.2.2.2⟩ : _ ∧ k_ ≠ gb548))) (fun _ hk => hk.2) (.slice Ao55 y553.length co55)) (fun _ hk => hk.2) (.slice A556_0 (rd_L2 t538 x9_1).length c556_0)) (fun _ h_ => h_.1))) hb); replace HL541_0 := ax (Kd.V_below (by (with_reducible repeat (first | apply Kd.V_alloc | apply Kd.V_drewN | apply Kd.V_drew)); exact (Kd.V_mono (Kd.V_far (p := ⟨gb548, 1, none⟩) (Kd.V_far (p := ⟨gb548, 0, none⟩) (Kd.V_mono HL541_0.out (fun k_ hk => (⟨hk, hk.1.2.2.2.2⟩ : _ ∧ k_ ≠ gb548))) (fun _ hk => hk.2) (.slice Ao55 y553.length co55)) (fun _ hk => hk.2) (.slice A556_0 (rd_L2 t538 x9_1).length c556_0)) (fun _ h_ => h_.1))) hb); replace HO547 := ax (Kd.R_below (by (with_reducible repeat (first | apply Kd.R_alloc | apply Kd.R_drewN | apply Kd.R_drew)); exact (Kd.R_mono (Kd.R_far (p := ⟨gb548, 1, none⟩) (Kd.R_far (p := ⟨gb548, 0, none⟩) (Kd.R_types HO547.out BK548.out (by decide)) (fun _ hk => hk.2) (.slice Ao55 y553.length co55)) (fun _ hk => hk.2) (.slice A556_0 (rd_L2 t538 x9_1).length c556_0)) (fun _ h_ => h_.1))) hb); replace HL556_0 := ax (Kd.V_below (by (with_reducible repeat (first | apply Kd.V_alloc | apply Kd.V_drewN | apply Kd.V_drew)); exact (Kd.V_mono (Kd.V_far (p := ⟨gb548, 1, none⟩) (Kd.V_far (p := ⟨gb548, 0, none⟩) (Kd.V_mono HL556_0.out (fun k_ hk => (⟨hk, hk.1.2.2.2.2⟩ : _ ∧ k_ ≠ gb548))) (fun _ hk => hk.2) (.slice Ao55 y553.length co55)) (fun _ hk => hk.2) (.slice A556_0 (rd_L2 t538 x9_1).length c556_0)) (fun _ h_ => h_.1))) hb); replace HO555 := ax (Kd.R_below (by (with_reducible repeat (first | apply Kd.R_alloc | apply Kd.R_drewN | apply Kd.R_drew)); exact (Kd.R_mono (Kd.R_far (p := ⟨gb548, 1, none⟩) (Kd.R_far (p := ⟨gb548, 0, none⟩) (Kd.R_types HO555.out BK548.out (by decide)) (fun _ hk => hk.2) (.slice Ao55 y553.length co55)) (fun _ hk => hk.2) (.slice A556_0 (rd_L2 t538 x9_1).length c556_0)) (fun _ h_ => h_.1))) hb); replace BK548 := ax (blk_below (g := gb548) (o := .cells #[.slice Ao55 y553.length co55, .slice A556_0 (rd_L2 t538 x9_1).length c556_0] 41 (0, 0)) (by (with_reducible repeat (first | refine blk_drewN ?_ _ | refine blk_drew ?_ | refine blk_alloc ?_ _)); refine blk_put (cs := #[.slice Ao55 y553.length co55, .slice Ao47 y545.length co47]) ?_ 1 _ rfl; (with_reducible repeat (first | refine blk_drewN ?_ _ | refine blk_drew ?_ | refine blk_alloc ?_ _)); refine blk_put (cs := #[.slice A541_0 (rd_L2 t538 x9_1).length c541_0, .slice Ao47 y545.length co47]) ?_ 0 _ rfl; (with_reducible repeat (first | refine blk_drewN ?_ _ | refine blk_drew ?_ | refine blk_alloc ?_ _)); exact BK548.out) hb); replace HB := ax (below_step (xs HB.out GE548.out) hb); (try clear hb)))
     go_roundg k1
     case measure => have := HK1.out; omega
     case rel => exact ⟨(x7_1), (wrap64 (x9_1 + 1)), xr, H', ⟨by have := HK1.out; omega⟩, ⟨by (with_reducible repeat (first | apply Kd.N_alloc | apply Kd.N_drewN | apply Kd.N_drew)); exact Kd.N_mono HO_7.out (fun _ hk => ⟨hk.1.1, hk.1.2.1⟩)⟩, ⟨by (with_reducible repeat (first | apply Kd.N_alloc | apply Kd.N_drewN | apply Kd.N_drew)); exact Kd.N_mono HO_8.out (fun _ hk => ⟨hk.1.1, hk.1.2.1⟩)⟩, ⟨xs HB.out GE548.out⟩⟩
   ·rw [if_neg c8] at H
    have c8b0 := decide_eq_false c8
    clear c8
    obtain rfl := Option.some.inj H
    obtain ⟨Ao60, co60, eo60⟩ := Kd.N_slice HO_8.out
    subst eo60
    go_wp2
    go_ret
    exact ⟨_, xe, by (with_reducible repeat (first | apply Kd.N_alloc | apply Kd.N_drewN | apply Kd.N_drew)); exact Kd.N_mono HO_7.out (fun _ hk => hk.1), xb HB.out⟩

end Go.Proofs.Ytopmggldaicpaaa.PFnCores
