import Derived.Test.YtopmggldaicpaacGreatPFnKroneckerx29
namespace Go.Proofs.YtopmggldaicpaacGreat.PFnKronecker
open Go.RowKit Go.Proofs.YtopmggldaicpaacGreatW.PrintWords Go.Proofs.YtopmggldaicpaacGreatW.PrintLast Go.Proofs.YtopmggldaicpaacGreatW.PrintMore
set_option linter.unusedVariables false
set_option linter.unusedSimpArgs false
set_option maxHeartbeats 8000000
set_option maxRecDepth 100000
/-! ### spec_RibbonsInside: function 61 -/
mutual
def spec_RibbonsInside.j0 : Nat → List Int → Int → List (S61) → Bool → Option ((List (S61)))
 | 0, _, _, _, _ => none
 | k + 1, x0, x1, x5, x18 => if x18 = true then (some x5) else ((spec_l2Size.f k x0).bind fun t816 => ((spec_l19Pick__2.f k x0 (wrap64 (t816 - x1))).bind fun t817 => (spec_RibbonsInside.l0 k x0 x5 t817 0)))
def spec_RibbonsInside.l0 : Nat → List Int → List (S61) → List (List Int) → Int → Option ((List (S61)))
 | 0, _, _, _, _ => none
 | k + 1, x0, x5, x6, x7 => if x7 < (x6.length : Int) then ((some (([] : List Int) : List Int)).bind fun y820 => (if y820.length + x0.length < 17592186044416 then (if 0 ≤ x7 then (if x5.length < 2932031007402 then (spec_RibbonsInside.l0 k x0 (x5 ++ [(⟨(y820 ++ x0), rd_L2 x6 x7⟩ : S61)]) x6 (wrap64 (x7 + 1))) else (none)) else (none)) else (none))) else (some x5)
end
def spec_RibbonsInside.f (k : Nat) (l0 : List Int) (a1 : Int) : Option ((List (S61))) := (some (([] : List (S61)) : List (S61))).bind fun y810 => ((spec_IsPartition.f k l0).bind fun t813 => (if t813 = true then ((spec_l2Size.f k l0).bind fun t814 => ((spec_l1In.f a1 1 t814).bind fun t815 => (spec_RibbonsInside.j0 k l0 a1 y810 (!t815)))) else (spec_RibbonsInside.j0 k l0 a1 y810 true)))
theorem spec_RibbonsInside.mono_l : ∀ k, (∀ y0 y1 y2 y3, LeO (spec_RibbonsInside.j0 k y0 y1 y2 y3) (spec_RibbonsInside.j0 (k + 1) y0 y1 y2 y3)) ∧ (∀ y0 y1 y2 y3, LeO (spec_RibbonsInside.l0 k y0 y1 y2 y3) (spec_RibbonsInside.l0 (k + 1) y0 y1 y2 y3))
 | 0 => ⟨fun _ _ _ _ r h => by simp [spec_RibbonsInside.j0] at h, fun _ _ _ _ r h => by simp [spec_RibbonsInside.l0] at h⟩
 | k + 1 => by
  obtain ⟨ih0, ih1⟩ := spec_RibbonsInside.mono_l k
  refine ⟨?_, ?_⟩
  ·intro y0 y1 y2 y3
   unfold spec_RibbonsInside.j0
   repeat' with_reducible first | exact ih0 _ _ _ _ | exact ih1 _ _ _ _ | exact spec_IsPartition.mono _ _ | exact spec_l19Pick__2.mono _ _ _ | exact spec_l2Size.mono _ _ | exact xl | refine LeO.ite ?_ ?_ | refine LeO.bind ?_ fun _ => ?_
  ·intro y0 y1 y2 y3
   unfold spec_RibbonsInside.l0
   repeat' with_reducible first | exact ih0 _ _ _ _ | exact ih1 _ _ _ _ | exact spec_IsPartition.mono _ _ | exact spec_l19Pick__2.mono _ _ _ | exact spec_l2Size.mono _ _ | exact xl | refine LeO.ite ?_ ?_ | refine LeO.bind ?_ fun _ => ?_
theorem spec_RibbonsInside.mono : ∀ a0 a1 k, LeO (spec_RibbonsInside.f k a0 a1) (spec_RibbonsInside.f (k + 1) a0 a1) := by
 intro a0 a1 k
 obtain ⟨ih0, ih1⟩ := spec_RibbonsInside.mono_l k
 unfold spec_RibbonsInside.f
 repeat' with_reducible first | exact ih0 _ _ _ _ | exact ih1 _ _ _ _ | exact spec_IsPartition.mono _ _ | exact spec_l19Pick__2.mono _ _ _ | exact spec_l2Size.mono _ _ | exact xl | refine LeO.ite ?_ ?_ | refine LeO.bind ?_ fun _ => ?_
def spec_RibbonsInside.T8 : Bool × List (List Nat × List Nat) := (true, [([], []), ([], []), ([], []), ([1, 2], [1, 2]), ([], []), ([], []), ([4, 5], [4, 5]), ([6], [6]), ([3, 7], [3, 7]), ([8], [8]), ([0, 9, 3], [0, 9]), ([10, 10, 0, 1, 2, 3, 4, 5, 6, 7, 8, 9, 10], [0, 10])])
def spec_RibbonsInside.B8 : List Nat := [0, 0, 0, 6, 0, 0, 48, 112, 254, 510, 1023, 2047]
theorem spec_RibbonsInside.tab8 : rtab .any (opsOf Tryz.f61 8) = spec_RibbonsInside.T8 := by kernel_rfl
theorem spec_RibbonsInside.bits8 : waitsOk spec_RibbonsInside.T8.2 spec_RibbonsInside.B8 = true := by kernel_rfl
theorem spec_RibbonsInside.calls (k : Nat) (A0 : Option Addr) (c0 : Nat) (l0 : List Int) (a1 : Int) (r : List (S61)) (w : World) (hr0 : Kd.C (Kd.int .i64) w A0 l0.length l0) (hc0 : l0.length ≤ c0) (h : spec_RibbonsInside.f k l0 a1 = some r) :
  Calls Tryz.prog 61 #[.slice A0 l0.length c0, .int .i64 a1] w fun e w' => ∃ v0_ : Value, e = .returned (v0_) ∧ Kd.N k61 61 w' w.heap.size (fun k_ => (w.heap.size ≤ k_)) v0_ r ∧ Below w.heap.size w w' := by
 have hu61 := Tryz.underlying61
 have HR0 := ax hr0
 have HC0 := ax hc0
 clear hr0 hc0
 have HB := ax (Below.refl w.heap.size w)
 have H : ((some (([] : List (S61)) : List (S61))).bind fun y810 => ((spec_IsPartition.f k l0).bind fun t813 => (if t813 = true then ((spec_l2Size.f k l0).bind fun t814 => ((spec_l1In.f a1 1 t814).bind fun t815 => (spec_RibbonsInside.j0 k l0 a1 y810 (!t815)))) else (spec_RibbonsInside.j0 k l0 a1 y810 true)))) = some r := h
 clear h
 obtain ⟨y810, Ny810, H⟩ := xg H
 have HC3 := ax H
 clear H
 go_enter Tryz.func61, Tryz.ntmps61
 go_upto_region 2 with (first | ((with_reducible refine gate_dst (N := 8) rfl ?_); refine Kd.N_lit k61 _ 61 ?hg (N' := 8) ?hd (xs := ([] : List (S61))) (inner := []) (ok := (fun k_ => (w.heap.size ≤ k_))) (okp := (fun k_ => (w.heap.size ≤ k_))) ?hr ?hp (fun _ hk => hk) ((show ∀ k_, w.heap.size ≤ k_ → (fun k_ => (w.heap.size ≤ k_)) k_ from fun k_ hk => (Nat.le_trans (below_size (xb HB.out)) hk)) _ (Nat.le_refl _)) (Below.refl _ _) (Nat.le_refl _) (by simp) ?_; (case hd => rfl); (case hg => rfl); (case hr => first | (go_simp; done) | (go_simp; rfl)); (case hp => exact (Reps.none _ _)); intro v811 w4 ho5 hb hg_ hnew_; clear hg_ hnew_; (first | rw [← Ny810.out] at ho5 | (simp only [Int.reduceToNat] at ho5; rw [← Ny810.out] at ho5)); have HO812 := ax (Kd.N_lower ho5 (below_size (xb HB.out))); replace HB := yB HB hb; clear hb ho5))
 (try simp only [Act.put, List.setIfInBounds_toArray, List.set_cons_zero, List.set_cons_succ])
 go_cut [18] (fun v18 wc => ∃ (kq : Nat) (x18_2 : Bool), v18 = .bool x18_2 ∧ Aside0 (spec_RibbonsInside.j0 kq l0 a1 y810 x18_2 = some r) ∧ Aside0 (kq ≤ k) ∧ Aside0 (Kd.N k61 61 wc w.heap.size (fun k_ => (w.heap.size ≤ k_)) v811 y810) ∧ Aside0 (Below w.heap.size w wc))
 case first =>
  have H := HC3.out
  clear HC3
  obtain ⟨t813, A6, H⟩ := xI H
  by_cases c7 : t813 = true
  ·subst c7
   rw [if_pos rfl] at H
   obtain ⟨t814, A8, H⟩ := xI H
   obtain ⟨t815, A9, H⟩ := xI H
   have H' := ax H
   clear H
   go_wp2_with (first | ((with_reducible refine gate_callee (f := 20) rfl ?_); refine goesL_ (some 10) rfl rfl Tryz.func20 (by kernel_rfl) rfl #[.slice A0 l0.length c0] rfl xm ?_; (with_reducible refine (spec_IsPartition.calls k _ _ l0 true _ ?side1 ?side2 A6.out).mono ?_); (case side1 => exact xz HR0.out HB.out); (case side2 => exact HC0.out); rintro e w10 ⟨rfl, hb⟩; refine ⟨_, rfl, ?_⟩; replace HO812 := ax (Kd.N_below (xN HO812.out) hb); replace HB := yB HB hb; (try clear hb)) | (go_at_call 36; (with_reducible refine (spec_l2Size.calls k _ _ l0 t814 _ ?side1 ?side2 A8.out).mono ?_); (case side1 => exact xz HR0.out HB.out); (case side2 => exact HC0.out); rintro e w' ⟨rfl, ⟨nd, rfl⟩⟩) | (go_at_call 42; (with_reducible refine (spec_l1In.calls a1 1 t814 t815 _ A9.out).mono ?_); rintro e w' ⟨rfl, ⟨nd, rfl⟩⟩))
   go_meet
   case rel => exact ⟨_, (!t815), xr, H', ⟨by first | omega | exact Nat.le_refl _⟩, ⟨xN HO812.out⟩, ⟨xb HB.out⟩⟩
  ·replace c7 := Bool.eq_false_iff.mpr c7
   subst c7
   rw [if_neg (show ¬ (false = true) by decide)] at H
   have H' := ax H
   clear H
   go_wp2_with (first | ((with_reducible refine gate_callee (f := 20) rfl ?_); refine goesL_ (some 10) rfl rfl Tryz.func20 (by kernel_rfl) rfl #[.slice A0 l0.length c0] rfl xm ?_; (with_reducible refine (spec_IsPartition.calls k _ _ l0 false _ ?side1 ?side2 A6.out).mono ?_); (case side1 => exact xz HR0.out HB.out); (case side2 => exact HC0.out); rintro e w11 ⟨rfl, hb⟩; refine ⟨_, rfl, ?_⟩; replace HO812 := ax (Kd.N_below (xN HO812.out) hb); replace HB := yB HB hb; (try clear hb)))
   go_meet
   case rel => exact ⟨_, (true), xr, H', ⟨by first | omega | exact Nat.le_refl _⟩, ⟨xN HO812.out⟩, ⟨xb HB.out⟩⟩
 case rest =>
  clear HC3
  (try clear c7)
  obtain ⟨kq, x18_2, rfl, HA, HJ2, HO_5, HB⟩ := hcut
  cases kq with
  | zero => exact absurd HA.out (by simp [spec_RibbonsInside.j0])
  | succ kj2 =>
   have H := HA.out
   clear HA
   simp only [spec_RibbonsInside.j0] at H
   by_cases c12 : x18_2 = true
   ·subst c12
    rw [if_pos rfl] at H
    obtain rfl := Option.some.inj H
    go_wp2
    go_ret
    exact ⟨_, xe, xN HO_5.out, xb HB.out⟩
   ·replace c12 := Bool.eq_false_iff.mpr c12
    subst c12
    rw [if_neg (show ¬ (false = true) by decide)] at H
    obtain ⟨t816, A13, H⟩ := xI H
    obtain ⟨t817, A14, H⟩ := xI H
    have H' := ax H
    clear H
    go_wp2_with (first | ((with_reducible refine gate_callee (f := 36) rfl ?_); refine goesL_ (some 22) rfl rfl Tryz.func36 (by kernel_rfl) rfl #[.slice A0 l0.length c0] rfl xm ?_; (with_reducible refine (spec_l2Size.calls kj2 _ _ l0 t816 _ ?side1 ?side2 A13.out).mono ?_); (case side1 => exact xz HR0.out HB.out); (case side2 => exact HC0.out); rintro e w' ⟨rfl, ⟨nd, rfl⟩⟩; refine ⟨_, rfl, ?_⟩) | ((with_reducible refine gate_callee (f := 84) rfl ?_); refine goesL_ (some 25) rfl rfl Tryz.func84 (by kernel_rfl) rfl #[.slice A0 l0.length c0, .int .i64 (wrap64 (t816 - a1)), .int .i64 2] rfl xm ?_; (with_reducible refine (spec_l19Pick__2.calls kj2 _ _ l0 (wrap64 (t816 - a1))  t817 _ ?side1 ?side2 A14.out).mono ?_); (case side1 => exact xc (Kd.C_below HR0.out (xb HB.out))); (case side2 => exact HC0.out); rintro e w15 ⟨v818, rfl, ho0, hb⟩; refine ⟨_, rfl, ?_⟩; have HO819 := ax (Kd.N_lower (Kd.N_mono (ok' := fun k_ => (w.heap.size ≤ k_) ∧ some k_ ≠ (v811 : Value).ownBlock) ho0 (fun k_ hk_ => ⟨(Nat.le_trans (below_size (xb HB.out)) hk_), (Kd.fresh' (Kd.N_lt (xN HO_5.out)) k_ hk_)⟩)) (below_size (xb HB.out))); replace HO_5 := ax (Kd.N_elder' (xN HO_5.out) (by first | exact Kd.N_base ho0 | exact Kd.S_base ho0 | exact Kd.R_base ho0) hb); replace HB := yB HB hb; (try clear hb); (try clear ho0)))
    go_loopg [5, 7] kj2 (fun kq v5 v7 w' => ∃ (x5_2 : List (S61)) (x7_2 : Int), v7 = .int .i64 x7_2 ∧ Aside0 (spec_RibbonsInside.l0 kq l0 x5_2 t817 x7_2 = some r) ∧ Aside0 (kq ≤ kj2) ∧ Aside0 (Kd.N k61 61 w' w.heap.size (fun k_ => (w.heap.size ≤ k_) ∧ some k_ ≠ (v818 : Value).ownBlock) v5 x5_2) ∧ Aside0 (Kd.N (Kd.slice 3 (Kd.int .i64)) 24 w' w.heap.size (fun k_ => (w.heap.size ≤ k_) ∧ some k_ ≠ (v5 : Value).ownBlock) v818 t817) ∧ Aside0 (Below w.heap.size w w'))
    case atStart => exact ⟨(y810), (0), xr, H', ⟨Nat.le_refl _⟩, ⟨xN HO_5.out⟩, ⟨xN HO819.out⟩, ⟨xb HB.out⟩⟩
    case round =>
     clear H'
     (try clear c7); (try clear c12)
     obtain ⟨x5_2, x7_2, rfl, HA, HK2, HO_5, HO_6, HB⟩ := hrel
     cases gk with
     | zero => exact absurd HA.out (by simp [spec_RibbonsInside.l0])
     | succ k2 =>
      have H := HA.out
      clear HA
      simp only [spec_RibbonsInside.l0] at H
      by_cases c16 : x7_2 < (t817.length : Int)
      ·rw [if_pos c16] at H
       have c16b0 := decide_eq_true c16
       clear c16
       obtain ⟨y820, Ny820, H⟩ := xg H
       obtain ⟨c17, H⟩ := xp H
       have LMc17 := ax c17
       clear c17
       obtain ⟨y823, hy823⟩ : ∃ y_ : List Int, y_ = (y820 ++ l0) := ⟨_, rfl⟩
       replace H : (if 0 ≤ x7_2 then (if x5_2.length < 2932031007402 then (spec_RibbonsInside.l0 k2 l0 (x5_2 ++ [(⟨y823, rd_L2 t817 x7_2⟩ : S61)]) t817 (wrap64 (x7_2 + 1))) else (none)) else (none)) = some r := xv hy823 H
       have Ny823 := ax hy823
       clear hy823
       obtain ⟨c18b0, H⟩ := xq H
       obtain ⟨c19, H⟩ := xp H
       have LMc19 := ax c19
       clear c19
       obtain ⟨y827, hy827⟩ : ∃ y_ : List (S61), y_ = (x5_2 ++ [(⟨y823, rd_L2 t817 x7_2⟩ : S61)]) := ⟨_, rfl⟩
       replace H : (spec_RibbonsInside.l0 k2 l0 y827 t817 (wrap64 (x7_2 + 1))) = some r := xv hy827 H
       have Ny827 := ax hy827
       clear hy827
       have H' := ax H
       clear H
       obtain ⟨Ao20, co20, eo20⟩ := Kd.N_slice HO_6.out
       subst eo20
       try go_wp2
       replace HO_5 := ax (Kd.N_drew HO_5.out); replace HO_6 := ax (Kd.N_drew HO_6.out); replace HB := ax (below_drew1 HB.out)
       have p826 : 0 ≤ (x7_2 : Int) := xd
       have q826 : x7_2 < (t817.length : Int) := xd
       obtain ⟨ad826, A826_0, c826_0, e826, hx826_0, hl826_0, hi826_0⟩ := at_L2 (Kd.N_reads' HO_6.out).2.2 x7_2 p826 q826
       cases e826
       obtain ⟨ce826, hce826, hMe826, hcc826⟩ := Kd.N_get HO_6.out [] x7_2 p826 (by first | exact q826 | exact xd | (have e_ := (Kd.N_reads' HO_6.out).1; omega))
       obtain ⟨ua826_0, uc826_0, rfl, ul826_0, ge826_0⟩ := Kd.FK_slice_open hMe826
       have hv826_0 := hcc826 0 _ rfl
       rw [Nat.add_zero, show ((Kd.slice 3 (Kd.int .i64))).sz = 1 from rfl, Nat.mul_one] at hv826_0
       replace hv826_0 := Option.some.inj (hv826_0.symm.trans hx826_0)
       injection hv826_0 with hva_ hvn_ hvc_
       rw [hva_] at ge826_0
       rw [hvc_] at ul826_0
       have HL826_0 := ax (show Kd.V (Kd.int .i64) 3 _ w.heap.size _ _ (rd_L2 t817 x7_2) from Kd.V_mk ul826_0 ge826_0)
       clear hva_ hvn_ hvc_ ge826_0 ul826_0 hcc826 hce826
       have HR826_0 := ax hi826_0
       have HC826_0 := ax hl826_0
       clear hi826_0 hl826_0
       replace p826 := eq_true p826
       replace q826 := eq_true q826
       refine start_ (n := 12) (S := fun w' => w'.cell? (ad826.add (x7_2).toNat) = some (.slice A826_0 (rd_L2 t817 x7_2).length c826_0)) (ds := [9]) (xB 12 0) (by kernel_rfl) rfl (by kernel_rfl) (hx826_0) (fun hHeld => ?_); refine with_tabW spec_RibbonsInside.tab8 spec_RibbonsInside.bits8 (fun HT_ HW_ => ?_)
       generalize wr.drew = w21 at HO_5 HO_6 HB HL826_0 HR826_0 hx826_0 hHeld ⊢
       refine pu (i := 0) (N := some 32) (xB 12 1) HT_.out ?_
       refine pu (i := 2) (N := some 34) (xB 12 5) HT_.out ?_
       refine pu (i := 4) (N := some 36) (xB 12 21) HT_.out ?_
       refine pu (i := 5) (N := some 37) (xB 12 53) HT_.out ?_
       refine pu (i := 6) (N := some 38) (xB 12 117) HT_.out ?_
       refine tk (i := 7) (N := some 39) (xB 12 245) HT_.out HW_.out hHeld ?_
       refine one_ (i := 1) (N := some 33) (xB 12 247) rfl rfl (one_of HT_.out (by kernel_rfl)) (by decide) (fun K hK => ?_)
       refine Kd.R_lit_step (Kd.int .i64) _ 3 ?hg (N := 33) ?hd (xs := ([] : List Int)) (inner := []) (ok := fun _ => True) (okp := fun _ => True) ?hr ?hp (fun _ hk => hk) trivial (Below.refl _ _) (Nat.le_refl _) (by simp) ?_; (case hd => rfl); (case hg => rfl); (case hr => first | (go_simp; done) | (go_simp; rfl)); (case hp => exact (Reps.none _ _))
       intro v821 w22 ho23 hb hg_ hnew_
       have HS0_ := (hb.cell (World.block_lt_of_cell? _ _ (hHeld))).trans (hHeld)
       clear hg_ hnew_
       (first | rw [← Ny820.out] at ho23 | (simp only [Int.reduceToNat] at ho23; rw [← Ny820.out] at ho23))
       replace HO_5 := ax (Kd.N_elder' (xN HO_5.out) (Kd.R_base ho23) hb); replace HO_6 := ax (Kd.N_elder' (xN HO_6.out) (Kd.R_base ho23) hb); replace HL826_0 := ax (Kd.V_elder' (xV HL826_0.out) (Kd.R_base ho23) hb); have HO822 := ax (Kd.R_lower (Kd.R_newM (M := fun k_ => (w.heap.size ≤ k_)) ho23 (below_size (xb HB.out)) (fun k_ h_ => h_)) (below_size (xb HB.out))); replace HR826_0 := ax (Kd.C_below (xw HR826_0.out) hb); replace HB := yB HB hb; clear hb ho23
       refine hK.out _ _ (HS0_) (fun hHeld => ?_)
       clear hK K
       refine nm ?_
       refine one_ (i := 3) (N := some 35) (xB 12 255) rfl rfl (one_of HT_.out (by kernel_rfl)) (by decide) (fun K hK => ?_)
       refine Kd.R_append_rows_step (Kd.int .i64) (w0 := w) w.heap.size (by rfl) (.tmp 33) (.tmp 34) 24 3 (.int .i64 0) 8 rfl Tryz.underlying24 info3 rfl (by decide) (by omega) v821 y820 l0 _ _ _ (fun k_ => (w.heap.size ≤ k_)) (fun _ => False) rfl rfl ?aO ?aR (fun _ _ h => h) (fun _ h => h.elim) ?aF ?aB ?aS ?aL ?_
       (case aR => exact xz HR0.out HB.out)
       (case aB => exact (xb HB.out))
       (case aF => exact (fun k_ hk => (Nat.le_trans (below_size (xb HB.out)) hk)))
       (case aO => exact (by (with_reducible repeat (first | apply Kd.R_alloc | apply Kd.R_drewN | apply Kd.R_drew)); exact Kd.R_mono HO822.out (fun _ hk => hk.1)))
       (case aS => exact (below_size (xb HB.out)))
       (case aL => have := LMc17.out; omega)
       intro v824 w24 ho hb hg hat
       have HS0_ := cell_grown hg (hHeld) (by first | (rw [add_block]; exact (fun e_ => by obtain ⟨cs_, hc_⟩ := Kd.N_typed HO_6.out _ rfl; exact Kd.R_ne HO822.out hc_ (by decide) e_)) | (show some (Addr.add _ _).block ≠ _; rw [add_block]; exact (fun e_ => by obtain ⟨cs_, hc_⟩ := Kd.N_typed HO_6.out _ rfl; exact Kd.R_ne HO822.out hc_ (by decide) e_)) | exact (fun e_ => by obtain ⟨cs_, hc_⟩ := Kd.N_typed HO_6.out _ rfl; exact Kd.R_ne HO822.out hc_ (by decide) e_))
       rw [← Ny823.out] at ho
       have n0_ := ax (Kd.N_afterv (ok := (fun k_ => (w.heap.size ≤ k_) ∧ some k_ ≠ (.slice (some ad826) t817.length co20 : Value).ownBlock)) (xN HO_5.out) hg hat)
       have n1_ := ax (Kd.N_afterv (ok := (fun k_ => (w.heap.size ≤ k_) ∧ some k_ ≠ (u5 : Value).ownBlock)) (xN HO_6.out) hg hat)
       have n2_ := ax (Kd.V_afterv (ok := (fun k_ => (w.heap.size ≤ k_) ∧ some k_ ≠ (u5 : Value).ownBlock ∧ some k_ ≠ (.slice (some ad826) t817.length co20 : Value).ownBlock)) (by (with_reducible repeat (first | apply Kd.V_alloc | apply Kd.V_drewN | apply Kd.V_drew)); exact Kd.V_mono HL826_0.out (by first | exact (fun _ hk => ⟨⟨hk.1.1.1, ⟨hk.1.1.2, hk.1.2⟩⟩, hk.2⟩) | exact xi)) hg hat)
       have n3_ := ax (hb)
       have n4_ := ax (ho)
       clear HO_5 HO_6 HL826_0 HB HO822
       have HO_5 := n0_
       have HO_6 := n1_
       have HL826_0 := n2_
       have HB := n3_
       have HO825 := n4_
       clear n0_ n1_ n2_ n3_ n4_ ho hb hg hat
       obtain ⟨Ao25, co25, eo25⟩ := Kd.R_slice HO825.out
       (first | subst eo25 | (injection eo25 with f1_ f2_ f3_; have f4_ := f1_.symm; have f5_ := f3_.symm; clear f1_ f2_ f3_; subst f4_; subst f5_))
       refine hK.out _ _ (HS0_) (fun hHeld => ?_)
       clear hK K
       refine nm ?_
       refine pu (i := 8) (N := some 40) (xB 12 511) HT_.out ?_
       refine last_ (i := 9) (N := some 41) (xB 12 1023) rfl rfl (one_of HT_.out (by kernel_rfl)) (by decide) (fun K hK => ?_)
       refine value_ (w1 := ?_) (v := ?_) (by rfl) rfl ?_ ?_
       rotate_left 2
       ·go_simp
        constructor
        ·rfl
        ·rfl
       refine hK.out _ _ ?_
       clear hK K
       refine nm ?_
       refine one_ (i := 10) (N := some 42) (xB 12 2047) rfl rfl (one_of HT_.out (by kernel_rfl)) (by decide) (fun K hK => ?_)
       refine Kd.N_append_step k61 (w0 := w) w.heap.size (by rfl) (.tmp 32) (.tmp 41) 58 61 (.agg #[(.slice none 0 0), (.slice none 0 0)]) 48 rfl Tryz.underlying58 info61 rfl (by decide) (by omega) u5 x5_2 (⟨y823, rd_L2 t817 x7_2⟩ : S61) [.slice Ao25 y823.length co25, .slice A826_0 (rd_L2 t817 x7_2).length c826_0] (fun k_ => (w.heap.size ≤ k_) ∧ some k_ ≠ (.slice (some ad826) t817.length co20 : Value).ownBlock) (fun k_ => ((fun k_ => (w.heap.size ≤ k_) ∧ some k_ ≠ (.slice (some ad826) t817.length co20 : Value).ownBlock)) k_ ∧ some k_ ≠ (u5 : Value).ownBlock) rfl rfl ?aP (fun _ hk => hk) ?aF ?aO ?aB ?aS ?aL ?_
       (case aP => exact (k61_mkF _ _ (⟨y823, rd_L2 t817 x7_2⟩ : S61) (Kd.R_reads' (Kd.R_mono (ok' := (fun k_ => ((fun k_ => (w.heap.size ≤ k_) ∧ some k_ ≠ (.slice (some ad826) t817.length co20 : Value).ownBlock)) k_ ∧ some k_ ≠ (u5 : Value).ownBlock)) (Kd.R_apart' (Kd.R_apart' (HO825.out) (Kd.N_typed HO_6.out) (by decide)) (Kd.N_typed HO_5.out) (by decide)) (fun k_ hk => ⟨⟨hk.1.1, hk.1.2⟩, hk.2⟩))).2.1 (Kd.R_F (Kd.R_mono (ok' := (fun k_ => ((fun k_ => (w.heap.size ≤ k_) ∧ some k_ ≠ (.slice (some ad826) t817.length co20 : Value).ownBlock)) k_ ∧ some k_ ≠ (u5 : Value).ownBlock)) (Kd.R_apart' (Kd.R_apart' (HO825.out) (Kd.N_typed HO_6.out) (by decide)) (Kd.N_typed HO_5.out) (by decide)) (fun k_ hk => ⟨⟨hk.1.1, hk.1.2⟩, hk.2⟩))) (Kd.V_reads' (Kd.V_mono (ok' := (fun k_ => ((fun k_ => (w.heap.size ≤ k_) ∧ some k_ ≠ (.slice (some ad826) t817.length co20 : Value).ownBlock)) k_ ∧ some k_ ≠ (u5 : Value).ownBlock)) (HL826_0.out) (fun k_ hk => ⟨⟨hk.1.1, hk.1.2.2⟩, hk.1.2.1⟩))).2.1 (Kd.V_F (Kd.V_mono (ok' := (fun k_ => ((fun k_ => (w.heap.size ≤ k_) ∧ some k_ ≠ (.slice (some ad826) t817.length co20 : Value).ownBlock)) k_ ∧ some k_ ≠ (u5 : Value).ownBlock)) (HL826_0.out) (fun k_ hk => ⟨⟨hk.1.1, hk.1.2.2⟩, hk.1.2.1⟩)))))
       (case aB => exact (xb HB.out))
       (case aF => exact (fun k_ hk => ⟨(Nat.le_trans (below_size (xb HB.out)) hk), Kd.fresh' (Kd.N_lt (xN HO_6.out)) k_ hk⟩))
       (case aO => exact (by (with_reducible repeat (first | apply Kd.N_alloc | apply Kd.N_drewN | apply Kd.N_drew)); exact Kd.N_mono HO_5.out (by first | exact (fun _ hk => ⟨hk.1.1, hk.1.2⟩) | exact xi)))
       (case aS => exact (below_size (xb HB.out)))
       (case aL => have := LMc19.out; omega)
       intro v828 w26 ho hb hg hat
       have HS0_ := cell_grown hg (hHeld) (by first | (rw [add_block]; exact (fun e_ => by obtain ⟨cs_, hc_⟩ := Kd.N_typed HO_6.out _ rfl; exact Kd.N_ne HO_5.out hc_ (by decide) e_)) | (show some (Addr.add _ _).block ≠ _; rw [add_block]; exact (fun e_ => by obtain ⟨cs_, hc_⟩ := Kd.N_typed HO_6.out _ rfl; exact Kd.N_ne HO_5.out hc_ (by decide) e_)) | exact (fun e_ => by obtain ⟨cs_, hc_⟩ := Kd.N_typed HO_6.out _ rfl; exact Kd.N_ne HO_5.out hc_ (by decide) e_))
       rw [← Ny827.out] at ho
       have n0_ := ax (Kd.N_afterv (ok := (fun k_ => (w.heap.size ≤ k_) ∧ some k_ ≠ (.slice Ao25 y823.length co25 : Value).ownBlock)) (by (with_reducible repeat (first | apply Kd.N_alloc | apply Kd.N_drewN | apply Kd.N_drew)); exact Kd.N_mono HO_6.out (by first | exact (fun _ hk => ⟨⟨hk.1.1, hk.2⟩, hk.1.2⟩) | exact xi)) hg hat)
       have n1_ := ax (Kd.V_afterv (ok := (fun k_ => (w.heap.size ≤ k_) ∧ some k_ ≠ (.slice (some ad826) t817.length co20 : Value).ownBlock ∧ some k_ ≠ (.slice Ao25 y823.length co25 : Value).ownBlock)) (by (with_reducible repeat (first | apply Kd.V_alloc | apply Kd.V_drewN | apply Kd.V_drew)); exact Kd.V_mono HL826_0.out (by first | exact (fun _ hk => ⟨⟨hk.1.1, ⟨hk.1.2.2, hk.2⟩⟩, hk.1.2.1⟩) | exact xi)) hg hat)
       have n2_ := ax (hb)
       have n3_ := ax (ho)
       clear HO_6 HL826_0 HB HO_5 HO825
       have HO_6 := n0_
       have HL826_0 := n1_
       have HB := n2_
       have HO829 := n3_
       clear n0_ n1_ n2_ n3_ ho hb hg hat
       refine hK.out _ _ (HS0_) (fun hHeld => ?_)
       clear hK K
       refine nm ?_
       refine pu (i := 11) (N := some 5) (xB 12 4095) HT_.out ?_
       refine done_ (done_of HT_.out (by kernel_rfl)) ?_
       try go_wp2
       go_roundg k2
       case measure => have := HJ2.out; have := HK2.out; omega
       case rel => exact ⟨(y827), (wrap64 (x7_2 + 1)), xr, H', ⟨by have := HJ2.out; have := HK2.out; omega⟩, ⟨xN HO829.out⟩, ⟨by (with_reducible repeat (first | apply Kd.N_alloc | apply Kd.N_drewN | apply Kd.N_drew)); exact Kd.N_mono HO_6.out (fun _ hk => ⟨hk.1.1, hk.2⟩)⟩, ⟨xb HB.out⟩⟩
      ·rw [if_neg c16] at H
       have c16b0 := decide_eq_false c16
       clear c16
       obtain rfl := Option.some.inj H
       obtain ⟨Ao27, co27, eo27⟩ := Kd.N_slice HO_6.out
       subst eo27
       go_wp2
       go_ret
       exact ⟨_, xe, by (with_reducible repeat (first | apply Kd.N_alloc | apply Kd.N_drewN | apply Kd.N_drew)); exact Kd.N_mono HO_5.out (fun _ hk => hk.1), xb HB.out⟩

/-! ### spec_RibbonHeight: function 62 -/
def spec_RibbonHeight.f (k : Nat) (l0_0 : List Int) (l0_1 : List Int) : Option (Int) := (spec_IsRibbon.f k l0_0 l0_1).bind fun t831 => (if t831 = true then ((spec_l4Rows.f k l0_0 l0_1).bind fun bt832 => (some (wrap64 (bt832.2 - bt832.1)))) else (some (-1)))
theorem spec_RibbonHeight.mono : ∀ a0 a1 k, LeO (spec_RibbonHeight.f k a0 a1) (spec_RibbonHeight.f (k + 1) a0 a1) := by
 intro a0 a1 k
 unfold spec_RibbonHeight.f
 repeat' with_reducible first | exact spec_IsRibbon.mono _ _ _ | exact spec_l4Rows.mono _ _ _ | exact xl | refine LeO.ite ?_ ?_ | refine LeO.bind ?_ fun _ => ?_
theorem spec_RibbonHeight.calls (k : Nat) (A0_0 : Option Addr) (c0_0 : Nat) (l0_0 : List Int) (A0_1 : Option Addr) (c0_1 : Nat) (l0_1 : List Int) (r : Int) (w : World) (hr0_0 : Kd.C (Kd.int .i64) w A0_0 l0_0.length l0_0) (hc0_0 : l0_0.length ≤ c0_0) (hr0_1 : Kd.C (Kd.int .i64) w A0_1 l0_1.length l0_1) (hc0_1 : l0_1.length ≤ c0_1) (h : spec_RibbonHeight.f k l0_0 l0_1 = some r) :
  Calls Tryz.prog 62 #[.agg #[.slice A0_0 l0_0.length c0_0, .slice A0_1 l0_1.length c0_1]] w fun e w' => e = .returned (.int .i64 r) ∧ Below w.heap.size w w' := by
 have hu61 := Tryz.underlying61
 have HR0_0 := ax hr0_0
 have HC0_0 := ax hc0_0
 clear hr0_0 hc0_0
 have HR0_1 := ax hr0_1
 have HC0_1 := ax hc0_1
 clear hr0_1 hc0_1
 have HB := ax (Below.refl w.heap.size w)
 have H : ((spec_IsRibbon.f k l0_0 l0_1).bind fun t831 => (if t831 = true then ((spec_l4Rows.f k l0_0 l0_1).bind fun bt832 => (some (wrap64 (bt832.2 - bt832.1)))) else (some (-1)))) = some r := h
 clear h
 obtain ⟨t831, A2, H⟩ := xI H
 by_cases c3 : t831 = true
 ·subst c3
  rw [if_pos rfl] at H
  obtain ⟨⟨t832, t833⟩, A4, H⟩ := xI H
  dsimp only at H
  obtain rfl := Option.some.inj H
  go_enter Tryz.func62, Tryz.ntmps62
  go_wp2_with (first | ((with_reducible refine gate_dst (N := 1) rfl ?_); refine box_event ?hg (N := 1) ?hd (cs := #[.slice A0_0 l0_0.length c0_0, .slice A0_1 l0_1.length c0_1]) (t := 61) ?hr ?_; (case hd => rfl); (case hg => rfl); (case hr => first | (go_simp; done) | (go_simp; rfl)); intro gb830 hg w5 hbox hb; have BK830 := ax (hbox); have GW830 := ax ((by rw [hg]; exact (below_size (xb HB.out)) : w.heap.size ≤ gb830)); have GE830 := ax ((by rw [hg]; exact (below_size (xb HB.out)) : w.heap.size ≤ gb830)); replace HB := yB HB hb; clear hb hbox hg; have hcz6_0 : w5.cell? ⟨gb830, 0, none⟩ = some (.slice A0_0 l0_0.length c0_0) := (blk_cell BK830.out 0).trans rfl; have hcz6_1 : w5.cell? ⟨gb830, 1, none⟩ = some (.slice A0_1 l0_1.length c0_1) := (blk_cell BK830.out 1).trans rfl; have hfz6_0 := blk_frozen BK830.out 0; have hfz6_1 := blk_frozen BK830.out 1) | ((with_reducible refine gate_callee (f := 85) rfl ?_); refine goesL_ (some 6) rfl rfl Tryz.func85 (by kernel_rfl) rfl #[.agg #[.slice A0_0 l0_0.length c0_0, .slice A0_1 l0_1.length c0_1]] rfl xm ?_; (with_reducible refine (spec_IsRibbon.calls k _ _ l0_0 _ _ l0_1 true _ ?side1 ?side2 ?side3 ?side4 A2.out).mono ?_); (case side1 => exact xz HR0_0.out HB.out); (case side2 => exact HC0_0.out); (case side3 => exact xz HR0_1.out HB.out); (case side4 => exact HC0_1.out); rintro e w7 ⟨rfl, hb⟩; refine ⟨_, rfl, ?_⟩; replace BK830 := ax (blk_below (g := gb830) (o := .cells #[.slice A0_0 l0_0.length c0_0, .slice A0_1 l0_1.length c0_1] 61 (0, 0)) (xk BK830.out) hb); replace HB := ax (below_step (xs HB.out GE830.out) hb); (try clear hb); have hcz8_0 : w7.cell? ⟨gb830, 0, none⟩ = some (.slice A0_0 l0_0.length c0_0) := (blk_cell BK830.out 0).trans rfl; have hcz8_1 : w7.cell? ⟨gb830, 1, none⟩ = some (.slice A0_1 l0_1.length c0_1) := (blk_cell BK830.out 1).trans rfl; have hfz8_0 := blk_frozen BK830.out 0; have hfz8_1 := blk_frozen BK830.out 1) | ((with_reducible refine gate_callee (f := 86) rfl ?_); refine goesL_ (some 10) rfl rfl Tryz.func86 (by kernel_rfl) rfl #[.agg #[.slice A0_0 l0_0.length c0_0, .slice A0_1 l0_1.length c0_1]] rfl xm ?_; (with_reducible refine (spec_l4Rows.calls k _ _ l0_0 _ _ l0_1 t832 t833 _ ?side1 ?side2 ?side3 ?side4 A4.out).mono ?_); (case side1 => exact xz HR0_0.out HB.out); (case side2 => exact HC0_0.out); (case side3 => exact xz HR0_1.out HB.out); (case side4 => exact HC0_1.out); rintro e w9 ⟨rfl, hb⟩; refine ⟨_, rfl, ?_⟩; replace BK830 := ax (blk_below (g := gb830) (o := .cells #[.slice A0_0 l0_0.length c0_0, .slice A0_1 l0_1.length c0_1] 61 (0, 0)) (xk BK830.out) hb); replace HB := ax (below_step (xs HB.out GE830.out) hb); (try clear hb)))
  go_ret
  exact ⟨xe, xs HB.out GE830.out⟩
 ·replace c3 := Bool.eq_false_iff.mpr c3
  subst c3
  rw [if_neg (show ¬ (false = true) by decide)] at H
  obtain rfl := Option.some.inj H
  go_enter Tryz.func62, Tryz.ntmps62
  go_wp2_with (first | ((with_reducible refine gate_dst (N := 1) rfl ?_); refine box_event ?hg (N := 1) ?hd (cs := #[.slice A0_0 l0_0.length c0_0, .slice A0_1 l0_1.length c0_1]) (t := 61) ?hr ?_; (case hd => rfl); (case hg => rfl); (case hr => first | (go_simp; done) | (go_simp; rfl)); intro gb830 hg w10 hbox hb; have BK830 := ax (hbox); have GW830 := ax ((by rw [hg]; exact (below_size (xb HB.out)) : w.heap.size ≤ gb830)); have GE830 := ax ((by rw [hg]; exact (below_size (xb HB.out)) : w.heap.size ≤ gb830)); replace HB := yB HB hb; clear hb hbox hg; have hcz11_0 : w10.cell? ⟨gb830, 0, none⟩ = some (.slice A0_0 l0_0.length c0_0) := (blk_cell BK830.out 0).trans rfl; have hcz11_1 : w10.cell? ⟨gb830, 1, none⟩ = some (.slice A0_1 l0_1.length c0_1) := (blk_cell BK830.out 1).trans rfl; have hfz11_0 := blk_frozen BK830.out 0; have hfz11_1 := blk_frozen BK830.out 1) | ((with_reducible refine gate_callee (f := 85) rfl ?_); refine goesL_ (some 6) rfl rfl Tryz.func85 (by kernel_rfl) rfl #[.agg #[.slice A0_0 l0_0.length c0_0, .slice A0_1 l0_1.length c0_1]] rfl xm ?_; (with_reducible refine (spec_IsRibbon.calls k _ _ l0_0 _ _ l0_1 false _ ?side1 ?side2 ?side3 ?side4 A2.out).mono ?_); (case side1 => exact xz HR0_0.out HB.out); (case side2 => exact HC0_0.out); (case side3 => exact xz HR0_1.out HB.out); (case side4 => exact HC0_1.out); rintro e w12 ⟨rfl, hb⟩; refine ⟨_, rfl, ?_⟩; replace BK830 := ax (blk_below (g := gb830) (o := .cells #[.slice A0_0 l0_0.length c0_0, .slice A0_1 l0_1.length c0_1] 61 (0, 0)) (xk BK830.out) hb); replace HB := ax (below_step (xs HB.out GE830.out) hb); (try clear hb)))
  go_ret
  exact ⟨xe, xs HB.out GE830.out⟩

end Go.Proofs.YtopmggldaicpaacGreat.PFnKronecker
