import Derived.Test.YtopmggldaicpaaaPFnCoresx14
namespace Go.Proofs.Ytopmggldaicpaaa.PFnCores
open Go.RowKit Go.Proofs.YtopmggldaicpaaaW.PrintWords Go.Proofs.YtopmggldaicpaaaW.PrintLast Go.Proofs.YtopmggldaicpaaaW.PrintMore
set_option linter.unusedVariables false
set_option linter.unusedSimpArgs false
set_option maxHeartbeats 8000000
set_option maxRecDepth 100000
/-! ### spec_RibbonsInside: function 23 -/
mutual
def spec_RibbonsInside.j0 : Nat → List Int → Int → List (S41) → Bool → Option ((List (S41)))
 | 0, _, _, _, _ => none
 | k + 1, x0, x1, x5, x18 => if x18 = true then (some x5) else ((spec_l2Size.f k x0).bind fun t541 => ((spec_l19Pick__2.f k x0 (wrap64 (t541 - x1))).bind fun t542 => (spec_RibbonsInside.l0 k x0 x5 t542 0)))
def spec_RibbonsInside.l0 : Nat → List Int → List (S41) → List (List Int) → Int → Option ((List (S41)))
 | 0, _, _, _, _ => none
 | k + 1, x0, x5, x6, x7 => if x7 < (x6.length : Int) then ((some (([] : List Int) : List Int)).bind fun y545 => (if y545.length + x0.length < 17592186044416 then (if 0 ≤ x7 then (if x5.length < 2932031007402 then (spec_RibbonsInside.l0 k x0 (x5 ++ [(⟨(y545 ++ x0), rd_L2 x6 x7⟩ : S41)]) x6 (wrap64 (x7 + 1))) else (none)) else (none)) else (none))) else (some x5)
end
def spec_RibbonsInside.f (k : Nat) (l0 : List Int) (a1 : Int) : Option ((List (S41))) := (some (([] : List (S41)) : List (S41))).bind fun y535 => ((spec_IsPartition.f k l0).bind fun t538 => (if t538 = true then ((spec_l2Size.f k l0).bind fun t539 => ((spec_l1In.f a1 1 t539).bind fun t540 => (spec_RibbonsInside.j0 k l0 a1 y535 (!t540)))) else (spec_RibbonsInside.j0 k l0 a1 y535 true)))
theorem spec_RibbonsInside.mono_l : ∀ k, (∀ y0 y1 y2 y3, LeO (spec_RibbonsInside.j0 k y0 y1 y2 y3) (spec_RibbonsInside.j0 (k + 1) y0 y1 y2 y3)) ∧ (∀ y0 y1 y2 y3, LeO (spec_RibbonsInside.l0 k y0 y1 y2 y3) (spec_RibbonsInside.l0 (k + 1) y0 y1 y2 y3))
 | 0 => ⟨fun _ _ _ _ r h => by simp [spec_RibbonsInside.j0] at h, fun _ _ _ _ r h => by simp [spec_RibbonsInside.l0] at h⟩
 | k + 1 => by
  obtain ⟨ih0, ih1⟩ := spec_RibbonsInside.mono_l k
  refine ⟨?_, ?_⟩
  ·intro y0 y1 y2 y3
   unfold spec_RibbonsInside.j0
   repeat' with_reducible first | exact ih0 _ _ _ _ | exact ih1 _ _ _ _ | exact spec_IsPartition.mono _ _ | exact spec_l19Pick__2.mono _ _ _ | exact spec_l2Size.mono _ _ | exact xl | refine LeO.ite ?_ ?_ | refine LeO.bind ?_ fun _ => ?_
  ·intro y0 y1 y2 y3
   unfold spec_RibbonsInside.l0
   repeat' with_reducible first | exact ih0 _ _ _ _ | exact ih1 _ _ _ _ | exact spec_IsPartition.mono _ _ | exact spec_l19Pick__2.mono _ _ _ | exact spec_l2Size.mono _ _ | exact xl | refine LeO.ite ?_ ?_ | refine LeO.bind ?_ fun _ => ?_
theorem spec_RibbonsInside.mono : ∀ a0 a1 k, LeO (spec_RibbonsInside.f k a0 a1) (spec_RibbonsInside.f (k + 1) a0 a1) := by
 intro a0 a1 k
 obtain ⟨ih0, ih1⟩ := spec_RibbonsInside.mono_l k
 unfold spec_RibbonsInside.f
 repeat' with_reducible first | exact ih0 _ _ _ _ | exact ih1 _ _ _ _ | exact spec_IsPartition.mono _ _ | exact spec_l19Pick__2.mono _ _ _ | exact spec_l2Size.mono _ _ | exact xl | refine LeO.ite ?_ ?_ | refine LeO.bind ?_ fun _ => ?_
def spec_RibbonsInside.T8 : Bool × List (List Nat × List Nat) := (true, [([], []), ([], []), ([], []), ([1, 2], [1, 2]), ([], []), ([], []), ([4, 5], [4, 5]), ([6], [6]), ([3, 7], [3, 7]), ([8], [8]), ([0, 9, 3], [0, 9]), ([10, 10, 0, 1, 2, 3, 4, 5, 6, 7, 8, 9, 10], [0, 10])])
def spec_RibbonsInside.B8 : List Nat := [0, 0, 0, 6, 0, 0, 48, 112, 254, 510, 1023, 2047]
theorem spec_RibbonsInside.tab8 : rtab .any (opsOf Try.f23 8) = spec_RibbonsInside.T8 := by kernel_rfl
theorem spec_RibbonsInside.bits8 : waitsOk spec_RibbonsInside.T8.2 spec_RibbonsInside.B8 = true := by kernel_rfl
theorem spec_RibbonsInside.calls (k : Nat) (A0 : Option Addr) (c0 : Nat) (l0 : List Int) (a1 : Int) (r : List (S41)) (w : World) (hr0 : Kd.C (Kd.int .i64) w A0 l0.length l0) (hc0 : l0.length ≤ c0) (h : spec_RibbonsInside.f k l0 a1 = some r) :
  Calls Try.prog 23 #[.slice A0 l0.length c0, .int .i64 a1] w fun e w' => ∃ v0_ : Value, e = .returned (v0_) ∧ Kd.N k41 41 w' w.heap.size (fun k_ => (w.heap.size ≤ k_)) v0_ r ∧ Below w.heap.size w w' := by
 have hu41 := Try.underlying41
 have HR0 := ax hr0
 have HC0 := ax hc0
 clear hr0 hc0
 have HB := ax (Below.refl w.heap.size w)
 have H : ((some (([] : List (S41)) : List (S41))).bind fun y535 => ((spec_IsPartition.f k l0).bind fun t538 => (if t538 = true then ((spec_l2Size.f k l0).bind fun t539 => ((spec_l1In.f a1 1 t539).bind fun t540 => (spec_RibbonsInside.j0 k l0 a1 y535 (!t540)))) else (spec_RibbonsInside.j0 k l0 a1 y535 true)))) = some r := h
 clear h
 obtain ⟨y535, Ny535, H⟩ := xg H
 have HC3 := ax H
 clear H
 go_enter Try.func23, Try.ntmps23
 go_upto_region 2 with (first | ((with_reducible refine gate_dst (N := 8) rfl ?_); refine Kd.N_lit k41 _ 41 ?hg (N' := 8) ?hd (xs := ([] : List (S41))) (inner := []) (ok := (fun k_ => (w.heap.size ≤ k_))) (okp := (fun k_ => (w.heap.size ≤ k_))) ?hr ?hp (fun _ hk => hk) ((show ∀ k_, w.heap.size ≤ k_ → (fun k_ => (w.heap.size ≤ k_)) k_ from fun k_ hk => (Nat.le_trans (below_size (xb HB.out)) hk)) _ (Nat.le_refl _)) (Below.refl _ _) (Nat.le_refl _) (by simp) ?_; (case hd => rfl); (case hg => rfl); (case hr => first | (go_simp; done) | (go_simp; rfl)); (case hp => exact (Reps.none _ _)); intro v536 w4 ho5 hb hg_ hnew_; clear hg_ hnew_; (first | rw [← Ny535.out] at ho5 | (simp only [Int.reduceToNat] at ho5; rw [← Ny535.out] at ho5)); have HO537 := ax (Kd.N_lower ho5 (below_size (xb HB.out))); replace HB := yB HB hb; clear hb ho5))
 (try simp only [Act.put, List.setIfInBounds_toArray, List.set_cons_zero, List.set_cons_succ])
 go_cut [18] (fun v18 wc => ∃ (kq : Nat) (x18_2 : Bool), v18 = .bool x18_2 ∧ Aside0 (spec_RibbonsInside.j0 kq l0 a1 y535 x18_2 = some r) ∧ Aside0 (kq ≤ k) ∧ Aside0 (Kd.N k41 41 wc w.heap.size (fun k_ => (w.heap.size ≤ k_)) v536 y535) ∧ Aside0 (Below w.heap.size w wc))
 case first =>
  have H := HC3.out
  clear HC3
  obtain ⟨t538, A6, H⟩ := xI H
  by_cases c7 : t538 = true
  ·subst c7
   rw [if_pos rfl] at H
   obtain ⟨t539, A8, H⟩ := xI H
   obtain ⟨t540, A9, H⟩ := xI H
   have H' := ax H
   clear H
   go_wp2_with (first | ((with_reducible refine gate_callee (f := 41) rfl ?_); refine goesL_ (some 10) rfl rfl Try.func41 (by kernel_rfl) rfl #[.slice A0 l0.length c0] rfl xm ?_; (with_reducible refine (spec_IsPartition.calls k _ _ l0 true _ ?side1 ?side2 A6.out).mono ?_); (case side1 => exact xz HR0.out HB.out); (case side2 => exact HC0.out); rintro e w10 ⟨rfl, hb⟩; refine ⟨_, rfl, ?_⟩; replace HO537 := ax (Kd.N_below (xN HO537.out) hb); replace HB := yB HB hb; (try clear hb)) | (go_at_call 43; (with_reducible refine (spec_l2Size.calls k _ _ l0 t539 _ ?side1 ?side2 A8.out).mono ?_); (case side1 => exact xz HR0.out HB.out); (case side2 => exact HC0.out); rintro e w' ⟨rfl, ⟨nd, rfl⟩⟩) | (go_at_call 37; (with_reducible refine (spec_l1In.calls a1 1 t539 t540 _ A9.out).mono ?_); rintro e w' ⟨rfl, ⟨nd, rfl⟩⟩))
   go_meet
   case rel => exact ⟨_, (!t540), xr, H', ⟨by first | omega | exact Nat.le_refl _⟩, ⟨xN HO537.out⟩, ⟨xb HB.out⟩⟩
  ·replace c7 := Bool.eq_false_iff.mpr c7
   subst c7
   rw [if_neg (show ¬ (false = true) by decide)] at H
   have H' := ax H
   clear H
   go_wp2_with (first | ((with_reducible refine gate_callee (f := 41) rfl ?_); refine goesL_ (some 10) rfl rfl Try.func41 (by kernel_rfl) rfl #[.slice A0 l0.length c0] rfl xm ?_; (with_reducible refine (spec_IsPartition.calls k _ _ l0 false _ ?side1 ?side2 A6.out).mono ?_); (case side1 => exact xz HR0.out HB.out); (case side2 => exact HC0.out); rintro e w11 ⟨rfl, hb⟩; refine ⟨_, rfl, ?_⟩; replace HO537 := ax (Kd.N_below (xN HO537.out) hb); replace HB := yB HB hb; (try clear hb)))
   go_meet
   case rel => exact ⟨_, (true), xr, H', ⟨by first | omega | exact Nat.le_refl _⟩, ⟨xN HO537.out⟩, ⟨xb HB.out⟩⟩
 case rest =>
  clear HC3
  (try clear c7)
  obtain ⟨kq, x18_2, rfl, HA, HJ2, HO_5, HB⟩ := hcut
  cases kq with
  | zero => exact absurd HA.out (by simp [spec_RibbonsInside.j0])
  | succ kj2 =>
   have H := HA.out
   clear HA
   simp only [spec_RibbonsInside.j0] at H
   by_cases c12 : x18_2 = true
   ·subst c12
    rw [if_pos rfl] at H
    obtain rfl := Option.some.inj H
    go_wp2
    go_ret
    exact ⟨_, xe, xN HO_5.out, xb HB.out⟩
   ·replace c12 := Bool.eq_false_iff.mpr c12
    subst c12
    rw [if_neg (show ¬ (false = true) by decide)] at H
    obtain ⟨t541, A13, H⟩ := xI H
    obtain ⟨t542, A14, H⟩ := xI H
    have H' := ax H
    clear H
    go_wp2_with (first | ((with_reducible refine gate_callee (f := 43) rfl ?_); refine goesL_ (some 22) rfl rfl Try.func43 (by kernel_rfl) rfl #[.slice A0 l0.length c0] rfl xm ?_; (with_reducible refine (spec_l2Size.calls kj2 _ _ l0 t541 _ ?side1 ?side2 A13.out).mono ?_); (case side1 => exact xz HR0.out HB.out); (case side2 => exact HC0.out); rintro e w' ⟨rfl, ⟨nd, rfl⟩⟩; refine ⟨_, rfl, ?_⟩) | ((with_reducible refine gate_callee (f := 44) rfl ?_); refine goesL_ (some 25) rfl rfl Try.func44 (by kernel_rfl) rfl #[.slice A0 l0.length c0, .int .i64 (wrap64 (t541 - a1)), .int .i64 2] rfl xm ?_; (with_reducible refine (spec_l19Pick__2.calls kj2 _ _ l0 (wrap64 (t541 - a1))  t542 _ ?side1 ?side2 A14.out).mono ?_); (case side1 => exact xc (Kd.C_below HR0.out (xb HB.out))); (case side2 => exact HC0.out); rintro e w15 ⟨v543, rfl, ho0, hb⟩; refine ⟨_, rfl, ?_⟩; have HO544 := ax (Kd.N_lower (Kd.N_mono (ok' := fun k_ => (w.heap.size ≤ k_) ∧ some k_ ≠ (v536 : Value).ownBlock) ho0 (fun k_ hk_ => ⟨(Nat.le_trans (below_size (xb HB.out)) hk_), (Kd.fresh' (Kd.N_lt (xN HO_5.out)) k_ hk_)⟩)) (below_size (xb HB.out))); replace HO_5 := ax (Kd.N_elder' (xN HO_5.out) (by first | exact Kd.N_base ho0 | exact Kd.S_base ho0 | exact Kd.R_base ho0) hb); replace HB := yB HB hb; (try clear hb); (try clear ho0)))
    go_loopg [5, 7] kj2 (fun kq v5 v7 w' => ∃ (x5_2 : List (S41)) (x7_2 : Int), v7 = .int .i64 x7_2 ∧ Aside0 (spec_RibbonsInside.l0 kq l0 x5_2 t542 x7_2 = some r) ∧ Aside0 (kq ≤ kj2) ∧ Aside0 (Kd.N k41 41 w' w.heap.size (fun k_ => (w.heap.size ≤ k_) ∧ some k_ ≠ (v543 : Value).ownBlock) v5 x5_2) ∧ Aside0 (Kd.N (Kd.slice 3 (Kd.int .i64)) 24 w' w.heap.size (fun k_ => (w.heap.size ≤ k_) ∧ some k_ ≠ (v5 : Value).ownBlock) v543 t542) ∧ Aside0 (Below w.heap.size w w'))
    case atStart => exact ⟨(y535), (0), xr, H', ⟨Nat.le_refl _⟩, ⟨xN HO_5.out⟩, ⟨xN HO544.out⟩, ⟨xb HB.out⟩⟩
    case round =>
     clear H'
     (try clear c7); (try clear c12)
     obtain ⟨x5_2, x7_2, rfl, HA, HK2, HO_5, HO_6, HB⟩ := hrel
     cases gk with
     | zero => exact absurd HA.out (by simp [spec_RibbonsInside.l0])
     | succ k2 =>
      have H := HA.out
      clear HA
      simp only [spec_RibbonsInside.l0] at H
      by_cases c16 : x7_2 < (t542.length : Int)
      ·rw [if_pos c16] at H
       have c16b0 := decide_eq_true c16
       clear c16
       obtain ⟨y545, Ny545, H⟩ := xg H
       obtain ⟨c17, H⟩ := xp H
       have LMc17 := ax c17
       clear c17
       obtain ⟨y548, hy548⟩ : ∃ y_ : List Int, y_ = (y545 ++ l0) := ⟨_, rfl⟩
       replace H : (if 0 ≤ x7_2 then (if x5_2.length < 2932031007402 then (spec_RibbonsInside.l0 k2 l0 (x5_2 ++ [(⟨y548, rd_L2 t542 x7_2⟩ : S41)]) t542 (wrap64 (x7_2 + 1))) else (none)) else (none)) = some r := xv hy548 H
       have Ny548 := ax hy548
       clear hy548
       obtain ⟨c18b0, H⟩ := xq H
       obtain ⟨c19, H⟩ := xp H
       have LMc19 := ax c19
       clear c19
       obtain ⟨y552, hy552⟩ : ∃ y_ : List (S41), y_ = (x5_2 ++ [(⟨y548, rd_L2 t542 x7_2⟩ : S41)]) := ⟨_, rfl⟩
       replace H : (spec_RibbonsInside.l0 k2 l0 y552 t542 (wrap64 (x7_2 + 1))) = some r := xv hy552 H
       have Ny552 := ax hy552
       clear hy552
       have H' := ax H
       clear H
       obtain ⟨Ao20, co20, eo20⟩ := Kd.N_slice HO_6.out
       subst eo20
       try go_wp2
       replace HO_5 := ax (Kd.N_drew HO_5.out); replace HO_6 := ax (Kd.N_drew HO_6.out); replace HB := ax (below_drew1 HB.out)
       have p551 : 0 ≤ (x7_2 : Int) := xd
       have q551 : x7_2 < (t542.length : Int) := xd
       obtain ⟨ad551, A551_0, c551_0, e551, hx551_0, hl551_0, hi551_0⟩ := at_L2 (Kd.N_reads' HO_6.out).2.2 x7_2 p551 q551
       cases e551
       obtain ⟨ce551, hce551, hMe551, hcc551⟩ := Kd.N_get HO_6.out [] x7_2 p551 (by first | exact q551 | exact xd | (have e_ := (Kd.N_reads' HO_6.out).1; omega))
       obtain ⟨ua551_0, uc551_0, rfl, ul551_0, ge551_0⟩ := Kd.FK_slice_open hMe551
       have hv551_0 := hcc551 0 _ rfl
       rw [Nat.add_zero, show ((Kd.slice 3 (Kd.int .i64))).sz = 1 from rfl, Nat.mul_one] at hv551_0
       replace hv551_0 := Option.some.inj (hv551_0.symm.trans hx551_0)
       injection hv551_0 with hva_ hvn_ hvc_
       rw [hva_] at ge551_0
       rw [hvc_] at ul551_0
       have HL551_0 := ax (show Kd.V (Kd.int .i64) 3 _ w.heap.size _ _ (rd_L2 t542 x7_2) from Kd.V_mk ul551_0 ge551_0)
       clear hva_ hvn_ hvc_ ge551_0 ul551_0 hcc551 hce551
       have HR551_0 := ax hi551_0
       have HC551_0 := ax hl551_0
       clear hi551_0 hl551_0
       replace p551 := eq_true p551
       replace q551 := eq_true q551
       refine start_ (n := 12) (S := fun w' => w'.cell? (ad551.add (x7_2).toNat) = some (.slice A551_0 (rd_L2 t542 x7_2).length c551_0)) (ds := [9]) (xB 12 0) (by kernel_rfl) rfl (by kernel_rfl) (hx551_0) (fun hHeld => ?_); refine with_tabW spec_RibbonsInside.tab8 spec_RibbonsInside.bits8 (fun HT_ HW_ => ?_)
       generalize wr.drew = w21 at HO_5 HO_6 HB HL551_0 HR551_0 hx551_0 hHeld ⊢
       refine pu (i := 0) (N := some 32) (xB 12 1) HT_.out ?_
       refine pu (i := 2) (N := some 34) (xB 12 5) HT_.out ?_
       refine pu (i := 4) (N := some 36) (xB 12 21) HT_.out ?_
       refine pu (i := 5) (N := some 37) (xB 12 53) HT_.out ?_
       refine pu (i := 6) (N := some 38) (xB 12 117) HT_.out ?_
       refine tk (i := 7) (N := some 39) (xB 12 245) HT_.out HW_.out hHeld ?_
       refine one_ (i := 1) (N := some 33) (xB 12 247) rfl rfl (one_of HT_.out (by kernel_rfl)) (by decide) (fun K hK => ?_)
       refine Kd.R_lit_step (Kd.int .i64) _ 3 ?hg (N := 33) ?hd (xs := ([] : List Int)) (inner := []) (ok := fun _ => True) (okp := fun _ => True) ?hr ?hp (fun _ hk => hk) trivial (Below.refl _ _) (Nat.le_refl _) (by simp) ?_; (case hd => rfl); (case hg => rfl); (case hr => first | (go_simp; done) | (go_simp; rfl)); (case hp => exact (Reps.none _ _))
       intro v546 w22 ho23 hb hg_ hnew_
       have HS0_ := (hb.cell (World.block_lt_of_cell? _ _ (hHeld))).trans (hHeld)
       clear hg_ hnew_
       (first | rw [← Ny545.out] at ho23 | (simp only [Int.reduceToNat] at ho23; rw [← Ny545.out] at ho23))
       replace HO_5 := ax (Kd.N_elder' (xN HO_5.out) (Kd.R_base ho23) hb); replace HO_6 := ax (Kd.N_elder' (xN HO_6.out) (Kd.R_base ho23) hb); replace HL551_0 := ax (Kd.V_elder' (xV HL551_0.out) (Kd.R_base ho23) hb); have HO547 := ax (Kd.R_lower (Kd.R_newM (M := fun k_ => (w.heap.size ≤ k_)) ho23 (below_size (xb HB.out)) (fun k_ h_ => h_)) (below_size (xb HB.out))); replace HR551_0 := ax (Kd.C_below (xw HR551_0.out) hb); replace HB := yB HB hb; clear hb ho23
       refine hK.out _ _ (HS0_) (fun hHeld => ?_)
       clear hK K
       refine nm ?_
       refine one_ (i := 3) (N := some 35) (xB 12 255) rfl rfl (one_of HT_.out (by kernel_rfl)) (by decide) (fun K hK => ?_)
       refine Kd.R_append_rows_step (Kd.int .i64) (w0 := w) w.heap.size (by rfl) (.tmp 33) (.tmp 34) 24 3 (.int .i64 0) 8 rfl Try.underlying24 info3 rfl (by decide) (by omega) v546 y545 l0 _ _ _ (fun k_ => (w.heap.size ≤ k_)) (fun _ => False) rfl rfl ?aO ?aR (fun _ _ h => h) (fun _ h => h.elim) ?aF ?aB ?aS ?aL ?_
       (case aR => exact xz HR0.out HB.out)
       (case aB => exact (xb HB.out))
       (case aF => exact (fun k_ hk => (Nat.le_trans (below_size (xb HB.out)) hk)))
       (case aO => exact (by (with_reducible repeat (first | apply Kd.R_alloc | apply Kd.R_drewN | apply Kd.R_drew)); exact Kd.R_mono HO547.out (fun _ hk => hk.1)))
       (case aS => exact (below_size (xb HB.out)))
       (case aL => have := LMc17.out; omega)
       intro v549 w24 ho hb hg hat
       have HS0_ := cell_grown hg (hHeld) (by first | (rw [add_block]; exact (fun e_ => by obtain ⟨cs_, hc_⟩ := Kd.N_typed HO_6.out _ rfl; exact Kd.R_ne HO547.out hc_ (by decide) e_)) | (show some (Addr.add _ _).block ≠ _; rw [add_block]; exact (fun e_ => by obtain ⟨cs_, hc_⟩ := Kd.N_typed HO_6.out _ rfl; exact Kd.R_ne HO547.out hc_ (by decide) e_)) | exact (fun e_ => by obtain ⟨cs_, hc_⟩ := Kd.N_typed HO_6.out _ rfl; exact Kd.R_ne HO547.out hc_ (by decide) e_))
       rw [← Ny548.out] at ho
       have n0_ := ax (Kd.N_afterv (ok := (fun k_ => (w.heap.size ≤ k_) ∧ some k_ ≠ (.slice (some ad551) t542.length co20 : Value).ownBlock)) (xN HO_5.out) hg hat)
       have n1_ := ax (Kd.N_afterv (ok := (fun k_ => (w.heap.size ≤ k_) ∧ some k_ ≠ (u5 : Value).ownBlock)) (xN HO_6.out) hg hat)
       have n2_ := ax (Kd.V_afterv (ok := (fun k_ => (w.heap.size ≤ k_) ∧ some k_ ≠ (u5 : Value).ownBlock ∧ some k_ ≠ (.slice (some ad551) t542.length co20 : Value).ownBlock)) (by (with_reducible repeat (first | apply Kd.V_alloc | apply Kd.V_drewN | apply Kd.V_drew)); exact Kd.V_mono HL551_0.out (by first | exact (fun _ hk => ⟨⟨hk.1.1.1, ⟨hk.1.1.2, hk.1.2⟩⟩, hk.2⟩) | exact xi)) hg hat)
       have n3_ := ax (hb)
       have n4_ := ax (ho)
       clear HO_5 HO_6 HL551_0 HB HO547
       have HO_5 := n0_
       have HO_6 := n1_
       have HL551_0 := n2_
       have HB := n3_
       have HO550 := n4_
       clear n0_ n1_ n2_ n3_ n4_ ho hb hg hat
       obtain ⟨Ao25, co25, eo25⟩ := Kd.R_slice HO550.out
       (first | subst eo25 | (injection eo25 with f1_ f2_ f3_; have f4_ := f1_.symm; have f5_ := f3_.symm; clear f1_ f2_ f3_; subst f4_; subst f5_))
       refine hK.out _ _ (HS0_) (fun hHeld => ?_)
       clear hK K
       refine nm ?_
       refine pu (i := 8) (N := some 40) (xB 12 511) HT_.out ?_
       refine last_ (i := 9) (N := some 41) (xB 12 1023) rfl rfl (one_of HT_.out (by kernel_rfl)) (by decide) (fun K hK => ?_)
       refine value_ (w1 := ?_) (v := ?_) (by rfl) rfl ?_ ?_
       rotate_left 2
       ·go_simp
        constructor
        ·rfl
        ·rfl
       refine hK.out _ _ ?_
       clear hK K
       refine nm ?_
       refine one_ (i := 10) (N := some 42) (xB 12 2047) rfl rfl (one_of HT_.out (by kernel_rfl)) (by decide) (fun K hK => ?_)
       refine Kd.N_append_step k41 (w0 := w) w.heap.size (by rfl) (.tmp 32) (.tmp 41) 38 41 (.agg #[(.slice none 0 0), (.slice none 0 0)]) 48 rfl Try.underlying38 info41 rfl (by decide) (by omega) u5 x5_2 (⟨y548, rd_L2 t542 x7_2⟩ : S41) [.slice Ao25 y548.length co25, .slice A551_0 (rd_L2 t542 x7_2).length c551_0] (fun k_ => (w.heap.size ≤ k_) ∧ some k_ ≠ (.slice (some ad551) t542.length co20 : Value).ownBlock) (fun k_ => ((fun k_ => (w.heap.size ≤ k_) ∧ some k_ ≠ (.slice (some ad551) t542.length co20 : Value).ownBlock)) k_ ∧ some k_ ≠ (u5 : Value).ownBlock) rfl rfl ?aP (fun _ hk => hk) ?aF ?aO ?aB ?aS ?aL ?_
       (case aP => exact (k41_mkF _ _ (⟨y548, rd_L2 t542 x7_2⟩ : S41) (Kd.R_reads' (Kd.R_mono (ok' := (fun k_ => ((fun k_ => (w.heap.size ≤ k_) ∧ some k_ ≠ (.slice (some ad551) t542.length co20 : Value).ownBlock)) k_ ∧ some k_ ≠ (u5 : Value).ownBlock)) (Kd.R_apart' (Kd.R_apart' (HO550.out) (Kd.N_typed HO_6.out) (by decide)) (Kd.N_typed HO_5.out) (by decide)) (fun k_ hk => ⟨⟨hk.1.1, hk.1.2⟩, hk.2⟩))).2.1 (Kd.R_F (Kd.R_mono (ok' := (fun k_ => ((fun k_ => (w.heap.size ≤ k_) ∧ some k_ ≠ (.slice (some ad551) t542.length co20 : Value).ownBlock)) k_ ∧ some k_ ≠ (u5 : Value).ownBlock)) (Kd.R_apart' (Kd.R_apart' (HO550.out) (Kd.N_typed HO_6.out) (by decide)) (Kd.N_typed HO_5.out) (by decide)) (fun k_ hk => ⟨⟨hk.1.1, hk.1.2⟩, hk.2⟩))) (Kd.V_reads' (Kd.V_mono (ok' := (fun k_ => ((fun k_ => (w.heap.size ≤ k_) ∧ some k_ ≠ (.slice (some ad551) t542.length co20 : Value).ownBlock)) k_ ∧ some k_ ≠ (u5 : Value).ownBlock)) (HL551_0.out) (fun k_ hk => ⟨⟨hk.1.1, hk.1.2.2⟩, hk.1.2.1⟩))).2.1 (Kd.V_F (Kd.V_mono (ok' := (fun k_ => ((fun k_ => (w.heap.size ≤ k_) ∧ some k_ ≠ (.slice (some ad551) t542.length co20 : Value).ownBlock)) k_ ∧ some k_ ≠ (u5 : Value).ownBlock)) (HL551_0.out) (fun k_ hk => ⟨⟨hk.1.1, hk.1.2.2⟩, hk.1.2.1⟩)))))
       (case aB => exact (xb HB.out))
       (case aF => exact (fun k_ hk => ⟨(Nat.le_trans (below_size (xb HB.out)) hk), Kd.fresh' (Kd.N_lt (xN HO_6.out)) k_ hk⟩))
       (case aO => exact (by (with_reducible repeat (first | apply Kd.N_alloc | apply Kd.N_drewN | apply Kd.N_drew)); exact Kd.N_mono HO_5.out (by first | exact (fun _ hk => ⟨hk.1.1, hk.1.2⟩) | exact xi)))
       (case aS => exact (below_size (xb HB.out)))
       (case aL => have := LMc19.out; omega)
       intro v553 w26 ho hb hg hat
       have HS0_ := cell_grown hg (hHeld) (by first | (rw [add_block]; exact (fun e_ => by obtain ⟨cs_, hc_⟩ := Kd.N_typed HO_6.out _ rfl; exact Kd.N_ne HO_5.out hc_ (by decide) e_)) | (show some (Addr.add _ _).block ≠ _; rw [add_block]; exact (fun e_ => by obtain ⟨cs_, hc_⟩ := Kd.N_typed HO_6.out _ rfl; exact Kd.N_ne HO_5.out hc_ (by decide) e_)) | exact (fun e_ => by obtain ⟨cs_, hc_⟩ := Kd.N_typed HO_6.out _ rfl; exact Kd.N_ne HO_5.out hc_ (by decide) e_))
       rw [← Ny552.out] at ho
       have n0_ := ax (Kd.N_afterv (ok := (fun k_ => (w.heap.size ≤ k_) ∧ some k_ ≠ (.slice Ao25 y548.length co25 : Value).ownBlock)) (by (with_reducible repeat (first | apply Kd.N_alloc | apply Kd.N_drewN | apply Kd.N_drew)); exact Kd.N_mono HO_6.out (by first | exact (fun _ hk => ⟨⟨hk.1.1, hk.2⟩, hk.1.2⟩) | exact xi)) hg hat)
       have n1_ := ax (Kd.V_afterv (ok := (fun k_ => (w.heap.size ≤ k_) ∧ some k_ ≠ (.slice (some ad551) t542.length co20 : Value).ownBlock ∧ some k_ ≠ (.slice Ao25 y548.length co25 : Value).ownBlock)) (by (with_reducible repeat (first | apply Kd.V_alloc | apply Kd.V_drewN | apply Kd.V_drew)); exact Kd.V_mono HL551_0.out (by first | exact (fun _ hk => ⟨⟨hk.1.1, ⟨hk.1.2.2, hk.2⟩⟩, hk.1.2.1⟩) | exact xi)) hg hat)
       have n2_ := ax (hb)
       have n3_ := ax (ho)
       clear HO_6 HL551_0 HB HO_5 HO550
       have HO_6 := n0_
       have HL551_0 := n1_
       have HB := n2_
       have HO554 := n3_
       clear n0_ n1_ n2_ n3_ ho hb hg hat
       refine hK.out _ _ (HS0_) (fun hHeld => ?_)
       clear hK K
       refine nm ?_
       refine pu (i := 11) (N := some 5) (xB 12 4095) HT_.out ?_
       refine done_ (done_of HT_.out (by kernel_rfl)) ?_
       try go_wp2
       go_roundg k2
       case measure => have := HJ2.out; have := HK2.out; omega
       case rel => exact ⟨(y552), (wrap64 (x7_2 + 1)), xr, H', ⟨by have := HJ2.out; have := HK2.out; omega⟩, ⟨xN HO554.out⟩, ⟨by (with_reducible repeat (first | apply Kd.N_alloc | apply Kd.N_drewN | apply Kd.N_drew)); exact Kd.N_mono HO_6.out (fun _ hk => ⟨hk.1.1, hk.2⟩)⟩, ⟨xb HB.out⟩⟩
      ·rw [if_neg c16] at H
       have c16b0 := decide_eq_false c16
       clear c16
       obtain rfl := Option.some.inj H
       obtain ⟨Ao27, co27, eo27⟩ := Kd.N_slice HO_6.out
       subst eo27
       go_wp2
       go_ret
       exact ⟨_, xe, by (with_reducible repeat (first | apply Kd.N_alloc | apply Kd.N_drewN | apply Kd.N_drew)); exact Kd.N_mono HO_5.out (fun _ hk => hk.1), xb HB.out⟩

/-! ### spec_l24Core: function 40 -/
def spec_l24Core.l0 : Nat → Int → List Int → Int → Option (List Int × Int)
 | 0, _, _, _ => none
 | k + 1, x1, x6, x7 => (spec_RibbonsInside.f k x6 x1).bind fun t561 => (if (t561.length : Int) = 0 then (some (x6, x7)) else (if 0 < (t561.length : Int) then (spec_l24Core.l0 k x1 ((rd_T41 t561 0).f1) (wrap64 (x7 + 1))) else (none)))
def spec_l24Core.f (k : Nat) (l0 : List Int) (a1 : Int) : Option (List Int × Int) := (some (([] : List Int) : List Int)).bind fun y555 => (if y555.length + l0.length < 17592186044416 then (spec_l24Core.l0 k a1 (y555 ++ l0) 0) else (none))
theorem spec_l24Core.mono_l : ∀ k, (∀ y0 y1 y2, LeO (spec_l24Core.l0 k y0 y1 y2) (spec_l24Core.l0 (k + 1) y0 y1 y2))
 | 0 => fun _ _ _ r h => by simp [spec_l24Core.l0] at h
 | k + 1 => by
  have ih0 := spec_l24Core.mono_l k
  ·intro y0 y1 y2
   unfold spec_l24Core.l0
   repeat' with_reducible first | exact ih0 _ _ _ | exact spec_RibbonsInside.mono _ _ _ | exact xl | refine LeO.ite ?_ ?_ | refine LeO.bind ?_ fun _ => ?_
theorem spec_l24Core.mono : ∀ a0 a1 k, LeO (spec_l24Core.f k a0 a1) (spec_l24Core.f (k + 1) a0 a1) := by
 intro a0 a1 k
 have ih0 := spec_l24Core.mono_l k
 unfold spec_l24Core.f
 repeat' with_reducible first | exact ih0 _ _ _ | exact spec_RibbonsInside.mono _ _ _ | exact xl | refine LeO.ite ?_ ?_ | refine LeO.bind ?_ fun _ => ?_
theorem spec_l24Core.calls (k : Nat) (A0 : Option Addr) (c0 : Nat) (l0 : List Int) (a1 : Int) (r1 : List Int) (r2 : Int) (w : World) (hr0 : Kd.C (Kd.int .i64) w A0 l0.length l0) (hc0 : l0.length ≤ c0) (h : spec_l24Core.f k l0 a1 = some (r1, r2)) :
  Calls Try.prog 40 #[.slice A0 l0.length c0, .int .i64 a1] w fun e w' => ∃ v0_ : Value, e = .returned (.tuple #[v0_, .int .i64 r2]) ∧ Kd.V (Kd.int .i64) 3 w' w.heap.size (fun k_ => (w.heap.size ≤ k_)) v0_ r1 ∧ Below w.heap.size w w' := by
 have HR0 := ax hr0
 have HC0 := ax hc0
 clear hr0 hc0
 have HB := ax (Below.refl w.heap.size w)
 have H : ((some (([] : List Int) : List Int)).bind fun y555 => (if y555.length + l0.length < 17592186044416 then (spec_l24Core.l0 k a1 (y555 ++ l0) 0) else (none))) = some (r1, r2) := h
 clear h
 obtain ⟨y555, Ny555, H⟩ := xg H
 obtain ⟨c3, H⟩ := xp H
 have LMc3 := ax c3
 clear c3
 obtain ⟨y558, hy558⟩ : ∃ y_ : List Int, y_ = (y555 ++ l0) := ⟨_, rfl⟩
 replace H : (spec_l24Core.l0 k a1 y558 0) = some (r1, r2) := xv hy558 H
 have Ny558 := ax hy558
 clear hy558
 have H' := ax H
 clear H
 go_enter Try.func40, Try.ntmps40
 go_wp2_with (first | ((with_reducible refine gate_dst (N := 9) rfl ?_); refine Kd.R_lit (Kd.int .i64) _ 3 ?hg (N := 9) ?hd (xs := ([] : List Int)) (inner := []) (ok := fun _ => True) (okp := fun _ => True) ?hr ?hp (fun _ hk => hk) trivial (Below.refl _ _) (Nat.le_refl _) (by simp) ?_; (case hd => rfl); (case hg => rfl); (case hr => first | (go_simp; done) | (go_simp; rfl)); (case hp => exact (Reps.none _ _)); intro v556 w4 ho5 hb hg_ hnew_; clear hg_ hnew_; (first | rw [← Ny555.out] at ho5 | (simp only [Int.reduceToNat] at ho5; rw [← Ny555.out] at ho5)); have HO557 := ax (Kd.R_lower (Kd.R_newM (M := fun k_ => (w.heap.size ≤ k_)) ho5 (below_size (xb HB.out)) (fun k_ h_ => h_)) (below_size (xb HB.out))); replace HB := yB HB hb; clear hb ho5) | ((with_reducible refine gate_builtin (b := .append) (xs := #[.tmp 9, .tmp 10]) rfl ?_); at_builtin; refine Kd.R_append_rows (Kd.int .i64) (w0 := w) w.heap.size rfl (.tmp 9) (.tmp 10) 24 3 (.int .i64 0) 8 rfl Try.underlying24 info3 rfl (by decide) (by omega) v556 y555 l0 _ _ _ (fun k_ => (w.heap.size ≤ k_)) (fun _ => False) rfl rfl ?aO ?aR (fun _ _ h => h) (fun _ h => h.elim) ?aF ?aB ?aS ?aL ?_; (case aR => exact xz HR0.out HB.out); (case aB => exact (xb HB.out)); (case aF => exact (fun k_ hk => (Nat.le_trans (below_size (xb HB.out)) hk))); (case aO => exact (by (with_reducible repeat (first | apply Kd.R_alloc | apply Kd.R_drewN | apply Kd.R_drew)); exact Kd.R_mono HO557.out (fun _ hk => hk.1))); (case aS => exact (below_size (xb HB.out))); (case aL => have := LMc3.out; omega); intro v559 w6 ho hb hg hat; rw [← Ny558.out] at ho; have n0_ := ax (hb); have n1_ := ax (ho); clear HB; clear HO557; have HB := n0_; have HO560 := n1_; clear n0_ n1_; clear ho hb hg hat))
 go_loopg [6, 7] k (fun kq v6 v7 w' => ∃ (x6_1 : List Int) (x7_1 : Int), v7 = .int .i64 x7_1 ∧ Aside0 (spec_l24Core.l0 kq a1 x6_1 x7_1 = some (r1, r2)) ∧ Aside0 (kq ≤ k) ∧ Aside0 (Kd.V (Kd.int .i64) 3 w' w.heap.size (fun k_ => (w.heap.size ≤ k_)) v6 x6_1) ∧ Aside0 (Below w.heap.size w w'))
 case atStart => exact ⟨(y558), (0), xr, H', ⟨Nat.le_refl _⟩, ⟨Kd.R_V (xR HO560.out)⟩, ⟨xb HB.out⟩⟩
 case round =>
  clear H'
  (try clear c3)
  obtain ⟨x6_1, x7_1, rfl, HA, HK1, HO_6, HB⟩ := hrel
  cases gk with
  | zero => exact absurd HA.out (by simp [spec_l24Core.l0])
  | succ k1 =>
   have H := HA.out
   clear HA
   simp only [spec_l24Core.l0] at H
   obtain ⟨t561, A7, H⟩ := xI H
   by_cases c8 : (t561.length : Int) = 0
   ·rw [if_pos c8] at H
    have c8b0 : ((t561.length : Int) == 0) = true := beq_iff_eq.mpr c8
    have c8b1 : ((t561.length : Int) != 0) = false := bne_eq_false_iff_eq.mpr c8
    clear c8
    simp only [Option.some.injEq, Prod.mk.injEq] at H
    obtain ⟨rfl, rfl⟩ := H
    obtain ⟨Ao9, co9, eo9⟩ := Kd.V_slice HO_6.out
    subst eo9
    go_wp2_with (first | ((with_reducible refine gate_callee (f := 23) rfl ?_); refine goesL_ (some 14) rfl rfl Try.func23 (by kernel_rfl) rfl #[.slice Ao9 x6_1.length co9, .int .i64 a1] rfl xm ?_; (with_reducible refine (spec_RibbonsInside.calls k1 _ _ x6_1 a1 t561 _ ?side1 ?side2 A7.out).mono ?_); (case side1 => exact xc (Kd.V_reads' HO_6.out).2.2); (case side2 => exact (Kd.V_reads' HO_6.out).2.1); rintro e w10 ⟨v562, rfl, ho0, hb⟩; refine ⟨_, rfl, ?_⟩; replace HO_6 := ax (Kd.V_elder' (xV HO_6.out) (by first | exact Kd.N_base ho0 | exact Kd.S_base ho0 | exact Kd.R_base ho0) hb); have HO563 := ax (Kd.N_lower (Kd.N_mono (ok' := fun k_ => (w.heap.size ≤ k_)) ho0 (fun k_ hk_ => (Nat.le_trans (below_size (xb HB.out)) hk_))) (below_size (xb HB.out))); replace HB := yB HB hb; (try clear hb); (try clear ho0); obtain ⟨Ao11, co11, eo11⟩ := Kd.N_slice HO563.out; subst eo11))
    go_ret2
    exact ⟨_, xe, by (with_reducible repeat (first | apply Kd.V_alloc | apply Kd.V_drewN | apply Kd.V_drew)); exact Kd.V_mono HO_6.out (fun _ hk => hk.1), xb HB.out⟩
   ·rw [if_neg c8] at H
    have c8b0 : ((t561.length : Int) == 0) = false := beq_eq_false_iff_ne.mpr c8
    have c8b1 : ((t561.length : Int) != 0) = true := bne_iff_ne.mpr c8
    have c8b2 : ¬ (t561 = []) := fun h_ => c8 (by rw [h_]; rfl)
    obtain ⟨c12, H⟩ := xp H
    have c12b0 := decide_eq_true c12
    have c12b1 : decide (0 < t561.length) = true := decide_eq_true (by omega)
    clear c12
    have H' := ax H
    clear H
    obtain ⟨Ao13, co13, eo13⟩ := Kd.V_slice HO_6.out
    subst eo13
    go_wp2_with (first | ((with_reducible refine gate_callee (f := 23) rfl ?_); refine goesL_ (some 14) rfl rfl Try.func23 (by kernel_rfl) rfl #[.slice Ao13 x6_1.length co13, .int .i64 a1] rfl xm ?_; (with_reducible refine (spec_RibbonsInside.calls k1 _ _ x6_1 a1 t561 _ ?side1 ?side2 A7.out).mono ?_); (case side1 => exact xc (Kd.V_reads' HO_6.out).2.2); (case side2 => exact (Kd.V_reads' HO_6.out).2.1); rintro e w14 ⟨v562, rfl, ho0, hb⟩; refine ⟨_, rfl, ?_⟩; replace HO_6 := ax (Kd.V_elder' (xV HO_6.out) (by first | exact Kd.N_base ho0 | exact Kd.S_base ho0 | exact Kd.R_base ho0) hb); have HO563 := ax (Kd.N_lower (Kd.N_mono (ok' := fun k_ => (w.heap.size ≤ k_)) ho0 (fun k_ hk_ => (Nat.le_trans (below_size (xb HB.out)) hk_))) (below_size (xb HB.out))); replace HB := yB HB hb; (try clear hb); (try clear ho0); obtain ⟨Ao15, co15, eo15⟩ := Kd.N_slice HO563.out; subst eo15; have p564 : 0 ≤ (0 : Int) := (by omega); have q564 : 0 < (t561.length : Int) := xd; obtain ⟨ad564, A564_0, c564_0, A564_1, c564_1, e564, hx564_0, hx564_1, hl564_0, hi564_0, hl564_1, hi564_1⟩ := at_T41 (Kd.N_reads' HO563.out).2.2 0 p564 q564; cases e564; obtain ⟨ce564, hce564, hMe564, hcc564⟩ := Kd.N_get HO563.out z41 0 p564 (by first | exact q564 | exact xd | (have e_ := (Kd.N_reads' HO563.out).1; omega)); obtain ⟨ua564_0, uc564_0, ua564_1, uc564_1, rfl, ul564_0, ge564_0, ul564_1, ge564_1⟩ := k41_openF hMe564; have hv564_0 := hcc564 0 _ rfl; rw [Nat.add_zero] at hv564_0; replace hv564_0 := Option.some.inj (hv564_0.symm.trans hx564_0); injection hv564_0 with hva_ hvn_ hvc_; rw [hva_] at ge564_0; rw [hvc_] at ul564_0; have HL564_0 := ax (show Kd.V (Kd.int .i64) 3 _ w.heap.size _ _ ((rd_T41 t561 0).f0) from Kd.V_mk ul564_0 ge564_0); clear hva_ hvn_ hvc_ ge564_0 ul564_0; have hv564_1 := hcc564 1 _ rfl; rw [add_field _ _ 1 (by omega)] at hv564_1; replace hv564_1 := Option.some.inj (hv564_1.symm.trans hx564_1); injection hv564_1 with hva_ hvn_ hvc_; rw [hva_] at ge564_1; rw [hvc_] at ul564_1; have HL564_1 := ax (show Kd.V (Kd.int .i64) 3 _ w.heap.size _ _ ((rd_T41 t561 0).f1) from Kd.V_mk ul564_1 ge564_1); clear hva_ hvn_ hvc_ ge564_1 ul564_1; clear hcc564 hce564; have qi564 : (0 < t561.length) = True := eq_true (by omega); (try rw [show ((0 : Int)).toNat = 0 from rfl] at hx564_0); (try rw [show 0 * 2 = 0 from rfl] at hx564_0); (try rw [Addr.add_zero'] at hx564_0); (try rw [show ((0 : Int)).toNat = 0 from rfl] at hx564_1); (try rw [show 0 * 2 = 0 from rfl] at hx564_1); (try rw [Addr.add_zero'] at hx564_1); have HR564_0 := ax hi564_0; have HC564_0 := ax hl564_0; clear hi564_0 hl564_0; have HR564_1 := ax hi564_1; have HC564_1 := ax hl564_1; clear hi564_1 hl564_1; replace p564 := eq_true p564; replace q564 := eq_true q564))
    go_roundg k1
    case measure => have := HK1.out; omega
    case rel => exact ⟨((rd_T41 t561 0).f1), (wrap64 (x7_1 + 1)), xr, H', ⟨by have := HK1.out; omega⟩, ⟨by (with_reducible repeat (first | apply Kd.V_alloc | apply Kd.V_drewN | apply Kd.V_drew)); exact Kd.V_mono HL564_1.out (fun _ hk => hk.1)⟩, ⟨xb HB.out⟩⟩

/-! ### spec_CoreOf: function 15 -/
def spec_CoreOf.f (k : Nat) (l0 : List Int) (a1 : Int) : Option (List Int) := (spec_l24Fine.f k l0 a1).bind fun t565 => (if t565 = true then ((spec_l24Core.f k l0 a1).bind fun bt566 => ((some (([] : List Int) : List Int)).bind fun y570 => (if y570.length + bt566.1.length < 17592186044416 then (some (y570 ++ bt566.1)) else (none)))) else (some (([] : List Int))))
theorem spec_CoreOf.mono : ∀ a0 a1 k, LeO (spec_CoreOf.f k a0 a1) (spec_CoreOf.f (k + 1) a0 a1) := by
 intro a0 a1 k
 unfold spec_CoreOf.f
 repeat' with_reducible first | exact spec_l24Core.mono _ _ _ | exact spec_l24Fine.mono _ _ _ | exact xl | refine LeO.ite ?_ ?_ | refine LeO.bind ?_ fun _ => ?_
theorem spec_CoreOf.calls (k : Nat) (A0 : Option Addr) (c0 : Nat) (l0 : List Int) (a1 : Int) (r : List Int) (w : World) (hr0 : Kd.C (Kd.int .i64) w A0 l0.length l0) (hc0 : l0.length ≤ c0) (h : spec_CoreOf.f k l0 a1 = some r) :
  Calls Try.prog 15 #[.slice A0 l0.length c0, .int .i64 a1] w fun e w' => ∃ v0_ : Value, e = .returned (v0_) ∧ Kd.R (Kd.int .i64) 3 w' w.heap.size (fun _ => True) v0_ r ∧ Below w.heap.size w w' := by
 have HR0 := ax hr0
 have HC0 := ax hc0
 clear hr0 hc0
 have HB := ax (Below.refl w.heap.size w)
 have H : ((spec_l24Fine.f k l0 a1).bind fun t565 => (if t565 = true then ((spec_l24Core.f k l0 a1).bind fun bt566 => ((some (([] : List Int) : List Int)).bind fun y570 => (if y570.length + bt566.1.length < 17592186044416 then (some (y570 ++ bt566.1)) else (none)))) else (some (([] : List Int))))) = some r := h
 clear h
 obtain ⟨t565, A3, H⟩ := xI H
 by_cases c4 : t565 = true
 ·subst c4
  rw [if_pos rfl] at H
  obtain ⟨⟨t566, t569⟩, A5, H⟩ := xI H
  dsimp only at H
  obtain ⟨y570, Ny570, H⟩ := xg H
  obtain ⟨c6, H⟩ := xp H
  have LMc6 := ax c6
  clear c6
  obtain ⟨y573, hy573⟩ : ∃ y_ : List Int, y_ = (y570 ++ t566) := ⟨_, rfl⟩
  replace H : (some y573) = some r := xv hy573 H
  have Ny573 := ax hy573
  clear hy573
  obtain rfl := Option.some.inj H
  go_enter Try.func15, Try.ntmps15
  go_wp2_with (first | ((with_reducible refine gate_callee (f := 39) rfl ?_); refine goesL_ (some 9) rfl rfl Try.func39 (by kernel_rfl) rfl #[.slice A0 l0.length c0, .int .i64 a1] rfl xm ?_; (with_reducible refine (spec_l24Fine.calls k _ _ l0 a1 true _ ?side1 ?side2 A3.out).mono ?_); (case side1 => exact xc HR0.out); (case side2 => exact HC0.out); rintro e w7 ⟨rfl, hb⟩; refine ⟨_, rfl, ?_⟩; replace HB := yB HB hb; (try clear hb)) | ((with_reducible refine gate_callee (f := 40) rfl ?_); refine goesL_ (some 15) rfl rfl Try.func40 (by kernel_rfl) rfl #[.slice A0 l0.length c0, .int .i64 a1] rfl xm ?_; (with_reducible refine (spec_l24Core.calls k _ _ l0 a1 t566 t569 _ ?side1 ?side2 A5.out).mono ?_); (case side1 => exact xz HR0.out HB.out); (case side2 => exact HC0.out); rintro e w8 ⟨v567, rfl, ho0, hb⟩; refine ⟨_, rfl, ?_⟩; have HO568 := ax (Kd.V_lower (Kd.V_mono (ok' := fun k_ => True) ho0 (fun k_ hk_ => trivial)) (below_size (xb HB.out))); replace HB := yB HB hb; (try clear hb); (try clear ho0)) | ((with_reducible refine gate_dst (N := 18) rfl ?_); refine Kd.R_lit (Kd.int .i64) _ 3 ?hg (N := 18) ?hd (xs := ([] : List Int)) (inner := []) (ok := fun _ => True) (okp := fun _ => True) ?hr ?hp (fun _ hk => hk) trivial (Below.refl _ _) (Nat.le_refl _) (by simp) ?_; (case hd => rfl); (case hg => rfl); (case hr => first | (go_simp; done) | (go_simp; rfl)); (case hp => exact (Reps.none _ _)); intro v571 w9 ho10 hb hg_ hnew_; clear hg_ hnew_; (first | rw [← Ny570.out] at ho10 | (simp only [Int.reduceToNat] at ho10; rw [← Ny570.out] at ho10)); replace HO568 := ax (Kd.V_elder' (xV HO568.out) (Kd.R_base ho10) hb); have HO572 := ax (Kd.R_lower ho10 (below_size (xb HB.out))); replace HB := yB HB hb; clear hb ho10; obtain ⟨Ao12, co12, eo12⟩ := Kd.V_slice HO568.out; subst eo12) | ((with_reducible refine gate_builtin (b := .append) (xs := #[.tmp 18, .tmp 19]) rfl ?_); at_builtin; refine Kd.R_append_rows (Kd.int .i64) (w0 := w) w.heap.size rfl (.tmp 18) (.tmp 19) 24 3 (.int .i64 0) 8 rfl Try.underlying24 info3 rfl (by decide) (by omega) v571 y570 t566 _ _ _ (fun _ => True) (fun _ => False) rfl rfl ?aO ?aR (fun _ _ h => h) (fun _ h => h.elim) ?aF ?aB ?aS ?aL ?_; (case aR => exact xc (Kd.V_reads' HO568.out).2.2); (case aB => exact (xb HB.out)); (case aF => exact (fun _ _ => trivial)); (case aO => exact (xR HO572.out)); (case aS => exact (below_size (xb HB.out))); (case aL => have := LMc6.out; omega); intro v574 w11 ho hb hg hat; rw [← Ny573.out] at ho; have n0_ := ax (Kd.V_afterv (ok := (fun _ => True)) (xV HO568.out) hg hat); have n1_ := ax (hb); have n2_ := ax (ho); clear HO568; clear HB; clear HO572; have HO568 := n0_; have HB := n1_; have HO575 := n2_; clear n0_ n1_ n2_; clear ho hb hg hat))
  go_ret
  exact ⟨_, xe, xR HO575.out, xb HB.out⟩
 ·replace c4 := Bool.eq_false_iff.mpr c4
  subst c4
  rw [if_neg (show ¬ (false = true) by decide)] at H
  obtain ⟨y576, hy576⟩ : ∃ y_ : List Int, y_ = (([] : List Int)) := ⟨_, rfl⟩
  replace H : (some y576) = some r := xv hy576 H
  have Ny576 := ax hy576
  clear hy576
  obtain rfl := Option.some.inj H
  go_enter Try.func15, Try.ntmps15
  go_wp2_with (first | ((with_reducible refine gate_callee (f := 39) rfl ?_); refine goesL_ (some 9) rfl rfl Try.func39 (by kernel_rfl) rfl #[.slice A0 l0.length c0, .int .i64 a1] rfl xm ?_; (with_reducible refine (spec_l24Fine.calls k _ _ l0 a1 false _ ?side1 ?side2 A3.out).mono ?_); (case side1 => exact xc HR0.out); (case side2 => exact HC0.out); rintro e w13 ⟨rfl, hb⟩; refine ⟨_, rfl, ?_⟩; replace HB := yB HB hb; (try clear hb)) | ((with_reducible refine gate_dst (N := 11) rfl ?_); refine Kd.R_lit (Kd.int .i64) _ 3 ?hg (N := 11) ?hd (xs := ([] : List Int)) (inner := []) (ok := fun _ => True) (okp := fun _ => True) ?hr ?hp (fun _ hk => hk) trivial (Below.refl _ _) (Nat.le_refl _) (by simp) ?_; (case hd => rfl); (case hg => rfl); (case hr => first | (go_simp; done) | (go_simp; rfl)); (case hp => exact (Reps.none _ _)); intro v577 w14 ho15 hb hg_ hnew_; clear hg_ hnew_; (first | rw [← Ny576.out] at ho15 | (simp only [Int.reduceToNat] at ho15; rw [← Ny576.out] at ho15)); have HO578 := ax (Kd.R_lower ho15 (below_size (xb HB.out))); replace HB := yB HB hb; clear hb ho15))
  go_ret
  exact ⟨_, xe, xR HO578.out, xb HB.out⟩

/-! ### spec_CoreWeight: function 16 -/
def spec_CoreWeight.f (k : Nat) (l0 : List Int) (a1 : Int) : Option (Int) := (spec_l24Fine.f k l0 a1).bind fun t579 => (if t579 = true then ((spec_l24Core.f k l0 a1).bind fun bt580 => (some bt580.2)) else (some (-1)))
theorem spec_CoreWeight.mono : ∀ a0 a1 k, LeO (spec_CoreWeight.f k a0 a1) (spec_CoreWeight.f (k + 1) a0 a1) := by
 intro a0 a1 k
 unfold spec_CoreWeight.f
 repeat' with_reducible first | exact spec_l24Core.mono _ _ _ | exact spec_l24Fine.mono _ _ _ | exact xl | refine LeO.ite ?_ ?_ | refine LeO.bind ?_ fun _ => ?_
theorem spec_CoreWeight.calls (k : Nat) (A0 : Option Addr) (c0 : Nat) (l0 : List Int) (a1 : Int) (r : Int) (w : World) (hr0 : Kd.C (Kd.int .i64) w A0 l0.length l0) (hc0 : l0.length ≤ c0) (h : spec_CoreWeight.f k l0 a1 = some r) :
  Calls Try.prog 16 #[.slice A0 l0.length c0, .int .i64 a1] w fun e w' => e = .returned (.int .i64 r) ∧ Below w.heap.size w w' := by
 have HR0 := ax hr0
 have HC0 := ax hc0
 clear hr0 hc0
 have HB := ax (Below.refl w.heap.size w)
 have H : ((spec_l24Fine.f k l0 a1).bind fun t579 => (if t579 = true then ((spec_l24Core.f k l0 a1).bind fun bt580 => (some bt580.2)) else (some (-1)))) = some r := h
 clear h
 obtain ⟨t579, A3, H⟩ := xI H
 by_cases c4 : t579 = true
 ·subst c4
  rw [if_pos rfl] at H
  obtain ⟨⟨t580, t583⟩, A5, H⟩ := xI H
  dsimp only at H
  obtain rfl := Option.some.inj H
  go_enter Try.func16, Try.ntmps16
  go_wp2_with (first | ((with_reducible refine gate_callee (f := 39) rfl ?_); refine goesL_ (some 9) rfl rfl Try.func39 (by kernel_rfl) rfl #[.slice A0 l0.length c0, .int .i64 a1] rfl xm ?_; (with_reducible refine (spec_l24Fine.calls k _ _ l0 a1 true _ ?side1 ?side2 A3.out).mono ?_); (case side1 => exact xc HR0.out); (case side2 => exact HC0.out); rintro e w6 ⟨rfl, hb⟩; refine ⟨_, rfl, ?_⟩; replace HB := yB HB hb; (try clear hb)) | ((with_reducible refine gate_callee (f := 40) rfl ?_); refine goesL_ (some 14) rfl rfl Try.func40 (by kernel_rfl) rfl #[.slice A0 l0.length c0, .int .i64 a1] rfl xm ?_; (with_reducible refine (spec_l24Core.calls k _ _ l0 a1 t580 t583 _ ?side1 ?side2 A5.out).mono ?_); (case side1 => exact xz HR0.out HB.out); (case side2 => exact HC0.out); rintro e w7 ⟨v581, rfl, ho0, hb⟩; refine ⟨_, rfl, ?_⟩; have HO582 := ax (Kd.V_lower (Kd.V_mono (ok' := fun k_ => True) ho0 (fun k_ hk_ => trivial)) (below_size (xb HB.out))); replace HB := yB HB hb; (try clear hb); (try clear ho0)))
  go_ret
  exact ⟨xe, xb HB.out⟩
 ·replace c4 := Bool.eq_false_iff.mpr c4
  subst c4
  rw [if_neg (show ¬ (false = true) by decide)] at H
  obtain rfl := Option.some.inj H
  go_enter Try.func16, Try.ntmps16
  go_wp2_with (first | ((with_reducible refine gate_callee (f := 39) rfl ?_); refine goesL_ (some 9) rfl rfl Try.func39 (by kernel_rfl) rfl #[.slice A0 l0.length c0, .int .i64 a1] rfl xm ?_; (with_reducible refine (spec_l24Fine.calls k _ _ l0 a1 false _ ?side1 ?side2 A3.out).mono ?_); (case side1 => exact xc HR0.out); (case side2 => exact HC0.out); rintro e w8 ⟨rfl, hb⟩; refine ⟨_, rfl, ?_⟩; replace HB := yB HB hb; (try clear hb)))
  go_ret
  exact ⟨xe, xb HB.out⟩

/-! ### laws_sameLists: function 17 -/
def laws_sameLists.l0 : Nat → List (List Int) → List (List Int) → Int → Option (Bool)
 | 0, _, _, _ => none
 | k + 1, x0, x1, x5 => if x5 < (x0.length : Int) then (if 0 ≤ x5 then (if x5 < (x1.length : Int) then ((laws_sameInts.f k (rd_L2 x0 x5) (rd_L2 x1 x5)).bind fun t586 => (if t586 = true then (laws_sameLists.l0 k x0 x1 (wrap64 (x5 + 1))) else (some false))) else (none)) else (none)) else (some true)
def laws_sameLists.f (k : Nat) (l0 : List (List Int)) (l1 : List (List Int)) : Option (Bool) := if (l0.length : Int) = (l1.length : Int) then (laws_sameLists.l0 k l0 l1 0) else (some false)
theorem laws_sameLists.mono_l : ∀ k, (∀ y0 y1 y2, LeO (laws_sameLists.l0 k y0 y1 y2) (laws_sameLists.l0 (k + 1) y0 y1 y2))
 | 0 => fun _ _ _ r h => by simp [laws_sameLists.l0] at h
 | k + 1 => by
  have ih0 := laws_sameLists.mono_l k
  ·intro y0 y1 y2
   unfold laws_sameLists.l0
   repeat' with_reducible first | exact ih0 _ _ _ | exact laws_sameInts.mono _ _ _ | exact xl | refine LeO.ite ?_ ?_ | refine LeO.bind ?_ fun _ => ?_
theorem laws_sameLists.mono : ∀ a0 a1 k, LeO (laws_sameLists.f k a0 a1) (laws_sameLists.f (k + 1) a0 a1) := by
 intro a0 a1 k
 have ih0 := laws_sameLists.mono_l k
 unfold laws_sameLists.f
 repeat' with_reducible first | exact ih0 _ _ _ | exact laws_sameInts.mono _ _ _ | exact xl | refine LeO.ite ?_ ?_ | refine LeO.bind ?_ fun _ => ?_
theorem laws_sameLists.calls (k : Nat) (A0 : Option Addr) (c0 : Nat) (l0 : List (List Int)) (A1 : Option Addr) (c1 : Nat) (l1 : List (List Int)) (r : Bool) (w : World) (hr0 : Kd.C (Kd.slice 3 (Kd.int .i64)) w A0 l0.length l0) (hc0 : l0.length ≤ c0) (hr1 : Kd.C (Kd.slice 3 (Kd.int .i64)) w A1 l1.length l1) (hc1 : l1.length ≤ c1) (h : laws_sameLists.f k l0 l1 = some r) :
  Calls Try.prog 17 #[.slice A0 l0.length c0, .slice A1 l1.length c1] w fun e w' => e = .returned (.bool r) ∧ Drawn0 w w' := by
 have HR0 := ax hr0
 have HC0 := ax hc0
 clear hr0 hc0
 have HR1 := ax hr1
 have HC1 := ax hc1
 clear hr1 hc1
 have H : (if (l0.length : Int) = (l1.length : Int) then (laws_sameLists.l0 k l0 l1 0) else (some false)) = some r := h
 clear h
 by_cases c3 : (l0.length : Int) = (l1.length : Int)
 ·rw [if_pos c3] at H
  have c3b0 : ((l0.length : Int) == (l1.length : Int)) = true := beq_iff_eq.mpr c3
  have c3b1 : ((l0.length : Int) != (l1.length : Int)) = false := bne_eq_false_iff_eq.mpr c3
  have c3b2 : (l0.length == l1.length) = true := by first | simpa using c3 | (simp at c3 ⊢; omega)
  clear c3
  have H' := ax H
  clear H
  go_enter Try.func17, Try.ntmps17
  go_wp2
  repeat (go_quiet (fail); try go_wp2)
  go_loopg [5] k (fun kq v5 w' => ∃ (x5_1 : Int), v5 = .int .i64 x5_1 ∧ Aside0 (laws_sameLists.l0 kq l0 l1 x5_1 = some r) ∧ Aside0 (kq ≤ k) ∧ Drawn0 w w')
  case atStart => exact ⟨(0), xr, H', ⟨Nat.le_refl _⟩, by repeat (first | exact Drawn0.refl _ | apply Drawn0.step)⟩
  case round =>
   clear H'
   (try clear c1); (try clear c3); (try clear c3b0); (try clear c3b1); (try clear c3b2)
   obtain ⟨x5_1, rfl, HA, HK1, ⟨m1, rfl⟩⟩ := hrel
   cases gk with
   | zero => exact absurd HA.out (by simp [laws_sameLists.l0])
   | succ k1 =>
    have H := HA.out
    clear HA
    simp only [laws_sameLists.l0] at H
    by_cases c4 : x5_1 < (l0.length : Int)
    ·rw [if_pos c4] at H
     have c4b0 := decide_eq_true c4
     clear c4
     obtain ⟨c5b0, H⟩ := xq H
     obtain ⟨c6b0, H⟩ := xq H
     obtain ⟨t586, A7, H⟩ := xI H
     by_cases c8 : t586 = true
     ·subst c8
      rw [if_pos rfl] at H
      have H' := ax H
      clear H
      have p584 : 0 ≤ (x5_1 : Int) := xd
      have q584 : x5_1 < (l0.length : Int) := xd
      obtain ⟨ad584, A584_0, c584_0, e584, hx584_0, hl584_0, hi584_0⟩ := at_L2 HR0.out x5_1 p584 q584
      cases e584
      have HR584_0 := ax hi584_0
      have HC584_0 := ax hl584_0
      clear hi584_0 hl584_0
      replace p584 := eq_true p584
      replace q584 := eq_true q584
      have p585 : 0 ≤ (x5_1 : Int) := xd
      have q585 : x5_1 < (l1.length : Int) := xd
      obtain ⟨ad585, A585_0, c585_0, e585, hx585_0, hl585_0, hi585_0⟩ := at_L2 HR1.out x5_1 p585 q585
      cases e585
      have HR585_0 := ax hi585_0
      have HC585_0 := ax hl585_0
      clear hi585_0 hl585_0
      replace p585 := eq_true p585
      replace q585 := eq_true q585
      go_wp2_with (first | (go_at_call 14; (with_reducible refine (laws_sameInts.calls k1 _ _ (rd_L2 l0 x5_1) _ _ (rd_L2 l1 x5_1) true _ ?side1 ?side2 ?side3 ?side4 A7.out).mono ?_); (case side1 => exact xc HR584_0.out); (case side2 => exact HC584_0.out); (case side3 => exact xc HR585_0.out); (case side4 => exact HC585_0.out); rintro e w' ⟨rfl, ⟨nd, rfl⟩⟩; (try first | exact ⟨rfl, _, World.drewN_drewN _ _ _⟩ | exact ⟨rfl, _, Eq.trans (World.drewN_drewN _ _ _) (congrArg (World.drewN _) (Nat.add_assoc _ _ _))⟩)))
      repeat (go_quiet (first | (go_at_call 14; (with_reducible refine (laws_sameInts.calls k1 _ _ (rd_L2 l0 x5_1) _ _ (rd_L2 l1 x5_1) true _ ?side1 ?side2 ?side3 ?side4 A7.out).mono ?_); (case side1 => exact xc HR584_0.out); (case side2 => exact HC584_0.out); (case side3 => exact xc HR585_0.out); (case side4 => exact HC585_0.out); rintro e w' ⟨rfl, ⟨nd, rfl⟩⟩; (try first | exact ⟨rfl, _, World.drewN_drewN _ _ _⟩ | exact ⟨rfl, _, Eq.trans (World.drewN_drewN _ _ _) (congrArg (World.drewN _) (Nat.add_assoc _ _ _))⟩))); try go_wp2_with (first | (go_at_call 14; (with_reducible refine (laws_sameInts.calls k1 _ _ (rd_L2 l0 x5_1) _ _ (rd_L2 l1 x5_1) true _ ?side1 ?side2 ?side3 ?side4 A7.out).mono ?_); (case side1 => exact xc HR584_0.out); (case side2 => exact HC584_0.out); (case side3 => exact xc HR585_0.out); (case side4 => exact HC585_0.out); rintro e w' ⟨rfl, ⟨nd, rfl⟩⟩; (try first | exact ⟨rfl, _, World.drewN_drewN _ _ _⟩ | exact ⟨rfl, _, Eq.trans (World.drewN_drewN _ _ _) (congrArg (World.drewN _) (Nat.add_assoc _ _ _))⟩))))
      go_roundg k1
      case measure => have := HK1.out; omega
      case rel => exact ⟨(wrap64 (x5_1 + 1)), xr, H', ⟨by have := HK1.out; omega⟩, by repeat (first | exact Drawn0.refl _ | apply Drawn0.step)⟩
     ·replace c8 := Bool.eq_false_iff.mpr c8
      subst c8
      rw [if_neg (show ¬ (false = true) by decide)] at H
      obtain rfl := Option.some.inj H
      have p584 : 0 ≤ (x5_1 : Int) := xd
      have q584 : x5_1 < (l0.length : Int) := xd
      obtain ⟨ad584, A584_0, c584_0, e584, hx584_0, hl584_0, hi584_0⟩ := at_L2 HR0.out x5_1 p584 q584
      cases e584
      have HR584_0 := ax hi584_0
      have HC584_0 := ax hl584_0
      clear hi584_0 hl584_0
      replace p584 := eq_true p584
      replace q584 := eq_true q584
      have p585 : 0 ≤ (x5_1 : Int) := xd
      have q585 : x5_1 < (l1.length : Int) := xd
      obtain ⟨ad585, A585_0, c585_0, e585, hx585_0, hl585_0, hi585_0⟩ := at_L2 HR1.out x5_1 p585 q585
      cases e585
      have HR585_0 := ax hi585_0
      have HC585_0 := ax hl585_0
      clear hi585_0 hl585_0
      replace p585 := eq_true p585
      replace q585 := eq_true q585
      go_wp2_with (first | (go_at_call 14; (with_reducible refine (laws_sameInts.calls k1 _ _ (rd_L2 l0 x5_1) _ _ (rd_L2 l1 x5_1) false _ ?side1 ?side2 ?side3 ?side4 A7.out).mono ?_); (case side1 => exact xc HR584_0.out); (case side2 => exact HC584_0.out); (case side3 => exact xc HR585_0.out); (case side4 => exact HC585_0.out); rintro e w' ⟨rfl, ⟨nd, rfl⟩⟩; (try first | exact ⟨rfl, _, World.drewN_drewN _ _ _⟩ | exact ⟨rfl, _, Eq.trans (World.drewN_drewN _ _ _) (congrArg (World.drewN _) (Nat.add_assoc _ _ _))⟩)))
      repeat (go_quiet (first | (go_at_call 14; (with_reducible refine (laws_sameInts.calls k1 _ _ (rd_L2 l0 x5_1) _ _ (rd_L2 l1 x5_1) false _ ?side1 ?side2 ?side3 ?side4 A7.out).mono ?_); (case side1 => exact xc HR584_0.out); (case side2 => exact HC584_0.out); (case side3 => exact xc HR585_0.out); (case side4 => exact HC585_0.out); rintro e w' ⟨rfl, ⟨nd, rfl⟩⟩; (try first | exact ⟨rfl, _, World.drewN_drewN _ _ _⟩ | exact ⟨rfl, _, Eq.trans (World.drewN_drewN _ _ _) (congrArg (World.drewN _) (Nat.add_assoc _ _ _))⟩))); try go_wp2_with (first | (go_at_call 14; (with_reducible refine (laws_sameInts.calls k1 _ _ (rd_L2 l0 x5_1) _ _ (rd_L2 l1 x5_1) false _ ?side1 ?side2 ?side3 ?side4 A7.out).mono ?_); (case side1 => exact xc HR584_0.out); (case side2 => exact HC584_0.out); (case side3 => exact xc HR585_0.out); (case side4 => exact HC585_0.out); rintro e w' ⟨rfl, ⟨nd, rfl⟩⟩; (try first | exact ⟨rfl, _, World.drewN_drewN _ _ _⟩ | exact ⟨rfl, _, Eq.trans (World.drewN_drewN _ _ _) (congrArg (World.drewN _) (Nat.add_assoc _ _ _))⟩))))
      go_ret
      exact ⟨by first | rfl | (simp; done) | (simp [*]; done), by repeat (first | exact Drawn0.refl _ | apply Drawn0.step)⟩
    ·rw [if_neg c4] at H
     have c4b0 := decide_eq_false c4
     clear c4
     obtain rfl := Option.some.inj H
     go_wp2
     repeat (go_quiet (fail); try go_wp2)
     go_ret
     exact ⟨by first | rfl | (simp; done) | (simp [*]; done), by repeat (first | exact Drawn0.refl _ | apply Drawn0.step)⟩
 ·rw [if_neg c3] at H
  have c3b0 : ((l0.length : Int) == (l1.length : Int)) = false := beq_eq_false_iff_ne.mpr c3
  have c3b1 : ((l0.length : Int) != (l1.length : Int)) = true := bne_iff_ne.mpr c3
  have c3b2 : (l0.length == l1.length) = false := by first | simpa using c3 | (simp at c3 ⊢; omega)
  obtain rfl := Option.some.inj H
  go_enter Try.func17, Try.ntmps17
  go_wp2
  repeat (go_quiet (fail); try go_wp2)
  go_ret
  exact ⟨by first | rfl | (simp; done) | (simp [*]; done), by repeat (first | exact Drawn0.refl _ | apply Drawn0.step)⟩

end Go.Proofs.Ytopmggldaicpaaa.PFnCores
