import Derived.Test.YtnfcdaojglicfaaPFnOperatorsx1
namespace Go.Proofs.Ytnfcdaojglicfaa.PFnOperators
open Go.RowKit Go.Proofs.YtnfcdaojglicfaaW.PrintWords Go.Proofs.YtnfcdaojglicfaaW.PrintLast Go.Proofs.YtnfcdaojglicfaaW.PrintMore
set_option linter.unusedVariables false
set_option linter.unusedSimpArgs false
set_option maxHeartbeats 8000000
set_option maxRecDepth 100000
/-! ### spec_IsLattice: function 20 -/
mutual
def spec_IsLattice.l0 : Nat → List Int → List Int → Int → Option (Bool)
 | 0, _, _, _ => none
 | k + 1, x0, x3, x4 => if x4 ≥ 0 then ((spec_IsWord.f k x0).bind fun t541 => (spec_IsLattice.j1 k x0 x3 x4 t541)) else (spec_IsLattice.j1 k x0 x3 x4 false)
def spec_IsLattice.j1 : Nat → List Int → List Int → Int → Bool → Option (Bool)
 | 0, _, _, _, _ => none
 | k + 1, x0, x3, x4, x14 => if x14 = true then (if 0 ≤ x4 then (if x4 < (x0.length : Int) then (if 0 ≤ (rd x0 x4) then (if (rd x0 x4) < (x3.length : Int) then ((some (x3.set ((rd x0 x4) : Int).toNat (wrap64 ((rd x3 (rd x0 x4)) + 1)) : List Int)).bind fun y545 => (if (rd x0 x4) > 1 then (if 0 ≤ (wrap64 ((rd x0 x4) - 1)) then (if (wrap64 ((rd x0 x4) - 1)) < (x3.length : Int) then (if (rd y545 (rd x0 x4)) > (rd y545 (wrap64 ((rd x0 x4) - 1))) then (some false) else (spec_IsLattice.l0 k x0 y545 (wrap64 (x4 - 1)))) else (none)) else (none)) else (spec_IsLattice.l0 k x0 y545 (wrap64 (x4 - 1))))) else (none)) else (none)) else (none)) else (none)) else ((spec_IsWord.f k x0).bind fun t551 => (some t551))
end
def spec_IsLattice.f (k : Nat) (l0 : List Int) : Option (Bool) := if 11 ≤ 35184372088832 then (spec_IsLattice.l0 k l0 (List.replicate 11 0) (wrap64 ((l0.length : Int) - 1))) else (none)
theorem spec_IsLattice.mono_l : ∀ k, (∀ y0 y1 y2, LeO (spec_IsLattice.l0 k y0 y1 y2) (spec_IsLattice.l0 (k + 1) y0 y1 y2)) ∧ (∀ y0 y1 y2 y3, LeO (spec_IsLattice.j1 k y0 y1 y2 y3) (spec_IsLattice.j1 (k + 1) y0 y1 y2 y3))
 | 0 => ⟨fun _ _ _ r h => by simp [spec_IsLattice.l0] at h, fun _ _ _ _ r h => by simp [spec_IsLattice.j1] at h⟩
 | k + 1 => by
  obtain ⟨ih0, ih1⟩ := spec_IsLattice.mono_l k
  refine ⟨?_, ?_⟩
  ·intro y0 y1 y2
   unfold spec_IsLattice.l0
   repeat' with_reducible first | exact ih0 _ _ _ | exact ih1 _ _ _ _ | exact spec_IsWord.mono _ _ | exact xl | refine LeO.ite ?_ ?_ | refine LeO.bind ?_ fun _ => ?_
  ·intro y0 y1 y2 y3
   unfold spec_IsLattice.j1
   repeat' with_reducible first | exact ih0 _ _ _ | exact ih1 _ _ _ _ | exact spec_IsWord.mono _ _ | exact xl | refine LeO.ite ?_ ?_ | refine LeO.bind ?_ fun _ => ?_
theorem spec_IsLattice.mono : ∀ a0 k, LeO (spec_IsLattice.f k a0) (spec_IsLattice.f (k + 1) a0) := by
 intro a0 k
 obtain ⟨ih0, ih1⟩ := spec_IsLattice.mono_l k
 unfold spec_IsLattice.f
 repeat' with_reducible first | exact ih0 _ _ _ | exact ih1 _ _ _ _ | exact spec_IsWord.mono _ _ | exact xl | refine LeO.ite ?_ ?_ | refine LeO.bind ?_ fun _ => ?_
def spec_IsLattice.T5 : Bool × List (List Nat × List Nat) := (true, [([], []), ([], []), ([], []), ([1, 2], [1, 2]), ([3], [3]), ([], []), ([], []), ([], []), ([6, 7], [6, 7]), ([8], [8]), ([5, 9], [5, 9]), ([10], [10]), ([11], [11]), ([0, 4, 0, 1, 2, 3, 4, 5, 6, 7, 8, 9, 10, 11, 12], [0, 4]), ([13, 12, 0, 1, 2, 3, 4, 5, 6, 7, 8, 9, 10, 11, 12], [12, 13])])
def spec_IsLattice.B5 : List Nat := [0, 0, 0, 6, 14, 0, 0, 0, 192, 448, 992, 2016, 4064, 8191, 16383]
theorem spec_IsLattice.tab5 : rtab .any (opsOf Try.f20 5) = spec_IsLattice.T5 := by kernel_rfl
theorem spec_IsLattice.bits5 : waitsOk spec_IsLattice.T5.2 spec_IsLattice.B5 = true := by kernel_rfl
def spec_IsLattice.T6 : Bool × List (List Nat × List Nat) := (true, [([], []), ([], []), ([0, 1], [0, 1]), ([2], [2]), ([3], [3]), ([4], [4]), ([5], [5]), ([5], [5]), ([5], [5]), ([7, 8, 5], [5, 7, 8]), ([9, 5], [5, 9]), ([6, 10, 5], [5, 6, 10]), ([11, 5], [5, 11]), ([5], [5]), ([5], [5]), ([5], [5]), ([14, 15, 5], [5, 14, 15]), ([16, 5], [5, 16]), ([17, 5], [5, 17]), ([13, 18, 5], [5, 13, 18]), ([19, 5], [5, 19]), ([12, 20, 5], [5, 12, 20]), ([5, 21], [5, 21])])
def spec_IsLattice.B6 : List Nat := [0, 0, 3, 7, 15, 31, 63, 63, 63, 447, 959, 2047, 4095, 63, 63, 63, 49215, 114751, 245823, 516159, 1040447, 2097151, 4194303]
theorem spec_IsLattice.tab6 : rtab .any (opsOf Try.f20 6) = spec_IsLattice.T6 := by kernel_rfl
theorem spec_IsLattice.bits6 : waitsOk spec_IsLattice.T6.2 spec_IsLattice.B6 = true := by kernel_rfl
theorem spec_IsLattice.calls (k : Nat) (A0 : Option Addr) (c0 : Nat) (l0 : List Int) (r : Bool) (w : World) (hr0 : Kd.C (Kd.int .i64) w A0 l0.length l0) (hc0 : l0.length ≤ c0) (h : spec_IsLattice.f k l0 = some r) :
  Calls Try.prog 20 #[.slice A0 l0.length c0] w fun e w' => e = .returned (.bool r) ∧ Below w.heap.size w w' := by
 have HR0 := ax hr0
 have HC0 := ax hc0
 clear hr0 hc0
 have HB := ax (Below.refl w.heap.size w)
 have H : (if 11 ≤ 35184372088832 then (spec_IsLattice.l0 k l0 (List.replicate 11 0) (wrap64 ((l0.length : Int) - 1))) else (none)) = some r := h
 clear h
 obtain ⟨c2, H⟩ := xp H
 have c2b0 := eq_true c2
 have c2b1 := decide_eq_true c2
 clear c2
 obtain ⟨y538, hy538⟩ : ∃ y_ : List Int, y_ = (List.replicate 11 0) := ⟨_, rfl⟩
 replace H : (spec_IsLattice.l0 k l0 y538 (wrap64 ((l0.length : Int) - 1))) = some r := xv hy538 H
 have Ny538 := ax hy538
 clear hy538
 have H' := ax H
 clear H
 go_enter Try.func20, Try.ntmps20
 go_wp2_with (first | ((with_reducible refine gate_dst (N := 5) rfl ?_); refine Kd.R_make (Kd.int .i64) _ 3 rfl (N := 5) rfl 24 _ _ rfl 11 rfl rfl Try.underlying24 (.int .i64 0) 8 info3 rfl (by decide) (by omega) 0 (ok := fun _ => True) (okp := fun _ => True) rfl (fun _ hk => hk) trivial (by omega) (by omega) (Below.refl _ _) (Nat.le_refl _) ?_; intro v539 w3 ho4 hb hg_ hnew_; clear hg_ hnew_; (first | rw [← Ny538.out] at ho4 | (simp only [Int.reduceToNat] at ho4; rw [← Ny538.out] at ho4)); have HO540 := ax (Kd.R_lower ho4 (below_size (xb HB.out))); replace HB := yB HB hb; clear hb ho4))
 go_loopg [4] k (fun kq v4 w' => ∃ (x3_1 : List Int) (x4_1 : Int), v4 = .int .i64 x4_1 ∧ Aside0 (spec_IsLattice.l0 kq l0 x3_1 x4_1 = some r) ∧ Aside0 (kq ≤ k) ∧ Aside0 (Kd.R (Kd.int .i64) 3 w' w.heap.size (fun _ => True) v539 x3_1) ∧ Aside0 (Below w.heap.size w w'))
 case atStart => exact ⟨(y538), (wrap64 ((l0.length : Int) - 1)), xr, H', ⟨Nat.le_refl _⟩, ⟨xR HO540.out⟩, ⟨xb HB.out⟩⟩
 case round =>
  clear H'
  (try clear c2); (try clear c2b0); (try clear c2b1)
  obtain ⟨x3_1, x4_1, rfl, HA, HK1, HO_3, HB⟩ := hrel
  cases gk with
  | zero => exact absurd HA.out (by simp [spec_IsLattice.l0])
  | succ k1 =>
   have H := HA.out
   clear HA
   simp only [spec_IsLattice.l0] at H
   have HC5 := ax H
   clear H
   go_upto_region 3 with (fail)
   go_cut [14] (fun v14 wc => ∃ (kq : Nat) (x14_4 : Bool), v14 = .bool x14_4 ∧ Aside0 (spec_IsLattice.j1 kq l0 x3_1 x4_1 x14_4 = some r) ∧ Aside0 (kq ≤ k1) ∧ Aside0 (Kd.R (Kd.int .i64) 3 wc w.heap.size (fun _ => True) v539 x3_1) ∧ Aside0 (Below w.heap.size w wc))
   case first =>
    have H := HC5.out
    clear HC5
    by_cases c6 : x4_1 ≥ 0
    ·rw [if_pos c6] at H
     have c6b0 : decide (0 ≤ x4_1) = true := decide_eq_true c6
     clear c6
     (first | rw [c6b0] | (simp only [i64_w, i32_w]; rw [c6b0]) | skip)
     obtain ⟨t541, A7, H⟩ := xI H
     have H' := ax H
     clear H
     go_wp2_with (first | (go_at_call 31; (with_reducible refine (spec_IsWord.calls k1 _ _ l0 t541 _ ?side1 ?side2 A7.out).mono ?_); (case side1 => exact xz HR0.out HB.out); (case side2 => exact HC0.out); rintro e w' ⟨rfl, ⟨nd, rfl⟩⟩))
     go_meet
     case rel => exact ⟨_, (t541), xr, H', ⟨by have := HK1.out; first | omega | exact Nat.le_refl _⟩, ⟨xR HO_3.out⟩, ⟨xb HB.out⟩⟩
    ·rw [if_neg c6] at H
     have c6b0 : decide (0 ≤ x4_1) = false := decide_eq_false c6
     clear c6
     (first | rw [c6b0] | (simp only [i64_w, i32_w]; rw [c6b0]) | skip)
     have H' := ax H
     clear H
     go_wp2
     go_meet
     case rel => exact ⟨_, (false), xr, H', ⟨by have := HK1.out; first | omega | exact Nat.le_refl _⟩, ⟨xR HO_3.out⟩, ⟨xb HB.out⟩⟩
   case rest =>
    clear HC5
    (try clear c2); (try clear c2b0); (try clear c2b1); (try clear c6); (try clear c6b0)
    obtain ⟨kq, x14_4, rfl, HA, HJ4, HO_3, HB⟩ := hcut
    cases kq with
    | zero => exact absurd HA.out (by simp [spec_IsLattice.j1])
    | succ kj4 =>
     have H := HA.out
     clear HA
     simp only [spec_IsLattice.j1] at H
     by_cases c8 : x14_4 = true
     ·subst c8
      rw [if_pos rfl] at H
      obtain ⟨c9b0, H⟩ := xq H
      obtain ⟨c10b0, H⟩ := xq H
      obtain ⟨c11b0, H⟩ := xq H
      obtain ⟨c12b0, H⟩ := xq H
      obtain ⟨y545, Ny545, H⟩ := xg H
      by_cases c14 : (rd l0 x4_1) > 1
      ·rw [if_pos c14] at H
       have c14b0 : decide (1 < (rd l0 x4_1)) = true := decide_eq_true c14
       clear c14
       obtain ⟨ji15, hji15⟩ : ∃ j_ : Int, (wrap64 ((rd l0 x4_1) - 1)) = j_ := ⟨_, rfl⟩
       replace H : (if 0 ≤ (ji15) then (if (ji15) < (x3_1.length : Int) then (if (rd y545 (rd l0 x4_1)) > (rd y545 (ji15)) then (some false) else (spec_IsLattice.l0 kj4 l0 y545 (wrap64 (x4_1 - 1)))) else (none)) else (none)) = some r := by first | (rw [hji15] at H; exact H) | (simp only [hji15] at H ⊢; exact H)
       have hji15w : (IntKind.i64.wrap ((rd l0 x4_1) - 1)) = ji15 := (i64_w _).trans hji15
       obtain ⟨c16b0, H⟩ := xq H
       obtain ⟨c17b0, H⟩ := xq H
       by_cases c18 : (rd y545 (rd l0 x4_1)) > (rd y545 (ji15))
       ·rw [if_pos c18] at H
        have c18b0 : decide ((rd y545 (ji15)) < (rd y545 (rd l0 x4_1))) = true := decide_eq_true c18
        clear c18
        obtain rfl := Option.some.inj H
        try go_wp2
        replace HO_3 := ax (Kd.R_drew HO_3.out); replace HB := ax (below_drew1 HB.out)
        have p542 : 0 ≤ (x4_1 : Int) := xd
        have q542 : x4_1 < (l0.length : Int) := xd
        obtain ⟨ad542, e542, hx542_0⟩ := Kd.at_int HR0.out x4_1 p542 q542
        have hw542_0 := hx542_0
        cases e542
        (try replace hx542_0 := (HB.out.cell (World.block_lt_of_cell? w _ hx542_0)).trans hx542_0)
        replace p542 := eq_true p542
        replace q542 := eq_true q542
        have p543 : 0 ≤ (x4_1 : Int) := xd
        have q543 : x4_1 < (l0.length : Int) := xd
        obtain ⟨ad543, e543, hx543_0⟩ := Kd.at_int HR0.out x4_1 p543 q543
        have hw543_0 := hx543_0
        obtain rfl : ad542 = ad543 := (by injection e543)
        (try replace hx543_0 := (HB.out.cell (World.block_lt_of_cell? w _ hx543_0)).trans hx543_0)
        replace p543 := eq_true p543
        replace q543 := eq_true q543
        obtain ⟨Ao20, co20, eo20⟩ := Kd.R_slice HO_3.out
        (first | subst eo20 | (injection eo20 with f1_ f2_ f3_; have f4_ := f1_.symm; have f5_ := f3_.symm; clear f1_ f2_ f3_; subst f4_; subst f5_))
        have p544 : 0 ≤ ((rd l0 x4_1) : Int) := xd
        have q544 : (rd l0 x4_1) < (x3_1.length : Int) := xd
        obtain ⟨ad544, e544, hx544_0⟩ := Kd.at_int (Kd.R_reads' HO_3.out).2.2 (rd l0 x4_1) p544 q544
        cases e544
        replace p544 := eq_true p544
        replace q544 := eq_true q544
        have p13 : 0 ≤ ((rd l0 x4_1) : Int) := xd
        have q13 : ((rd l0 x4_1) : Int) < ((x3_1.length : Int) : Int) := xd
        obtain ⟨go13, co13, eo13, gb13, gl13, cl13, HG13⟩ := Kd.R_form HO_3.out (by omega)
        (first | cases eo13 | (injection eo13 with ea_ en_ ec_; (first | subst ea_ | (injection ea_ with ea_; subst ea_)); subst ec_; clear en_))
        have GB13 := ax gb13
        have GG13 := ax HG13
        clear gb13 gl13 HG13
        (first | simp only [add_plain] at hx544_0 | skip)
        obtain ⟨hx13_0, hf13_0⟩ := Kd.R_celln 0 HO_3.out ((rd l0 x4_1) : Int) p13 q13
        replace p13 := eq_true p13
        replace q13 := eq_true q13
        have HP21 := Kd.R_putn HO_3.out ((rd l0 x4_1) : Int) (wrap64 ((rd x3_1 (rd l0 x4_1)) + 1))
        rw [← Ny545.out] at HP21
        have HQ21 := ax HP21
        clear HP21
        refine start_ (n := 15) (S := fun w' => w'.cell? (ad542.add (x4_1).toNat) = some (.int .i64 (rd l0 x4_1)) ∧ w'.cell? (ad542.add (x4_1).toNat) = some (.int .i64 (rd l0 x4_1)) ∧ w'.cell? ⟨go13, ((rd l0 x4_1)).toNat, none⟩ = some (.int .i64 (rd x3_1 (rd l0 x4_1)))) (ds := [14]) (xB 15 0) (by kernel_rfl) rfl (by kernel_rfl) ⟨((HB.out.cell (World.block_lt_of_cell? w _ hw542_0)).trans hw542_0), ((HB.out.cell (World.block_lt_of_cell? w _ hw543_0)).trans hw543_0), hx544_0⟩ (fun hHeld => ?_); refine with_tabW spec_IsLattice.tab5 spec_IsLattice.bits5 (fun HT_ HW_ => ?_)
        generalize wc.drew = w19 at HO_3 HB GG13 HQ21 hf13_0 hx13_0 hx542_0 hx543_0 hx544_0 hHeld ⊢
        refine pu (i := 0) (N := some 17) (xB 15 1) HT_.out ?_
        refine pu (i := 1) (N := some 18) (xB 15 3) HT_.out ?_
        refine pu (i := 2) (N := some 19) (xB 15 7) HT_.out ?_
        refine pu (i := 3) (N := some 20) (xB 15 15) HT_.out ?_
        refine pu (i := 5) (N := some 22) (xB 15 47) HT_.out ?_
        refine pu (i := 6) (N := some 23) (xB 15 111) HT_.out ?_
        refine pu (i := 7) (N := some 24) (xB 15 239) HT_.out ?_
        refine pu (i := 8) (N := some 25) (xB 15 495) HT_.out ?_
        refine tk (i := 4) (N := some 21) (xB 15 511) HT_.out HW_.out hHeld ?_
        refine tk (i := 9) (N := some 26) (xB 15 1023) HT_.out HW_.out hHeld ?_
        refine pu (i := 10) (N := some 27) (xB 15 2047) HT_.out ?_
        refine tk (i := 11) (N := some 28) (xB 15 4095) HT_.out HW_.out hHeld ?_
        refine pu (i := 12) (N := some 29) (xB 15 8191) HT_.out ?_
        refine pu (i := 13) (N := some 30) (xB 15 16383) HT_.out ?_
        refine last_ (i := 14) (N := none) (xB 15 32767) rfl rfl (one_of HT_.out (by kernel_rfl)) (by decide) (fun K hK => ?_)
        refine skip_ (w1 := ?_) (by rfl) rfl ?_ ?_
        rotate_left
        ·go_simp
         rfl
        refine hK.out _ _ ?_
        clear hK K
        refine done_ (done_of HT_.out (by kernel_rfl)) ?_
        try go_wp2
        have n0_ : Aside0 (Kd.R (Kd.int .i64) 3 (w19.setCell ⟨go13, ((rd l0 x4_1) : Int).toNat, none⟩ (.int .i64 (wrap64 ((rd x3_1 (rd l0 x4_1)) + 1)))) w.heap.size (fun _ => True) (.slice (some ⟨go13, 0, none⟩) x3_1.length co20) y545) := ⟨by (with_reducible repeat (first | apply Kd.R_alloc | apply Kd.R_drewN | apply Kd.R_drew)); exact HQ21.out⟩
        have n1_ : Aside0 (Below w.heap.size w (w19.setCell ⟨go13, ((rd l0 x4_1) : Int).toNat, none⟩ (.int .i64 (wrap64 ((rd x3_1 (rd l0 x4_1)) + 1))))) := ⟨xs HB.out GB13.out⟩
        (try clear HO_3)
        (try clear HB)
        generalize (w19.setCell ⟨go13, ((rd l0 x4_1) : Int).toNat, none⟩ (.int .i64 (wrap64 ((rd x3_1 (rd l0 x4_1)) + 1)))) = w22 at n0_ n1_ ⊢
        have HO_3 := n0_
        have HB := n1_
        clear n0_ n1_
        replace HO_3 := ax (Kd.R_drew HO_3.out); replace HB := ax (below_drew1 HB.out)
        have p546 : 0 ≤ (x4_1 : Int) := xd
        have q546 : x4_1 < (l0.length : Int) := xd
        obtain ⟨ad546, e546, hx546_0⟩ := Kd.at_int HR0.out x4_1 p546 q546
        have hw546_0 := hx546_0
        obtain rfl : ad542 = ad546 := (by injection e546)
        (try replace hx546_0 := (HB.out.cell (World.block_lt_of_cell? w _ hx546_0)).trans hx546_0)
        replace p546 := eq_true p546
        replace q546 := eq_true q546
        have p547 : 0 ≤ (x4_1 : Int) := xd
        have q547 : x4_1 < (l0.length : Int) := xd
        obtain ⟨ad547, e547, hx547_0⟩ := Kd.at_int HR0.out x4_1 p547 q547
        have hw547_0 := hx547_0
        obtain rfl : ad542 = ad547 := (by injection e547)
        (try replace hx547_0 := (HB.out.cell (World.block_lt_of_cell? w _ hx547_0)).trans hx547_0)
        replace p547 := eq_true p547
        replace q547 := eq_true q547
        have p548 : 0 ≤ ((rd l0 x4_1) : Int) := xd
        have q548 : (rd l0 x4_1) < (y545.length : Int) := (by have h_ : ((rd l0 x4_1) : Int) < ((x3_1.length : Int) : Int) := xd; first | (have e_ := (Kd.R_reads' HO_3.out).1; omega) | simpa only [Ny545.out, List.length_set] using h_)
        have ql548 : (((rd l0 x4_1) : Int) < ((x3_1.length : Int) : Int)) = True := eq_true (xd)
        obtain ⟨ad548, e548, hx548_0⟩ := Kd.at_int (Kd.R_reads' HO_3.out).2.2 (rd l0 x4_1) p548 q548
        obtain rfl : (⟨go13, 0, none⟩ : Addr) = ad548 := (by injection e548)
        (first | simp only [add_plain] at hx548_0 | simp only [add_at] at hx548_0 | simp only [Addr.add, Nat.zero_add] at hx548_0 | skip)
        replace p548 := eq_true p548
        replace q548 := eq_true q548
        have p549 : 0 ≤ (x4_1 : Int) := xd
        have q549 : x4_1 < (l0.length : Int) := xd
        obtain ⟨ad549, e549, hx549_0⟩ := Kd.at_int HR0.out x4_1 p549 q549
        have hw549_0 := hx549_0
        obtain rfl : ad542 = ad549 := (by injection e549)
        (try replace hx549_0 := (HB.out.cell (World.block_lt_of_cell? w _ hx549_0)).trans hx549_0)
        replace p549 := eq_true p549
        replace q549 := eq_true q549
        have p550 : 0 ≤ ((ji15) : Int) := xd
        have q550 : (ji15) < (y545.length : Int) := (by have h_ : ((ji15) : Int) < ((x3_1.length : Int) : Int) := xd; first | (have e_ := (Kd.R_reads' HO_3.out).1; omega) | simpa only [Ny545.out, List.length_set] using h_)
        have ql550 : (((ji15) : Int) < ((x3_1.length : Int) : Int)) = True := eq_true (xd)
        obtain ⟨ad550, e550, hx550_0⟩ := Kd.at_int (Kd.R_reads' HO_3.out).2.2 (ji15) p550 q550
        obtain rfl : (⟨go13, 0, none⟩ : Addr) = ad550 := (by injection e550)
        (first | simp only [add_plain] at hx550_0 | simp only [add_at] at hx550_0 | simp only [Addr.add, Nat.zero_add] at hx550_0 | skip)
        replace p550 := eq_true p550
        replace q550 := eq_true q550
        refine start_ (n := 23) (S := fun w' => w'.cell? (ad542.add (x4_1).toNat) = some (.int .i64 (rd l0 x4_1)) ∧ w'.cell? (ad542.add (x4_1).toNat) = some (.int .i64 (rd l0 x4_1)) ∧ w'.cell? ⟨go13, ((rd l0 x4_1)).toNat, none⟩ = some (.int .i64 (rd y545 (rd l0 x4_1))) ∧ w'.cell? (ad542.add (x4_1).toNat) = some (.int .i64 (rd l0 x4_1)) ∧ w'.cell? ⟨go13, ((ji15)).toNat, none⟩ = some (.int .i64 (rd y545 (ji15)))) (ds := []) (xB 23 0) (by kernel_rfl) rfl (by kernel_rfl) ⟨((HB.out.cell (World.block_lt_of_cell? w _ hw546_0)).trans hw546_0), ((HB.out.cell (World.block_lt_of_cell? w _ hw547_0)).trans hw547_0), hx548_0, ((HB.out.cell (World.block_lt_of_cell? w _ hw549_0)).trans hw549_0), hx550_0⟩ (fun hHeld => ?_); refine with_tabW spec_IsLattice.tab6 spec_IsLattice.bits6 (fun HT_ HW_ => ?_)
        generalize w22.drew = w23 at HO_3 HB HQ21 hx546_0 hx547_0 hx548_0 hx549_0 hx550_0 hHeld ⊢
        refine pu (i := 0) (N := some 31) (xB 23 1) HT_.out ?_
        refine pu (i := 1) (N := some 32) (xB 23 3) HT_.out ?_
        refine pu (i := 2) (N := some 33) (xB 23 7) HT_.out ?_
        refine tk (i := 3) (N := some 34) (xB 23 15) HT_.out HW_.out hHeld ?_
        refine pu (i := 4) (N := some 35) (xB 23 31) HT_.out ?_
        refine pu (i := 5) (N := some 36) (xB 23 63) HT_.out ?_
        refine pu (i := 6) (N := some 37) (xB 23 127) HT_.out ?_
        refine pu (i := 7) (N := some 38) (xB 23 255) HT_.out ?_
        refine pu (i := 8) (N := some 39) (xB 23 511) HT_.out ?_
        refine pu (i := 9) (N := some 40) (xB 23 1023) HT_.out ?_
        refine pu (i := 13) (N := some 44) (xB 23 9215) HT_.out ?_
        refine pu (i := 14) (N := some 45) (xB 23 25599) HT_.out ?_
        refine pu (i := 15) (N := some 46) (xB 23 58367) HT_.out ?_
        refine pu (i := 16) (N := some 47) (xB 23 123903) HT_.out ?_
        refine tk (i := 10) (N := some 41) (xB 23 124927) HT_.out HW_.out hHeld ?_
        refine pu (i := 11) (N := some 42) (xB 23 126975) HT_.out ?_
        refine tk (i := 12) (N := some 43) (xB 23 131071) HT_.out HW_.out hHeld ?_
        refine tk (i := 17) (N := some 48) (xB 23 262143) HT_.out HW_.out hHeld ?_
        refine pu (i := 18) (N := some 49) (xB 23 524287) HT_.out ?_
        refine pu (i := 19) (N := some 50) (xB 23 1048575) HT_.out ?_
        refine tk (i := 20) (N := some 51) (xB 23 2097151) HT_.out HW_.out hHeld ?_
        refine pu (i := 21) (N := some 52) (xB 23 4194303) HT_.out ?_
        refine pu (i := 22) (N := some 53) (xB 23 8388607) HT_.out ?_
        refine done_ (done_of HT_.out (by kernel_rfl)) ?_
        try go_wp2
        go_ret
        exact ⟨by first | rfl | (simp [errW_none, errW_some] <;> rfl) | (simp only [← hji15]; first | rfl | (simp [errW_none, errW_some] <;> rfl)) | (simp [*, errW_none, errW_some] <;> rfl), xb HB.out⟩
       ·rw [if_neg c18] at H
        have c18b0 : decide ((rd y545 (ji15)) < (rd y545 (rd l0 x4_1))) = false := decide_eq_false c18
        clear c18
        have H' := ax H
        clear H
        try go_wp2
        replace HO_3 := ax (Kd.R_drew HO_3.out); replace HB := ax (below_drew1 HB.out)
        have p542 : 0 ≤ (x4_1 : Int) := xd
        have q542 : x4_1 < (l0.length : Int) := xd
        obtain ⟨ad542, e542, hx542_0⟩ := Kd.at_int HR0.out x4_1 p542 q542
        have hw542_0 := hx542_0
        cases e542
        (try replace hx542_0 := (HB.out.cell (World.block_lt_of_cell? w _ hx542_0)).trans hx542_0)
        replace p542 := eq_true p542
        replace q542 := eq_true q542
        have p543 : 0 ≤ (x4_1 : Int) := xd
        have q543 : x4_1 < (l0.length : Int) := xd
        obtain ⟨ad543, e543, hx543_0⟩ := Kd.at_int HR0.out x4_1 p543 q543
        have hw543_0 := hx543_0
        obtain rfl : ad542 = ad543 := (by injection e543)
        (try replace hx543_0 := (HB.out.cell (World.block_lt_of_cell? w _ hx543_0)).trans hx543_0)
        replace p543 := eq_true p543
        replace q543 := eq_true q543
        obtain ⟨Ao25, co25, eo25⟩ := Kd.R_slice HO_3.out
        (first | subst eo25 | (injection eo25 with f1_ f2_ f3_; have f4_ := f1_.symm; have f5_ := f3_.symm; clear f1_ f2_ f3_; subst f4_; subst f5_))
        have p544 : 0 ≤ ((rd l0 x4_1) : Int) := xd
        have q544 : (rd l0 x4_1) < (x3_1.length : Int) := xd
        obtain ⟨ad544, e544, hx544_0⟩ := Kd.at_int (Kd.R_reads' HO_3.out).2.2 (rd l0 x4_1) p544 q544
        cases e544
        replace p544 := eq_true p544
        replace q544 := eq_true q544
        have p13 : 0 ≤ ((rd l0 x4_1) : Int) := xd
        have q13 : ((rd l0 x4_1) : Int) < ((x3_1.length : Int) : Int) := xd
        obtain ⟨go13, co13, eo13, gb13, gl13, cl13, HG13⟩ := Kd.R_form HO_3.out (by omega)
        (first | cases eo13 | (injection eo13 with ea_ en_ ec_; (first | subst ea_ | (injection ea_ with ea_; subst ea_)); subst ec_; clear en_))
        have GB13 := ax gb13
        have GG13 := ax HG13
        clear gb13 gl13 HG13
        (first | simp only [add_plain] at hx544_0 | skip)
        obtain ⟨hx13_0, hf13_0⟩ := Kd.R_celln 0 HO_3.out ((rd l0 x4_1) : Int) p13 q13
        replace p13 := eq_true p13
        replace q13 := eq_true q13
        have HP26 := Kd.R_putn HO_3.out ((rd l0 x4_1) : Int) (wrap64 ((rd x3_1 (rd l0 x4_1)) + 1))
        rw [← Ny545.out] at HP26
        have HQ26 := ax HP26
        clear HP26
        refine start_ (n := 15) (S := fun w' => w'.cell? (ad542.add (x4_1).toNat) = some (.int .i64 (rd l0 x4_1)) ∧ w'.cell? (ad542.add (x4_1).toNat) = some (.int .i64 (rd l0 x4_1)) ∧ w'.cell? ⟨go13, ((rd l0 x4_1)).toNat, none⟩ = some (.int .i64 (rd x3_1 (rd l0 x4_1)))) (ds := [14]) (xB 15 0) (by kernel_rfl) rfl (by kernel_rfl) ⟨((HB.out.cell (World.block_lt_of_cell? w _ hw542_0)).trans hw542_0), ((HB.out.cell (World.block_lt_of_cell? w _ hw543_0)).trans hw543_0), hx544_0⟩ (fun hHeld => ?_); refine with_tabW spec_IsLattice.tab5 spec_IsLattice.bits5 (fun HT_ HW_ => ?_)
        generalize wc.drew = w24 at HO_3 HB GG13 HQ26 hf13_0 hx13_0 hx542_0 hx543_0 hx544_0 hHeld ⊢
        refine pu (i := 0) (N := some 17) (xB 15 1) HT_.out ?_
        refine pu (i := 1) (N := some 18) (xB 15 3) HT_.out ?_
        refine pu (i := 2) (N := some 19) (xB 15 7) HT_.out ?_
        refine pu (i := 3) (N := some 20) (xB 15 15) HT_.out ?_
        refine pu (i := 5) (N := some 22) (xB 15 47) HT_.out ?_
        refine pu (i := 6) (N := some 23) (xB 15 111) HT_.out ?_
        refine pu (i := 7) (N := some 24) (xB 15 239) HT_.out ?_
        refine pu (i := 8) (N := some 25) (xB 15 495) HT_.out ?_
        refine tk (i := 4) (N := some 21) (xB 15 511) HT_.out HW_.out hHeld ?_
        refine tk (i := 9) (N := some 26) (xB 15 1023) HT_.out HW_.out hHeld ?_
        refine pu (i := 10) (N := some 27) (xB 15 2047) HT_.out ?_
        refine tk (i := 11) (N := some 28) (xB 15 4095) HT_.out HW_.out hHeld ?_
        refine pu (i := 12) (N := some 29) (xB 15 8191) HT_.out ?_
        refine pu (i := 13) (N := some 30) (xB 15 16383) HT_.out ?_
        refine last_ (i := 14) (N := none) (xB 15 32767) rfl rfl (one_of HT_.out (by kernel_rfl)) (by decide) (fun K hK => ?_)
        refine skip_ (w1 := ?_) (by rfl) rfl ?_ ?_
        rotate_left
        ·go_simp
         rfl
        refine hK.out _ _ ?_
        clear hK K
        refine done_ (done_of HT_.out (by kernel_rfl)) ?_
        try go_wp2
        have n0_ : Aside0 (Kd.R (Kd.int .i64) 3 (w24.setCell ⟨go13, ((rd l0 x4_1) : Int).toNat, none⟩ (.int .i64 (wrap64 ((rd x3_1 (rd l0 x4_1)) + 1)))) w.heap.size (fun _ => True) (.slice (some ⟨go13, 0, none⟩) x3_1.length co25) y545) := ⟨by (with_reducible repeat (first | apply Kd.R_alloc | apply Kd.R_drewN | apply Kd.R_drew)); exact HQ26.out⟩
        have n1_ : Aside0 (Below w.heap.size w (w24.setCell ⟨go13, ((rd l0 x4_1) : Int).toNat, none⟩ (.int .i64 (wrap64 ((rd x3_1 (rd l0 x4_1)) + 1))))) := ⟨xs HB.out GB13.out⟩
        (try clear HO_3)
        (try clear HB)
        generalize (w24.setCell ⟨go13, ((rd l0 x4_1) : Int).toNat, none⟩ (.int .i64 (wrap64 ((rd x3_1 (rd l0 x4_1)) + 1)))) = w27 at n0_ n1_ ⊢
        have HO_3 := n0_
        have HB := n1_
        clear n0_ n1_
        replace HO_3 := ax (Kd.R_drew HO_3.out); replace HB := ax (below_drew1 HB.out)
        have p546 : 0 ≤ (x4_1 : Int) := xd
        have q546 : x4_1 < (l0.length : Int) := xd
        obtain ⟨ad546, e546, hx546_0⟩ := Kd.at_int HR0.out x4_1 p546 q546
        have hw546_0 := hx546_0
        obtain rfl : ad542 = ad546 := (by injection e546)
        (try replace hx546_0 := (HB.out.cell (World.block_lt_of_cell? w _ hx546_0)).trans hx546_0)
        replace p546 := eq_true p546
        replace q546 := eq_true q546
        have p547 : 0 ≤ (x4_1 : Int) := xd
        have q547 : x4_1 < (l0.length : Int) := xd
        obtain ⟨ad547, e547, hx547_0⟩ := Kd.at_int HR0.out x4_1 p547 q547
        have hw547_0 := hx547_0
        obtain rfl : ad542 = ad547 := (by injection e547)
        (try replace hx547_0 := (HB.out.cell (World.block_lt_of_cell? w _ hx547_0)).trans hx547_0)
        replace p547 := eq_true p547
        replace q547 := eq_true q547
        have p548 : 0 ≤ ((rd l0 x4_1) : Int) := xd
        have q548 : (rd l0 x4_1) < (y545.length : Int) := (by have h_ : ((rd l0 x4_1) : Int) < ((x3_1.length : Int) : Int) := xd; first | (have e_ := (Kd.R_reads' HO_3.out).1; omega) | simpa only [Ny545.out, List.length_set] using h_)
        have ql548 : (((rd l0 x4_1) : Int) < ((x3_1.length : Int) : Int)) = True := eq_true (xd)
        obtain ⟨ad548, e548, hx548_0⟩ := Kd.at_int (Kd.R_reads' HO_3.out).2.2 (rd l0 x4_1) p548 q548
        obtain rfl : (⟨go13, 0, none⟩ : Addr) = ad548 := (by injection e548)
        (first | simp only [add_plain] at hx548_0 | simp only [add_at] at hx548_0 | simp only [Addr.add, Nat.zero_add] at hx548_0 | skip)
        replace p548 := eq_true p548
        replace q548 := eq_true q548
        have p549 : 0 ≤ (x4_1 : Int) := xd
        have q549 : x4_1 < (l0.length : Int) := xd
        obtain ⟨ad549, e549, hx549_0⟩ := Kd.at_int HR0.out x4_1 p549 q549
        have hw549_0 := hx549_0
        obtain rfl : ad542 = ad549 := (by injection e549)
        (try replace hx549_0 := (HB.out.cell (World.block_lt_of_cell? w _ hx549_0)).trans hx549_0)
        replace p549 := eq_true p549
        replace q549 := eq_true q549
        have p550 : 0 ≤ ((ji15) : Int) := xd
        have q550 : (ji15) < (y545.length : Int) := (by have h_ : ((ji15) : Int) < ((x3_1.length : Int) : Int) := xd; first | (have e_ := (Kd.R_reads' HO_3.out).1; omega) | simpa only [Ny545.out, List.length_set] using h_)
        have ql550 : (((ji15) : Int) < ((x3_1.length : Int) : Int)) = True := eq_true (xd)
        obtain ⟨ad550, e550, hx550_0⟩ := Kd.at_int (Kd.R_reads' HO_3.out).2.2 (ji15) p550 q550
        obtain rfl : (⟨go13, 0, none⟩ : Addr) = ad550 := (by injection e550)
        (first | simp only [add_plain] at hx550_0 | simp only [add_at] at hx550_0 | simp only [Addr.add, Nat.zero_add] at hx550_0 | skip)
        replace p550 := eq_true p550
        replace q550 := eq_true q550
        refine start_ (n := 23) (S := fun w' => w'.cell? (ad542.add (x4_1).toNat) = some (.int .i64 (rd l0 x4_1)) ∧ w'.cell? (ad542.add (x4_1).toNat) = some (.int .i64 (rd l0 x4_1)) ∧ w'.cell? ⟨go13, ((rd l0 x4_1)).toNat, none⟩ = some (.int .i64 (rd y545 (rd l0 x4_1))) ∧ w'.cell? (ad542.add (x4_1).toNat) = some (.int .i64 (rd l0 x4_1)) ∧ w'.cell? ⟨go13, ((ji15)).toNat, none⟩ = some (.int .i64 (rd y545 (ji15)))) (ds := []) (xB 23 0) (by kernel_rfl) rfl (by kernel_rfl) ⟨((HB.out.cell (World.block_lt_of_cell? w _ hw546_0)).trans hw546_0), ((HB.out.cell (World.block_lt_of_cell? w _ hw547_0)).trans hw547_0), hx548_0, ((HB.out.cell (World.block_lt_of_cell? w _ hw549_0)).trans hw549_0), hx550_0⟩ (fun hHeld => ?_); refine with_tabW spec_IsLattice.tab6 spec_IsLattice.bits6 (fun HT_ HW_ => ?_)
        generalize w27.drew = w28 at HO_3 HB HQ26 hx546_0 hx547_0 hx548_0 hx549_0 hx550_0 hHeld ⊢
        refine pu (i := 0) (N := some 31) (xB 23 1) HT_.out ?_
        refine pu (i := 1) (N := some 32) (xB 23 3) HT_.out ?_
        refine pu (i := 2) (N := some 33) (xB 23 7) HT_.out ?_
        refine tk (i := 3) (N := some 34) (xB 23 15) HT_.out HW_.out hHeld ?_
        refine pu (i := 4) (N := some 35) (xB 23 31) HT_.out ?_
        refine pu (i := 5) (N := some 36) (xB 23 63) HT_.out ?_
        refine pu (i := 6) (N := some 37) (xB 23 127) HT_.out ?_
        refine pu (i := 7) (N := some 38) (xB 23 255) HT_.out ?_
        refine pu (i := 8) (N := some 39) (xB 23 511) HT_.out ?_
        refine pu (i := 9) (N := some 40) (xB 23 1023) HT_.out ?_
        refine pu (i := 13) (N := some 44) (xB 23 9215) HT_.out ?_
        refine pu (i := 14) (N := some 45) (xB 23 25599) HT_.out ?_
        refine pu (i := 15) (N := some 46) (xB 23 58367) HT_.out ?_
        refine pu (i := 16) (N := some 47) (xB 23 123903) HT_.out ?_
        refine tk (i := 10) (N := some 41) (xB 23 124927) HT_.out HW_.out hHeld ?_
        refine pu (i := 11) (N := some 42) (xB 23 126975) HT_.out ?_
        refine tk (i := 12) (N := some 43) (xB 23 131071) HT_.out HW_.out hHeld ?_
        refine tk (i := 17) (N := some 48) (xB 23 262143) HT_.out HW_.out hHeld ?_
        refine pu (i := 18) (N := some 49) (xB 23 524287) HT_.out ?_
        refine pu (i := 19) (N := some 50) (xB 23 1048575) HT_.out ?_
        refine tk (i := 20) (N := some 51) (xB 23 2097151) HT_.out HW_.out hHeld ?_
        refine pu (i := 21) (N := some 52) (xB 23 4194303) HT_.out ?_
        refine pu (i := 22) (N := some 53) (xB 23 8388607) HT_.out ?_
        refine done_ (done_of HT_.out (by kernel_rfl)) ?_
        try go_wp2
        go_roundg kj4
        case measure => have := HK1.out; have := HJ4.out; omega
        case rel => exact ⟨(y545), (wrap64 (x4_1 - 1)), xr, H', ⟨by have := HK1.out; have := HJ4.out; omega⟩, ⟨xR HO_3.out⟩, ⟨xb HB.out⟩⟩
      ·rw [if_neg c14] at H
       have c14b0 : decide (1 < (rd l0 x4_1)) = false := decide_eq_false c14
       clear c14
       have H' := ax H
       clear H
       try go_wp2
       replace HO_3 := ax (Kd.R_drew HO_3.out); replace HB := ax (below_drew1 HB.out)
       have p542 : 0 ≤ (x4_1 : Int) := xd
       have q542 : x4_1 < (l0.length : Int) := xd
       obtain ⟨ad542, e542, hx542_0⟩ := Kd.at_int HR0.out x4_1 p542 q542
       have hw542_0 := hx542_0
       cases e542
       (try replace hx542_0 := (HB.out.cell (World.block_lt_of_cell? w _ hx542_0)).trans hx542_0)
       replace p542 := eq_true p542
       replace q542 := eq_true q542
       have p543 : 0 ≤ (x4_1 : Int) := xd
       have q543 : x4_1 < (l0.length : Int) := xd
       obtain ⟨ad543, e543, hx543_0⟩ := Kd.at_int HR0.out x4_1 p543 q543
       have hw543_0 := hx543_0
       obtain rfl : ad542 = ad543 := (by injection e543)
       (try replace hx543_0 := (HB.out.cell (World.block_lt_of_cell? w _ hx543_0)).trans hx543_0)
       replace p543 := eq_true p543
       replace q543 := eq_true q543
       obtain ⟨Ao30, co30, eo30⟩ := Kd.R_slice HO_3.out
       (first | subst eo30 | (injection eo30 with f1_ f2_ f3_; have f4_ := f1_.symm; have f5_ := f3_.symm; clear f1_ f2_ f3_; subst f4_; subst f5_))
       have p544 : 0 ≤ ((rd l0 x4_1) : Int) := xd
       have q544 : (rd l0 x4_1) < (x3_1.length : Int) := xd
       obtain ⟨ad544, e544, hx544_0⟩ := Kd.at_int (Kd.R_reads' HO_3.out).2.2 (rd l0 x4_1) p544 q544
       cases e544
       replace p544 := eq_true p544
       replace q544 := eq_true q544
       have p13 : 0 ≤ ((rd l0 x4_1) : Int) := xd
       have q13 : ((rd l0 x4_1) : Int) < ((x3_1.length : Int) : Int) := xd
       obtain ⟨go13, co13, eo13, gb13, gl13, cl13, HG13⟩ := Kd.R_form HO_3.out (by omega)
       (first | cases eo13 | (injection eo13 with ea_ en_ ec_; (first | subst ea_ | (injection ea_ with ea_; subst ea_)); subst ec_; clear en_))
       have GB13 := ax gb13
       have GG13 := ax HG13
       clear gb13 gl13 HG13
       (first | simp only [add_plain] at hx544_0 | skip)
       obtain ⟨hx13_0, hf13_0⟩ := Kd.R_celln 0 HO_3.out ((rd l0 x4_1) : Int) p13 q13
       replace p13 := eq_true p13
       replace q13 := eq_true q13
       have HP31 := Kd.R_putn HO_3.out ((rd l0 x4_1) : Int) (wrap64 ((rd x3_1 (rd l0 x4_1)) + 1))
       rw [← Ny545.out] at HP31
       have HQ31 := ax HP31
       clear HP31
       refine start_ (n := 15) (S := fun w' => w'.cell? (ad542.add (x4_1).toNat) = some (.int .i64 (rd l0 x4_1)) ∧ w'.cell? (ad542.add (x4_1).toNat) = some (.int .i64 (rd l0 x4_1)) ∧ w'.cell? ⟨go13, ((rd l0 x4_1)).toNat, none⟩ = some (.int .i64 (rd x3_1 (rd l0 x4_1)))) (ds := [14]) (xB 15 0) (by kernel_rfl) rfl (by kernel_rfl) ⟨((HB.out.cell (World.block_lt_of_cell? w _ hw542_0)).trans hw542_0), ((HB.out.cell (World.block_lt_of_cell? w _ hw543_0)).trans hw543_0), hx544_0⟩ (fun hHeld => ?_); refine with_tabW spec_IsLattice.tab5 spec_IsLattice.bits5 (fun HT_ HW_ => ?_)
       generalize wc.drew = w29 at HO_3 HB GG13 HQ31 hf13_0 hx13_0 hx542_0 hx543_0 hx544_0 hHeld ⊢
       refine pu (i := 0) (N := some 17) (xB 15 1) HT_.out ?_
       refine pu (i := 1) (N := some 18) (xB 15 3) HT_.out ?_
       refine pu (i := 2) (N := some 19) (xB 15 7) HT_.out ?_
       refine pu (i := 3) (N := some 20) (xB 15 15) HT_.out ?_
       refine pu (i := 5) (N := some 22) (xB 15 47) HT_.out ?_
       refine pu (i := 6) (N := some 23) (xB 15 111) HT_.out ?_
       refine pu (i := 7) (N := some 24) (xB 15 239) HT_.out ?_
       refine pu (i := 8) (N := some 25) (xB 15 495) HT_.out ?_
       refine tk (i := 4) (N := some 21) (xB 15 511) HT_.out HW_.out hHeld ?_
       refine tk (i := 9) (N := some 26) (xB 15 1023) HT_.out HW_.out hHeld ?_
       refine pu (i := 10) (N := some 27) (xB 15 2047) HT_.out ?_
       refine tk (i := 11) (N := some 28) (xB 15 4095) HT_.out HW_.out hHeld ?_
       refine pu (i := 12) (N := some 29) (xB 15 8191) HT_.out ?_
       refine pu (i := 13) (N := some 30) (xB 15 16383) HT_.out ?_
       refine last_ (i := 14) (N := none) (xB 15 32767) rfl rfl (one_of HT_.out (by kernel_rfl)) (by decide) (fun K hK => ?_)
       refine skip_ (w1 := ?_) (by rfl) rfl ?_ ?_
       rotate_left
       ·go_simp
        rfl
       refine hK.out _ _ ?_
       clear hK K
       refine done_ (done_of HT_.out (by kernel_rfl)) ?_
       try go_wp2
       have n0_ : Aside0 (Kd.R (Kd.int .i64) 3 (w29.setCell ⟨go13, ((rd l0 x4_1) : Int).toNat, none⟩ (.int .i64 (wrap64 ((rd x3_1 (rd l0 x4_1)) + 1)))) w.heap.size (fun _ => True) (.slice (some ⟨go13, 0, none⟩) x3_1.length co30) y545) := ⟨by (with_reducible repeat (first | apply Kd.R_alloc | apply Kd.R_drewN | apply Kd.R_drew)); exact HQ31.out⟩
       have n1_ : Aside0 (Below w.heap.size w (w29.setCell ⟨go13, ((rd l0 x4_1) : Int).toNat, none⟩ (.int .i64 (wrap64 ((rd x3_1 (rd l0 x4_1)) + 1))))) := ⟨xs HB.out GB13.out⟩
       (try clear HO_3)
       (try clear HB)
       generalize (w29.setCell ⟨go13, ((rd l0 x4_1) : Int).toNat, none⟩ (.int .i64 (wrap64 ((rd x3_1 (rd l0 x4_1)) + 1)))) = w32 at n0_ n1_ ⊢
       have HO_3 := n0_
       have HB := n1_
       clear n0_ n1_
       replace HO_3 := ax (Kd.R_drew HO_3.out); replace HB := ax (below_drew1 HB.out)
       have p546 : 0 ≤ (x4_1 : Int) := xd
       have q546 : x4_1 < (l0.length : Int) := xd
       obtain ⟨ad546, e546, hx546_0⟩ := Kd.at_int HR0.out x4_1 p546 q546
       have hw546_0 := hx546_0
       obtain rfl : ad542 = ad546 := (by injection e546)
       (try replace hx546_0 := (HB.out.cell (World.block_lt_of_cell? w _ hx546_0)).trans hx546_0)
       replace p546 := eq_true p546
       replace q546 := eq_true q546
       refine start_ (n := 23) (S := fun w' => w'.cell? (ad542.add (x4_1).toNat) = some (.int .i64 (rd l0 x4_1))) (ds := []) (xB 23 0) (by kernel_rfl) rfl (by kernel_rfl) (((HB.out.cell (World.block_lt_of_cell? w _ hw546_0)).trans hw546_0)) (fun hHeld => ?_); refine with_tabW spec_IsLattice.tab6 spec_IsLattice.bits6 (fun HT_ HW_ => ?_)
       generalize w32.drew = w33 at HO_3 HB HQ31 hx546_0 hHeld ⊢
       refine pu (i := 0) (N := some 31) (xB 23 1) HT_.out ?_
       refine pu (i := 1) (N := some 32) (xB 23 3) HT_.out ?_
       refine pu (i := 2) (N := some 33) (xB 23 7) HT_.out ?_
       refine tk (i := 3) (N := some 34) (xB 23 15) HT_.out HW_.out hHeld ?_
       refine pu (i := 4) (N := some 35) (xB 23 31) HT_.out ?_
       refine pu (i := 5) (N := some 36) (xB 23 63) HT_.out ?_
       refine pn (i := 6) (N := some 37) (xB 23 127) HT_.out ?_
       refine pn (i := 7) (N := some 38) (xB 23 255) HT_.out ?_
       refine pn (i := 8) (N := some 39) (xB 23 511) HT_.out ?_
       refine pn (i := 9) (N := some 40) (xB 23 1023) HT_.out ?_
       refine pn (i := 10) (N := some 41) (xB 23 2047) HT_.out ?_
       refine pn (i := 11) (N := some 42) (xB 23 4095) HT_.out ?_
       refine pn (i := 12) (N := some 43) (xB 23 8191) HT_.out ?_
       refine pn (i := 13) (N := some 44) (xB 23 16383) HT_.out ?_
       refine pn (i := 14) (N := some 45) (xB 23 32767) HT_.out ?_
       refine pn (i := 15) (N := some 46) (xB 23 65535) HT_.out ?_
       refine pn (i := 16) (N := some 47) (xB 23 131071) HT_.out ?_
       refine pn (i := 17) (N := some 48) (xB 23 262143) HT_.out ?_
       refine pn (i := 18) (N := some 49) (xB 23 524287) HT_.out ?_
       refine pn (i := 19) (N := some 50) (xB 23 1048575) HT_.out ?_
       refine pn (i := 20) (N := some 51) (xB 23 2097151) HT_.out ?_
       refine pn (i := 21) (N := some 52) (xB 23 4194303) HT_.out ?_
       refine pu (i := 22) (N := some 53) (xB 23 8388607) HT_.out ?_
       refine done_ (done_of HT_.out (by kernel_rfl)) ?_
       try go_wp2
       go_roundg kj4
       case measure => have := HK1.out; have := HJ4.out; omega
       case rel => exact ⟨(y545), (wrap64 (x4_1 - 1)), xr, H', ⟨by have := HK1.out; have := HJ4.out; omega⟩, ⟨xR HO_3.out⟩, ⟨xb HB.out⟩⟩
     ·replace c8 := Bool.eq_false_iff.mpr c8
      subst c8
      rw [if_neg (show ¬ (false = true) by decide)] at H
      obtain ⟨t551, A34, H⟩ := xI H
      obtain rfl := Option.some.inj H
      go_wp2_with (first | ((with_reducible refine gate_callee (f := 31) rfl ?_); refine goesL_ (some 55) rfl rfl Try.func31 (by kernel_rfl) rfl #[.slice A0 l0.length c0] rfl xm ?_; (with_reducible refine (spec_IsWord.calls kj4 _ _ l0 t551 _ ?side1 ?side2 A34.out).mono ?_); (case side1 => exact xz HR0.out HB.out); (case side2 => exact HC0.out); rintro e w' ⟨rfl, ⟨nd, rfl⟩⟩; refine ⟨_, rfl, ?_⟩))
      go_ret
      exact ⟨xe, xb HB.out⟩

end Go.Proofs.Ytnfcdaojglicfaa.PFnOperators
