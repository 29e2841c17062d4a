import Derived.Test.YtnfcdaojglicfaaPFnOperatorsx1
namespace Go.Proofs.Ytnfcdaojglicfaa.PFnOperators
open Go.RowKit Go.Proofs.YtnfcdaojglicfaaW.PrintWords Go.Proofs.YtnfcdaojglicfaaW.PrintLast Go.Proofs.YtnfcdaojglicfaaW.PrintMore
set_option linter.unusedVariables false
set_option linter.unusedSimpArgs false
set_option maxHeartbeats 8000000
set_option maxRecDepth 100000
/-! ### spec_StandardizeWord: function 44 -/
mutual
def spec_StandardizeWord.l0 : Nat → List Int → List Int → Int → Option (List Int)
 | 0, _, _, _ => none
 | k + 1, x0, x3, x4 => if x4 < (x0.length : Int) then ((spec_IsWord.f k x0).bind fun t141 => (spec_StandardizeWord.j1 k x0 x3 x4 t141)) else (spec_StandardizeWord.j1 k x0 x3 x4 false)
def spec_StandardizeWord.j1 : Nat → List Int → List Int → Int → Bool → Option (List Int)
 | 0, _, _, _, _ => none
 | k + 1, x0, x3, x4, x15 => if x15 = true then (spec_StandardizeWord.l1 k x0 x3 x4 1 0) else (some x3)
def spec_StandardizeWord.l1 : Nat → List Int → List Int → Int → Int → Int → Option (List Int)
 | 0, _, _, _, _, _ => none
 | k + 1, x0, x3, x4, x5, x6 => if x6 < (x0.length : Int) then (if 0 ≤ x6 then (if 0 ≤ x4 then (if x4 < (x0.length : Int) then (if (rd x0 x6) < (rd x0 x4) then ((spec_l1Bit.f true).bind fun t144 => (spec_StandardizeWord.l1 k x0 x3 x4 (wrap64 (x5 + t144)) (wrap64 (x6 + 1)))) else (if (rd x0 x6) = (rd x0 x4) then ((spec_l1Bit.f (decide (x6 < x4))).bind fun t147 => (spec_StandardizeWord.l1 k x0 x3 x4 (wrap64 (x5 + t147)) (wrap64 (x6 + 1)))) else ((spec_l1Bit.f false).bind fun t148 => (spec_StandardizeWord.l1 k x0 x3 x4 (wrap64 (x5 + t148)) (wrap64 (x6 + 1)))))) else (none)) else (none)) else (none)) else (if x3.length < 17592186044416 then (spec_StandardizeWord.l0 k x0 (x3 ++ [x5]) (wrap64 (x4 + 1))) else (none))
end
def spec_StandardizeWord.f (k : Nat) (l0 : List Int) : Option (List Int) := spec_StandardizeWord.l0 k l0 (([] : List Int)) 0
theorem spec_StandardizeWord.mono_l : ∀ k, (∀ y0 y1 y2, LeO (spec_StandardizeWord.l0 k y0 y1 y2) (spec_StandardizeWord.l0 (k + 1) y0 y1 y2)) ∧ (∀ y0 y1 y2 y3, LeO (spec_StandardizeWord.j1 k y0 y1 y2 y3) (spec_StandardizeWord.j1 (k + 1) y0 y1 y2 y3)) ∧ (∀ y0 y1 y2 y3 y4, LeO (spec_StandardizeWord.l1 k y0 y1 y2 y3 y4) (spec_StandardizeWord.l1 (k + 1) y0 y1 y2 y3 y4))
 | 0 => ⟨fun _ _ _ r h => by simp [spec_StandardizeWord.l0] at h, fun _ _ _ _ r h => by simp [spec_StandardizeWord.j1] at h, fun _ _ _ _ _ r h => by simp [spec_StandardizeWord.l1] at h⟩
 | k + 1 => by
  obtain ⟨ih0, ih1, ih2⟩ := spec_StandardizeWord.mono_l k
  refine ⟨?_, ?_, ?_⟩
  ·intro y0 y1 y2
   unfold spec_StandardizeWord.l0
   repeat' with_reducible first | exact ih0 _ _ _ | exact ih1 _ _ _ _ | exact ih2 _ _ _ _ _ | exact spec_IsWord.mono _ _ | exact xl | refine LeO.ite ?_ ?_ | refine LeO.bind ?_ fun _ => ?_
  ·intro y0 y1 y2 y3
   unfold spec_StandardizeWord.j1
   repeat' with_reducible first | exact ih0 _ _ _ | exact ih1 _ _ _ _ | exact ih2 _ _ _ _ _ | exact spec_IsWord.mono _ _ | exact xl | refine LeO.ite ?_ ?_ | refine LeO.bind ?_ fun _ => ?_
  ·intro y0 y1 y2 y3 y4
   unfold spec_StandardizeWord.l1
   repeat' with_reducible first | exact ih0 _ _ _ | exact ih1 _ _ _ _ | exact ih2 _ _ _ _ _ | exact spec_IsWord.mono _ _ | exact xl | refine LeO.ite ?_ ?_ | refine LeO.bind ?_ fun _ => ?_
theorem spec_StandardizeWord.mono : ∀ a0 k, LeO (spec_StandardizeWord.f k a0) (spec_StandardizeWord.f (k + 1) a0) := by
 intro a0 k
 obtain ⟨ih0, ih1, ih2⟩ := spec_StandardizeWord.mono_l k
 unfold spec_StandardizeWord.f
 repeat' with_reducible first | exact ih0 _ _ _ | exact ih1 _ _ _ _ | exact ih2 _ _ _ _ _ | exact spec_IsWord.mono _ _ | exact xl | refine LeO.ite ?_ ?_ | refine LeO.bind ?_ fun _ => ?_
def spec_StandardizeWord.T9 : Bool × List (List Nat × List Nat) := (true, [([], []), ([], []), ([], []), ([1, 2], [1, 2]), ([3], [3]), ([], []), ([], []), ([5, 6], [5, 6]), ([7], [7]), ([4, 8], [4, 8]), ([9], [9]), ([10], [10]), ([10], [10]), ([11, 12, 10], [10, 11, 12]), ([13, 10], [10, 13]), ([10], [10]), ([10], [10]), ([15, 16, 10], [10, 15, 16]), ([17, 10], [10, 17]), ([14, 18, 10], [10, 14, 18]), ([19, 10, 10], [10, 19]), ([20], [20]), ([20], [20]), ([21, 22, 20], [20, 21, 22]), ([20, 23, 10], [10, 20, 23]), ([10, 24], [10, 24]), ([25, 20], [25]), ([0, 26], [0, 26]), ([27, 26, 0, 1, 2, 3, 4, 5, 6, 7, 8, 9, 10, 11, 12, 13, 14, 15, 16, 17, 18, 19, 20, 21, 22, 23, 24, 25, 26, 27], [0, 27])])
def spec_StandardizeWord.B9 : List Nat := [0, 0, 0, 6, 14, 0, 0, 96, 224, 510, 1022, 2046, 2046, 8190, 16382, 2046, 2046, 100350, 231422, 524286, 1048574, 2097150, 2097150, 8388606, 16777214, 33554430, 67108862, 134217727, 268435455]
theorem spec_StandardizeWord.tab9 : rtab .any (opsOf Try.f44 9) = spec_StandardizeWord.T9 := by kernel_rfl
theorem spec_StandardizeWord.bits9 : waitsOk spec_StandardizeWord.T9.2 spec_StandardizeWord.B9 = true := by kernel_rfl
theorem spec_StandardizeWord.calls (k : Nat) (A0 : Option Addr) (c0 : Nat) (l0 : List Int) (r : List Int) (w : World) (hr0 : Kd.C (Kd.int .i64) w A0 l0.length l0) (hc0 : l0.length ≤ c0) (h : spec_StandardizeWord.f k l0 = some r) :
  Calls Try.prog 44 #[.slice A0 l0.length c0] w fun e w' => ∃ v0_ : Value, e = .returned (v0_) ∧ Kd.R (Kd.int .i64) 3 w' w.heap.size (fun _ => True) v0_ r ∧ Below w.heap.size w w' := by
 have HR0 := ax hr0
 have HC0 := ax hc0
 clear hr0 hc0
 have HB := ax (Below.refl w.heap.size w)
 have H : (spec_StandardizeWord.l0 k l0 (([] : List Int)) 0) = some r := h
 clear h
 obtain ⟨y138, hy138⟩ : ∃ y_ : List Int, y_ = (([] : List Int)) := ⟨_, rfl⟩
 replace H : (spec_StandardizeWord.l0 k l0 y138 0) = some r := xv hy138 H
 have Ny138 := ax hy138
 clear hy138
 have H' := ax H
 clear H
 go_enter Try.func44, Try.ntmps44
 go_wp2_with (first | ((with_reducible refine gate_dst (N := 7) rfl ?_); refine Kd.R_lit (Kd.int .i64) _ 3 ?hg (N := 7) ?hd (xs := ([] : List Int)) (inner := []) (ok := fun _ => True) (okp := fun _ => True) ?hr ?hp (fun _ hk => hk) trivial (Below.refl _ _) (Nat.le_refl _) (by simp) ?_; (case hd => rfl); (case hg => rfl); (case hr => first | (go_simp; done) | (go_simp; rfl)); (case hp => exact (Reps.none _ _)); intro v139 w2 ho3 hb hg_ hnew_; clear hg_ hnew_; (first | rw [← Ny138.out] at ho3 | (simp only [Int.reduceToNat] at ho3; rw [← Ny138.out] at ho3)); have HO140 := ax (Kd.R_lower ho3 (below_size (xb HB.out))); replace HB := yB HB hb; clear hb ho3))
 go_loopg [3, 4] k (fun kq v3 v4 w' => ∃ (x3_1 : List Int) (x4_1 : Int), v4 = .int .i64 x4_1 ∧ Aside0 (spec_StandardizeWord.l0 kq l0 x3_1 x4_1 = some r) ∧ Aside0 (kq ≤ k) ∧ Aside0 (Kd.R (Kd.int .i64) 3 w' w.heap.size (fun _ => True) v3 x3_1) ∧ Aside0 (Below w.heap.size w w'))
 case atStart => exact ⟨(y138), (0), xr, H', ⟨Nat.le_refl _⟩, ⟨xR HO140.out⟩, ⟨xb HB.out⟩⟩
 case round =>
  clear H'
  obtain ⟨x3_1, x4_1, rfl, HA, HK1, HO_3, HB⟩ := hrel
  cases gk with
  | zero => exact absurd HA.out (by simp [spec_StandardizeWord.l0])
  | succ k1 =>
   have H := HA.out
   clear HA
   simp only [spec_StandardizeWord.l0] at H
   have HC4 := ax H
   clear H
   go_upto_region 3 with (fail)
   go_cut [15] (fun v15 wc => ∃ (kq : Nat) (x15_3 : Bool), v15 = .bool x15_3 ∧ Aside0 (spec_StandardizeWord.j1 kq l0 x3_1 x4_1 x15_3 = some r) ∧ Aside0 (kq ≤ k1) ∧ Aside0 (Kd.R (Kd.int .i64) 3 wc w.heap.size (fun _ => True) u3 x3_1) ∧ Aside0 (Below w.heap.size w wc))
   case first =>
    have H := HC4.out
    clear HC4
    by_cases c5 : x4_1 < (l0.length : Int)
    ·rw [if_pos c5] at H
     have c5b0 := decide_eq_true c5
     clear c5
     (first | rw [c5b0] | (simp only [i64_w, i32_w]; rw [c5b0]) | skip)
     obtain ⟨t141, A6, H⟩ := xI H
     have H' := ax H
     clear H
     go_wp2_with (first | (go_at_call 31; (with_reducible refine (spec_IsWord.calls k1 _ _ l0 t141 _ ?side1 ?side2 A6.out).mono ?_); (case side1 => exact xz HR0.out HB.out); (case side2 => exact HC0.out); rintro e w' ⟨rfl, ⟨nd, rfl⟩⟩))
     go_meet
     case rel => exact ⟨_, (t141), xr, H', ⟨by have := HK1.out; first | omega | exact Nat.le_refl _⟩, ⟨xR HO_3.out⟩, ⟨xb HB.out⟩⟩
    ·rw [if_neg c5] at H
     have c5b0 := decide_eq_false c5
     clear c5
     (first | rw [c5b0] | (simp only [i64_w, i32_w]; rw [c5b0]) | skip)
     have H' := ax H
     clear H
     go_wp2
     go_meet
     case rel => exact ⟨_, (false), xr, H', ⟨by have := HK1.out; first | omega | exact Nat.le_refl _⟩, ⟨xR HO_3.out⟩, ⟨xb HB.out⟩⟩
   case rest =>
    clear HC4
    (try clear c5); (try clear c5b0)
    obtain ⟨kq, x15_3, rfl, HA, HJ3, HO_3, HB⟩ := hcut
    cases kq with
    | zero => exact absurd HA.out (by simp [spec_StandardizeWord.j1])
    | succ kj3 =>
     have H := HA.out
     clear HA
     simp only [spec_StandardizeWord.j1] at H
     by_cases c7 : x15_3 = true
     ·subst c7
      rw [if_pos rfl] at H
      have H' := ax H
      clear H
      go_wp2
      go_loopg [5, 6] kj3 (fun kq v5 v6 w' => ∃ (x5_3 : Int) (x6_3 : Int), v5 = .int .i64 x5_3 ∧ v6 = .int .i64 x6_3 ∧ Aside0 (spec_StandardizeWord.l1 kq l0 x3_1 x4_1 x5_3 x6_3 = some r) ∧ Aside0 (kq ≤ kj3) ∧ Aside0 (Kd.R (Kd.int .i64) 3 w' w.heap.size (fun _ => True) u3 x3_1) ∧ Aside0 (Below w.heap.size w w'))
      case atStart => exact ⟨(1), (0), xr, xr, H', ⟨Nat.le_refl _⟩, ⟨xR HO_3.out⟩, ⟨xb HB.out⟩⟩
      case round =>
       clear H'
       (try clear c5); (try clear c5b0); (try clear c7)
       obtain ⟨x5_3, x6_3, rfl, rfl, HA, HK3, HO_3, HB⟩ := hrel
       cases gk with
       | zero => exact absurd HA.out (by simp [spec_StandardizeWord.l1])
       | succ k3 =>
        have H := HA.out
        clear HA
        simp only [spec_StandardizeWord.l1] at H
        by_cases c8 : x6_3 < (l0.length : Int)
        ·rw [if_pos c8] at H
         have c8b0 := decide_eq_true c8
         clear c8
         obtain ⟨c9b0, H⟩ := xq H
         obtain ⟨c10b0, H⟩ := xq H
         obtain ⟨c11b0, H⟩ := xq H
         by_cases c12 : (rd l0 x6_3) < (rd l0 x4_1)
         ·rw [if_pos c12] at H
          have c12b0 := decide_eq_true c12
          clear c12
          obtain ⟨t144, A13, H⟩ := xI H
          have H' := ax H
          clear H
          try go_wp2
          replace HO_3 := ax (Kd.R_drew HO_3.out); replace HB := ax (below_drew1 HB.out)
          have p142 : 0 ≤ (x6_3 : Int) := xd
          have q142 : x6_3 < (l0.length : Int) := xd
          obtain ⟨ad142, e142, hx142_0⟩ := Kd.at_int HR0.out x6_3 p142 q142
          have hw142_0 := hx142_0
          cases e142
          (try replace hx142_0 := (HB.out.cell (World.block_lt_of_cell? w _ hx142_0)).trans hx142_0)
          replace p142 := eq_true p142
          replace q142 := eq_true q142
          have p143 : 0 ≤ (x4_1 : Int) := xd
          have q143 : x4_1 < (l0.length : Int) := xd
          obtain ⟨ad143, e143, hx143_0⟩ := Kd.at_int HR0.out x4_1 p143 q143
          have hw143_0 := hx143_0
          obtain rfl : ad142 = ad143 := (by injection e143)
          (try replace hx143_0 := (HB.out.cell (World.block_lt_of_cell? w _ hx143_0)).trans hx143_0)
          replace p143 := eq_true p143
          replace q143 := eq_true q143
          refine start_ (n := 29) (S := fun w' => w'.cell? (ad142.add (x6_3).toNat) = some (.int .i64 (rd l0 x6_3)) ∧ w'.cell? (ad142.add (x4_1).toNat) = some (.int .i64 (rd l0 x4_1))) (ds := []) (xB 29 0) (by kernel_rfl) rfl (by kernel_rfl) ⟨((HB.out.cell (World.block_lt_of_cell? w _ hw142_0)).trans hw142_0), ((HB.out.cell (World.block_lt_of_cell? w _ hw143_0)).trans hw143_0)⟩ (fun hHeld => ?_); refine with_tabW spec_StandardizeWord.tab9 spec_StandardizeWord.bits9 (fun HT_ HW_ => ?_)
          generalize wr.drew = w14 at HO_3 HB hx142_0 hx143_0 hHeld ⊢
          refine pu (i := 0) (N := some 24) (xB 29 1) HT_.out ?_
          refine pu (i := 1) (N := some 25) (xB 29 3) HT_.out ?_
          refine pu (i := 2) (N := some 26) (xB 29 7) HT_.out ?_
          refine pu (i := 3) (N := some 27) (xB 29 15) HT_.out ?_
          refine pu (i := 5) (N := some 29) (xB 29 47) HT_.out ?_
          refine pu (i := 6) (N := some 30) (xB 29 111) HT_.out ?_
          refine pu (i := 7) (N := some 31) (xB 29 239) HT_.out ?_
          refine tk (i := 4) (N := some 28) (xB 29 255) HT_.out HW_.out hHeld ?_
          refine tk (i := 8) (N := some 32) (xB 29 511) HT_.out HW_.out hHeld ?_
          refine pu (i := 9) (N := some 33) (xB 29 1023) HT_.out ?_
          refine pu (i := 10) (N := some 34) (xB 29 2047) HT_.out ?_
          refine pn (i := 11) (N := some 35) (xB 29 4095) HT_.out ?_
          refine pn (i := 12) (N := some 36) (xB 29 8191) HT_.out ?_
          refine pn (i := 13) (N := some 37) (xB 29 16383) HT_.out ?_
          refine pn (i := 14) (N := some 38) (xB 29 32767) HT_.out ?_
          refine pn (i := 15) (N := some 39) (xB 29 65535) HT_.out ?_
          refine pn (i := 16) (N := some 40) (xB 29 131071) HT_.out ?_
          refine pn (i := 17) (N := some 41) (xB 29 262143) HT_.out ?_
          refine pn (i := 18) (N := some 42) (xB 29 524287) HT_.out ?_
          refine pn (i := 19) (N := some 43) (xB 29 1048575) HT_.out ?_
          refine pn (i := 20) (N := some 44) (xB 29 2097151) HT_.out ?_
          refine pn (i := 21) (N := some 45) (xB 29 4194303) HT_.out ?_
          refine pn (i := 22) (N := some 46) (xB 29 8388607) HT_.out ?_
          refine pn (i := 23) (N := some 47) (xB 29 16777215) HT_.out ?_
          refine pn (i := 24) (N := some 48) (xB 29 33554431) HT_.out ?_
          refine pu (i := 25) (N := some 49) (xB 29 67108863) HT_.out ?_
          refine one_ (i := 26) (N := some 50) (xB 29 134217727) rfl rfl (one_of HT_.out (by kernel_rfl)) (by decide) (fun K hK => ?_)
          refine goes_ Try.func27 (by kernel_rfl) rfl #[.bool true] (by rfl) rfl rfl xm ?_
          with_reducible refine (spec_l1Bit.calls true t144 _ A13.out).mono ?_
          rintro e w' ⟨rfl, ⟨nd, rfl⟩⟩
          refine ⟨_, rfl, ?_⟩
          refine hK.out _ _ ⟨((HB.out.cell (World.block_lt_of_cell? w _ hw142_0)).trans hw142_0), ((HB.out.cell (World.block_lt_of_cell? w _ hw143_0)).trans hw143_0)⟩ (fun hHeld => ?_)
          clear hK K
          refine nm ?_
          refine pu (i := 27) (N := some 51) (xB 29 268435455) HT_.out ?_
          refine pu (i := 28) (N := some 5) (xB 29 536870911) HT_.out ?_
          refine done_ (done_of HT_.out (by kernel_rfl)) ?_
          try go_wp2
          go_roundg k3
          case measure => have := HK1.out; have := HJ3.out; have := HK3.out; omega
          case rel => exact ⟨(wrap64 (x5_3 + t144)), (wrap64 (x6_3 + 1)), xr, xr, H', ⟨by have := HK1.out; have := HJ3.out; have := HK3.out; omega⟩, ⟨xR HO_3.out⟩, ⟨xb HB.out⟩⟩
         ·rw [if_neg c12] at H
          have c12b0 := decide_eq_false c12
          clear c12
          by_cases c15 : (rd l0 x6_3) = (rd l0 x4_1)
          ·rw [if_pos c15] at H
           have c15b0 : ((rd l0 x6_3) == (rd l0 x4_1)) = true := beq_iff_eq.mpr c15
           have c15b1 : ((rd l0 x6_3) != (rd l0 x4_1)) = false := bne_eq_false_iff_eq.mpr c15
           clear c15
           obtain ⟨t147, A16, H⟩ := xI H
           have H' := ax H
           clear H
           try go_wp2
           replace HO_3 := ax (Kd.R_drew HO_3.out); replace HB := ax (below_drew1 HB.out)
           have p142 : 0 ≤ (x6_3 : Int) := xd
           have q142 : x6_3 < (l0.length : Int) := xd
           obtain ⟨ad142, e142, hx142_0⟩ := Kd.at_int HR0.out x6_3 p142 q142
           have hw142_0 := hx142_0
           cases e142
           (try replace hx142_0 := (HB.out.cell (World.block_lt_of_cell? w _ hx142_0)).trans hx142_0)
           replace p142 := eq_true p142
           replace q142 := eq_true q142
           have p143 : 0 ≤ (x4_1 : Int) := xd
           have q143 : x4_1 < (l0.length : Int) := xd
           obtain ⟨ad143, e143, hx143_0⟩ := Kd.at_int HR0.out x4_1 p143 q143
           have hw143_0 := hx143_0
           obtain rfl : ad142 = ad143 := (by injection e143)
           (try replace hx143_0 := (HB.out.cell (World.block_lt_of_cell? w _ hx143_0)).trans hx143_0)
           replace p143 := eq_true p143
           replace q143 := eq_true q143
           have p145 : 0 ≤ (x6_3 : Int) := xd
           have q145 : x6_3 < (l0.length : Int) := xd
           obtain ⟨ad145, e145, hx145_0⟩ := Kd.at_int HR0.out x6_3 p145 q145
           have hw145_0 := hx145_0
           obtain rfl : ad142 = ad145 := (by injection e145)
           (try replace hx145_0 := (HB.out.cell (World.block_lt_of_cell? w _ hx145_0)).trans hx145_0)
           replace p145 := eq_true p145
           replace q145 := eq_true q145
           have p146 : 0 ≤ (x4_1 : Int) := xd
           have q146 : x4_1 < (l0.length : Int) := xd
           obtain ⟨ad146, e146, hx146_0⟩ := Kd.at_int HR0.out x4_1 p146 q146
           have hw146_0 := hx146_0
           obtain rfl : ad142 = ad146 := (by injection e146)
           (try replace hx146_0 := (HB.out.cell (World.block_lt_of_cell? w _ hx146_0)).trans hx146_0)
           replace p146 := eq_true p146
           replace q146 := eq_true q146
           refine start_ (n := 29) (S := fun w' => w'.cell? (ad142.add (x6_3).toNat) = some (.int .i64 (rd l0 x6_3)) ∧ w'.cell? (ad142.add (x4_1).toNat) = some (.int .i64 (rd l0 x4_1)) ∧ w'.cell? (ad142.add (x6_3).toNat) = some (.int .i64 (rd l0 x6_3)) ∧ w'.cell? (ad142.add (x4_1).toNat) = some (.int .i64 (rd l0 x4_1))) (ds := []) (xB 29 0) (by kernel_rfl) rfl (by kernel_rfl) ⟨((HB.out.cell (World.block_lt_of_cell? w _ hw142_0)).trans hw142_0), ((HB.out.cell (World.block_lt_of_cell? w _ hw143_0)).trans hw143_0), ((HB.out.cell (World.block_lt_of_cell? w _ hw145_0)).trans hw145_0), ((HB.out.cell (World.block_lt_of_cell? w _ hw146_0)).trans hw146_0)⟩ (fun hHeld => ?_); refine with_tabW spec_StandardizeWord.tab9 spec_StandardizeWord.bits9 (fun HT_ HW_ => ?_)
           generalize wr.drew = w17 at HO_3 HB hx142_0 hx143_0 hx145_0 hx146_0 hHeld ⊢
           refine pu (i := 0) (N := some 24) (xB 29 1) HT_.out ?_
           refine pu (i := 1) (N := some 25) (xB 29 3) HT_.out ?_
           refine pu (i := 2) (N := some 26) (xB 29 7) HT_.out ?_
           refine pu (i := 3) (N := some 27) (xB 29 15) HT_.out ?_
           refine pu (i := 5) (N := some 29) (xB 29 47) HT_.out ?_
           refine pu (i := 6) (N := some 30) (xB 29 111) HT_.out ?_
           refine pu (i := 7) (N := some 31) (xB 29 239) HT_.out ?_
           refine tk (i := 4) (N := some 28) (xB 29 255) HT_.out HW_.out hHeld ?_
           refine tk (i := 8) (N := some 32) (xB 29 511) HT_.out HW_.out hHeld ?_
           refine pu (i := 9) (N := some 33) (xB 29 1023) HT_.out ?_
           refine pu (i := 10) (N := some 34) (xB 29 2047) HT_.out ?_
           refine pu (i := 11) (N := some 35) (xB 29 4095) HT_.out ?_
           refine pu (i := 12) (N := some 36) (xB 29 8191) HT_.out ?_
           refine pu (i := 13) (N := some 37) (xB 29 16383) HT_.out ?_
           refine pu (i := 15) (N := some 39) (xB 29 49151) HT_.out ?_
           refine pu (i := 16) (N := some 40) (xB 29 114687) HT_.out ?_
           refine pu (i := 17) (N := some 41) (xB 29 245759) HT_.out ?_
           refine tk (i := 14) (N := some 38) (xB 29 262143) HT_.out HW_.out hHeld ?_
           refine tk (i := 18) (N := some 42) (xB 29 524287) HT_.out HW_.out hHeld ?_
           refine pu (i := 19) (N := some 43) (xB 29 1048575) HT_.out ?_
           refine pu (i := 20) (N := some 44) (xB 29 2097151) HT_.out ?_
           refine pu (i := 21) (N := some 45) (xB 29 4194303) HT_.out ?_
           refine pu (i := 22) (N := some 46) (xB 29 8388607) HT_.out ?_
           refine pu (i := 23) (N := some 47) (xB 29 16777215) HT_.out ?_
           refine pu (i := 24) (N := some 48) (xB 29 33554431) HT_.out ?_
           refine pu (i := 25) (N := some 49) (xB 29 67108863) HT_.out ?_
           refine one_ (i := 26) (N := some 50) (xB 29 134217727) rfl rfl (one_of HT_.out (by kernel_rfl)) (by decide) (fun K hK => ?_)
           refine goes_ Try.func27 (by kernel_rfl) rfl #[.bool (decide (x6_3 < x4_1))] (by rfl) rfl rfl xm ?_
           with_reducible refine (spec_l1Bit.calls (decide (x6_3 < x4_1)) t147 _ A16.out).mono ?_
           rintro e w' ⟨rfl, ⟨nd, rfl⟩⟩
           refine ⟨_, rfl, ?_⟩
           refine hK.out _ _ ⟨((HB.out.cell (World.block_lt_of_cell? w _ hw142_0)).trans hw142_0), ((HB.out.cell (World.block_lt_of_cell? w _ hw143_0)).trans hw143_0), ((HB.out.cell (World.block_lt_of_cell? w _ hw145_0)).trans hw145_0), ((HB.out.cell (World.block_lt_of_cell? w _ hw146_0)).trans hw146_0)⟩ (fun hHeld => ?_)
           clear hK K
           refine nm ?_
           refine pu (i := 27) (N := some 51) (xB 29 268435455) HT_.out ?_
           refine pu (i := 28) (N := some 5) (xB 29 536870911) HT_.out ?_
           refine done_ (done_of HT_.out (by kernel_rfl)) ?_
           try go_wp2
           go_roundg k3
           case measure => have := HK1.out; have := HJ3.out; have := HK3.out; omega
           case rel => exact ⟨(wrap64 (x5_3 + t147)), (wrap64 (x6_3 + 1)), xr, xr, H', ⟨by have := HK1.out; have := HJ3.out; have := HK3.out; omega⟩, ⟨xR HO_3.out⟩, ⟨xb HB.out⟩⟩
          ·rw [if_neg c15] at H
           have c15b0 : ((rd l0 x6_3) == (rd l0 x4_1)) = false := beq_eq_false_iff_ne.mpr c15
           have c15b1 : ((rd l0 x6_3) != (rd l0 x4_1)) = true := bne_iff_ne.mpr c15
           obtain ⟨t148, A18, H⟩ := xI H
           have H' := ax H
           clear H
           try go_wp2
           replace HO_3 := ax (Kd.R_drew HO_3.out); replace HB := ax (below_drew1 HB.out)
           have p142 : 0 ≤ (x6_3 : Int) := xd
           have q142 : x6_3 < (l0.length : Int) := xd
           obtain ⟨ad142, e142, hx142_0⟩ := Kd.at_int HR0.out x6_3 p142 q142
           have hw142_0 := hx142_0
           cases e142
           (try replace hx142_0 := (HB.out.cell (World.block_lt_of_cell? w _ hx142_0)).trans hx142_0)
           replace p142 := eq_true p142
           replace q142 := eq_true q142
           have p143 : 0 ≤ (x4_1 : Int) := xd
           have q143 : x4_1 < (l0.length : Int) := xd
           obtain ⟨ad143, e143, hx143_0⟩ := Kd.at_int HR0.out x4_1 p143 q143
           have hw143_0 := hx143_0
           obtain rfl : ad142 = ad143 := (by injection e143)
           (try replace hx143_0 := (HB.out.cell (World.block_lt_of_cell? w _ hx143_0)).trans hx143_0)
           replace p143 := eq_true p143
           replace q143 := eq_true q143
           have p145 : 0 ≤ (x6_3 : Int) := xd
           have q145 : x6_3 < (l0.length : Int) := xd
           obtain ⟨ad145, e145, hx145_0⟩ := Kd.at_int HR0.out x6_3 p145 q145
           have hw145_0 := hx145_0
           obtain rfl : ad142 = ad145 := (by injection e145)
           (try replace hx145_0 := (HB.out.cell (World.block_lt_of_cell? w _ hx145_0)).trans hx145_0)
           replace p145 := eq_true p145
           replace q145 := eq_true q145
           have p146 : 0 ≤ (x4_1 : Int) := xd
           have q146 : x4_1 < (l0.length : Int) := xd
           obtain ⟨ad146, e146, hx146_0⟩ := Kd.at_int HR0.out x4_1 p146 q146
           have hw146_0 := hx146_0
           obtain rfl : ad142 = ad146 := (by injection e146)
           (try replace hx146_0 := (HB.out.cell (World.block_lt_of_cell? w _ hx146_0)).trans hx146_0)
           replace p146 := eq_true p146
           replace q146 := eq_true q146
           refine start_ (n := 29) (S := fun w' => w'.cell? (ad142.add (x6_3).toNat) = some (.int .i64 (rd l0 x6_3)) ∧ w'.cell? (ad142.add (x4_1).toNat) = some (.int .i64 (rd l0 x4_1)) ∧ w'.cell? (ad142.add (x6_3).toNat) = some (.int .i64 (rd l0 x6_3)) ∧ w'.cell? (ad142.add (x4_1).toNat) = some (.int .i64 (rd l0 x4_1))) (ds := []) (xB 29 0) (by kernel_rfl) rfl (by kernel_rfl) ⟨((HB.out.cell (World.block_lt_of_cell? w _ hw142_0)).trans hw142_0), ((HB.out.cell (World.block_lt_of_cell? w _ hw143_0)).trans hw143_0), ((HB.out.cell (World.block_lt_of_cell? w _ hw145_0)).trans hw145_0), ((HB.out.cell (World.block_lt_of_cell? w _ hw146_0)).trans hw146_0)⟩ (fun hHeld => ?_); refine with_tabW spec_StandardizeWord.tab9 spec_StandardizeWord.bits9 (fun HT_ HW_ => ?_)
           generalize wr.drew = w19 at HO_3 HB hx142_0 hx143_0 hx145_0 hx146_0 hHeld ⊢
           refine pu (i := 0) (N := some 24) (xB 29 1) HT_.out ?_
           refine pu (i := 1) (N := some 25) (xB 29 3) HT_.out ?_
           refine pu (i := 2) (N := some 26) (xB 29 7) HT_.out ?_
           refine pu (i := 3) (N := some 27) (xB 29 15) HT_.out ?_
           refine pu (i := 5) (N := some 29) (xB 29 47) HT_.out ?_
           refine pu (i := 6) (N := some 30) (xB 29 111) HT_.out ?_
           refine pu (i := 7) (N := some 31) (xB 29 239) HT_.out ?_
           refine tk (i := 4) (N := some 28) (xB 29 255) HT_.out HW_.out hHeld ?_
           refine tk (i := 8) (N := some 32) (xB 29 511) HT_.out HW_.out hHeld ?_
           refine pu (i := 9) (N := some 33) (xB 29 1023) HT_.out ?_
           refine pu (i := 10) (N := some 34) (xB 29 2047) HT_.out ?_
           refine pu (i := 11) (N := some 35) (xB 29 4095) HT_.out ?_
           refine pu (i := 12) (N := some 36) (xB 29 8191) HT_.out ?_
           refine pu (i := 13) (N := some 37) (xB 29 16383) HT_.out ?_
           refine pu (i := 15) (N := some 39) (xB 29 49151) HT_.out ?_
           refine pu (i := 16) (N := some 40) (xB 29 114687) HT_.out ?_
           refine pu (i := 17) (N := some 41) (xB 29 245759) HT_.out ?_
           refine tk (i := 14) (N := some 38) (xB 29 262143) HT_.out HW_.out hHeld ?_
           refine tk (i := 18) (N := some 42) (xB 29 524287) HT_.out HW_.out hHeld ?_
           refine pu (i := 19) (N := some 43) (xB 29 1048575) HT_.out ?_
           refine pu (i := 20) (N := some 44) (xB 29 2097151) HT_.out ?_
           refine pn (i := 21) (N := some 45) (xB 29 4194303) HT_.out ?_
           refine pn (i := 22) (N := some 46) (xB 29 8388607) HT_.out ?_
           refine pn (i := 23) (N := some 47) (xB 29 16777215) HT_.out ?_
           refine pu (i := 24) (N := some 48) (xB 29 33554431) HT_.out ?_
           refine pu (i := 25) (N := some 49) (xB 29 67108863) HT_.out ?_
           refine one_ (i := 26) (N := some 50) (xB 29 134217727) rfl rfl (one_of HT_.out (by kernel_rfl)) (by decide) (fun K hK => ?_)
           refine goes_ Try.func27 (by kernel_rfl) rfl #[.bool false] (by rfl) rfl rfl xm ?_
           with_reducible refine (spec_l1Bit.calls false t148 _ A18.out).mono ?_
           rintro e w' ⟨rfl, ⟨nd, rfl⟩⟩
           refine ⟨_, rfl, ?_⟩
           refine hK.out _ _ ⟨((HB.out.cell (World.block_lt_of_cell? w _ hw142_0)).trans hw142_0), ((HB.out.cell (World.block_lt_of_cell? w _ hw143_0)).trans hw143_0), ((HB.out.cell (World.block_lt_of_cell? w _ hw145_0)).trans hw145_0), ((HB.out.cell (World.block_lt_of_cell? w _ hw146_0)).trans hw146_0)⟩ (fun hHeld => ?_)
           clear hK K
           refine nm ?_
           refine pu (i := 27) (N := some 51) (xB 29 268435455) HT_.out ?_
           refine pu (i := 28) (N := some 5) (xB 29 536870911) HT_.out ?_
           refine done_ (done_of HT_.out (by kernel_rfl)) ?_
           try go_wp2
           go_roundg k3
           case measure => have := HK1.out; have := HJ3.out; have := HK3.out; omega
           case rel => exact ⟨(wrap64 (x5_3 + t148)), (wrap64 (x6_3 + 1)), xr, xr, H', ⟨by have := HK1.out; have := HJ3.out; have := HK3.out; omega⟩, ⟨xR HO_3.out⟩, ⟨xb HB.out⟩⟩
        ·rw [if_neg c8] at H
         have c8b0 := decide_eq_false c8
         clear c8
         obtain ⟨c20, H⟩ := xp H
         have LMc20 := ax c20
         clear c20
         obtain ⟨y149, hy149⟩ : ∃ y_ : List Int, y_ = (x3_1 ++ [x5_3]) := ⟨_, rfl⟩
         replace H : (spec_StandardizeWord.l0 k3 l0 y149 (wrap64 (x4_1 + 1))) = some r := xv hy149 H
         have Ny149 := ax hy149
         clear hy149
         have H' := ax H
         clear H
         go_wp2_with (first | ((with_reducible refine gate_builtin (b := .append) (xs := #[.tmp 52, .tmp 54]) rfl ?_); at_builtin; refine Kd.R_append (Kd.int .i64) (w0 := w) w.heap.size rfl (.tmp 52) (.tmp 54) 24 3 (.int .i64 0) 8 rfl Try.underlying24 info3 rfl (by decide) (by omega) u3 x3_1 x5_3 [.int .i64 x5_3] (fun _ => True) (fun _ => False) rfl rfl ?aP (fun _ hk => hk.elim) ?aF ?aO ?aB ?aS ?aL ?_; (case aP => exact rfl); (case aB => exact (xb HB.out)); (case aF => exact (fun _ _ => trivial)); (case aO => exact (xR HO_3.out)); (case aS => exact (below_size (xb HB.out))); (case aL => have := LMc20.out; omega); intro v150 w21 ho hb hg hat; rw [← Ny149.out] at ho; have n0_ := ax (hb); have n1_ := ax (ho); clear HB; clear HO_3; have HB := n0_; have HO151 := n1_; clear n0_ n1_; clear ho hb hg hat))
         go_roundg k3
         case measure => have := HK1.out; have := HJ3.out; have := HK3.out; omega
         case rel => exact ⟨(y149), (wrap64 (x4_1 + 1)), xr, H', ⟨by have := HK1.out; have := HJ3.out; have := HK3.out; omega⟩, ⟨xR HO151.out⟩, ⟨xb HB.out⟩⟩
     ·replace c7 := Bool.eq_false_iff.mpr c7
      subst c7
      rw [if_neg (show ¬ (false = true) by decide)] at H
      obtain rfl := Option.some.inj H
      go_wp2
      go_ret
      exact ⟨_, xe, xR HO_3.out, xb HB.out⟩

end Go.Proofs.Ytnfcdaojglicfaa.PFnOperators
