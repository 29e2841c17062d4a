import Derived.Test.YtneipehcmmigeaaPFnExactSchurPolyx2
namespace Go.Proofs.Ytneipehcmmigeaa.PFnExactSchurPoly
open Go.RowKit Go.Proofs.YtneipehcmmigeaaW.PrintWords Go.Proofs.YtneipehcmmigeaaW.PrintLast Go.Proofs.YtneipehcmmigeaaW.PrintMore
set_option linter.unusedVariables false
set_option linter.unusedSimpArgs false
set_option maxHeartbeats 8000000
set_option maxRecDepth 100000
/-! ### zaq: function 81 -/
mutual
def zaq.l0 : Nat → List Int → Int → Int → Option (Bool)
 | 0, _, _, _ => none
 | k + 1, x0, x3, x4 => if x4 < (x0.length : Int) then (if 0 ≤ x4 then ((zch.f (rd x0 x4) 1 9).bind fun t141 => (if t141 = true then (if x4 > 0 then (if 0 ≤ (wrap64 (x4 - 1)) then (if (wrap64 (x4 - 1)) < (x0.length : Int) then (zaq.j1 k x0 x3 x4 (decide ((rd x0 x4) > (rd x0 (wrap64 (x4 - 1)))))) else (none)) else (none)) else (zaq.j1 k x0 x3 x4 false)) else (zaq.j1 k x0 x3 x4 true))) else (none)) else (some true)
def zaq.j1 : Nat → List Int → Int → Int → Bool → Option (Bool)
 | 0, _, _, _, _ => none
 | k + 1, x0, x3, x4, x32 => if x32 = true then (some false) else (if 0 ≤ x4 then (if x4 < (x0.length : Int) then (if (wrap64 (x3 + (rd x0 x4))) > 9 then (some false) else (zaq.l0 k x0 (wrap64 (x3 + (rd x0 x4))) (wrap64 (x4 + 1)))) else (none)) else (none))
end
def zaq.f (k : Nat) (l0 : List Int) : Option (Bool) := zaq.l0 k l0 0 0
theorem zaq.zaZ : ∀ k, (∀ y0 y1 y2, LeO (zaq.l0 k y0 y1 y2) (zaq.l0 (k + 1) y0 y1 y2)) ∧ (∀ y0 y1 y2 y3, LeO (zaq.j1 k y0 y1 y2 y3) (zaq.j1 (k + 1) y0 y1 y2 y3))
 | 0 => ⟨fun _ _ _ r h => by simp [zaq.l0] at h, fun _ _ _ _ r h => by simp [zaq.j1] at h⟩
 | k + 1 => by
  obtain ⟨ih0, ih1⟩ := zaq.zaZ k
  refine ⟨?_, ?_⟩ <;> intros <;> (first | unfold zaq.l0 | unfold zaq.j1) <;> repeat' with_reducible first | exact ih0 _ _ _ | exact ih1 _ _ _ _ | exact xl | refine LeO.ite ?_ ?_ | refine LeO.bind ?_ fun _ => ?_
theorem zaq.mono : ∀ a0 k, LeO (zaq.f k a0) (zaq.f (k + 1) a0) := by
 intro a0 k
 obtain ⟨ih0, ih1⟩ := zaq.zaZ k
 unfold zaq.f
 repeat' with_reducible first | exact ih0 _ _ _ | exact ih1 _ _ _ _ | exact xl | refine LeO.ite ?_ ?_ | refine LeO.bind ?_ fun _ => ?_
def zaq.T5 : Bool × List (List Nat × List Nat) := (true, [([], []), ([], []), ([0, 1], [0, 1]), ([2], [2]), ([3], [3]), ([4], [4]), ([5, 4], [5]), ([6], [6]), ([7, 6], [6, 7]), ([8, 6, 6], [6, 8]), ([9], [9]), ([9], [9]), ([10, 11, 9], [9, 10, 11]), ([12, 9], [9, 12]), ([9], [9]), ([9], [9]), ([15, 9], [9, 15]), ([14, 16, 9], [9, 14, 16]), ([17, 9], [9, 17]), ([13, 18, 9], [9, 13, 18]), ([9, 19, 6], [6, 9, 19]), ([6, 20], [6, 20])])
def zaq.B5 : List Nat := [0, 0, 3, 7, 15, 31, 63, 127, 255, 511, 1023, 1023, 4095, 8191, 1023, 1023, 33791, 115711, 246783, 524287, 1048575, 2097151]
theorem zaq.tab5 : rtab .any (opsOf Try.f81 5) = zaq.T5 := by kernel_rfl
theorem zaq.zhs : zcm zaq.T5.2 zaq.B5 = true := by kernel_rfl
theorem zaq.calls (k : Nat) (A0 : Option Addr) (c0 : Nat) (l0 : List Int) (r : Bool) (w : World) (hr0 : Kd.C (Kd.int .i64) w A0 l0.length l0) (hc0 : l0.length ≤ c0) (h : zaq.f k l0 = some r) :
  Calls Try.prog 81 #[.slice A0 l0.length c0] w fun e w' => e = .returned (.bool r) ∧ Below w.heap.size w w' := by
 have HR0 := ax hr0
 have HC0 := ax hc0
 clear hr0 hc0
 have HB := ax (Below.refl w.heap.size w)
 have H : (zaq.l0 k l0 0 0) = some r := h
 clear h
 have H' := ax H
 clear H
 go_enter Try.func81, Try.ntmps81
 go_wp2
 go_loopg [3, 4] k (fun kq v3 v4 w' => ∃ (x3_1 : Int) (x4_1 : Int), v3 = .int .i64 x3_1 ∧ v4 = .int .i64 x4_1 ∧ zao (zaq.l0 kq l0 x3_1 x4_1 = some r) ∧ zao (kq ≤ k) ∧ zao (Below w.heap.size w w'))
 case atStart => exact ⟨(0), (0), xr, xr, H', ⟨Nat.le_refl _⟩, ⟨xb HB.out⟩⟩
 case round =>
  clear H'
  obtain ⟨x3_1, x4_1, rfl, rfl, HA, HK1, HB⟩ := hrel
  cases gk with
  | zero => exact absurd HA.out (by simp [zaq.l0])
  | succ k1 =>
   have H := HA.out
   clear HA
   simp only [zaq.l0] at H
   by_cases c2 : x4_1 < (l0.length : Int)
   ·rw [if_pos c2] at H
    have c2b0 := decide_eq_true c2
    clear c2
    have HC3 := ax H
    clear H
    go_upto_region 5 with (fail)
    go_cut [32] (fun v32 wc => ∃ (kq : Nat) (x32_2 : Bool), v32 = .bool x32_2 ∧ zao (zaq.j1 kq l0 x3_1 x4_1 x32_2 = some r) ∧ zao (kq ≤ k1) ∧ zao (Below w.heap.size w wc))
    case first =>
     have H := HC3.out
     clear HC3
     obtain ⟨c4b0, H⟩ := xq H
     (first | rw [c4b0] | (simp only [zcd, zcw]; rw [c4b0]) | skip)
     obtain ⟨t141, A5, H⟩ := xI H
     by_cases c6 : t141 = true
     ·subst c6
      rw [if_pos rfl] at H
      by_cases c7 : x4_1 > 0
      ·rw [if_pos c7] at H
       have c7b0 : decide (0 < x4_1) = true := decide_eq_true c7
       clear c7
       obtain ⟨ji8, hji8⟩ : ∃ j_ : Int, (wrap64 (x4_1 - 1)) = j_ := ⟨_, rfl⟩
       replace H : (if 0 ≤ (ji8) then (if (ji8) < (l0.length : Int) then (zaq.j1 k1 l0 x3_1 x4_1 (decide ((rd l0 x4_1) > (rd l0 (ji8))))) else (none)) else (none)) = some r := by first | (rw [hji8] at H; exact H) | (simp only [hji8] at H ⊢; exact H)
       (try rw [hji8] at A5)
       have hji8w : (IntKind.i64.wrap (x4_1 - 1)) = ji8 := (zcd _).trans hji8
       obtain ⟨c9b0, H⟩ := xq H
       obtain ⟨c10b0, H⟩ := xq H
       have H' := ax H
       clear H
       try go_wp2
       replace HB := ax (zba HB.out)
       have p140 : 0 ≤ (x4_1 : Int) := xd
       have q140 : x4_1 < (l0.length : Int) := xd
       obtain ⟨ad140, e140, hx140_0⟩ := Kd.zbK HR0.out x4_1 p140 q140
       have hw140_0 := hx140_0
       cases e140
       (try replace hx140_0 := (HB.out.cell (World.block_lt_of_cell? w _ hx140_0)).trans hx140_0)
       replace p140 := eq_true p140
       replace q140 := eq_true q140
       have p142 : 0 ≤ (x4_1 : Int) := xd
       have q142 : x4_1 < (l0.length : Int) := xd
       obtain ⟨ad142, e142, hx142_0⟩ := Kd.zbK HR0.out x4_1 p142 q142
       have hw142_0 := hx142_0
       obtain rfl : ad140 = ad142 := (by injection e142)
       (try replace hx142_0 := (HB.out.cell (World.block_lt_of_cell? w _ hx142_0)).trans hx142_0)
       replace p142 := eq_true p142
       replace q142 := eq_true q142
       have p143 : 0 ≤ ((ji8) : Int) := xd
       have q143 : (ji8) < (l0.length : Int) := xd
       obtain ⟨ad143, e143, hx143_0⟩ := Kd.zbK HR0.out (ji8) p143 q143
       have hw143_0 := hx143_0
       obtain rfl : ad140 = ad143 := (by injection e143)
       (try replace hx143_0 := (HB.out.cell (World.block_lt_of_cell? w _ hx143_0)).trans hx143_0)
       replace p143 := eq_true p143
       replace q143 := eq_true q143
       refine zcj (n := 22) (S := fun w' => w'.cell? (ad140.add (x4_1).toNat) = some (.int .i64 (rd l0 x4_1)) ∧ w'.cell? (ad140.add (x4_1).toNat) = some (.int .i64 (rd l0 x4_1)) ∧ w'.cell? (ad140.add ((ji8)).toNat) = some (.int .i64 (rd l0 (ji8)))) (ds := []) (xB 22 0) (by kernel_rfl) rfl (by kernel_rfl) ⟨((HB.out.cell (World.block_lt_of_cell? w _ hw140_0)).trans hw140_0), ((HB.out.cell (World.block_lt_of_cell? w _ hw142_0)).trans hw142_0), ((HB.out.cell (World.block_lt_of_cell? w _ hw143_0)).trans hw143_0)⟩ (fun hHeld => ?_); refine zbD zaq.tab5 zaq.zhs (fun HT_ HW_ => ?_)
       generalize wr.drew = w11 at HB hx140_0 hx142_0 hx143_0 hHeld ⊢
       refine pu (i := 0) (N := some 11) (xB 22 1) HT_.out ?_
       refine pu (i := 1) (N := some 12) (xB 22 3) HT_.out ?_
       refine pu (i := 2) (N := some 13) (xB 22 7) HT_.out ?_
       refine tk (i := 3) (N := some 14) (xB 22 15) HT_.out HW_.out hHeld ?_
       refine one_ (i := 4) (N := some 15) (xB 22 31) rfl rfl (zbU HT_.out (by kernel_rfl)) (by decide) (fun K hK => ?_)
       refine zc6 Try.func38 (by kernel_rfl) rfl #[.int .i64 (rd l0 x4_1), .int .i64 1, .int .i64 9] (by rfl) rfl rfl xm ?_
       with_reducible refine (zch.calls (rd l0 x4_1) 1 9 true _ A5.out).mono ?_
       rintro e w' ⟨rfl, ⟨nd, rfl⟩⟩
       refine ⟨_, rfl, ?_⟩
       refine hK.out _ _ ⟨((HB.out.cell (World.block_lt_of_cell? w _ hw140_0)).trans hw140_0), ((HB.out.cell (World.block_lt_of_cell? w _ hw142_0)).trans hw142_0), ((HB.out.cell (World.block_lt_of_cell? w _ hw143_0)).trans hw143_0)⟩ (fun hHeld => ?_)
       clear hK K
       refine nm ?_
       refine pu (i := 5) (N := some 16) (xB 22 63) HT_.out ?_
       refine pu (i := 6) (N := some 17) (xB 22 127) HT_.out ?_
       refine pu (i := 7) (N := some 18) (xB 22 255) HT_.out ?_
       refine pu (i := 8) (N := some 19) (xB 22 511) HT_.out ?_
       refine pu (i := 9) (N := some 20) (xB 22 1023) HT_.out ?_
       refine pu (i := 10) (N := some 21) (xB 22 2047) HT_.out ?_
       refine pu (i := 11) (N := some 22) (xB 22 4095) HT_.out ?_
       refine pu (i := 12) (N := some 23) (xB 22 8191) HT_.out ?_
       refine pu (i := 14) (N := some 25) (xB 22 24575) HT_.out ?_
       refine pu (i := 15) (N := some 26) (xB 22 57343) HT_.out ?_
       refine pu (i := 16) (N := some 27) (xB 22 122879) HT_.out ?_
       refine pu (i := 17) (N := some 28) (xB 22 253951) HT_.out ?_
       refine tk (i := 13) (N := some 24) (xB 22 262143) HT_.out HW_.out hHeld ?_
       refine tk (i := 18) (N := some 29) (xB 22 524287) HT_.out HW_.out hHeld ?_
       refine pu (i := 19) (N := some 30) (xB 22 1048575) HT_.out ?_
       refine pu (i := 20) (N := some 31) (xB 22 2097151) HT_.out ?_
       refine pu (i := 21) (N := some 32) (xB 22 4194303) HT_.out ?_
       refine zcR (zb6 HT_.out (by kernel_rfl)) ?_
       try go_wp2
       go_meet
       case rel => exact ⟨_, (decide ((rd l0 x4_1) > (rd l0 (ji8)))), (by first | rfl | (simp; done) | (simp only [← hji8] <;> (first | rfl | simp)) | (simp [*]; done)), H', ⟨by have := HK1.out; first | omega | exact Nat.le_refl _⟩, ⟨xb HB.out⟩⟩
      ·rw [if_neg c7] at H
       have c7b0 : decide (0 < x4_1) = false := decide_eq_false c7
       clear c7
       have H' := ax H
       clear H
       try go_wp2
       replace HB := ax (zba HB.out)
       have p140 : 0 ≤ (x4_1 : Int) := xd
       have q140 : x4_1 < (l0.length : Int) := xd
       obtain ⟨ad140, e140, hx140_0⟩ := Kd.zbK HR0.out x4_1 p140 q140
       have hw140_0 := hx140_0
       cases e140
       (try replace hx140_0 := (HB.out.cell (World.block_lt_of_cell? w _ hx140_0)).trans hx140_0)
       replace p140 := eq_true p140
       replace q140 := eq_true q140
       refine zcj (n := 22) (S := fun w' => w'.cell? (ad140.add (x4_1).toNat) = some (.int .i64 (rd l0 x4_1))) (ds := []) (xB 22 0) (by kernel_rfl) rfl (by kernel_rfl) (((HB.out.cell (World.block_lt_of_cell? w _ hw140_0)).trans hw140_0)) (fun hHeld => ?_); refine zbD zaq.tab5 zaq.zhs (fun HT_ HW_ => ?_)
       generalize wr.drew = w12 at HB hx140_0 hHeld ⊢
       refine pu (i := 0) (N := some 11) (xB 22 1) HT_.out ?_
       refine pu (i := 1) (N := some 12) (xB 22 3) HT_.out ?_
       refine pu (i := 2) (N := some 13) (xB 22 7) HT_.out ?_
       refine tk (i := 3) (N := some 14) (xB 22 15) HT_.out HW_.out hHeld ?_
       refine one_ (i := 4) (N := some 15) (xB 22 31) rfl rfl (zbU HT_.out (by kernel_rfl)) (by decide) (fun K hK => ?_)
       refine zc6 Try.func38 (by kernel_rfl) rfl #[.int .i64 (rd l0 x4_1), .int .i64 1, .int .i64 9] (by rfl) rfl rfl xm ?_
       with_reducible refine (zch.calls (rd l0 x4_1) 1 9 true _ A5.out).mono ?_
       rintro e w' ⟨rfl, ⟨nd, rfl⟩⟩
       refine ⟨_, rfl, ?_⟩
       refine hK.out _ _ (((HB.out.cell (World.block_lt_of_cell? w _ hw140_0)).trans hw140_0)) (fun hHeld => ?_)
       clear hK K
       refine nm ?_
       refine pu (i := 5) (N := some 16) (xB 22 63) HT_.out ?_
       refine pu (i := 6) (N := some 17) (xB 22 127) HT_.out ?_
       refine pu (i := 7) (N := some 18) (xB 22 255) HT_.out ?_
       refine pu (i := 8) (N := some 19) (xB 22 511) HT_.out ?_
       refine pu (i := 9) (N := some 20) (xB 22 1023) HT_.out ?_
       refine pn (i := 10) (N := some 21) (xB 22 2047) HT_.out ?_
       refine pn (i := 11) (N := some 22) (xB 22 4095) HT_.out ?_
       refine pn (i := 12) (N := some 23) (xB 22 8191) HT_.out ?_
       refine pn (i := 13) (N := some 24) (xB 22 16383) HT_.out ?_
       refine pn (i := 14) (N := some 25) (xB 22 32767) HT_.out ?_
       refine pn (i := 15) (N := some 26) (xB 22 65535) HT_.out ?_
       refine pn (i := 16) (N := some 27) (xB 22 131071) HT_.out ?_
       refine pn (i := 17) (N := some 28) (xB 22 262143) HT_.out ?_
       refine pn (i := 18) (N := some 29) (xB 22 524287) HT_.out ?_
       refine pn (i := 19) (N := some 30) (xB 22 1048575) HT_.out ?_
       refine pu (i := 20) (N := some 31) (xB 22 2097151) HT_.out ?_
       refine pu (i := 21) (N := some 32) (xB 22 4194303) HT_.out ?_
       refine zcR (zb6 HT_.out (by kernel_rfl)) ?_
       try go_wp2
       go_meet
       case rel => exact ⟨_, (false), xr, H', ⟨by have := HK1.out; first | omega | exact Nat.le_refl _⟩, ⟨xb HB.out⟩⟩
     ·replace c6 := Bool.eq_false_iff.mpr c6
      subst c6
      rw [if_neg (show ¬ (false = true) by decide)] at H
      have H' := ax H
      clear H
      try go_wp2
      replace HB := ax (zba HB.out)
      have p140 : 0 ≤ (x4_1 : Int) := xd
      have q140 : x4_1 < (l0.length : Int) := xd
      obtain ⟨ad140, e140, hx140_0⟩ := Kd.zbK HR0.out x4_1 p140 q140
      have hw140_0 := hx140_0
      cases e140
      (try replace hx140_0 := (HB.out.cell (World.block_lt_of_cell? w _ hx140_0)).trans hx140_0)
      replace p140 := eq_true p140
      replace q140 := eq_true q140
      refine zcj (n := 22) (S := fun w' => w'.cell? (ad140.add (x4_1).toNat) = some (.int .i64 (rd l0 x4_1))) (ds := []) (xB 22 0) (by kernel_rfl) rfl (by kernel_rfl) (((HB.out.cell (World.block_lt_of_cell? w _ hw140_0)).trans hw140_0)) (fun hHeld => ?_); refine zbD zaq.tab5 zaq.zhs (fun HT_ HW_ => ?_)
      generalize wr.drew = w13 at HB hx140_0 hHeld ⊢
      refine pu (i := 0) (N := some 11) (xB 22 1) HT_.out ?_
      refine pu (i := 1) (N := some 12) (xB 22 3) HT_.out ?_
      refine pu (i := 2) (N := some 13) (xB 22 7) HT_.out ?_
      refine tk (i := 3) (N := some 14) (xB 22 15) HT_.out HW_.out hHeld ?_
      refine one_ (i := 4) (N := some 15) (xB 22 31) rfl rfl (zbU HT_.out (by kernel_rfl)) (by decide) (fun K hK => ?_)
      refine zc6 Try.func38 (by kernel_rfl) rfl #[.int .i64 (rd l0 x4_1), .int .i64 1, .int .i64 9] (by rfl) rfl rfl xm ?_
      with_reducible refine (zch.calls (rd l0 x4_1) 1 9 false _ A5.out).mono ?_
      rintro e w' ⟨rfl, ⟨nd, rfl⟩⟩
      refine ⟨_, rfl, ?_⟩
      refine hK.out _ _ (((HB.out.cell (World.block_lt_of_cell? w _ hw140_0)).trans hw140_0)) (fun hHeld => ?_)
      clear hK K
      refine nm ?_
      refine pu (i := 5) (N := some 16) (xB 22 63) HT_.out ?_
      refine pu (i := 6) (N := some 17) (xB 22 127) HT_.out ?_
      refine pn (i := 7) (N := some 18) (xB 22 255) HT_.out ?_
      refine pn (i := 8) (N := some 19) (xB 22 511) HT_.out ?_
      refine pn (i := 9) (N := some 20) (xB 22 1023) HT_.out ?_
      refine pn (i := 10) (N := some 21) (xB 22 2047) HT_.out ?_
      refine pn (i := 11) (N := some 22) (xB 22 4095) HT_.out ?_
      refine pn (i := 12) (N := some 23) (xB 22 8191) HT_.out ?_
      refine pn (i := 13) (N := some 24) (xB 22 16383) HT_.out ?_
      refine pn (i := 14) (N := some 25) (xB 22 32767) HT_.out ?_
      refine pn (i := 15) (N := some 26) (xB 22 65535) HT_.out ?_
      refine pn (i := 16) (N := some 27) (xB 22 131071) HT_.out ?_
      refine pn (i := 17) (N := some 28) (xB 22 262143) HT_.out ?_
      refine pn (i := 18) (N := some 29) (xB 22 524287) HT_.out ?_
      refine pn (i := 19) (N := some 30) (xB 22 1048575) HT_.out ?_
      refine pn (i := 20) (N := some 31) (xB 22 2097151) HT_.out ?_
      refine pu (i := 21) (N := some 32) (xB 22 4194303) HT_.out ?_
      refine zcR (zb6 HT_.out (by kernel_rfl)) ?_
      try go_wp2
      go_meet
      case rel => exact ⟨_, (true), xr, H', ⟨by have := HK1.out; first | omega | exact Nat.le_refl _⟩, ⟨xb HB.out⟩⟩
    case rest =>
     clear HC3
     (try clear c2); (try clear c2b0); (try clear c4); (try clear c4b0); (try clear c6); (try clear c7); (try clear c7b0); (try clear c9); (try clear c9b0); (try clear c10); (try clear c10b0); (try clear hx140_0); (try clear hx142_0); (try clear hx143_0); (try clear p140); (try clear p142); (try clear p143); (try clear q140); (try clear q142); (try clear q143)
     obtain ⟨kq, x32_2, rfl, HA, HJ2, HB⟩ := hcut
     cases kq with
     | zero => exact absurd HA.out (by simp [zaq.j1])
     | succ kj2 =>
      have H := HA.out
      clear HA
      simp only [zaq.j1] at H
      by_cases c14 : x32_2 = true
      ·subst c14
       rw [if_pos rfl] at H
       obtain rfl := Option.some.inj H
       go_wp2
       go_ret
       exact ⟨xe, xb HB.out⟩
      ·replace c14 := Bool.eq_false_iff.mpr c14
       subst c14
       rw [if_neg (show ¬ (false = true) by decide)] at H
       obtain ⟨c15b0, H⟩ := xq H
       obtain ⟨c16b0, H⟩ := xq H
       by_cases c17 : (wrap64 (x3_1 + (rd l0 x4_1))) > 9
       ·rw [if_pos c17] at H
        have c17b0 : decide (9 < (wrap64 (x3_1 + (rd l0 x4_1)))) = true := decide_eq_true c17
        clear c17
        obtain rfl := Option.some.inj H
        have p144 : 0 ≤ (x4_1 : Int) := xd
        have q144 : x4_1 < (l0.length : Int) := xd
        obtain ⟨ad144, e144, hx144_0⟩ := Kd.zbK HR0.out x4_1 p144 q144
        cases e144
        (try replace hx144_0 := (HB.out.cell (World.block_lt_of_cell? w _ hx144_0)).trans hx144_0)
        replace p144 := eq_true p144
        replace q144 := eq_true q144
        go_wp2
        go_ret
        exact ⟨xe, xb HB.out⟩
       ·rw [if_neg c17] at H
        have c17b0 : decide (9 < (wrap64 (x3_1 + (rd l0 x4_1)))) = false := decide_eq_false c17
        clear c17
        have H' := ax H
        clear H
        have p144 : 0 ≤ (x4_1 : Int) := xd
        have q144 : x4_1 < (l0.length : Int) := xd
        obtain ⟨ad144, e144, hx144_0⟩ := Kd.zbK HR0.out x4_1 p144 q144
        cases e144
        (try replace hx144_0 := (HB.out.cell (World.block_lt_of_cell? w _ hx144_0)).trans hx144_0)
        replace p144 := eq_true p144
        replace q144 := eq_true q144
        go_wp2
        go_roundg kj2
        case measure => have := HK1.out; have := HJ2.out; omega
        case rel => exact ⟨(wrap64 (x3_1 + (rd l0 x4_1))), (wrap64 (x4_1 + 1)), xr, xr, H', ⟨by have := HK1.out; have := HJ2.out; omega⟩, ⟨xb HB.out⟩⟩
   ·rw [if_neg c2] at H
    have c2b0 := decide_eq_false c2
    clear c2
    obtain rfl := Option.some.inj H
    go_wp2
    go_ret
    exact ⟨xe, xb HB.out⟩

end Go.Proofs.Ytneipehcmmigeaa.PFnExactSchurPoly
