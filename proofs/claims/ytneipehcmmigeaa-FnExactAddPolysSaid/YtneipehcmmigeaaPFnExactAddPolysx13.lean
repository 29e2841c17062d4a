import Derived.Test.YtneipehcmmigeaaPFnExactAddPolysx10
import Derived.Test.YtneipehcmmigeaaPFnExactAddPolysx12
namespace Go.Proofs.Ytneipehcmmigeaa.PFnExactAddPolys
open Go.RowKit Go.Proofs.YtneipehcmmigeaaW.PrintWords Go.Proofs.YtneipehcmmigeaaW.PrintLast Go.Proofs.YtneipehcmmigeaaW.PrintMore
set_option linter.unusedVariables false
set_option linter.unusedSimpArgs false
set_option maxHeartbeats 8000000
set_option maxRecDepth 100000
mutual
def za.l0 : Nat → List (S48) → Int → Int → Int → Option ((List (S48)))
 | 0, _, _, _, _ => none
 | k + 1, x0, x1, x10, x11 => if x10 < x11 then (if 0 ≤ (wrap64 ((IntKind.u64.wrap (wrap64 (x10 + x11))) / 2)) then (if (wrap64 ((IntKind.u64.wrap (wrap64 (x10 + x11))) / 2)) < (x0.length : Int) then (if 0 ≤ x1 then (if x1 < (x0.length : Int) then ((zaS.f k ((zab x0 (wrap64 ((IntKind.u64.wrap (wrap64 (x10 + x11))) / 2))).f0) ((zab x0 (wrap64 ((IntKind.u64.wrap (wrap64 (x10 + x11))) / 2))).f1) ((zab x0 x1).f0) ((zab x0 x1).f1)).bind fun t238 => (if t238 < 0 then (za.l0 k x0 x1 (wrap64 ((wrap64 ((IntKind.u64.wrap (wrap64 (x10 + x11))) / 2)) + 1)) x11) else (za.l0 k x0 x1 x10 (wrap64 ((IntKind.u64.wrap (wrap64 (x10 + x11))) / 2))))) else (none)) else (none)) else (none)) else (none)) else (za.l1 k x0 x10 x1)
def za.l1 : Nat → List (S48) → Int → Int → Option ((List (S48)))
 | 0, _, _, _ => none
 | k + 1, x0, x10, x13 => if x13 < (wrap64 (x10 - 1)) then (if 0 ≤ (wrap64 (x13 + 1)) then (if (wrap64 (x13 + 1)) < (x0.length : Int) then (if 0 ≤ x13 then (if x13 < (x0.length : Int) then (za.l1 k ((x0.set (x13 : Int).toNat (⟨(zab x0 (wrap64 (x13 + 1))).f0, (zab x0 (wrap64 (x13 + 1))).f1⟩ : S48)).set ((wrap64 (x13 + 1)) : Int).toNat (⟨(zab x0 x13).f0, (zab x0 x13).f1⟩ : S48)) x10 (wrap64 (x13 + 1))) else (none)) else (none)) else (none)) else (none)) else (some x0)
def za.l2 : Nat → List (S48) → Int → Int → Int → Option ((List (S48)))
 | 0, _, _, _, _ => none
 | k + 1, x0, x2, x14, x15 => if x14 < x15 then (if 0 ≤ x2 then (if x2 < (x0.length : Int) then (if 0 ≤ (wrap64 ((IntKind.u64.wrap (wrap64 (x14 + x15))) / 2)) then (if (wrap64 ((IntKind.u64.wrap (wrap64 (x14 + x15))) / 2)) < (x0.length : Int) then ((zaS.f k ((zab x0 x2).f0) ((zab x0 x2).f1) ((zab x0 (wrap64 ((IntKind.u64.wrap (wrap64 (x14 + x15))) / 2))).f0) ((zab x0 (wrap64 ((IntKind.u64.wrap (wrap64 (x14 + x15))) / 2))).f1)).bind fun t245 => (if t245 < 0 then (za.l2 k x0 x2 x14 (wrap64 ((IntKind.u64.wrap (wrap64 (x14 + x15))) / 2))) else (za.l2 k x0 x2 (wrap64 ((wrap64 ((IntKind.u64.wrap (wrap64 (x14 + x15))) / 2)) + 1)) x15))) else (none)) else (none)) else (none)) else (none)) else (za.l3 k x0 x14 x2)
def za.l3 : Nat → List (S48) → Int → Int → Option ((List (S48)))
 | 0, _, _, _ => none
 | k + 1, x0, x14, x17 => if x17 > x14 then (if 0 ≤ (wrap64 (x17 - 1)) then (if (wrap64 (x17 - 1)) < (x0.length : Int) then (if 0 ≤ x17 then (if x17 < (x0.length : Int) then (za.l3 k ((x0.set (x17 : Int).toNat (⟨(zab x0 (wrap64 (x17 - 1))).f0, (zab x0 (wrap64 (x17 - 1))).f1⟩ : S48)).set ((wrap64 (x17 - 1)) : Int).toNat (⟨(zab x0 x17).f0, (zab x0 x17).f1⟩ : S48)) x14 (wrap64 (x17 - 1))) else (none)) else (none)) else (none)) else (none)) else (some x0)
def za.j4 : Nat → List (S48) → Int → Int → Int → Int → Int → Int → Int → Option ((List (S48)))
 | 0, _, _, _, _, _, _, _, _ => none
 | k + 1, x0, x1, x2, x3, x18, x19, x20, x21 => za.l4 k x0 x1 x2 x3 x18 x19 x20 x21 (wrap64 (x19 - 1))
def za.l4 : Nat → List (S48) → Int → Int → Int → Int → Int → Int → Int → Int → Option ((List (S48)))
 | 0, _, _, _, _, _, _, _, _, _ => none
 | k + 1, x0, x1, x2, x3, x18, x19, x20, x21, x22 => if x20 < x21 then (if 0 ≤ (wrap64 (x22 - (wrap64 ((IntKind.u64.wrap (wrap64 (x20 + x21))) / 2)))) then (if (wrap64 (x22 - (wrap64 ((IntKind.u64.wrap (wrap64 (x20 + x21))) / 2)))) < (x0.length : Int) then (if 0 ≤ (wrap64 ((IntKind.u64.wrap (wrap64 (x20 + x21))) / 2)) then (if (wrap64 ((IntKind.u64.wrap (wrap64 (x20 + x21))) / 2)) < (x0.length : Int) then ((zaS.f k ((zab x0 (wrap64 (x22 - (wrap64 ((IntKind.u64.wrap (wrap64 (x20 + x21))) / 2))))).f0) ((zab x0 (wrap64 (x22 - (wrap64 ((IntKind.u64.wrap (wrap64 (x20 + x21))) / 2))))).f1) ((zab x0 (wrap64 ((IntKind.u64.wrap (wrap64 (x20 + x21))) / 2))).f0) ((zab x0 (wrap64 ((IntKind.u64.wrap (wrap64 (x20 + x21))) / 2))).f1)).bind fun t252 => (if t252 < 0 then (za.l4 k x0 x1 x2 x3 x18 x19 x20 (wrap64 ((IntKind.u64.wrap (wrap64 (x20 + x21))) / 2)) x22) else (za.l4 k x0 x1 x2 x3 x18 x19 (wrap64 ((wrap64 ((IntKind.u64.wrap (wrap64 (x20 + x21))) / 2)) + 1)) x21 x22))) else (none)) else (none)) else (none)) else (none)) else (if x20 < x2 then (za.j6 k x0 x1 x2 x3 x18 x20 (wrap64 (x19 - x20)) (decide (x2 < (wrap64 (x19 - x20))))) else (za.j6 k x0 x1 x2 x3 x18 x20 (wrap64 (x19 - x20)) false))
def za.j6 : Nat → List (S48) → Int → Int → Int → Int → Int → Int → Bool → Option ((List (S48)))
 | 0, _, _, _, _, _, _, _, _ => none
 | k + 1, x0, x1, x2, x3, x18, x20, x24, x185 => if x185 = true then ((zal.f k x0 x20 x2 x24).bind fun t253 => (za.j7 k t253 x1 x3 x18 x20 x24)) else (za.j7 k x0 x1 x3 x18 x20 x24)
def za.j7 : Nat → List (S48) → Int → Int → Int → Int → Int → Option ((List (S48)))
 | 0, _, _, _, _, _, _ => none
 | k + 1, x0, x1, x3, x18, x20, x24 => if x1 < x20 then (za.j8 k x0 x1 x3 x18 x20 x24 (decide (x20 < x18))) else (za.j8 k x0 x1 x3 x18 x20 x24 false)
def za.j8 : Nat → List (S48) → Int → Int → Int → Int → Int → Bool → Option ((List (S48)))
 | 0, _, _, _, _, _, _, _ => none
 | k + 1, x0, x1, x3, x18, x20, x24, x199 => if x199 = true then ((za.f k x0 x1 x20 x18).bind fun t254 => (if x18 < x24 then (if x24 < x3 then ((za.f k t254 x18 x24 x3).bind fun t255 => (some t255)) else (some t254)) else (some t254))) else (if x18 < x24 then (if x24 < x3 then ((za.f k x0 x18 x24 x3).bind fun t256 => (some t256)) else (some x0)) else (some x0))
def za.f : Nat → List (S48) → Int → Int → Int → Option ((List (S48)))
 | 0, _, _, _, _ => none
 | k + 1, l0, a1, a2, a3 => if (wrap64 (a2 - a1)) = 1 then (za.l0 k l0 a1 a2 a3) else (if (wrap64 (a3 - a2)) = 1 then (za.l2 k l0 a2 a1 a2) else (if a2 > (wrap64 ((IntKind.u64.wrap (wrap64 (a1 + a3))) / 2)) then (za.j4 k l0 a1 a2 a3 (wrap64 ((IntKind.u64.wrap (wrap64 (a1 + a3))) / 2)) (wrap64 ((wrap64 ((IntKind.u64.wrap (wrap64 (a1 + a3))) / 2)) + a2)) (wrap64 ((wrap64 ((wrap64 ((IntKind.u64.wrap (wrap64 (a1 + a3))) / 2)) + a2)) - a3)) (wrap64 ((IntKind.u64.wrap (wrap64 (a1 + a3))) / 2))) else (za.j4 k l0 a1 a2 a3 (wrap64 ((IntKind.u64.wrap (wrap64 (a1 + a3))) / 2)) (wrap64 ((wrap64 ((IntKind.u64.wrap (wrap64 (a1 + a3))) / 2)) + a2)) a1 a2)))
end
theorem za.za8 : ∀ k, (∀ y0 y1 y2 y3, LeO (za.f k y0 y1 y2 y3) (za.f (k + 1) y0 y1 y2 y3)) ∧ (∀ y0 y1 y2 y3, LeO (za.l0 k y0 y1 y2 y3) (za.l0 (k + 1) y0 y1 y2 y3)) ∧ (∀ y0 y1 y2, LeO (za.l1 k y0 y1 y2) (za.l1 (k + 1) y0 y1 y2)) ∧ (∀ y0 y1 y2 y3, LeO (za.l2 k y0 y1 y2 y3) (za.l2 (k + 1) y0 y1 y2 y3)) ∧ (∀ y0 y1 y2, LeO (za.l3 k y0 y1 y2) (za.l3 (k + 1) y0 y1 y2)) ∧ (∀ y0 y1 y2 y3 y4 y5 y6 y7, LeO (za.j4 k y0 y1 y2 y3 y4 y5 y6 y7) (za.j4 (k + 1) y0 y1 y2 y3 y4 y5 y6 y7)) ∧ (∀ y0 y1 y2 y3 y4 y5 y6 y7 y8, LeO (za.l4 k y0 y1 y2 y3 y4 y5 y6 y7 y8) (za.l4 (k + 1) y0 y1 y2 y3 y4 y5 y6 y7 y8)) ∧ (∀ y0 y1 y2 y3 y4 y5 y6 y7, LeO (za.j6 k y0 y1 y2 y3 y4 y5 y6 y7) (za.j6 (k + 1) y0 y1 y2 y3 y4 y5 y6 y7)) ∧ (∀ y0 y1 y2 y3 y4 y5, LeO (za.j7 k y0 y1 y2 y3 y4 y5) (za.j7 (k + 1) y0 y1 y2 y3 y4 y5)) ∧ (∀ y0 y1 y2 y3 y4 y5 y6, LeO (za.j8 k y0 y1 y2 y3 y4 y5 y6) (za.j8 (k + 1) y0 y1 y2 y3 y4 y5 y6))
 | 0 => ⟨fun _ _ _ _ r h => by simp [za.f] at h, fun _ _ _ _ r h => by simp [za.l0] at h, fun _ _ _ r h => by simp [za.l1] at h, fun _ _ _ _ r h => by simp [za.l2] at h, fun _ _ _ r h => by simp [za.l3] at h, fun _ _ _ _ _ _ _ _ r h => by simp [za.j4] at h, fun _ _ _ _ _ _ _ _ _ r h => by simp [za.l4] at h, fun _ _ _ _ _ _ _ _ r h => by simp [za.j6] at h, fun _ _ _ _ _ _ r h => by simp [za.j7] at h, fun _ _ _ _ _ _ _ r h => by simp [za.j8] at h⟩
 | k + 1 => by
  obtain ⟨ih0, ih1, ih2, ih3, ih4, ih5, ih6, ih7, ih8, ih9⟩ := za.za8 k
  refine ⟨?_, ?_, ?_, ?_, ?_, ?_, ?_, ?_, ?_, ?_⟩ <;> intros <;> (first | unfold za.f | unfold za.l0 | unfold za.l1 | unfold za.l2 | unfold za.l3 | unfold za.j4 | unfold za.l4 | unfold za.j6 | unfold za.j7 | unfold za.j8) <;> repeat' with_reducible first | exact ih0 _ _ _ _ | exact ih1 _ _ _ _ | exact ih2 _ _ _ | exact ih3 _ _ _ _ | exact ih4 _ _ _ | exact ih5 _ _ _ _ _ _ _ _ | exact ih6 _ _ _ _ _ _ _ _ _ | exact ih7 _ _ _ _ _ _ _ _ | exact ih8 _ _ _ _ _ _ | exact ih9 _ _ _ _ _ _ _ | exact zaS.mono _ _ _ _ _ | exact zal.mono _ _ _ _ _ | exact xl | refine LeO.ite ?_ ?_ | refine LeO.bind ?_ fun _ => ?_
theorem za.mono : ∀ a0 a1 a2 a3 k, LeO (za.f k a0 a1 a2 a3) (za.f (k + 1) a0 a1 a2 a3) := by
 intro a0 a1 a2 a3 k
 obtain ⟨ih0, ih1, ih2, ih3, ih4, ih5, ih6, ih7, ih8, ih9⟩ := za.za8 k
 exact ih0 a0 a1 a2 a3
def za.T5 : Bool × List (List Nat × List Nat) := (true, [([], []), ([], []), ([], []), ([1, 2], [1, 2]), ([3], [3]), ([], []), ([], []), ([5, 6], [5, 6]), ([7], [7]), ([0, 4, 8], [0, 4, 8]), ([9], [9])])
def za.B5 : List Nat := [0, 0, 0, 6, 14, 0, 0, 96, 224, 511, 1023]
theorem za.tab5 : rtab .any (opsOf Try.f91 5) = za.T5 := by kernel_rfl
theorem za.zjP : zbS za.T5.2 za.B5 = true := by kernel_rfl
def za.T11 : Bool × List (List Nat × List Nat) := (true, [([], []), ([], []), ([], []), ([], []), ([3], [3]), ([], []), ([], []), ([6], [6]), ([5, 7], [5, 7]), ([8], [8]), ([], []), ([], []), ([10, 11], [10, 11]), ([12], [12]), ([0, 1, 0, 1, 5, 6, 7, 8, 9, 13], [0, 1]), ([14, 9, 0, 1, 5, 6, 7, 8, 9, 13], [9, 14]), ([2, 4, 0, 1, 2, 3, 4, 5, 6, 7, 8, 9, 10, 11, 12, 13, 14, 15], [2, 4]), ([16, 13, 15, 0, 1, 2, 3, 4, 5, 6, 7, 8, 9, 10, 11, 12, 13, 14, 15], [13, 16])])
def za.B11 : List Nat := [0, 0, 0, 0, 8, 0, 0, 64, 224, 480, 0, 0, 3072, 7168, 16355, 32739, 65535, 131071]
theorem za.zi9 : rtab .any (opsOf Try.f91 11) = za.T11 := by kernel_rfl
theorem za.zhK : zbS za.T11.2 za.B11 = true := by kernel_rfl
def za.T17 : Bool × List (List Nat × List Nat) := (true, [([], []), ([], []), ([], []), ([1, 2], [1, 2]), ([3], [3]), ([], []), ([], []), ([5, 6], [5, 6]), ([7], [7]), ([0, 4, 8], [0, 4, 8]), ([9], [9]), ([10], [10])])
def za.B17 : List Nat := [0, 0, 0, 6, 14, 0, 0, 96, 224, 511, 1023, 2047]
theorem za.zjG : rtab .any (opsOf Try.f91 17) = za.T17 := by kernel_rfl
theorem za.ziQ : zbS za.T17.2 za.B17 = true := by kernel_rfl
def za.T23 : Bool × List (List Nat × List Nat) := (true, [([], []), ([], []), ([], []), ([], []), ([3], [3]), ([], []), ([], []), ([6], [6]), ([5, 7], [5, 7]), ([8], [8]), ([], []), ([], []), ([10, 11], [10, 11]), ([12], [12]), ([0, 1, 0, 1, 5, 6, 7, 8, 9, 13], [0, 1]), ([14, 9, 0, 1, 5, 6, 7, 8, 9, 13], [9, 14]), ([2, 4, 0, 1, 2, 3, 4, 5, 6, 7, 8, 9, 10, 11, 12, 13, 14, 15], [2, 4]), ([16, 13, 15, 0, 1, 2, 3, 4, 5, 6, 7, 8, 9, 10, 11, 12, 13, 14, 15], [13, 16])])
def za.B23 : List Nat := [0, 0, 0, 0, 8, 0, 0, 64, 224, 480, 0, 0, 3072, 7168, 16355, 32739, 65535, 131071]
theorem za.zkk : rtab .any (opsOf Try.f91 23) = za.T23 := by kernel_rfl
theorem za.zjR : zbS za.T23.2 za.B23 = true := by kernel_rfl
def za.T35 : Bool × List (List Nat × List Nat) := (true, [([], []), ([], []), ([], []), ([], []), ([2, 3], [2, 3]), ([1, 4], [1, 4]), ([5], [5]), ([], []), ([], []), ([7, 8], [7, 8]), ([9], [9]), ([0, 6, 10], [0, 6, 10]), ([11], [11]), ([12], [12])])
def za.B35 : List Nat := [0, 0, 0, 0, 12, 30, 62, 0, 0, 384, 896, 2047, 4095, 8191]
theorem za.zjF : rtab .any (opsOf Try.f91 35) = za.T35 := by kernel_rfl
theorem za.ziP : zbS za.T35.2 za.B35 = true := by kernel_rfl
theorem za.calls (k : Nat) : ∀ (P0_ Z0_ : Nat → Prop) (u9000_ : Value) (l0 : List (S48)) (a1 : Int) (a2 : Int) (a3 : Int)  (r : List (S48)) (w0 w : World) (hB : Below w0.heap.size w0 w) (ho0 : Kd.N k48 48 w w0.heap.size P0_ u9000_ l0) (hz0 : ∀ k_, u9000_.ownBlock = some k_ → Z0_ k_) (h : za.f k l0 a1 a2 a3 = some r),
  Calls Try.prog 91 #[u9000_, .int .i64 a1, .int .i64 a2, .int .i64 a3, .func (.func 60) #[] #[]] w fun e w' => e = .returned (.tuple #[]) ∧ Kd.N k48 48 w' w0.heap.size (fun k_ => P0_ k_) u9000_ r ∧ Below w0.heap.size w0 w' ∧ Kept w w' (fun k_ => Z0_ k_) := by
 induction k using Nat.strongRecOn with
 | _ k ih =>
 intro P0_ Z0_ u9000_ l0 a1 a2 a3 r w0 w hB ho0 hz0 h
 cases k with
 | zero => exact absurd h (by simp [za.f])
 | succ k =>
 simp only [za.f] at h
 have hu48 := Try.underlying48
 have HO0 := ax (show Kd.N k48 48 w w0.heap.size (fun k_ => P0_ k_) u9000_ l0 from Kd.zbe ho0 (fun k_ hk => hk))
 have HZ0 := ax hz0
 clear hz0
 have HK := ax (Kept.refl w (fun k_ => Z0_ k_))
 have HW0 := ax hB.size
 have HB := ax hB
 clear hB
 have H : (if (wrap64 (a2 - a1)) = 1 then (za.l0 k l0 a1 a2 a3) else (if (wrap64 (a3 - a2)) = 1 then (za.l2 k l0 a2 a1 a2) else (if a2 > (wrap64 ((IntKind.u64.wrap (wrap64 (a1 + a3))) / 2)) then (za.j4 k l0 a1 a2 a3 (wrap64 ((IntKind.u64.wrap (wrap64 (a1 + a3))) / 2)) (wrap64 ((wrap64 ((IntKind.u64.wrap (wrap64 (a1 + a3))) / 2)) + a2)) (wrap64 ((wrap64 ((wrap64 ((IntKind.u64.wrap (wrap64 (a1 + a3))) / 2)) + a2)) - a3)) (wrap64 ((IntKind.u64.wrap (wrap64 (a1 + a3))) / 2))) else (za.j4 k l0 a1 a2 a3 (wrap64 ((IntKind.u64.wrap (wrap64 (a1 + a3))) / 2)) (wrap64 ((wrap64 ((IntKind.u64.wrap (wrap64 (a1 + a3))) / 2)) + a2)) a1 a2)))) = some r := h
 clear h
 by_cases c6 : (wrap64 (a2 - a1)) = 1
 ·as_aux_lemma =>
  rw [if_pos c6] at H
  have c6b0 : ((wrap64 (a2 - a1)) == 1) = true := beq_iff_eq.mpr c6
  have c6b1 : ((wrap64 (a2 - a1)) != 1) = false := bne_eq_false_iff_eq.mpr c6
  clear c6
  have H' := ax H
  clear H
  go_enter Try.func91, Try.ntmps91
  go_wp2
  (try simp only [Act.put, List.setIfInBounds_toArray, List.set_cons_zero, List.set_cons_succ])
  go_loopg [10, 11] k (fun kq v10 v11 w' => ∃ (x10_1 : Int) (x11_1 : Int), v10 = .int .i64 x10_1 ∧ v11 = .int .i64 x11_1 ∧ zap (za.l0 kq l0 a1 x10_1 x11_1 = some r) ∧ zap (kq ≤ k) ∧ zap (Kd.N k48 48 w' w0.heap.size (fun k_ => P0_ k_) u9000_ l0) ∧ zap (Kept w w' (fun k_ => Z0_ k_)) ∧ zap (Below w0.heap.size w0 w'))
  case atStart => exact ⟨(a2), (a3), xr, xr, H', ⟨Nat.le_refl _⟩, ⟨xN HO0.out⟩, ⟨by repeat (first | (with_reducible first | exact HK.out | apply Kept.alloc | apply Kept.drewN | apply Kept.drew) | exact HK.out)⟩, ⟨xb HB.out⟩⟩
  case round =>
   clear H'
   (try clear c6); (try clear c6b0); (try clear c6b1)
   obtain ⟨x10_1, x11_1, rfl, rfl, HA, HK1, HO_0, HK, HB⟩ := hrel
   cases gk with
   | zero => exact absurd HA.out (by simp [za.l0])
   | succ k1 =>
    have H := HA.out
    clear HA
    simp only [za.l0] at H
    by_cases c7 : x10_1 < x11_1
    ·as_aux_lemma =>
     rw [if_pos c7] at H
     have c7b0 := decide_eq_true c7
     clear c7
     obtain ⟨ji8, hji8⟩ : ∃ j_ : Int, (wrap64 ((IntKind.u64.wrap (wrap64 (x10_1 + x11_1))) / 2)) = j_ := ⟨_, rfl⟩
     replace H : (if 0 ≤ (ji8) then (if (ji8) < (l0.length : Int) then (if 0 ≤ a1 then (if a1 < (l0.length : Int) then ((zaS.f k1 ((zab l0 (ji8)).f0) ((zab l0 (ji8)).f1) ((zab l0 a1).f0) ((zab l0 a1).f1)).bind fun t238 => (if t238 < 0 then (za.l0 k1 l0 a1 (wrap64 ((ji8) + 1)) x11_1) else (za.l0 k1 l0 a1 x10_1 ji8))) else (none)) else (none)) else (none)) else (none)) = some r := by first | (rw [hji8] at H; exact H) | (simp only [hji8] at H ⊢; exact H)
     have hji8w : (IntKind.i64.wrap ((IntKind.u64.wrap (wrap64 (x10_1 + x11_1))) / 2)) = ji8 := (zbZ _).trans hji8
     by_cases c9 : 0 ≤ (ji8)
     case neg => (rw [if_neg c9] at H; exact absurd H (by simp))
     rw [if_pos c9] at H
     have c9b0 := decide_eq_true c9
     clear c9
     by_cases c10 : (ji8) < (l0.length : Int)
     case neg => (rw [if_neg c10] at H; exact absurd H (by simp))
     rw [if_pos c10] at H
     have c10b0 := decide_eq_true c10
     clear c10
     by_cases c11 : 0 ≤ a1
     case neg => (rw [if_neg c11] at H; exact absurd H (by simp))
     rw [if_pos c11] at H
     have c11b0 := decide_eq_true c11
     clear c11
     by_cases c12 : a1 < (l0.length : Int)
     case neg => (rw [if_neg c12] at H; exact absurd H (by simp))
     rw [if_pos c12] at H
     have c12b0 := decide_eq_true c12
     clear c12
     obtain ⟨t238, A13, H⟩ := xI H
     by_cases c14 : t238 < 0
     ·as_aux_lemma =>
      rw [if_pos c14] at H
      have c14b0 := decide_eq_true c14
      clear c14
      have H' := ax H
      clear H
      try go_wp2
      replace HO_0 := ax (Kd.zbp HO_0.out); replace HK := ax (Kept.drew HK.out); replace HB := ax (zaN HB.out)
      obtain ⟨Ao16, co16, eo16⟩ := Kd.zbt HO_0.out
      (first | subst eo16 | (injection eo16 with f1_ f2_ f3_; have f4_ := f1_.symm; have f5_ := f3_.symm; clear f1_ f2_ f3_; subst f4_; subst f5_))
      have p236 : 0 ≤ ((ji8) : Int) := xd
      have q236 : (ji8) < (l0.length : Int) := xd
      obtain ⟨ad236, A236_0, c236_0, e236, hx236_0, hx236_1, hl236_0, hi236_0⟩ := zbs (Kd.zaE HO_0.out).2.2 (ji8) p236 q236
      cases e236
      obtain ⟨ce236, hce236, hMe236, hcc236⟩ := Kd.zco HO_0.out z48 (ji8) p236 (by first | exact q236 | exact xd | (have e_ := (Kd.zaE HO_0.out).1; omega))
      obtain ⟨ua236_0, uc236_0, rfl, ul236_0, ge236_0⟩ := zaX hMe236
      have hv236_0 := hcc236 0 _ rfl
      rw [Nat.add_zero] at hv236_0
      replace hv236_0 := Option.some.inj (hv236_0.symm.trans hx236_0)
      injection hv236_0 with hva_ hvn_ hvc_
      rw [hva_] at ge236_0
      rw [hvc_] at ul236_0
      have HL236_0 := ax (show Kd.V (Kd.int .i64) 3 _ w0.heap.size _ _ ((zab l0 (ji8)).f0) from Kd.V_mk ul236_0 ge236_0)
      clear hva_ hvn_ hvc_ ge236_0 ul236_0 hcc236 hce236
      have HR236_0 := ax hi236_0
      have HC236_0 := ax hl236_0
      clear hi236_0 hl236_0
      replace p236 := eq_true p236
      replace q236 := eq_true q236
      have p237 : 0 ≤ (a1 : Int) := xd
      have q237 : a1 < (l0.length : Int) := xd
      obtain ⟨ad237, A237_0, c237_0, e237, hx237_0, hx237_1, hl237_0, hi237_0⟩ := zbs (Kd.zaE HO_0.out).2.2 a1 p237 q237
      obtain rfl : ad236 = ad237 := (by injection e237)
      obtain ⟨ce237, hce237, hMe237, hcc237⟩ := Kd.zco HO_0.out z48 a1 p237 (by first | exact q237 | exact xd | (have e_ := (Kd.zaE HO_0.out).1; omega))
      obtain ⟨ua237_0, uc237_0, rfl, ul237_0, ge237_0⟩ := zaX hMe237
      have hv237_0 := hcc237 0 _ rfl
      rw [Nat.add_zero] at hv237_0
      replace hv237_0 := Option.some.inj (hv237_0.symm.trans hx237_0)
      injection hv237_0 with hva_ hvn_ hvc_
      rw [hva_] at ge237_0
      rw [hvc_] at ul237_0
      have HL237_0 := ax (show Kd.V (Kd.int .i64) 3 _ w0.heap.size _ _ ((zab l0 a1).f0) from Kd.V_mk ul237_0 ge237_0)
      clear hva_ hvn_ hvc_ ge237_0 ul237_0 hcc237 hce237
      have HR237_0 := ax hi237_0
      have HC237_0 := ax hl237_0
      clear hi237_0 hl237_0
      replace p237 := eq_true p237
      replace q237 := eq_true q237
      refine zbJ (n := 11) (S := fun w' => w'.cell? (ad236.add (((ji8)).toNat * 2)) = some (.slice A236_0 ((zab l0 (ji8)).f0).length c236_0) ∧ w'.cell? ⟨(ad236.add (((ji8)).toNat * 2)).block, (ad236.add (((ji8)).toNat * 2)).off + 1, none⟩ = some (.int .i64 ((zab l0 (ji8)).f1)) ∧ w'.cell? (ad236.add ((a1).toNat * 2)) = some (.slice A237_0 ((zab l0 a1).f0).length c237_0) ∧ w'.cell? ⟨(ad236.add ((a1).toNat * 2)).block, (ad236.add ((a1).toNat * 2)).off + 1, none⟩ = some (.int .i64 ((zab l0 a1).f1))) (ds := []) (xB 11 0) (by kernel_rfl) rfl (by kernel_rfl) ⟨hx236_0, hx236_1, hx237_0, hx237_1⟩ (fun hHeld => ?_); refine zbg za.tab5 za.zjP (fun HT_ HW_ => ?_)
      generalize wr.drew = w15 at HO_0 HK HB HL236_0 HL237_0 HR236_0 HR237_0 hx236_0 hx236_1 hx237_0 hx237_1 hHeld ⊢
      (try simp [go_sem, World.setCells, show (k48).sz = 2 from rfl] at hx236_0)
      (try simp [go_sem, World.setCells, show (k48).sz = 2 from rfl] at hx236_1)
      (try simp [go_sem, World.setCells, show (k48).sz = 2 from rfl] at hx237_0)
      (try simp [go_sem, World.setCells, show (k48).sz = 2 from rfl] at hx237_1)
      refine pu (i := 0) (N := some 40) (xB 11 1) HT_.out ?_
      refine pu (i := 1) (N := some 41) (xB 11 3) HT_.out ?_
      refine pu (i := 2) (N := some 42) (xB 11 7) HT_.out ?_
      refine pu (i := 3) (N := some 43) (xB 11 15) HT_.out ?_
      refine pu (i := 5) (N := some 45) (xB 11 47) HT_.out ?_
      refine pu (i := 6) (N := some 46) (xB 11 111) HT_.out ?_
      refine pu (i := 7) (N := some 47) (xB 11 239) HT_.out ?_
      refine tk (i := 4) (N := some 44) (xB 11 255) HT_.out HW_.out hHeld ?_
      refine tk (i := 8) (N := some 48) (xB 11 511) HT_.out HW_.out hHeld ?_
      refine one_ (i := 9) (N := some 49) (xB 11 1023) rfl rfl (zbj HT_.out (by kernel_rfl)) (by decide) (fun K hK => ?_)
      (first | refine zbQ Try.func60 (by kernel_rfl) rfl #[.agg #[.slice A236_0 ((zab l0 (ji8)).f0).length c236_0, .int .i64 ((zab l0 (ji8)).f1)], .agg #[.slice A237_0 ((zab l0 a1).f0).length c237_0, .int .i64 ((zab l0 a1).f1)]] (by rfl) rfl rfl (by (try simp only [List.map_toArray, List.map_cons, List.map_nil]); first | done | (simp only [hji8]; rfl) | rfl | (simp only [List.length_drop, List.length_take]; rfl)) ?_ | refine zd9 Try.func60 (by kernel_rfl) rfl #[.agg #[.slice A236_0 ((zab l0 (ji8)).f0).length c236_0, .int .i64 ((zab l0 (ji8)).f1)], .agg #[.slice A237_0 ((zab l0 a1).f0).length c237_0, .int .i64 ((zab l0 a1).f1)]] (by rfl) rfl rfl rfl (by (try simp only [List.map_toArray, List.map_cons, List.map_nil]); first | done | (simp only [hji8]; rfl) | rfl | (simp only [List.length_drop, List.length_take]; rfl)) ?_)
      with_reducible refine (zaS.calls k1 _ _ ((zab l0 (ji8)).f0) ((zab l0 (ji8)).f1) _ _ ((zab l0 a1).f0) ((zab l0 a1).f1) t238 _ ?side1 ?side2 ?side3 ?side4 A13.out).mono ?_
      (case side1 => exact xw HR236_0.out)
      (case side2 => exact HC236_0.out)
      (case side3 => exact xw HR237_0.out)
      (case side4 => exact HC237_0.out)
      rintro e w17 ⟨rfl, hb⟩
      have HS0_ := (hb.cell (World.block_lt_of_cell? _ _ (hHeld.1))).trans (hHeld.1)
      have HS1_ := (hb.cell (World.block_lt_of_cell? _ _ (hHeld.2.1))).trans (hHeld.2.1)
      have HS2_ := (hb.cell (World.block_lt_of_cell? _ _ (hHeld.2.2.1))).trans (hHeld.2.2.1)
      have HS3_ := (hb.cell (World.block_lt_of_cell? _ _ (hHeld.2.2.2))).trans (hHeld.2.2.2)
      refine ⟨_, rfl, ?_⟩
      replace HO_0 := ax (Kd.zbL (xN HO_0.out) hb); replace HL236_0 := yV HL236_0 hb; replace HL237_0 := yV HL237_0 hb; replace HR236_0 := ax (Kd.zbE (xw HR236_0.out) hb); replace HR237_0 := ax (Kd.zbE (xw HR237_0.out) hb); replace HK := ax (Kept.below (S := (fun k_ => Z0_ k_)) (by repeat (first | (with_reducible first | exact HK.out | apply Kept.alloc | apply Kept.drewN | apply Kept.drew) | exact HK.out)) hb); replace HB := yB HB hb
      (try clear hb)
      (try clear hk)
      refine hK.out _ _ ⟨HS0_, HS1_, HS2_, HS3_⟩ (fun hHeld => ?_)
      clear hK K
      refine nm ?_
      refine pu (i := 10) (N := some 50) (xB 11 2047) HT_.out ?_
      refine zb6 (zbB HT_.out (by kernel_rfl)) ?_
      try go_wp2
      go_roundg k1
      case measure => have := HK1.out; omega
      case rel => exact ⟨(wrap64 ((ji8) + 1)), (x11_1), (by first | rfl | (simp; done) | (simp only [← hji8] <;> (first | rfl | simp)) | (simp [*]; done)), xr, H', ⟨by have := HK1.out; omega⟩, ⟨xN HO_0.out⟩, ⟨by repeat (first | (with_reducible first | exact HK.out | apply Kept.alloc | apply Kept.drewN | apply Kept.drew) | exact HK.out)⟩, ⟨xb HB.out⟩⟩
     ·as_aux_lemma =>
      rw [if_neg c14] at H
      have c14b0 := decide_eq_false c14
      clear c14
      have H' := ax H
      clear H
      try go_wp2
      replace HO_0 := ax (Kd.zbp HO_0.out); replace HK := ax (Kept.drew HK.out); replace HB := ax (zaN HB.out)
      obtain ⟨Ao19, co19, eo19⟩ := Kd.zbt HO_0.out
      (first | subst eo19 | (injection eo19 with f1_ f2_ f3_; have f4_ := f1_.symm; have f5_ := f3_.symm; clear f1_ f2_ f3_; subst f4_; subst f5_))
      have p236 : 0 ≤ ((ji8) : Int) := xd
      have q236 : (ji8) < (l0.length : Int) := xd
      obtain ⟨ad236, A236_0, c236_0, e236, hx236_0, hx236_1, hl236_0, hi236_0⟩ := zbs (Kd.zaE HO_0.out).2.2 (ji8) p236 q236
      cases e236
      obtain ⟨ce236, hce236, hMe236, hcc236⟩ := Kd.zco HO_0.out z48 (ji8) p236 (by first | exact q236 | exact xd | (have e_ := (Kd.zaE HO_0.out).1; omega))
      obtain ⟨ua236_0, uc236_0, rfl, ul236_0, ge236_0⟩ := zaX hMe236
      have hv236_0 := hcc236 0 _ rfl
      rw [Nat.add_zero] at hv236_0
      replace hv236_0 := Option.some.inj (hv236_0.symm.trans hx236_0)
      injection hv236_0 with hva_ hvn_ hvc_
      rw [hva_] at ge236_0
      rw [hvc_] at ul236_0
      have HL236_0 := ax (show Kd.V (Kd.int .i64) 3 _ w0.heap.size _ _ ((zab l0 (ji8)).f0) from Kd.V_mk ul236_0 ge236_0)
      clear hva_ hvn_ hvc_ ge236_0 ul236_0 hcc236 hce236
      have HR236_0 := ax hi236_0
      have HC236_0 := ax hl236_0
      clear hi236_0 hl236_0
      replace p236 := eq_true p236
      replace q236 := eq_true q236
      have p237 : 0 ≤ (a1 : Int) := xd
      have q237 : a1 < (l0.length : Int) := xd
      obtain ⟨ad237, A237_0, c237_0, e237, hx237_0, hx237_1, hl237_0, hi237_0⟩ := zbs (Kd.zaE HO_0.out).2.2 a1 p237 q237
      obtain rfl : ad236 = ad237 := (by injection e237)
      obtain ⟨ce237, hce237, hMe237, hcc237⟩ := Kd.zco HO_0.out z48 a1 p237 (by first | exact q237 | exact xd | (have e_ := (Kd.zaE HO_0.out).1; omega))
      obtain ⟨ua237_0, uc237_0, rfl, ul237_0, ge237_0⟩ := zaX hMe237
      have hv237_0 := hcc237 0 _ rfl
      rw [Nat.add_zero] at hv237_0
      replace hv237_0 := Option.some.inj (hv237_0.symm.trans hx237_0)
      injection hv237_0 with hva_ hvn_ hvc_
      rw [hva_] at ge237_0
      rw [hvc_] at ul237_0
      have HL237_0 := ax (show Kd.V (Kd.int .i64) 3 _ w0.heap.size _ _ ((zab l0 a1).f0) from Kd.V_mk ul237_0 ge237_0)
      clear hva_ hvn_ hvc_ ge237_0 ul237_0 hcc237 hce237
      have HR237_0 := ax hi237_0
      have HC237_0 := ax hl237_0
      clear hi237_0 hl237_0
      replace p237 := eq_true p237
      replace q237 := eq_true q237
      refine zbJ (n := 11) (S := fun w' => w'.cell? (ad236.add (((ji8)).toNat * 2)) = some (.slice A236_0 ((zab l0 (ji8)).f0).length c236_0) ∧ w'.cell? ⟨(ad236.add (((ji8)).toNat * 2)).block, (ad236.add (((ji8)).toNat * 2)).off + 1, none⟩ = some (.int .i64 ((zab l0 (ji8)).f1)) ∧ w'.cell? (ad236.add ((a1).toNat * 2)) = some (.slice A237_0 ((zab l0 a1).f0).length c237_0) ∧ w'.cell? ⟨(ad236.add ((a1).toNat * 2)).block, (ad236.add ((a1).toNat * 2)).off + 1, none⟩ = some (.int .i64 ((zab l0 a1).f1))) (ds := []) (xB 11 0) (by kernel_rfl) rfl (by kernel_rfl) ⟨hx236_0, hx236_1, hx237_0, hx237_1⟩ (fun hHeld => ?_); refine zbg za.tab5 za.zjP (fun HT_ HW_ => ?_)
      generalize wr.drew = w18 at HO_0 HK HB HL236_0 HL237_0 HR236_0 HR237_0 hx236_0 hx236_1 hx237_0 hx237_1 hHeld ⊢
      (try simp [go_sem, World.setCells, show (k48).sz = 2 from rfl] at hx236_0)
      (try simp [go_sem, World.setCells, show (k48).sz = 2 from rfl] at hx236_1)
      (try simp [go_sem, World.setCells, show (k48).sz = 2 from rfl] at hx237_0)
      (try simp [go_sem, World.setCells, show (k48).sz = 2 from rfl] at hx237_1)
      refine pu (i := 0) (N := some 40) (xB 11 1) HT_.out ?_
      refine pu (i := 1) (N := some 41) (xB 11 3) HT_.out ?_
      refine pu (i := 2) (N := some 42) (xB 11 7) HT_.out ?_
      refine pu (i := 3) (N := some 43) (xB 11 15) HT_.out ?_
      refine pu (i := 5) (N := some 45) (xB 11 47) HT_.out ?_
      refine pu (i := 6) (N := some 46) (xB 11 111) HT_.out ?_
      refine pu (i := 7) (N := some 47) (xB 11 239) HT_.out ?_
      refine tk (i := 4) (N := some 44) (xB 11 255) HT_.out HW_.out hHeld ?_
      refine tk (i := 8) (N := some 48) (xB 11 511) HT_.out HW_.out hHeld ?_
      refine one_ (i := 9) (N := some 49) (xB 11 1023) rfl rfl (zbj HT_.out (by kernel_rfl)) (by decide) (fun K hK => ?_)
      (first | refine zbQ Try.func60 (by kernel_rfl) rfl #[.agg #[.slice A236_0 ((zab l0 (ji8)).f0).length c236_0, .int .i64 ((zab l0 (ji8)).f1)], .agg #[.slice A237_0 ((zab l0 a1).f0).length c237_0, .int .i64 ((zab l0 a1).f1)]] (by rfl) rfl rfl (by (try simp only [List.map_toArray, List.map_cons, List.map_nil]); first | done | (simp only [hji8]; rfl) | rfl | (simp only [List.length_drop, List.length_take]; rfl)) ?_ | refine zd9 Try.func60 (by kernel_rfl) rfl #[.agg #[.slice A236_0 ((zab l0 (ji8)).f0).length c236_0, .int .i64 ((zab l0 (ji8)).f1)], .agg #[.slice A237_0 ((zab l0 a1).f0).length c237_0, .int .i64 ((zab l0 a1).f1)]] (by rfl) rfl rfl rfl (by (try simp only [List.map_toArray, List.map_cons, List.map_nil]); first | done | (simp only [hji8]; rfl) | rfl | (simp only [List.length_drop, List.length_take]; rfl)) ?_)
      with_reducible refine (zaS.calls k1 _ _ ((zab l0 (ji8)).f0) ((zab l0 (ji8)).f1) _ _ ((zab l0 a1).f0) ((zab l0 a1).f1) t238 _ ?side1 ?side2 ?side3 ?side4 A13.out).mono ?_
      (case side1 => exact xw HR236_0.out)
      (case side2 => exact HC236_0.out)
      (case side3 => exact xw HR237_0.out)
      (case side4 => exact HC237_0.out)
      rintro e w20 ⟨rfl, hb⟩
      have HS0_ := (hb.cell (World.block_lt_of_cell? _ _ (hHeld.1))).trans (hHeld.1)
      have HS1_ := (hb.cell (World.block_lt_of_cell? _ _ (hHeld.2.1))).trans (hHeld.2.1)
      have HS2_ := (hb.cell (World.block_lt_of_cell? _ _ (hHeld.2.2.1))).trans (hHeld.2.2.1)
      have HS3_ := (hb.cell (World.block_lt_of_cell? _ _ (hHeld.2.2.2))).trans (hHeld.2.2.2)
      refine ⟨_, rfl, ?_⟩
      replace HO_0 := ax (Kd.zbL (xN HO_0.out) hb); replace HL236_0 := yV HL236_0 hb; replace HL237_0 := yV HL237_0 hb; replace HR236_0 := ax (Kd.zbE (xw HR236_0.out) hb); replace HR237_0 := ax (Kd.zbE (xw HR237_0.out) hb); replace HK := ax (Kept.below (S := (fun k_ => Z0_ k_)) (by repeat (first | (with_reducible first | exact HK.out | apply Kept.alloc | apply Kept.drewN | apply Kept.drew) | exact HK.out)) hb); replace HB := yB HB hb
      (try clear hb)
      (try clear hk)
      refine hK.out _ _ ⟨HS0_, HS1_, HS2_, HS3_⟩ (fun hHeld => ?_)
      clear hK K
      refine nm ?_
      refine pu (i := 10) (N := some 50) (xB 11 2047) HT_.out ?_
      refine zb6 (zbB HT_.out (by kernel_rfl)) ?_
      try go_wp2
      go_roundg k1
      case measure => have := HK1.out; omega
      case rel => exact ⟨(x10_1), (ji8), xr, (by first | rfl | (simp; done) | (simp only [← hji8] <;> (first | rfl | simp)) | (simp [*]; done)), H', ⟨by have := HK1.out; omega⟩, ⟨xN HO_0.out⟩, ⟨by repeat (first | (with_reducible first | exact HK.out | apply Kept.alloc | apply Kept.drewN | apply Kept.drew) | exact HK.out)⟩, ⟨xb HB.out⟩⟩
    ·as_aux_lemma =>
     rw [if_neg c7] at H
     have c7b0 := decide_eq_false c7
     clear c7
     have H' := ax H
     clear H
     go_wp2
     (try simp only [Act.put, List.setIfInBounds_toArray, List.set_cons_zero, List.set_cons_succ])
     go_loopg [13] k1 (fun kq v13 w' => ∃ (x0_2 : List (S48)) (x13_2 : Int), v13 = .int .i64 x13_2 ∧ zap (za.l1 kq x0_2 x10_1 x13_2 = some r) ∧ zap (kq ≤ k1) ∧ zap (Kd.N k48 48 w' w0.heap.size (fun k_ => P0_ k_) u9000_ x0_2) ∧ zap (Kept w w' (fun k_ => Z0_ k_)) ∧ zap (Below w0.heap.size w0 w'))
     case atStart => exact ⟨(l0), (a1), xr, H', ⟨Nat.le_refl _⟩, ⟨xN HO_0.out⟩, ⟨by repeat (first | (with_reducible first | exact HK.out | apply Kept.alloc | apply Kept.drewN | apply Kept.drew) | exact HK.out)⟩, ⟨xb HB.out⟩⟩
     case round =>
      clear H'
      (try clear c6); (try clear c6b0); (try clear c6b1); (try clear c7); (try clear c7b0); (try clear c9); (try clear c9b0); (try clear c10); (try clear c10b0); (try clear c11); (try clear c11b0); (try clear c12); (try clear c12b0); (try clear c14); (try clear c14b0); (try clear hx236_0); (try clear hx236_1); (try clear hx237_0); (try clear hx237_1); (try clear p236); (try clear p237); (try clear q236); (try clear q237)
      obtain ⟨x0_2, x13_2, rfl, HA, HK2, HO_0, HK, HB⟩ := hrel
      cases gk with
      | zero => exact absurd HA.out (by simp [za.l1])
      | succ k2 =>
       have H := HA.out
       clear HA
       simp only [za.l1] at H
       by_cases c21 : x13_2 < (wrap64 (x10_1 - 1))
       ·rw [if_pos c21] at H
        have c21b0 := decide_eq_true c21
        clear c21
        obtain ⟨ji22, hji22⟩ : ∃ j_ : Int, (wrap64 (x13_2 + 1)) = j_ := ⟨_, rfl⟩
        replace H : (if 0 ≤ (ji22) then (if (ji22) < (x0_2.length : Int) then (if 0 ≤ x13_2 then (if x13_2 < (x0_2.length : Int) then (za.l1 k2 ((x0_2.set (x13_2 : Int).toNat (⟨(zab x0_2 (ji22)).f0, (zab x0_2 (ji22)).f1⟩ : S48)).set ((ji22) : Int).toNat (⟨(zab x0_2 x13_2).f0, (zab x0_2 x13_2).f1⟩ : S48)) x10_1 ji22) else (none)) else (none)) else (none)) else (none)) = some r := by first | (rw [hji22] at H; exact H) | (simp only [hji22] at H ⊢; exact H)
        have hji22w : (IntKind.i64.wrap (x13_2 + 1)) = ji22 := (zbZ _).trans hji22
        (try simp only [hji22] at hji8)
        (try simp only [hji22] at hji8w)
        by_cases c23 : 0 ≤ (ji22)
        case neg => (rw [if_neg c23] at H; exact absurd H (by simp))
        rw [if_pos c23] at H
        have c23b0 := decide_eq_true c23
        clear c23
        by_cases c24 : (ji22) < (x0_2.length : Int)
        case neg => (rw [if_neg c24] at H; exact absurd H (by simp))
        rw [if_pos c24] at H
        have c24b0 := decide_eq_true c24
        clear c24
        by_cases c25 : 0 ≤ x13_2
        case neg => (rw [if_neg c25] at H; exact absurd H (by simp))
        rw [if_pos c25] at H
        have c25b0 := decide_eq_true c25
        clear c25
        by_cases c26 : x13_2 < (x0_2.length : Int)
        case neg => (rw [if_neg c26] at H; exact absurd H (by simp))
        rw [if_pos c26] at H
        have c26b0 := decide_eq_true c26
        clear c26
        obtain ⟨y241, hy241⟩ : ∃ y_ : List (S48), y_ = (x0_2.set (x13_2 : Int).toNat (⟨(zab x0_2 (ji22)).f0, (zab x0_2 (ji22)).f1⟩ : S48)) := ⟨_, rfl⟩
        replace H : (za.l1 k2 (y241.set ((ji22) : Int).toNat (⟨(zab x0_2 x13_2).f0, (zab x0_2 x13_2).f1⟩ : S48)) x10_1 ji22) = some r := xv hy241 H
        have Ny241 := ax hy241
        clear hy241
        obtain ⟨y242, hy242⟩ : ∃ y_ : List (S48), y_ = (y241.set ((ji22) : Int).toNat (⟨(zab x0_2 x13_2).f0, (zab x0_2 x13_2).f1⟩ : S48)) := ⟨_, rfl⟩
        replace H : (za.l1 k2 y242 x10_1 ji22) = some r := xv hy242 H
        have Ny242 := ax hy242
        clear hy242
        have H' := ax H
        clear H
        try go_wp2
        replace HO_0 := ax (Kd.zbp HO_0.out); replace HK := ax (Kept.drew HK.out); replace HB := ax (zaN HB.out)
        obtain ⟨Ao30, co30, eo30⟩ := Kd.zbt HO_0.out
        (first | subst eo30 | (injection eo30 with f1_ f2_ f3_; have f4_ := f1_.symm; have f5_ := f3_.symm; clear f1_ f2_ f3_; subst f4_; subst f5_))
        have p239 : 0 ≤ ((ji22) : Int) := xd
        have q239 : (ji22) < (x0_2.length : Int) := xd
        obtain ⟨ad239, A239_0, c239_0, e239, hx239_0, hx239_1, hl239_0, hi239_0⟩ := zbs (Kd.zaE HO_0.out).2.2 (ji22) p239 q239
        cases e239
        obtain ⟨ce239, hce239, hMe239, hcc239⟩ := Kd.zco HO_0.out z48 (ji22) p239 (by first | exact q239 | exact xd | (have e_ := (Kd.zaE HO_0.out).1; omega))
        obtain ⟨ua239_0, uc239_0, rfl, ul239_0, ge239_0⟩ := zaX hMe239
        have hv239_0 := hcc239 0 _ rfl
        rw [Nat.add_zero] at hv239_0
        replace hv239_0 := Option.some.inj (hv239_0.symm.trans hx239_0)
        injection hv239_0 with hva_ hvn_ hvc_
        rw [hva_] at ge239_0
        rw [hvc_] at ul239_0
        have HL239_0 := ax (show Kd.V (Kd.int .i64) 3 _ w0.heap.size _ _ ((zab x0_2 (ji22)).f0) from Kd.V_mk ul239_0 ge239_0)
        clear hva_ hvn_ hvc_ ge239_0 ul239_0 hcc239 hce239
        have HR239_0 := ax hi239_0
        have HC239_0 := ax hl239_0
        clear hi239_0 hl239_0
        replace p239 := eq_true p239
        replace q239 := eq_true q239
        have p240 : 0 ≤ (x13_2 : Int) := xd
        have q240 : x13_2 < (x0_2.length : Int) := xd
        obtain ⟨ad240, A240_0, c240_0, e240, hx240_0, hx240_1, hl240_0, hi240_0⟩ := zbs (Kd.zaE HO_0.out).2.2 x13_2 p240 q240
        obtain rfl : ad239 = ad240 := (by injection e240)
        obtain ⟨ce240, hce240, hMe240, hcc240⟩ := Kd.zco HO_0.out z48 x13_2 p240 (by first | exact q240 | exact xd | (have e_ := (Kd.zaE HO_0.out).1; omega))
        obtain ⟨ua240_0, uc240_0, rfl, ul240_0, ge240_0⟩ := zaX hMe240
        have hv240_0 := hcc240 0 _ rfl
        rw [Nat.add_zero] at hv240_0
        replace hv240_0 := Option.some.inj (hv240_0.symm.trans hx240_0)
        injection hv240_0 with hva_ hvn_ hvc_
        rw [hva_] at ge240_0
        rw [hvc_] at ul240_0
        have HL240_0 := ax (show Kd.V (Kd.int .i64) 3 _ w0.heap.size _ _ ((zab x0_2 x13_2).f0) from Kd.V_mk ul240_0 ge240_0)
        clear hva_ hvn_ hvc_ ge240_0 ul240_0 hcc240 hce240
        have HR240_0 := ax hi240_0
        have HC240_0 := ax hl240_0
        clear hi240_0 hl240_0
        replace p240 := eq_true p240
        replace q240 := eq_true q240
        have p27 : 0 ≤ (x13_2 : Int) := xd
        have q27 : (x13_2 : Int) < ((x0_2.length : Int) : Int) := xd
        obtain ⟨go27, co27, eo27, gb27, gl27, cl27, HG27⟩ := Kd.zeb HO_0.out (by omega)
        (first | cases eo27 | (injection eo27 with ea_ en_ ec_; (first | subst ea_ | (injection ea_ with ea_; subst ea_)); subst ec_; clear en_))
        have GB27 := ax gb27
        have GG27 := ax HG27
        clear gb27 gl27 HG27
        have HMgo27 := ax (show Z0_ go27 ∨ w.heap.size ≤ go27 from .inl (HZ0.out _ rfl))
        (first | simp only [add_plain] at hx239_0 | skip)
        (first | simp only [add_plain] at hx239_1 | skip)
        (first | simp only [add_plain] at hx240_0 | skip)
        (first | simp only [add_plain] at hx240_1 | skip)
        obtain ⟨ce27, hcl27, hM27, hcc27, hfr27⟩ := Kd.zc HO_0.out z48 (x13_2 : Int) p27 q27
        obtain ⟨ua27_0, uc27_0, rfl, ul27_0, ge27_0⟩ := zaX hM27
        have hx27_0 : World.cell? _ ⟨go27, (x13_2 : Int).toNat * 2, none⟩ = some (.slice ua27_0 ((zab x0_2 x13_2).f0).length uc27_0) := hcc27 0 _ rfl
        have hx27_1 : World.cell? _ ⟨go27, (x13_2 : Int).toNat * 2 + 1, none⟩ = some (.int .i64 ((zab x0_2 x13_2).f1)) := hcc27 1 _ rfl
        have hf27_0 : World.frozen? _ ⟨go27, (x13_2 : Int).toNat * 2, none⟩ = false := hfr27 0
        have hf27_1 : World.frozen? _ ⟨go27, (x13_2 : Int).toNat * 2 + 1, none⟩ = false := hfr27 1
        clear hcl27 hcc27 hfr27; (try clear hM27)
        replace p27 := eq_true p27
        replace q27 := eq_true q27
        have HX31 := ax (show Kd.N k48 48 _ w0.heap.size (fun k_ => P0_ k_) (.slice (some ⟨go27, 0, none⟩) x0_2.length co30) x0_2 from (Kd.zbe (HO_0.out) (fun k_ hk => hk)))
        obtain ⟨ce31, hcl31, hM31, hcc31, hfr31⟩ := Kd.zc HX31.out z48 (x13_2 : Int) (xd) (by have h_ : (x13_2 : Int) < ((x0_2.length : Int) : Int) := xd; first | exact h_ | (have e_ := (Kd.zaE HO_0.out).1; omega) | simpa using h_)
        obtain ⟨ua31_0, uc31_0, rfl, ul31_0, ge31_0⟩ := zaX hM31
        have HP31 := (Kd.zeC HX31.out (x13_2 : Int) (xd) (by have h_ : (x13_2 : Int) < ((x0_2.length : Int) : Int) := xd; first | exact h_ | (have e_ := (Kd.zaE HO_0.out).1; omega) | simpa using h_) (seg := [.slice A239_0 ((zab x0_2 (ji22)).f0).length c239_0, .int .i64 ((zab x0_2 (ji22)).f1)]) (j := 0) hcl31 hcc31 (show 2 ≤ 2 from by decide) (x' := (⟨(zab x0_2 (ji22)).f0, (zab x0_2 (ji22)).f1⟩ : S48)) (zde _ _ (⟨(zab x0_2 (ji22)).f0, (zab x0_2 (ji22)).f1⟩ : S48) (Kd.za2 (Kd.zaP (ok' := (fun k_ => ((fun k_ => P0_ k_)) k_ ∧ k_ ≠ go27)) (HL239_0.out) (fun k_ hk => ⟨hk.1, fun e_ => (hk.2) (by rw [e_]; rfl)⟩))).2.1 (Kd.V_F (Kd.zaP (ok' := (fun k_ => ((fun k_ => P0_ k_)) k_ ∧ k_ ≠ go27)) (HL239_0.out) (fun k_ hk => ⟨hk.1, fun e_ => (hk.2) (by rw [e_]; rfl)⟩)))) (fun _ hk => hk)).1
        rw [← Ny241.out] at HP31
        have HQ31 := ax HP31
        clear hcl31 hcc31 hfr31; (try clear hM31); clear HP31
        have p28 : 0 ≤ ((ji22) : Int) := xd
        have q28 : ((ji22) : Int) < ((x0_2.length : Int) : Int) := xd
        obtain ⟨ce28, hcl28, hM28, hcc28, hfr28⟩ := Kd.zc HQ31.out z48 ((ji22) : Int) p28 q28
        obtain ⟨ua28_0, uc28_0, rfl, ul28_0, ge28_0⟩ := zaX hM28
        have hx28_0 : World.cell? _ ⟨go27, ((ji22) : Int).toNat * 2, none⟩ = some (.slice ua28_0 ((zab y241 (ji22)).f0).length uc28_0) := hcc28 0 _ rfl
        have hx28_1 : World.cell? _ ⟨go27, ((ji22) : Int).toNat * 2 + 1, none⟩ = some (.int .i64 ((zab y241 (ji22)).f1)) := hcc28 1 _ rfl
        have hf28_0 : World.frozen? _ ⟨go27, ((ji22) : Int).toNat * 2, none⟩ = false := hfr28 0
        have hf28_1 : World.frozen? _ ⟨go27, ((ji22) : Int).toNat * 2 + 1, none⟩ = false := hfr28 1
        clear hcl28 hcc28 hfr28; (try clear hM28)
        replace p28 := eq_true p28
        replace q28 := eq_true q28
        have HX32 := ax (show Kd.N k48 48 _ w0.heap.size (fun k_ => P0_ k_) (.slice (some ⟨go27, 0, none⟩) x0_2.length co30) y241 from (Kd.zbe (HQ31.out) (fun k_ hk => hk)))
        obtain ⟨ce32, hcl32, hM32, hcc32, hfr32⟩ := Kd.zc HX32.out z48 ((ji22) : Int) (xd) (by have h_ : ((ji22) : Int) < ((x0_2.length : Int) : Int) := xd; first | exact h_ | (have e_ := (Kd.zaE HO_0.out).1; omega) | simpa using h_)
        obtain ⟨ua32_0, uc32_0, rfl, ul32_0, ge32_0⟩ := zaX hM32
        have HP32 := (Kd.zeC HX32.out ((ji22) : Int) (xd) (by have h_ : ((ji22) : Int) < ((x0_2.length : Int) : Int) := xd; first | exact h_ | (have e_ := (Kd.zaE HO_0.out).1; omega) | simpa using h_) (seg := [.slice A240_0 ((zab x0_2 x13_2).f0).length c240_0, .int .i64 ((zab x0_2 x13_2).f1)]) (j := 0) hcl32 hcc32 (show 2 ≤ 2 from by decide) (x' := (⟨(zab x0_2 x13_2).f0, (zab x0_2 x13_2).f1⟩ : S48)) (zde _ _ (⟨(zab x0_2 x13_2).f0, (zab x0_2 x13_2).f1⟩ : S48) (Kd.za2 (Kd.zaP (ok' := (fun k_ => ((fun k_ => P0_ k_)) k_ ∧ k_ ≠ go27)) (HL240_0.out) (fun k_ hk => ⟨hk.1, fun e_ => (hk.2) (by rw [e_]; rfl)⟩))).2.1 (Kd.zfk (Kd.zfk (Kd.V_F (Kd.zaP (ok' := (fun k_ => ((fun k_ => P0_ k_)) k_ ∧ k_ ≠ go27)) (HL240_0.out) (fun k_ hk => ⟨hk.1, fun e_ => (hk.2) (by rw [e_]; rfl)⟩))) (fun _ hk => hk.2) _) (fun _ hk => hk.2) _)) (fun _ hk => hk)).1
        rw [← Ny242.out] at HP32
        have HQ32 := ax HP32
        clear hcl32 hcc32 hfr32; (try clear hM32); clear HP32
        refine zbJ (n := 18) (S := fun w' => w'.cell? ⟨go27, ((ji22)).toNat * 2, none⟩ = some (.slice A239_0 ((zab x0_2 (ji22)).f0).length c239_0) ∧ w'.cell? ⟨go27, ((ji22)).toNat * 2 + 1, none⟩ = some (.int .i64 ((zab x0_2 (ji22)).f1)) ∧ w'.cell? ⟨go27, ((x13_2).toNat * 2), none⟩ = some (.slice A240_0 ((zab x0_2 x13_2).f0).length c240_0) ∧ w'.cell? ⟨go27, ((x13_2).toNat * 2) + 1, none⟩ = some (.int .i64 ((zab x0_2 x13_2).f1))) (ds := [15, 17]) (xB 18 0) (by kernel_rfl) rfl (by kernel_rfl) ⟨hx239_0, hx239_1, hx240_0, hx240_1⟩ (fun hHeld => ?_); refine zbg za.zi9 za.zhK (fun HT_ HW_ => ?_)
        generalize wr.drew = w29 at HO_0 HK HB GG27 HL239_0 HL240_0 HQ31 HQ32 HR239_0 HR240_0 hf27_0 hf27_1 hf28_0 hf28_1 hx239_0 hx239_1 hx240_0 hx240_1 hx27_0 hx27_1 hx28_0 hx28_1 hHeld ⊢
        (try simp [go_sem, World.setCells, show (k48).sz = 2 from rfl] at hf27_0)
        (try simp [go_sem, World.setCells, show (k48).sz = 2 from rfl] at hf27_1)
        (try simp [go_sem, World.setCells, show (k48).sz = 2 from rfl] at hf28_0)
        (try simp [go_sem, World.setCells, show (k48).sz = 2 from rfl] at hf28_1)
        (try simp [go_sem, World.setCells, show (k48).sz = 2 from rfl] at hx239_0)
        (try simp [go_sem, World.setCells, show (k48).sz = 2 from rfl] at hx239_1)
        (try simp [go_sem, World.setCells, show (k48).sz = 2 from rfl] at hx240_0)
        (try simp [go_sem, World.setCells, show (k48).sz = 2 from rfl] at hx240_1)
        (try simp [go_sem, World.setCells, show (k48).sz = 2 from rfl] at hx27_0)
        (try simp [go_sem, World.setCells, show (k48).sz = 2 from rfl] at hx27_1)
        (try simp [go_sem, World.setCells, show (k48).sz = 2 from rfl] at hx28_0)
        (try simp [go_sem, World.setCells, show (k48).sz = 2 from rfl] at hx28_1)
        refine pu (i := 0) (N := some 61) (xB 18 1) HT_.out ?_
        refine pu (i := 1) (N := some 62) (xB 18 3) HT_.out ?_
        refine pu (i := 2) (N := some 63) (xB 18 7) HT_.out ?_
        refine pu (i := 3) (N := some 64) (xB 18 15) HT_.out ?_
        refine pu (i := 4) (N := some 65) (xB 18 31) HT_.out ?_
        refine pu (i := 5) (N := some 66) (xB 18 63) HT_.out ?_
        refine pu (i := 6) (N := some 67) (xB 18 127) HT_.out ?_
        refine pu (i := 7) (N := some 68) (xB 18 255) HT_.out ?_
        refine pu (i := 8) (N := some 69) (xB 18 511) HT_.out ?_
        refine pu (i := 10) (N := some 71) (xB 18 1535) HT_.out ?_
        refine pu (i := 11) (N := some 72) (xB 18 3583) HT_.out ?_
        refine pu (i := 12) (N := some 73) (xB 18 7679) HT_.out ?_
        refine tk (i := 9) (N := some 70) (xB 18 8191) HT_.out HW_.out hHeld ?_
        refine tk (i := 13) (N := some 74) (xB 18 16383) HT_.out HW_.out hHeld ?_
        refine pu (i := 14) (N := some 75) (xB 18 32767) HT_.out ?_
        refine zev (i := 15) (N := none) (xB 18 65535) rfl rfl (zbj HT_.out (by kernel_rfl)) (by decide) (fun K hK => ?_)
        refine zdF (w1 := ?_) (by rfl) rfl ?_ ?_
        rotate_left
        ·go_simp
         rfl
        refine hK.out _ _ ?_
        clear hK K
        refine pu (i := 16) (N := some 76) (xB 18 131071) HT_.out ?_
        refine zev (i := 17) (N := none) (xB 18 262143) rfl rfl (zbj HT_.out (by kernel_rfl)) (by decide) (fun K hK => ?_)
        refine zdF (w1 := ?_) (by rfl) rfl ?_ ?_
        rotate_left
        ·go_simp
         rfl
        refine hK.out _ _ ?_
        clear hK K
        refine zb6 (zbB HT_.out (by kernel_rfl)) ?_
        try go_wp2
        go_roundg k2
        case measure => have := HK1.out; have := HK2.out; omega
        case rel => exact ⟨(y242), (ji22), (by first | rfl | (simp; done) | (simp only [← hji22] <;> (first | rfl | simp)) | (simp [*]; done)), H', ⟨by have := HK1.out; have := HK2.out; omega⟩, ⟨by (with_reducible repeat (first | apply Kd.zbD | apply Kd.zbz | apply Kd.zbp)); exact HQ32.out⟩, ⟨by repeat (first | (with_reducible first | exact HK.out | apply Kept.alloc | apply Kept.drewN | apply Kept.drew | refine Kept.setCell ?_ HMgo27.out _ | refine Kept.setCell ?_ HMgo27.out _ | refine Kept.setCell ?_ HMgo27.out _ | refine Kept.setCell ?_ HMgo27.out _) | exact HK.out)⟩, ⟨bh HB.out⟩⟩
       ·rw [if_neg c21] at H
        have c21b0 := decide_eq_false c21
        clear c21
        obtain rfl := Option.some.inj H
        go_wp2
        first | go_end0 | ((try simp only [Exit.inBlock, Exit.then]); refine bodyPost_ret (results_none rfl _ _ _) rfl ?_)
        exact ⟨xe, xN HO_0.out, xb HB.out, by repeat (first | (with_reducible first | exact HK.out | apply Kept.alloc | apply Kept.drewN | apply Kept.drew) | exact HK.out)⟩
 ·as_aux_lemma =>
  rw [if_neg c6] at H
  have c6b0 : ((wrap64 (a2 - a1)) == 1) = false := beq_eq_false_iff_ne.mpr c6
  have c6b1 : ((wrap64 (a2 - a1)) != 1) = true := bne_iff_ne.mpr c6
  by_cases c33 : (wrap64 (a3 - a2)) = 1
  ·as_aux_lemma =>
   rw [if_pos c33] at H
   have c33b0 : ((wrap64 (a3 - a2)) == 1) = true := beq_iff_eq.mpr c33
   have c33b1 : ((wrap64 (a3 - a2)) != 1) = false := bne_eq_false_iff_eq.mpr c33
   clear c33
   have H' := ax H
   clear H
   go_enter Try.func91, Try.ntmps91
   go_wp2
   (try simp only [Act.put, List.setIfInBounds_toArray, List.set_cons_zero, List.set_cons_succ])
   go_loopg [14, 15] k (fun kq v14 v15 w' => ∃ (x14_1 : Int) (x15_1 : Int), v14 = .int .i64 x14_1 ∧ v15 = .int .i64 x15_1 ∧ zap (za.l2 kq l0 a2 x14_1 x15_1 = some r) ∧ zap (kq ≤ k) ∧ zap (Kd.N k48 48 w' w0.heap.size (fun k_ => P0_ k_) u9000_ l0) ∧ zap (Kept w w' (fun k_ => Z0_ k_)) ∧ zap (Below w0.heap.size w0 w'))
   case atStart => exact ⟨(a1), (a2), xr, xr, H', ⟨Nat.le_refl _⟩, ⟨xN HO0.out⟩, ⟨by repeat (first | (with_reducible first | exact HK.out | apply Kept.alloc | apply Kept.drewN | apply Kept.drew) | exact HK.out)⟩, ⟨xb HB.out⟩⟩
   case round =>
    clear H'
    (try clear c6); (try clear c6b0); (try clear c6b1); (try clear c7); (try clear c7b0); (try clear c9); (try clear c9b0); (try clear c10); (try clear c10b0); (try clear c11); (try clear c11b0); (try clear c12); (try clear c12b0); (try clear c14); (try clear c14b0); (try clear c21); (try clear c21b0); (try clear c23); (try clear c23b0); (try clear c24); (try clear c24b0); (try clear c25); (try clear c25b0); (try clear c26); (try clear c26b0); (try clear p27); (try clear q27); (try clear p28); (try clear q28); (try clear c33); (try clear c33b0); (try clear c33b1); (try clear hx236_0); (try clear hx236_1); (try clear hx237_0); (try clear hx237_1); (try clear hx239_0); (try clear hx239_1); (try clear hx240_0); (try clear hx240_1); (try clear hx27_0); (try clear hx27_1); (try clear hx28_0); (try clear hx28_1); (try clear p236); (try clear p237); (try clear p239); (try clear p240); (try clear p27); (try clear p28); (try clear q236); (try clear q237); (try clear q239); (try clear q240); (try clear q27); (try clear q28)
    obtain ⟨x14_1, x15_1, rfl, rfl, HA, HK1, HO_0, HK, HB⟩ := hrel
    cases gk with
    | zero => exact absurd HA.out (by simp [za.l2])
    | succ k1 =>
     have H := HA.out
     clear HA
     simp only [za.l2] at H
     by_cases c34 : x14_1 < x15_1
     ·as_aux_lemma =>
      rw [if_pos c34] at H
      have c34b0 := decide_eq_true c34
      clear c34
      by_cases c35 : 0 ≤ a2
      case neg => (rw [if_neg c35] at H; exact absurd H (by simp))
      rw [if_pos c35] at H
      have c35b0 := decide_eq_true c35
      clear c35
      by_cases c36 : a2 < (l0.length : Int)
      case neg => (rw [if_neg c36] at H; exact absurd H (by simp))
      rw [if_pos c36] at H
      have c36b0 := decide_eq_true c36
      clear c36
      obtain ⟨ji37, hji37⟩ : ∃ j_ : Int, (wrap64 ((IntKind.u64.wrap (wrap64 (x14_1 + x15_1))) / 2)) = j_ := ⟨_, rfl⟩
      replace H : (if 0 ≤ (ji37) then (if (ji37) < (l0.length : Int) then ((zaS.f k1 ((zab l0 a2).f0) ((zab l0 a2).f1) ((zab l0 (ji37)).f0) ((zab l0 (ji37)).f1)).bind fun t245 => (if t245 < 0 then (za.l2 k1 l0 a2 x14_1 ji37) else (za.l2 k1 l0 a2 (wrap64 ((ji37) + 1)) x15_1))) else (none)) else (none)) = some r := by first | (rw [hji37] at H; exact H) | (simp only [hji37] at H ⊢; exact H)
      have hji37w : (IntKind.i64.wrap ((IntKind.u64.wrap (wrap64 (x14_1 + x15_1))) / 2)) = ji37 := (zbZ _).trans hji37
      (try simp only [hji37] at hji8)
      (try simp only [hji37] at hji8w)
      by_cases c38 : 0 ≤ (ji37)
      case neg => (rw [if_neg c38] at H; exact absurd H (by simp))
      rw [if_pos c38] at H
      have c38b0 := decide_eq_true c38
      clear c38
      by_cases c39 : (ji37) < (l0.length : Int)
      case neg => (rw [if_neg c39] at H; exact absurd H (by simp))
      rw [if_pos c39] at H
      have c39b0 := decide_eq_true c39
      clear c39
      obtain ⟨t245, A40, H⟩ := xI H
      by_cases c41 : t245 < 0
      ·as_aux_lemma =>
       rw [if_pos c41] at H
       have c41b0 := decide_eq_true c41
       clear c41
       have H' := ax H
       clear H
       try go_wp2
       replace HO_0 := ax (Kd.zbp HO_0.out); replace HK := ax (Kept.drew HK.out); replace HB := ax (zaN HB.out)
       obtain ⟨Ao43, co43, eo43⟩ := Kd.zbt HO_0.out
       (first | subst eo43 | (injection eo43 with f1_ f2_ f3_; have f4_ := f1_.symm; have f5_ := f3_.symm; clear f1_ f2_ f3_; subst f4_; subst f5_))
       have p243 : 0 ≤ (a2 : Int) := xd
       have q243 : a2 < (l0.length : Int) := xd
       obtain ⟨ad243, A243_0, c243_0, e243, hx243_0, hx243_1, hl243_0, hi243_0⟩ := zbs (Kd.zaE HO_0.out).2.2 a2 p243 q243
       cases e243
       obtain ⟨ce243, hce243, hMe243, hcc243⟩ := Kd.zco HO_0.out z48 a2 p243 (by first | exact q243 | exact xd | (have e_ := (Kd.zaE HO_0.out).1; omega))
       obtain ⟨ua243_0, uc243_0, rfl, ul243_0, ge243_0⟩ := zaX hMe243
       have hv243_0 := hcc243 0 _ rfl
       rw [Nat.add_zero] at hv243_0
       replace hv243_0 := Option.some.inj (hv243_0.symm.trans hx243_0)
       injection hv243_0 with hva_ hvn_ hvc_
       rw [hva_] at ge243_0
       rw [hvc_] at ul243_0
       have HL243_0 := ax (show Kd.V (Kd.int .i64) 3 _ w0.heap.size _ _ ((zab l0 a2).f0) from Kd.V_mk ul243_0 ge243_0)
       clear hva_ hvn_ hvc_ ge243_0 ul243_0 hcc243 hce243
       have HR243_0 := ax hi243_0
       have HC243_0 := ax hl243_0
       clear hi243_0 hl243_0
       replace p243 := eq_true p243
       replace q243 := eq_true q243
       have p244 : 0 ≤ ((ji37) : Int) := xd
       have q244 : (ji37) < (l0.length : Int) := xd
       obtain ⟨ad244, A244_0, c244_0, e244, hx244_0, hx244_1, hl244_0, hi244_0⟩ := zbs (Kd.zaE HO_0.out).2.2 (ji37) p244 q244
       obtain rfl : ad243 = ad244 := (by injection e244)
       obtain ⟨ce244, hce244, hMe244, hcc244⟩ := Kd.zco HO_0.out z48 (ji37) p244 (by first | exact q244 | exact xd | (have e_ := (Kd.zaE HO_0.out).1; omega))
       obtain ⟨ua244_0, uc244_0, rfl, ul244_0, ge244_0⟩ := zaX hMe244
       have hv244_0 := hcc244 0 _ rfl
       rw [Nat.add_zero] at hv244_0
       replace hv244_0 := Option.some.inj (hv244_0.symm.trans hx244_0)
       injection hv244_0 with hva_ hvn_ hvc_
       rw [hva_] at ge244_0
       rw [hvc_] at ul244_0
       have HL244_0 := ax (show Kd.V (Kd.int .i64) 3 _ w0.heap.size _ _ ((zab l0 (ji37)).f0) from Kd.V_mk ul244_0 ge244_0)
       clear hva_ hvn_ hvc_ ge244_0 ul244_0 hcc244 hce244
       have HR244_0 := ax hi244_0
       have HC244_0 := ax hl244_0
       clear hi244_0 hl244_0
       replace p244 := eq_true p244
       replace q244 := eq_true q244
       refine zbJ (n := 12) (S := fun w' => w'.cell? (ad243.add ((a2).toNat * 2)) = some (.slice A243_0 ((zab l0 a2).f0).length c243_0) ∧ w'.cell? ⟨(ad243.add ((a2).toNat * 2)).block, (ad243.add ((a2).toNat * 2)).off + 1, none⟩ = some (.int .i64 ((zab l0 a2).f1)) ∧ w'.cell? (ad243.add (((ji37)).toNat * 2)) = some (.slice A244_0 ((zab l0 (ji37)).f0).length c244_0) ∧ w'.cell? ⟨(ad243.add (((ji37)).toNat * 2)).block, (ad243.add (((ji37)).toNat * 2)).off + 1, none⟩ = some (.int .i64 ((zab l0 (ji37)).f1))) (ds := []) (xB 12 0) (by kernel_rfl) rfl (by kernel_rfl) ⟨hx243_0, hx243_1, hx244_0, hx244_1⟩ (fun hHeld => ?_); refine zbg za.zjG za.ziQ (fun HT_ HW_ => ?_)
       generalize wr.drew = w42 at HO_0 HK HB HL243_0 HL244_0 HR243_0 HR244_0 hx243_0 hx243_1 hx244_0 hx244_1 hHeld ⊢
       (try simp [go_sem, World.setCells, show (k48).sz = 2 from rfl] at hx243_0)
       (try simp [go_sem, World.setCells, show (k48).sz = 2 from rfl] at hx243_1)
       (try simp [go_sem, World.setCells, show (k48).sz = 2 from rfl] at hx244_0)
       (try simp [go_sem, World.setCells, show (k48).sz = 2 from rfl] at hx244_1)
       refine pu (i := 0) (N := some 92) (xB 12 1) HT_.out ?_
       refine pu (i := 1) (N := some 93) (xB 12 3) HT_.out ?_
       refine pu (i := 2) (N := some 94) (xB 12 7) HT_.out ?_
       refine pu (i := 3) (N := some 95) (xB 12 15) HT_.out ?_
       refine pu (i := 5) (N := some 97) (xB 12 47) HT_.out ?_
       refine pu (i := 6) (N := some 98) (xB 12 111) HT_.out ?_
       refine pu (i := 7) (N := some 99) (xB 12 239) HT_.out ?_
       refine tk (i := 4) (N := some 96) (xB 12 255) HT_.out HW_.out hHeld ?_
       refine tk (i := 8) (N := some 100) (xB 12 511) HT_.out HW_.out hHeld ?_
       refine one_ (i := 9) (N := some 101) (xB 12 1023) rfl rfl (zbj HT_.out (by kernel_rfl)) (by decide) (fun K hK => ?_)
       (first | refine zbQ Try.func60 (by kernel_rfl) rfl #[.agg #[.slice A243_0 ((zab l0 a2).f0).length c243_0, .int .i64 ((zab l0 a2).f1)], .agg #[.slice A244_0 ((zab l0 (ji37)).f0).length c244_0, .int .i64 ((zab l0 (ji37)).f1)]] (by rfl) rfl rfl (by (try simp only [List.map_toArray, List.map_cons, List.map_nil]); first | done | (simp only [hji37]; rfl) | rfl | (simp only [List.length_drop, List.length_take]; rfl)) ?_ | refine zd9 Try.func60 (by kernel_rfl) rfl #[.agg #[.slice A243_0 ((zab l0 a2).f0).length c243_0, .int .i64 ((zab l0 a2).f1)], .agg #[.slice A244_0 ((zab l0 (ji37)).f0).length c244_0, .int .i64 ((zab l0 (ji37)).f1)]] (by rfl) rfl rfl rfl (by (try simp only [List.map_toArray, List.map_cons, List.map_nil]); first | done | (simp only [hji37]; rfl) | rfl | (simp only [List.length_drop, List.length_take]; rfl)) ?_)
       with_reducible refine (zaS.calls k1 _ _ ((zab l0 a2).f0) ((zab l0 a2).f1) _ _ ((zab l0 (ji37)).f0) ((zab l0 (ji37)).f1) t245 _ ?side1 ?side2 ?side3 ?side4 A40.out).mono ?_
       (case side1 => exact xw HR243_0.out)
       (case side2 => exact HC243_0.out)
       (case side3 => exact xw HR244_0.out)
       (case side4 => exact HC244_0.out)
       rintro e w44 ⟨rfl, hb⟩
       have HS0_ := (hb.cell (World.block_lt_of_cell? _ _ (hHeld.1))).trans (hHeld.1)
       have HS1_ := (hb.cell (World.block_lt_of_cell? _ _ (hHeld.2.1))).trans (hHeld.2.1)
       have HS2_ := (hb.cell (World.block_lt_of_cell? _ _ (hHeld.2.2.1))).trans (hHeld.2.2.1)
       have HS3_ := (hb.cell (World.block_lt_of_cell? _ _ (hHeld.2.2.2))).trans (hHeld.2.2.2)
       refine ⟨_, rfl, ?_⟩
       replace HO_0 := ax (Kd.zbL (xN HO_0.out) hb); replace HL243_0 := yV HL243_0 hb; replace HL244_0 := yV HL244_0 hb; replace HR243_0 := ax (Kd.zbE (xw HR243_0.out) hb); replace HR244_0 := ax (Kd.zbE (xw HR244_0.out) hb); replace HK := ax (Kept.below (S := (fun k_ => Z0_ k_)) (by repeat (first | (with_reducible first | exact HK.out | apply Kept.alloc | apply Kept.drewN | apply Kept.drew) | exact HK.out)) hb); replace HB := yB HB hb
       (try clear hb)
       (try clear hk)
       refine hK.out _ _ ⟨HS0_, HS1_, HS2_, HS3_⟩ (fun hHeld => ?_)
       clear hK K
       refine nm ?_
       refine pu (i := 10) (N := some 102) (xB 12 2047) HT_.out ?_
       refine pu (i := 11) (N := some 103) (xB 12 4095) HT_.out ?_
       refine zb6 (zbB HT_.out (by kernel_rfl)) ?_
       try go_wp2
       go_roundg k1
       case measure => have := HK1.out; omega
       case rel => exact ⟨(x14_1), (ji37), xr, (by first | rfl | (simp; done) | (simp only [← hji37] <;> (first | rfl | simp)) | (simp [*]; done)), H', ⟨by have := HK1.out; omega⟩, ⟨xN HO_0.out⟩, ⟨by repeat (first | (with_reducible first | exact HK.out | apply Kept.alloc | apply Kept.drewN | apply Kept.drew) | exact HK.out)⟩, ⟨xb HB.out⟩⟩
      ·as_aux_lemma =>
       rw [if_neg c41] at H
       have c41b0 := decide_eq_false c41
       clear c41
       have H' := ax H
       clear H
       try go_wp2
       replace HO_0 := ax (Kd.zbp HO_0.out); replace HK := ax (Kept.drew HK.out); replace HB := ax (zaN HB.out)
       obtain ⟨Ao46, co46, eo46⟩ := Kd.zbt HO_0.out
       (first | subst eo46 | (injection eo46 with f1_ f2_ f3_; have f4_ := f1_.symm; have f5_ := f3_.symm; clear f1_ f2_ f3_; subst f4_; subst f5_))
       have p243 : 0 ≤ (a2 : Int) := xd
       have q243 : a2 < (l0.length : Int) := xd
       obtain ⟨ad243, A243_0, c243_0, e243, hx243_0, hx243_1, hl243_0, hi243_0⟩ := zbs (Kd.zaE HO_0.out).2.2 a2 p243 q243
       cases e243
       obtain ⟨ce243, hce243, hMe243, hcc243⟩ := Kd.zco HO_0.out z48 a2 p243 (by first | exact q243 | exact xd | (have e_ := (Kd.zaE HO_0.out).1; omega))
       obtain ⟨ua243_0, uc243_0, rfl, ul243_0, ge243_0⟩ := zaX hMe243
       have hv243_0 := hcc243 0 _ rfl
       rw [Nat.add_zero] at hv243_0
       replace hv243_0 := Option.some.inj (hv243_0.symm.trans hx243_0)
       injection hv243_0 with hva_ hvn_ hvc_
       rw [hva_] at ge243_0
       rw [hvc_] at ul243_0
       have HL243_0 := ax (show Kd.V (Kd.int .i64) 3 _ w0.heap.size _ _ ((zab l0 a2).f0) from Kd.V_mk ul243_0 ge243_0)
       clear hva_ hvn_ hvc_ ge243_0 ul243_0 hcc243 hce243
       have HR243_0 := ax hi243_0
       have HC243_0 := ax hl243_0
       clear hi243_0 hl243_0
       replace p243 := eq_true p243
       replace q243 := eq_true q243
       have p244 : 0 ≤ ((ji37) : Int) := xd
       have q244 : (ji37) < (l0.length : Int) := xd
       obtain ⟨ad244, A244_0, c244_0, e244, hx244_0, hx244_1, hl244_0, hi244_0⟩ := zbs (Kd.zaE HO_0.out).2.2 (ji37) p244 q244
       obtain rfl : ad243 = ad244 := (by injection e244)
       obtain ⟨ce244, hce244, hMe244, hcc244⟩ := Kd.zco HO_0.out z48 (ji37) p244 (by first | exact q244 | exact xd | (have e_ := (Kd.zaE HO_0.out).1; omega))
       obtain ⟨ua244_0, uc244_0, rfl, ul244_0, ge244_0⟩ := zaX hMe244
       have hv244_0 := hcc244 0 _ rfl
       rw [Nat.add_zero] at hv244_0
       replace hv244_0 := Option.some.inj (hv244_0.symm.trans hx244_0)
       injection hv244_0 with hva_ hvn_ hvc_
       rw [hva_] at ge244_0
       rw [hvc_] at ul244_0
       have HL244_0 := ax (show Kd.V (Kd.int .i64) 3 _ w0.heap.size _ _ ((zab l0 (ji37)).f0) from Kd.V_mk ul244_0 ge244_0)
       clear hva_ hvn_ hvc_ ge244_0 ul244_0 hcc244 hce244
       have HR244_0 := ax hi244_0
       have HC244_0 := ax hl244_0
       clear hi244_0 hl244_0
       replace p244 := eq_true p244
       replace q244 := eq_true q244
       refine zbJ (n := 12) (S := fun w' => w'.cell? (ad243.add ((a2).toNat * 2)) = some (.slice A243_0 ((zab l0 a2).f0).length c243_0) ∧ w'.cell? ⟨(ad243.add ((a2).toNat * 2)).block, (ad243.add ((a2).toNat * 2)).off + 1, none⟩ = some (.int .i64 ((zab l0 a2).f1)) ∧ w'.cell? (ad243.add (((ji37)).toNat * 2)) = some (.slice A244_0 ((zab l0 (ji37)).f0).length c244_0) ∧ w'.cell? ⟨(ad243.add (((ji37)).toNat * 2)).block, (ad243.add (((ji37)).toNat * 2)).off + 1, none⟩ = some (.int .i64 ((zab l0 (ji37)).f1))) (ds := []) (xB 12 0) (by kernel_rfl) rfl (by kernel_rfl) ⟨hx243_0, hx243_1, hx244_0, hx244_1⟩ (fun hHeld => ?_); refine zbg za.zjG za.ziQ (fun HT_ HW_ => ?_)
       generalize wr.drew = w45 at HO_0 HK HB HL243_0 HL244_0 HR243_0 HR244_0 hx243_0 hx243_1 hx244_0 hx244_1 hHeld ⊢
       (try simp [go_sem, World.setCells, show (k48).sz = 2 from rfl] at hx243_0)
       (try simp [go_sem, World.setCells, show (k48).sz = 2 from rfl] at hx243_1)
       (try simp [go_sem, World.setCells, show (k48).sz = 2 from rfl] at hx244_0)
       (try simp [go_sem, World.setCells, show (k48).sz = 2 from rfl] at hx244_1)
       refine pu (i := 0) (N := some 92) (xB 12 1) HT_.out ?_
       refine pu (i := 1) (N := some 93) (xB 12 3) HT_.out ?_
       refine pu (i := 2) (N := some 94) (xB 12 7) HT_.out ?_
       refine pu (i := 3) (N := some 95) (xB 12 15) HT_.out ?_
       refine pu (i := 5) (N := some 97) (xB 12 47) HT_.out ?_
       refine pu (i := 6) (N := some 98) (xB 12 111) HT_.out ?_
       refine pu (i := 7) (N := some 99) (xB 12 239) HT_.out ?_
       refine tk (i := 4) (N := some 96) (xB 12 255) HT_.out HW_.out hHeld ?_
       refine tk (i := 8) (N := some 100) (xB 12 511) HT_.out HW_.out hHeld ?_
       refine one_ (i := 9) (N := some 101) (xB 12 1023) rfl rfl (zbj HT_.out (by kernel_rfl)) (by decide) (fun K hK => ?_)
       (first | refine zbQ Try.func60 (by kernel_rfl) rfl #[.agg #[.slice A243_0 ((zab l0 a2).f0).length c243_0, .int .i64 ((zab l0 a2).f1)], .agg #[.slice A244_0 ((zab l0 (ji37)).f0).length c244_0, .int .i64 ((zab l0 (ji37)).f1)]] (by rfl) rfl rfl (by (try simp only [List.map_toArray, List.map_cons, List.map_nil]); first | done | (simp only [hji37]; rfl) | rfl | (simp only [List.length_drop, List.length_take]; rfl)) ?_ | refine zd9 Try.func60 (by kernel_rfl) rfl #[.agg #[.slice A243_0 ((zab l0 a2).f0).length c243_0, .int .i64 ((zab l0 a2).f1)], .agg #[.slice A244_0 ((zab l0 (ji37)).f0).length c244_0, .int .i64 ((zab l0 (ji37)).f1)]] (by rfl) rfl rfl rfl (by (try simp only [List.map_toArray, List.map_cons, List.map_nil]); first | done | (simp only [hji37]; rfl) | rfl | (simp only [List.length_drop, List.length_take]; rfl)) ?_)
       with_reducible refine (zaS.calls k1 _ _ ((zab l0 a2).f0) ((zab l0 a2).f1) _ _ ((zab l0 (ji37)).f0) ((zab l0 (ji37)).f1) t245 _ ?side1 ?side2 ?side3 ?side4 A40.out).mono ?_
       (case side1 => exact xw HR243_0.out)
       (case side2 => exact HC243_0.out)
       (case side3 => exact xw HR244_0.out)
       (case side4 => exact HC244_0.out)
       rintro e w47 ⟨rfl, hb⟩
       have HS0_ := (hb.cell (World.block_lt_of_cell? _ _ (hHeld.1))).trans (hHeld.1)
       have HS1_ := (hb.cell (World.block_lt_of_cell? _ _ (hHeld.2.1))).trans (hHeld.2.1)
       have HS2_ := (hb.cell (World.block_lt_of_cell? _ _ (hHeld.2.2.1))).trans (hHeld.2.2.1)
       have HS3_ := (hb.cell (World.block_lt_of_cell? _ _ (hHeld.2.2.2))).trans (hHeld.2.2.2)
       refine ⟨_, rfl, ?_⟩
       replace HO_0 := ax (Kd.zbL (xN HO_0.out) hb); replace HL243_0 := yV HL243_0 hb; replace HL244_0 := yV HL244_0 hb; replace HR243_0 := ax (Kd.zbE (xw HR243_0.out) hb); replace HR244_0 := ax (Kd.zbE (xw HR244_0.out) hb); replace HK := ax (Kept.below (S := (fun k_ => Z0_ k_)) (by repeat (first | (with_reducible first | exact HK.out | apply Kept.alloc | apply Kept.drewN | apply Kept.drew) | exact HK.out)) hb); replace HB := yB HB hb
       (try clear hb)
       (try clear hk)
       refine hK.out _ _ ⟨HS0_, HS1_, HS2_, HS3_⟩ (fun hHeld => ?_)
       clear hK K
       refine nm ?_
       refine pu (i := 10) (N := some 102) (xB 12 2047) HT_.out ?_
       refine pu (i := 11) (N := some 103) (xB 12 4095) HT_.out ?_
       refine zb6 (zbB HT_.out (by kernel_rfl)) ?_
       try go_wp2
       go_roundg k1
       case measure => have := HK1.out; omega
       case rel => exact ⟨(wrap64 ((ji37) + 1)), (x15_1), (by first | rfl | (simp; done) | (simp only [← hji37] <;> (first | rfl | simp)) | (simp [*]; done)), xr, H', ⟨by have := HK1.out; omega⟩, ⟨xN HO_0.out⟩, ⟨by repeat (first | (with_reducible first | exact HK.out | apply Kept.alloc | apply Kept.drewN | apply Kept.drew) | exact HK.out)⟩, ⟨xb HB.out⟩⟩
     ·as_aux_lemma =>
      rw [if_neg c34] at H
      have c34b0 := decide_eq_false c34
      clear c34
      have H' := ax H
      clear H
      go_wp2
      (try simp only [Act.put, List.setIfInBounds_toArray, List.set_cons_zero, List.set_cons_succ])
      go_loopg [17] k1 (fun kq v17 w' => ∃ (x0_2 : List (S48)) (x17_2 : Int), v17 = .int .i64 x17_2 ∧ zap (za.l3 kq x0_2 x14_1 x17_2 = some r) ∧ zap (kq ≤ k1) ∧ zap (Kd.N k48 48 w' w0.heap.size (fun k_ => P0_ k_) u9000_ x0_2) ∧ zap (Kept w w' (fun k_ => Z0_ k_)) ∧ zap (Below w0.heap.size w0 w'))
      case atStart => exact ⟨(l0), (a2), xr, H', ⟨Nat.le_refl _⟩, ⟨xN HO_0.out⟩, ⟨by repeat (first | (with_reducible first | exact HK.out | apply Kept.alloc | apply Kept.drewN | apply Kept.drew) | exact HK.out)⟩, ⟨xb HB.out⟩⟩
      case round =>
       clear H'
       (try clear c6); (try clear c6b0); (try clear c6b1); (try clear c7); (try clear c7b0); (try clear c9); (try clear c9b0); (try clear c10); (try clear c10b0); (try clear c11); (try clear c11b0); (try clear c12); (try clear c12b0); (try clear c14); (try clear c14b0); (try clear c21); (try clear c21b0); (try clear c23); (try clear c23b0); (try clear c24); (try clear c24b0); (try clear c25); (try clear c25b0); (try clear c26); (try clear c26b0); (try clear p27); (try clear q27); (try clear p28); (try clear q28); (try clear c33); (try clear c33b0); (try clear c33b1); (try clear c34); (try clear c34b0); (try clear c35); (try clear c35b0); (try clear c36); (try clear c36b0); (try clear c38); (try clear c38b0); (try clear c39); (try clear c39b0); (try clear c41); (try clear c41b0); (try clear hx236_0); (try clear hx236_1); (try clear hx237_0); (try clear hx237_1); (try clear hx239_0); (try clear hx239_1); (try clear hx240_0); (try clear hx240_1); (try clear hx243_0); (try clear hx243_1); (try clear hx244_0); (try clear hx244_1); (try clear hx27_0); (try clear hx27_1); (try clear hx28_0); (try clear hx28_1); (try clear p236); (try clear p237); (try clear p239); (try clear p240); (try clear p243); (try clear p244); (try clear p27); (try clear p28); (try clear q236); (try clear q237); (try clear q239); (try clear q240); (try clear q243); (try clear q244); (try clear q27); (try clear q28)
       obtain ⟨x0_2, x17_2, rfl, HA, HK2, HO_0, HK, HB⟩ := hrel
       cases gk with
       | zero => exact absurd HA.out (by simp [za.l3])
       | succ k2 =>
        have H := HA.out
        clear HA
        simp only [za.l3] at H
        by_cases c48 : x17_2 > x14_1
        ·rw [if_pos c48] at H
         have c48b0 : decide (x14_1 < x17_2) = true := decide_eq_true c48
         clear c48
         obtain ⟨ji49, hji49⟩ : ∃ j_ : Int, (wrap64 (x17_2 - 1)) = j_ := ⟨_, rfl⟩
         replace H : (if 0 ≤ (ji49) then (if (ji49) < (x0_2.length : Int) then (if 0 ≤ x17_2 then (if x17_2 < (x0_2.length : Int) then (za.l3 k2 ((x0_2.set (x17_2 : Int).toNat (⟨(zab x0_2 (ji49)).f0, (zab x0_2 (ji49)).f1⟩ : S48)).set ((ji49) : Int).toNat (⟨(zab x0_2 x17_2).f0, (zab x0_2 x17_2).f1⟩ : S48)) x14_1 ji49) else (none)) else (none)) else (none)) else (none)) = some r := by first | (rw [hji49] at H; exact H) | (simp only [hji49] at H ⊢; exact H)
         have hji49w : (IntKind.i64.wrap (x17_2 - 1)) = ji49 := (zbZ _).trans hji49
         (try simp only [hji49] at hji8)
         (try simp only [hji49] at hji37)
         (try simp only [hji49] at hji8w)
         (try simp only [hji49] at hji37w)
         by_cases c50 : 0 ≤ (ji49)
         case neg => (rw [if_neg c50] at H; exact absurd H (by simp))
         rw [if_pos c50] at H
         have c50b0 := decide_eq_true c50
         clear c50
         by_cases c51 : (ji49) < (x0_2.length : Int)
         case neg => (rw [if_neg c51] at H; exact absurd H (by simp))
         rw [if_pos c51] at H
         have c51b0 := decide_eq_true c51
         clear c51
         by_cases c52 : 0 ≤ x17_2
         case neg => (rw [if_neg c52] at H; exact absurd H (by simp))
         rw [if_pos c52] at H
         have c52b0 := decide_eq_true c52
         clear c52
         by_cases c53 : x17_2 < (x0_2.length : Int)
         case neg => (rw [if_neg c53] at H; exact absurd H (by simp))
         rw [if_pos c53] at H
         have c53b0 := decide_eq_true c53
         clear c53
         obtain ⟨y248, hy248⟩ : ∃ y_ : List (S48), y_ = (x0_2.set (x17_2 : Int).toNat (⟨(zab x0_2 (ji49)).f0, (zab x0_2 (ji49)).f1⟩ : S48)) := ⟨_, rfl⟩
         replace H : (za.l3 k2 (y248.set ((ji49) : Int).toNat (⟨(zab x0_2 x17_2).f0, (zab x0_2 x17_2).f1⟩ : S48)) x14_1 ji49) = some r := xv hy248 H
         have Ny248 := ax hy248
         clear hy248
         obtain ⟨y249, hy249⟩ : ∃ y_ : List (S48), y_ = (y248.set ((ji49) : Int).toNat (⟨(zab x0_2 x17_2).f0, (zab x0_2 x17_2).f1⟩ : S48)) := ⟨_, rfl⟩
         replace H : (za.l3 k2 y249 x14_1 ji49) = some r := xv hy249 H
         have Ny249 := ax hy249
         clear hy249
         have H' := ax H
         clear H
         try go_wp2
         replace HO_0 := ax (Kd.zbp HO_0.out); replace HK := ax (Kept.drew HK.out); replace HB := ax (zaN HB.out)
         obtain ⟨Ao57, co57, eo57⟩ := Kd.zbt HO_0.out
         (first | subst eo57 | (injection eo57 with f1_ f2_ f3_; have f4_ := f1_.symm; have f5_ := f3_.symm; clear f1_ f2_ f3_; subst f4_; subst f5_))
         have p246 : 0 ≤ ((ji49) : Int) := xd
         have q246 : (ji49) < (x0_2.length : Int) := xd
         obtain ⟨ad246, A246_0, c246_0, e246, hx246_0, hx246_1, hl246_0, hi246_0⟩ := zbs (Kd.zaE HO_0.out).2.2 (ji49) p246 q246
         cases e246
         obtain ⟨ce246, hce246, hMe246, hcc246⟩ := Kd.zco HO_0.out z48 (ji49) p246 (by first | exact q246 | exact xd | (have e_ := (Kd.zaE HO_0.out).1; omega))
         obtain ⟨ua246_0, uc246_0, rfl, ul246_0, ge246_0⟩ := zaX hMe246
         have hv246_0 := hcc246 0 _ rfl
         rw [Nat.add_zero] at hv246_0
         replace hv246_0 := Option.some.inj (hv246_0.symm.trans hx246_0)
         injection hv246_0 with hva_ hvn_ hvc_
         rw [hva_] at ge246_0
         rw [hvc_] at ul246_0
         have HL246_0 := ax (show Kd.V (Kd.int .i64) 3 _ w0.heap.size _ _ ((zab x0_2 (ji49)).f0) from Kd.V_mk ul246_0 ge246_0)
         clear hva_ hvn_ hvc_ ge246_0 ul246_0 hcc246 hce246
         have HR246_0 := ax hi246_0
         have HC246_0 := ax hl246_0
         clear hi246_0 hl246_0
         replace p246 := eq_true p246
         replace q246 := eq_true q246
         have p247 : 0 ≤ (x17_2 : Int) := xd
         have q247 : x17_2 < (x0_2.length : Int) := xd
         obtain ⟨ad247, A247_0, c247_0, e247, hx247_0, hx247_1, hl247_0, hi247_0⟩ := zbs (Kd.zaE HO_0.out).2.2 x17_2 p247 q247
         obtain rfl : ad246 = ad247 := (by injection e247)
         obtain ⟨ce247, hce247, hMe247, hcc247⟩ := Kd.zco HO_0.out z48 x17_2 p247 (by first | exact q247 | exact xd | (have e_ := (Kd.zaE HO_0.out).1; omega))
         obtain ⟨ua247_0, uc247_0, rfl, ul247_0, ge247_0⟩ := zaX hMe247
         have hv247_0 := hcc247 0 _ rfl
         rw [Nat.add_zero] at hv247_0
         replace hv247_0 := Option.some.inj (hv247_0.symm.trans hx247_0)
         injection hv247_0 with hva_ hvn_ hvc_
         rw [hva_] at ge247_0
         rw [hvc_] at ul247_0
         have HL247_0 := ax (show Kd.V (Kd.int .i64) 3 _ w0.heap.size _ _ ((zab x0_2 x17_2).f0) from Kd.V_mk ul247_0 ge247_0)
         clear hva_ hvn_ hvc_ ge247_0 ul247_0 hcc247 hce247
         have HR247_0 := ax hi247_0
         have HC247_0 := ax hl247_0
         clear hi247_0 hl247_0
         replace p247 := eq_true p247
         replace q247 := eq_true q247
         have p54 : 0 ≤ (x17_2 : Int) := xd
         have q54 : (x17_2 : Int) < ((x0_2.length : Int) : Int) := xd
         obtain ⟨go54, co54, eo54, gb54, gl54, cl54, HG54⟩ := Kd.zeb HO_0.out (by omega)
         (first | cases eo54 | (injection eo54 with ea_ en_ ec_; (first | subst ea_ | (injection ea_ with ea_; subst ea_)); subst ec_; clear en_))
         have GB54 := ax gb54
         have GG54 := ax HG54
         clear gb54 gl54 HG54
         have HMgo54 := ax (show Z0_ go54 ∨ w.heap.size ≤ go54 from .inl (HZ0.out _ rfl))
         (first | simp only [add_plain] at hx246_0 | skip)
         (first | simp only [add_plain] at hx246_1 | skip)
         (first | simp only [add_plain] at hx247_0 | skip)
         (first | simp only [add_plain] at hx247_1 | skip)
         obtain ⟨ce54, hcl54, hM54, hcc54, hfr54⟩ := Kd.zc HO_0.out z48 (x17_2 : Int) p54 q54
         obtain ⟨ua54_0, uc54_0, rfl, ul54_0, ge54_0⟩ := zaX hM54
         have hx54_0 : World.cell? _ ⟨go54, (x17_2 : Int).toNat * 2, none⟩ = some (.slice ua54_0 ((zab x0_2 x17_2).f0).length uc54_0) := hcc54 0 _ rfl
         have hx54_1 : World.cell? _ ⟨go54, (x17_2 : Int).toNat * 2 + 1, none⟩ = some (.int .i64 ((zab x0_2 x17_2).f1)) := hcc54 1 _ rfl
         have hf54_0 : World.frozen? _ ⟨go54, (x17_2 : Int).toNat * 2, none⟩ = false := hfr54 0
         have hf54_1 : World.frozen? _ ⟨go54, (x17_2 : Int).toNat * 2 + 1, none⟩ = false := hfr54 1
         clear hcl54 hcc54 hfr54; (try clear hM54)
         replace p54 := eq_true p54
         replace q54 := eq_true q54
         have HX58 := ax (show Kd.N k48 48 _ w0.heap.size (fun k_ => P0_ k_) (.slice (some ⟨go54, 0, none⟩) x0_2.length co57) x0_2 from (Kd.zbe (HO_0.out) (fun k_ hk => hk)))
         obtain ⟨ce58, hcl58, hM58, hcc58, hfr58⟩ := Kd.zc HX58.out z48 (x17_2 : Int) (xd) (by have h_ : (x17_2 : Int) < ((x0_2.length : Int) : Int) := xd; first | exact h_ | (have e_ := (Kd.zaE HO_0.out).1; omega) | simpa using h_)
         obtain ⟨ua58_0, uc58_0, rfl, ul58_0, ge58_0⟩ := zaX hM58
         have HP58 := (Kd.zeC HX58.out (x17_2 : Int) (xd) (by have h_ : (x17_2 : Int) < ((x0_2.length : Int) : Int) := xd; first | exact h_ | (have e_ := (Kd.zaE HO_0.out).1; omega) | simpa using h_) (seg := [.slice A246_0 ((zab x0_2 (ji49)).f0).length c246_0, .int .i64 ((zab x0_2 (ji49)).f1)]) (j := 0) hcl58 hcc58 (show 2 ≤ 2 from by decide) (x' := (⟨(zab x0_2 (ji49)).f0, (zab x0_2 (ji49)).f1⟩ : S48)) (zde _ _ (⟨(zab x0_2 (ji49)).f0, (zab x0_2 (ji49)).f1⟩ : S48) (Kd.za2 (Kd.zaP (ok' := (fun k_ => ((fun k_ => P0_ k_)) k_ ∧ k_ ≠ go54)) (HL246_0.out) (fun k_ hk => ⟨hk.1, fun e_ => (hk.2) (by rw [e_]; rfl)⟩))).2.1 (Kd.V_F (Kd.zaP (ok' := (fun k_ => ((fun k_ => P0_ k_)) k_ ∧ k_ ≠ go54)) (HL246_0.out) (fun k_ hk => ⟨hk.1, fun e_ => (hk.2) (by rw [e_]; rfl)⟩)))) (fun _ hk => hk)).1
         rw [← Ny248.out] at HP58
         have HQ58 := ax HP58
         clear hcl58 hcc58 hfr58; (try clear hM58); clear HP58
         have p55 : 0 ≤ ((ji49) : Int) := xd
         have q55 : ((ji49) : Int) < ((x0_2.length : Int) : Int) := xd
         obtain ⟨ce55, hcl55, hM55, hcc55, hfr55⟩ := Kd.zc HQ58.out z48 ((ji49) : Int) p55 q55
         obtain ⟨ua55_0, uc55_0, rfl, ul55_0, ge55_0⟩ := zaX hM55
         have hx55_0 : World.cell? _ ⟨go54, ((ji49) : Int).toNat * 2, none⟩ = some (.slice ua55_0 ((zab y248 (ji49)).f0).length uc55_0) := hcc55 0 _ rfl
         have hx55_1 : World.cell? _ ⟨go54, ((ji49) : Int).toNat * 2 + 1, none⟩ = some (.int .i64 ((zab y248 (ji49)).f1)) := hcc55 1 _ rfl
         have hf55_0 : World.frozen? _ ⟨go54, ((ji49) : Int).toNat * 2, none⟩ = false := hfr55 0
         have hf55_1 : World.frozen? _ ⟨go54, ((ji49) : Int).toNat * 2 + 1, none⟩ = false := hfr55 1
         clear hcl55 hcc55 hfr55; (try clear hM55)
         replace p55 := eq_true p55
         replace q55 := eq_true q55
         have HX59 := ax (show Kd.N k48 48 _ w0.heap.size (fun k_ => P0_ k_) (.slice (some ⟨go54, 0, none⟩) x0_2.length co57) y248 from (Kd.zbe (HQ58.out) (fun k_ hk => hk)))
         obtain ⟨ce59, hcl59, hM59, hcc59, hfr59⟩ := Kd.zc HX59.out z48 ((ji49) : Int) (xd) (by have h_ : ((ji49) : Int) < ((x0_2.length : Int) : Int) := xd; first | exact h_ | (have e_ := (Kd.zaE HO_0.out).1; omega) | simpa using h_)
         obtain ⟨ua59_0, uc59_0, rfl, ul59_0, ge59_0⟩ := zaX hM59
         have HP59 := (Kd.zeC HX59.out ((ji49) : Int) (xd) (by have h_ : ((ji49) : Int) < ((x0_2.length : Int) : Int) := xd; first | exact h_ | (have e_ := (Kd.zaE HO_0.out).1; omega) | simpa using h_) (seg := [.slice A247_0 ((zab x0_2 x17_2).f0).length c247_0, .int .i64 ((zab x0_2 x17_2).f1)]) (j := 0) hcl59 hcc59 (show 2 ≤ 2 from by decide) (x' := (⟨(zab x0_2 x17_2).f0, (zab x0_2 x17_2).f1⟩ : S48)) (zde _ _ (⟨(zab x0_2 x17_2).f0, (zab x0_2 x17_2).f1⟩ : S48) (Kd.za2 (Kd.zaP (ok' := (fun k_ => ((fun k_ => P0_ k_)) k_ ∧ k_ ≠ go54)) (HL247_0.out) (fun k_ hk => ⟨hk.1, fun e_ => (hk.2) (by rw [e_]; rfl)⟩))).2.1 (Kd.zfk (Kd.zfk (Kd.V_F (Kd.zaP (ok' := (fun k_ => ((fun k_ => P0_ k_)) k_ ∧ k_ ≠ go54)) (HL247_0.out) (fun k_ hk => ⟨hk.1, fun e_ => (hk.2) (by rw [e_]; rfl)⟩))) (fun _ hk => hk.2) _) (fun _ hk => hk.2) _)) (fun _ hk => hk)).1
         rw [← Ny249.out] at HP59
         have HQ59 := ax HP59
         clear hcl59 hcc59 hfr59; (try clear hM59); clear HP59
         refine zbJ (n := 18) (S := fun w' => w'.cell? ⟨go54, ((ji49)).toNat * 2, none⟩ = some (.slice A246_0 ((zab x0_2 (ji49)).f0).length c246_0) ∧ w'.cell? ⟨go54, ((ji49)).toNat * 2 + 1, none⟩ = some (.int .i64 ((zab x0_2 (ji49)).f1)) ∧ w'.cell? ⟨go54, ((x17_2).toNat * 2), none⟩ = some (.slice A247_0 ((zab x0_2 x17_2).f0).length c247_0) ∧ w'.cell? ⟨go54, ((x17_2).toNat * 2) + 1, none⟩ = some (.int .i64 ((zab x0_2 x17_2).f1))) (ds := [15, 17]) (xB 18 0) (by kernel_rfl) rfl (by kernel_rfl) ⟨hx246_0, hx246_1, hx247_0, hx247_1⟩ (fun hHeld => ?_); refine zbg za.zkk za.zjR (fun HT_ HW_ => ?_)
         generalize wr.drew = w56 at HO_0 HK HB GG54 HL246_0 HL247_0 HQ58 HQ59 HR246_0 HR247_0 hf54_0 hf54_1 hf55_0 hf55_1 hx246_0 hx246_1 hx247_0 hx247_1 hx54_0 hx54_1 hx55_0 hx55_1 hHeld ⊢
         (try simp [go_sem, World.setCells, show (k48).sz = 2 from rfl] at hf54_0)
         (try simp [go_sem, World.setCells, show (k48).sz = 2 from rfl] at hf54_1)
         (try simp [go_sem, World.setCells, show (k48).sz = 2 from rfl] at hf55_0)
         (try simp [go_sem, World.setCells, show (k48).sz = 2 from rfl] at hf55_1)
         (try simp [go_sem, World.setCells, show (k48).sz = 2 from rfl] at hx246_0)
         (try simp [go_sem, World.setCells, show (k48).sz = 2 from rfl] at hx246_1)
         (try simp [go_sem, World.setCells, show (k48).sz = 2 from rfl] at hx247_0)
         (try simp [go_sem, World.setCells, show (k48).sz = 2 from rfl] at hx247_1)
         (try simp [go_sem, World.setCells, show (k48).sz = 2 from rfl] at hx54_0)
         (try simp [go_sem, World.setCells, show (k48).sz = 2 from rfl] at hx54_1)
         (try simp [go_sem, World.setCells, show (k48).sz = 2 from rfl] at hx55_0)
         (try simp [go_sem, World.setCells, show (k48).sz = 2 from rfl] at hx55_1)
         refine pu (i := 0) (N := some 113) (xB 18 1) HT_.out ?_
         refine pu (i := 1) (N := some 114) (xB 18 3) HT_.out ?_
         refine pu (i := 2) (N := some 115) (xB 18 7) HT_.out ?_
         refine pu (i := 3) (N := some 116) (xB 18 15) HT_.out ?_
         refine pu (i := 4) (N := some 117) (xB 18 31) HT_.out ?_
         refine pu (i := 5) (N := some 118) (xB 18 63) HT_.out ?_
         refine pu (i := 6) (N := some 119) (xB 18 127) HT_.out ?_
         refine pu (i := 7) (N := some 120) (xB 18 255) HT_.out ?_
         refine pu (i := 8) (N := some 121) (xB 18 511) HT_.out ?_
         refine pu (i := 10) (N := some 123) (xB 18 1535) HT_.out ?_
         refine pu (i := 11) (N := some 124) (xB 18 3583) HT_.out ?_
         refine pu (i := 12) (N := some 125) (xB 18 7679) HT_.out ?_
         refine tk (i := 9) (N := some 122) (xB 18 8191) HT_.out HW_.out hHeld ?_
         refine tk (i := 13) (N := some 126) (xB 18 16383) HT_.out HW_.out hHeld ?_
         refine pu (i := 14) (N := some 127) (xB 18 32767) HT_.out ?_
         refine zev (i := 15) (N := none) (xB 18 65535) rfl rfl (zbj HT_.out (by kernel_rfl)) (by decide) (fun K hK => ?_)
         refine zdF (w1 := ?_) (by rfl) rfl ?_ ?_
         rotate_left
         ·go_simp
          rfl
         refine hK.out _ _ ?_
         clear hK K
         refine pu (i := 16) (N := some 128) (xB 18 131071) HT_.out ?_
         refine zev (i := 17) (N := none) (xB 18 262143) rfl rfl (zbj HT_.out (by kernel_rfl)) (by decide) (fun K hK => ?_)
         refine zdF (w1 := ?_) (by rfl) rfl ?_ ?_
         rotate_left
         ·go_simp
          rfl
         refine hK.out _ _ ?_
         clear hK K
         refine zb6 (zbB HT_.out (by kernel_rfl)) ?_
         try go_wp2
         go_roundg k2
         case measure => have := HK1.out; have := HK2.out; omega
         case rel => exact ⟨(y249), (ji49), (by first | rfl | (simp; done) | (simp only [← hji49] <;> (first | rfl | simp)) | (simp [*]; done)), H', ⟨by have := HK1.out; have := HK2.out; omega⟩, ⟨by (with_reducible repeat (first | apply Kd.zbD | apply Kd.zbz | apply Kd.zbp)); exact HQ59.out⟩, ⟨by repeat (first | (with_reducible first | exact HK.out | apply Kept.alloc | apply Kept.drewN | apply Kept.drew | refine Kept.setCell ?_ HMgo54.out _ | refine Kept.setCell ?_ HMgo54.out _ | refine Kept.setCell ?_ HMgo54.out _ | refine Kept.setCell ?_ HMgo54.out _) | exact HK.out)⟩, ⟨bh HB.out⟩⟩
        ·rw [if_neg c48] at H
         have c48b0 : decide (x14_1 < x17_2) = false := decide_eq_false c48
         clear c48
         obtain rfl := Option.some.inj H
         go_wp2
         first | go_end0 | ((try simp only [Exit.inBlock, Exit.then]); refine bodyPost_ret (results_none rfl _ _ _) rfl ?_)
         exact ⟨xe, xN HO_0.out, xb HB.out, by repeat (first | (with_reducible first | exact HK.out | apply Kept.alloc | apply Kept.drewN | apply Kept.drew) | exact HK.out)⟩
  ·rw [if_neg c33] at H
   have c33b0 : ((wrap64 (a3 - a2)) == 1) = false := beq_eq_false_iff_ne.mpr c33
   have c33b1 : ((wrap64 (a3 - a2)) != 1) = true := bne_iff_ne.mpr c33
   have HC60 := ax H
   clear H
   go_enter Try.func91, Try.ntmps91
   go_upto_if 140 with (fail)
   go_cut [20, 21] (fun v20 v21 wc => ∃ (kq : Nat) (x20_59 : Int) (x21_59 : Int), v20 = .int .i64 x20_59 ∧ v21 = .int .i64 x21_59 ∧ zap (za.j4 kq l0 a1 a2 a3 (wrap64 ((IntKind.u64.wrap (wrap64 (a1 + a3))) / 2)) (wrap64 ((wrap64 ((IntKind.u64.wrap (wrap64 (a1 + a3))) / 2)) + a2)) x20_59 x21_59 = some r) ∧ zap (kq ≤ k) ∧ zap (Kd.N k48 48 wc w0.heap.size (fun k_ => P0_ k_) u9000_ l0) ∧ zap (Kept w wc (fun k_ => Z0_ k_)) ∧ zap (Below w0.heap.size w0 wc))
   case first =>
    as_aux_lemma =>
    have H := HC60.out
    clear HC60
    by_cases c61 : a2 > (wrap64 ((IntKind.u64.wrap (wrap64 (a1 + a3))) / 2))
    ·rw [if_pos c61] at H
     have c61b0 : decide ((wrap64 ((IntKind.u64.wrap (wrap64 (a1 + a3))) / 2)) < a2) = true := decide_eq_true c61
     clear c61
     (first | rw [c61b0] | (simp only [zbZ, zcd]; rw [c61b0]) | skip)
     have H' := ax H
     clear H
     go_wp2
     go_meet
     case rel => exact ⟨_, (wrap64 ((wrap64 ((wrap64 ((IntKind.u64.wrap (wrap64 (a1 + a3))) / 2)) + a2)) - a3)), (wrap64 ((IntKind.u64.wrap (wrap64 (a1 + a3))) / 2)), xr, xr, H', ⟨by first | omega | exact Nat.le_refl _⟩, ⟨xN HO0.out⟩, ⟨by repeat (first | (with_reducible first | exact HK.out | apply Kept.alloc | apply Kept.drewN | apply Kept.drew) | exact HK.out)⟩, ⟨xb HB.out⟩⟩
    ·rw [if_neg c61] at H
     have c61b0 : decide ((wrap64 ((IntKind.u64.wrap (wrap64 (a1 + a3))) / 2)) < a2) = false := decide_eq_false c61
     clear c61
     (first | rw [c61b0] | (simp only [zbZ, zcd]; rw [c61b0]) | skip)
     have H' := ax H
     clear H
     go_wp2
     go_meet
     case rel => exact ⟨_, (a1), (a2), xr, xr, H', ⟨by first | omega | exact Nat.le_refl _⟩, ⟨xN HO0.out⟩, ⟨by repeat (first | (with_reducible first | exact HK.out | apply Kept.alloc | apply Kept.drewN | apply Kept.drew) | exact HK.out)⟩, ⟨xb HB.out⟩⟩
   case rest =>
    as_aux_lemma =>
    clear HC60
    (try clear c6); (try clear c6b0); (try clear c6b1); (try clear c7); (try clear c7b0); (try clear c9); (try clear c9b0); (try clear c10); (try clear c10b0); (try clear c11); (try clear c11b0); (try clear c12); (try clear c12b0); (try clear c14); (try clear c14b0); (try clear c21); (try clear c21b0); (try clear c23); (try clear c23b0); (try clear c24); (try clear c24b0); (try clear c25); (try clear c25b0); (try clear c26); (try clear c26b0); (try clear p27); (try clear q27); (try clear p28); (try clear q28); (try clear c33); (try clear c33b0); (try clear c33b1); (try clear c34); (try clear c34b0); (try clear c35); (try clear c35b0); (try clear c36); (try clear c36b0); (try clear c38); (try clear c38b0); (try clear c39); (try clear c39b0); (try clear c41); (try clear c41b0); (try clear c48); (try clear c48b0); (try clear c50); (try clear c50b0); (try clear c51); (try clear c51b0); (try clear c52); (try clear c52b0); (try clear c53); (try clear c53b0); (try clear p54); (try clear q54); (try clear p55); (try clear q55); (try clear c61); (try clear c61b0); (try clear hx236_0); (try clear hx236_1); (try clear hx237_0); (try clear hx237_1); (try clear hx239_0); (try clear hx239_1); (try clear hx240_0); (try clear hx240_1); (try clear hx243_0); (try clear hx243_1); (try clear hx244_0); (try clear hx244_1); (try clear hx246_0); (try clear hx246_1); (try clear hx247_0); (try clear hx247_1); (try clear hx27_0); (try clear hx27_1); (try clear hx28_0); (try clear hx28_1); (try clear hx54_0); (try clear hx54_1); (try clear hx55_0); (try clear hx55_1); (try clear p236); (try clear p237); (try clear p239); (try clear p240); (try clear p243); (try clear p244); (try clear p246); (try clear p247); (try clear p27); (try clear p28); (try clear p54); (try clear p55); (try clear q236); (try clear q237); (try clear q239); (try clear q240); (try clear q243); (try clear q244); (try clear q246); (try clear q247); (try clear q27); (try clear q28); (try clear q54); (try clear q55)
    obtain ⟨kq, x20_59, x21_59, rfl, rfl, HA, HJ59, HO_0, HK, HB⟩ := hcut
    cases kq with
    | zero => exact absurd HA.out (by simp [za.j4])
    | succ kj59 =>
     have H := HA.out
     clear HA
     simp only [za.j4] at H
     have H' := ax H
     clear H
     go_wp2
     (try simp only [Act.put, List.setIfInBounds_toArray, List.set_cons_zero, List.set_cons_succ])
     go_loopg [20, 21] kj59 (fun kq v20 v21 w' => ∃ (x20_2 : Int) (x21_2 : Int), v20 = .int .i64 x20_2 ∧ v21 = .int .i64 x21_2 ∧ zap (za.l4 kq l0 a1 a2 a3 (wrap64 ((IntKind.u64.wrap (wrap64 (a1 + a3))) / 2)) (wrap64 ((wrap64 ((IntKind.u64.wrap (wrap64 (a1 + a3))) / 2)) + a2)) x20_2 x21_2 (wrap64 ((wrap64 ((wrap64 ((IntKind.u64.wrap (wrap64 (a1 + a3))) / 2)) + a2)) - 1)) = some r) ∧ zap (kq ≤ kj59) ∧ zap (Kd.N k48 48 w' w0.heap.size (fun k_ => P0_ k_) u9000_ l0) ∧ zap (Kept w w' (fun k_ => Z0_ k_)) ∧ zap (Below w0.heap.size w0 w'))
     case atStart => exact ⟨(x20_59), (x21_59), xr, xr, H', ⟨Nat.le_refl _⟩, ⟨xN HO_0.out⟩, ⟨by repeat (first | (with_reducible first | exact HK.out | apply Kept.alloc | apply Kept.drewN | apply Kept.drew) | exact HK.out)⟩, ⟨xb HB.out⟩⟩
     case round =>
      clear H'
      (try clear c6); (try clear c6b0); (try clear c6b1); (try clear c7); (try clear c7b0); (try clear c9); (try clear c9b0); (try clear c10); (try clear c10b0); (try clear c11); (try clear c11b0); (try clear c12); (try clear c12b0); (try clear c14); (try clear c14b0); (try clear c21); (try clear c21b0); (try clear c23); (try clear c23b0); (try clear c24); (try clear c24b0); (try clear c25); (try clear c25b0); (try clear c26); (try clear c26b0); (try clear p27); (try clear q27); (try clear p28); (try clear q28); (try clear c33); (try clear c33b0); (try clear c33b1); (try clear c34); (try clear c34b0); (try clear c35); (try clear c35b0); (try clear c36); (try clear c36b0); (try clear c38); (try clear c38b0); (try clear c39); (try clear c39b0); (try clear c41); (try clear c41b0); (try clear c48); (try clear c48b0); (try clear c50); (try clear c50b0); (try clear c51); (try clear c51b0); (try clear c52); (try clear c52b0); (try clear c53); (try clear c53b0); (try clear p54); (try clear q54); (try clear p55); (try clear q55); (try clear c61); (try clear c61b0); (try clear hx236_0); (try clear hx236_1); (try clear hx237_0); (try clear hx237_1); (try clear hx239_0); (try clear hx239_1); (try clear hx240_0); (try clear hx240_1); (try clear hx243_0); (try clear hx243_1); (try clear hx244_0); (try clear hx244_1); (try clear hx246_0); (try clear hx246_1); (try clear hx247_0); (try clear hx247_1); (try clear hx27_0); (try clear hx27_1); (try clear hx28_0); (try clear hx28_1); (try clear hx54_0); (try clear hx54_1); (try clear hx55_0); (try clear hx55_1); (try clear p236); (try clear p237); (try clear p239); (try clear p240); (try clear p243); (try clear p244); (try clear p246); (try clear p247); (try clear p27); (try clear p28); (try clear p54); (try clear p55); (try clear q236); (try clear q237); (try clear q239); (try clear q240); (try clear q243); (try clear q244); (try clear q246); (try clear q247); (try clear q27); (try clear q28); (try clear q54); (try clear q55)
      obtain ⟨x20_2, x21_2, rfl, rfl, HA, HK2, HO_0, HK, HB⟩ := hrel
      cases gk with
      | zero => exact absurd HA.out (by simp [za.l4])
      | succ k2 =>
       have H := HA.out
       clear HA
       simp only [za.l4] at H
       by_cases c62 : x20_2 < x21_2
       ·as_aux_lemma =>
        rw [if_pos c62] at H
        have c62b0 := decide_eq_true c62
        clear c62
        obtain ⟨ji63, hji63⟩ : ∃ j_ : Int, (wrap64 ((wrap64 ((wrap64 ((wrap64 ((IntKind.u64.wrap (wrap64 (a1 + a3))) / 2)) + a2)) - 1)) - (wrap64 ((IntKind.u64.wrap (wrap64 (x20_2 + x21_2))) / 2)))) = j_ := ⟨_, rfl⟩
        replace H : (if 0 ≤ (ji63) then (if (ji63) < (l0.length : Int) then (if 0 ≤ (wrap64 ((IntKind.u64.wrap (wrap64 (x20_2 + x21_2))) / 2)) then (if (wrap64 ((IntKind.u64.wrap (wrap64 (x20_2 + x21_2))) / 2)) < (l0.length : Int) then ((zaS.f k2 ((zab l0 (ji63)).f0) ((zab l0 (ji63)).f1) ((zab l0 (wrap64 ((IntKind.u64.wrap (wrap64 (x20_2 + x21_2))) / 2))).f0) ((zab l0 (wrap64 ((IntKind.u64.wrap (wrap64 (x20_2 + x21_2))) / 2))).f1)).bind fun t252 => (if t252 < 0 then (za.l4 k2 l0 a1 a2 a3 (wrap64 ((IntKind.u64.wrap (wrap64 (a1 + a3))) / 2)) (wrap64 ((wrap64 ((IntKind.u64.wrap (wrap64 (a1 + a3))) / 2)) + a2)) x20_2 (wrap64 ((IntKind.u64.wrap (wrap64 (x20_2 + x21_2))) / 2)) (wrap64 ((wrap64 ((wrap64 ((IntKind.u64.wrap (wrap64 (a1 + a3))) / 2)) + a2)) - 1))) else (za.l4 k2 l0 a1 a2 a3 (wrap64 ((IntKind.u64.wrap (wrap64 (a1 + a3))) / 2)) (wrap64 ((wrap64 ((IntKind.u64.wrap (wrap64 (a1 + a3))) / 2)) + a2)) (wrap64 ((wrap64 ((IntKind.u64.wrap (wrap64 (x20_2 + x21_2))) / 2)) + 1)) x21_2 (wrap64 ((wrap64 ((wrap64 ((IntKind.u64.wrap (wrap64 (a1 + a3))) / 2)) + a2)) - 1))))) else (none)) else (none)) else (none)) else (none)) = some r := by first | (rw [hji63] at H; exact H) | (simp only [hji63] at H ⊢; exact H)
        have hji63w : (IntKind.i64.wrap ((wrap64 ((wrap64 ((wrap64 ((IntKind.u64.wrap (wrap64 (a1 + a3))) / 2)) + a2)) - 1)) - (wrap64 ((IntKind.u64.wrap (wrap64 (x20_2 + x21_2))) / 2)))) = ji63 := (zbZ _).trans hji63
        (try simp only [hji63] at hji8)
        (try simp only [hji63] at hji37)
        (try simp only [hji63] at hji8w)
        (try simp only [hji63] at hji37w)
        by_cases c64 : 0 ≤ (ji63)
        case neg => (rw [if_neg c64] at H; exact absurd H (by simp))
        rw [if_pos c64] at H
        have c64b0 := decide_eq_true c64
        clear c64
        by_cases c65 : (ji63) < (l0.length : Int)
        case neg => (rw [if_neg c65] at H; exact absurd H (by simp))
        rw [if_pos c65] at H
        have c65b0 := decide_eq_true c65
        clear c65
        obtain ⟨ji66, hji66⟩ : ∃ j_ : Int, (wrap64 ((IntKind.u64.wrap (wrap64 (x20_2 + x21_2))) / 2)) = j_ := ⟨_, rfl⟩
        replace H : (if 0 ≤ (ji66) then (if (ji66) < (l0.length : Int) then ((zaS.f k2 ((zab l0 (ji63)).f0) ((zab l0 (ji63)).f1) ((zab l0 (ji66)).f0) ((zab l0 (ji66)).f1)).bind fun t252 => (if t252 < 0 then (za.l4 k2 l0 a1 a2 a3 (wrap64 ((IntKind.u64.wrap (wrap64 (a1 + a3))) / 2)) (wrap64 ((wrap64 ((IntKind.u64.wrap (wrap64 (a1 + a3))) / 2)) + a2)) x20_2 ji66 (wrap64 ((wrap64 ((wrap64 ((IntKind.u64.wrap (wrap64 (a1 + a3))) / 2)) + a2)) - 1))) else (za.l4 k2 l0 a1 a2 a3 (wrap64 ((IntKind.u64.wrap (wrap64 (a1 + a3))) / 2)) (wrap64 ((wrap64 ((IntKind.u64.wrap (wrap64 (a1 + a3))) / 2)) + a2)) (wrap64 ((ji66) + 1)) x21_2 (wrap64 ((wrap64 ((wrap64 ((IntKind.u64.wrap (wrap64 (a1 + a3))) / 2)) + a2)) - 1))))) else (none)) else (none)) = some r := by first | (rw [hji66] at H; exact H) | (simp only [hji66] at H ⊢; exact H)
        have hji66w : (IntKind.i64.wrap ((IntKind.u64.wrap (wrap64 (x20_2 + x21_2))) / 2)) = ji66 := (zbZ _).trans hji66
        (try simp only [hji66] at hji8)
        (try simp only [hji66] at hji37)
        (try simp only [hji66] at hji63)
        (try simp only [hji66] at hji8w)
        (try simp only [hji66] at hji37w)
        (try simp only [hji66] at hji63w)
        by_cases c67 : 0 ≤ (ji66)
        case neg => (rw [if_neg c67] at H; exact absurd H (by simp))
        rw [if_pos c67] at H
        have c67b0 := decide_eq_true c67
        clear c67
        by_cases c68 : (ji66) < (l0.length : Int)
        case neg => (rw [if_neg c68] at H; exact absurd H (by simp))
        rw [if_pos c68] at H
        have c68b0 := decide_eq_true c68
        clear c68
        obtain ⟨t252, A69, H⟩ := xI H
        by_cases c70 : t252 < 0
        ·as_aux_lemma =>
         rw [if_pos c70] at H
         have c70b0 := decide_eq_true c70
         clear c70
         have H' := ax H
         clear H
         try go_wp2
         replace HO_0 := ax (Kd.zbp HO_0.out); replace HK := ax (Kept.drew HK.out); replace HB := ax (zaN HB.out)
         obtain ⟨Ao72, co72, eo72⟩ := Kd.zbt HO_0.out
         (first | subst eo72 | (injection eo72 with f1_ f2_ f3_; have f4_ := f1_.symm; have f5_ := f3_.symm; clear f1_ f2_ f3_; subst f4_; subst f5_))
         have p250 : 0 ≤ ((ji63) : Int) := xd
         have q250 : (ji63) < (l0.length : Int) := xd
         obtain ⟨ad250, A250_0, c250_0, e250, hx250_0, hx250_1, hl250_0, hi250_0⟩ := zbs (Kd.zaE HO_0.out).2.2 (ji63) p250 q250
         cases e250
         obtain ⟨ce250, hce250, hMe250, hcc250⟩ := Kd.zco HO_0.out z48 (ji63) p250 (by first | exact q250 | exact xd | (have e_ := (Kd.zaE HO_0.out).1; omega))
         obtain ⟨ua250_0, uc250_0, rfl, ul250_0, ge250_0⟩ := zaX hMe250
         have hv250_0 := hcc250 0 _ rfl
         rw [Nat.add_zero] at hv250_0
         replace hv250_0 := Option.some.inj (hv250_0.symm.trans hx250_0)
         injection hv250_0 with hva_ hvn_ hvc_
         rw [hva_] at ge250_0
         rw [hvc_] at ul250_0
         have HL250_0 := ax (show Kd.V (Kd.int .i64) 3 _ w0.heap.size _ _ ((zab l0 (ji63)).f0) from Kd.V_mk ul250_0 ge250_0)
         clear hva_ hvn_ hvc_ ge250_0 ul250_0 hcc250 hce250
         have HR250_0 := ax hi250_0
         have HC250_0 := ax hl250_0
         clear hi250_0 hl250_0
         replace p250 := eq_true p250
         replace q250 := eq_true q250
         have p251 : 0 ≤ ((ji66) : Int) := xd
         have q251 : (ji66) < (l0.length : Int) := xd
         obtain ⟨ad251, A251_0, c251_0, e251, hx251_0, hx251_1, hl251_0, hi251_0⟩ := zbs (Kd.zaE HO_0.out).2.2 (ji66) p251 q251
         obtain rfl : ad250 = ad251 := (by injection e251)
         obtain ⟨ce251, hce251, hMe251, hcc251⟩ := Kd.zco HO_0.out z48 (ji66) p251 (by first | exact q251 | exact xd | (have e_ := (Kd.zaE HO_0.out).1; omega))
         obtain ⟨ua251_0, uc251_0, rfl, ul251_0, ge251_0⟩ := zaX hMe251
         have hv251_0 := hcc251 0 _ rfl
         rw [Nat.add_zero] at hv251_0
         replace hv251_0 := Option.some.inj (hv251_0.symm.trans hx251_0)
         injection hv251_0 with hva_ hvn_ hvc_
         rw [hva_] at ge251_0
         rw [hvc_] at ul251_0
         have HL251_0 := ax (show Kd.V (Kd.int .i64) 3 _ w0.heap.size _ _ ((zab l0 (ji66)).f0) from Kd.V_mk ul251_0 ge251_0)
         clear hva_ hvn_ hvc_ ge251_0 ul251_0 hcc251 hce251
         have HR251_0 := ax hi251_0
         have HC251_0 := ax hl251_0
         clear hi251_0 hl251_0
         replace p251 := eq_true p251
         replace q251 := eq_true q251
         refine zbJ (n := 14) (S := fun w' => w'.cell? (ad250.add (((ji63)).toNat * 2)) = some (.slice A250_0 ((zab l0 (ji63)).f0).length c250_0) ∧ w'.cell? ⟨(ad250.add (((ji63)).toNat * 2)).block, (ad250.add (((ji63)).toNat * 2)).off + 1, none⟩ = some (.int .i64 ((zab l0 (ji63)).f1)) ∧ w'.cell? (ad250.add (((ji66)).toNat * 2)) = some (.slice A251_0 ((zab l0 (ji66)).f0).length c251_0) ∧ w'.cell? ⟨(ad250.add (((ji66)).toNat * 2)).block, (ad250.add (((ji66)).toNat * 2)).off + 1, none⟩ = some (.int .i64 ((zab l0 (ji66)).f1))) (ds := []) (xB 14 0) (by kernel_rfl) rfl (by kernel_rfl) ⟨hx250_0, hx250_1, hx251_0, hx251_1⟩ (fun hHeld => ?_); refine zbg za.zjF za.ziP (fun HT_ HW_ => ?_)
         generalize wr.drew = w71 at HO_0 HK HB HL250_0 HL251_0 HR250_0 HR251_0 hx250_0 hx250_1 hx251_0 hx251_1 hHeld ⊢
         (try simp [go_sem, World.setCells, show (k48).sz = 2 from rfl] at hx250_0)
         (try simp [go_sem, World.setCells, show (k48).sz = 2 from rfl] at hx250_1)
         (try simp [go_sem, World.setCells, show (k48).sz = 2 from rfl] at hx251_0)
         (try simp [go_sem, World.setCells, show (k48).sz = 2 from rfl] at hx251_1)
         refine pu (i := 0) (N := some 158) (xB 14 1) HT_.out ?_
         refine pu (i := 1) (N := some 159) (xB 14 3) HT_.out ?_
         refine pu (i := 2) (N := some 160) (xB 14 7) HT_.out ?_
         refine pu (i := 3) (N := some 161) (xB 14 15) HT_.out ?_
         refine pu (i := 4) (N := some 162) (xB 14 31) HT_.out ?_
         refine pu (i := 5) (N := some 163) (xB 14 63) HT_.out ?_
         refine pu (i := 7) (N := some 165) (xB 14 191) HT_.out ?_
         refine pu (i := 8) (N := some 166) (xB 14 447) HT_.out ?_
         refine pu (i := 9) (N := some 167) (xB 14 959) HT_.out ?_
         refine tk (i := 6) (N := some 164) (xB 14 1023) HT_.out HW_.out hHeld ?_
         refine tk (i := 10) (N := some 168) (xB 14 2047) HT_.out HW_.out hHeld ?_
         refine one_ (i := 11) (N := some 169) (xB 14 4095) rfl rfl (zbj HT_.out (by kernel_rfl)) (by decide) (fun K hK => ?_)
         (first | refine zbQ Try.func60 (by kernel_rfl) rfl #[.agg #[.slice A250_0 ((zab l0 (ji63)).f0).length c250_0, .int .i64 ((zab l0 (ji63)).f1)], .agg #[.slice A251_0 ((zab l0 (ji66)).f0).length c251_0, .int .i64 ((zab l0 (ji66)).f1)]] (by rfl) rfl rfl (by (try simp only [List.map_toArray, List.map_cons, List.map_nil]); first | done | (simp only [hji63, hji66]; rfl) | rfl | (simp only [List.length_drop, List.length_take]; rfl)) ?_ | refine zd9 Try.func60 (by kernel_rfl) rfl #[.agg #[.slice A250_0 ((zab l0 (ji63)).f0).length c250_0, .int .i64 ((zab l0 (ji63)).f1)], .agg #[.slice A251_0 ((zab l0 (ji66)).f0).length c251_0, .int .i64 ((zab l0 (ji66)).f1)]] (by rfl) rfl rfl rfl (by (try simp only [List.map_toArray, List.map_cons, List.map_nil]); first | done | (simp only [hji63, hji66]; rfl) | rfl | (simp only [List.length_drop, List.length_take]; rfl)) ?_)
         with_reducible refine (zaS.calls k2 _ _ ((zab l0 (ji63)).f0) ((zab l0 (ji63)).f1) _ _ ((zab l0 (ji66)).f0) ((zab l0 (ji66)).f1) t252 _ ?side1 ?side2 ?side3 ?side4 A69.out).mono ?_
         (case side1 => exact xw HR250_0.out)
         (case side2 => exact HC250_0.out)
         (case side3 => exact xw HR251_0.out)
         (case side4 => exact HC251_0.out)
         rintro e w73 ⟨rfl, hb⟩
         have HS0_ := (hb.cell (World.block_lt_of_cell? _ _ (hHeld.1))).trans (hHeld.1)
         have HS1_ := (hb.cell (World.block_lt_of_cell? _ _ (hHeld.2.1))).trans (hHeld.2.1)
         have HS2_ := (hb.cell (World.block_lt_of_cell? _ _ (hHeld.2.2.1))).trans (hHeld.2.2.1)
         have HS3_ := (hb.cell (World.block_lt_of_cell? _ _ (hHeld.2.2.2))).trans (hHeld.2.2.2)
         refine ⟨_, rfl, ?_⟩
         replace HO_0 := ax (Kd.zbL (xN HO_0.out) hb); replace HL250_0 := yV HL250_0 hb; replace HL251_0 := yV HL251_0 hb; replace HR250_0 := ax (Kd.zbE (xw HR250_0.out) hb); replace HR251_0 := ax (Kd.zbE (xw HR251_0.out) hb); replace HK := ax (Kept.below (S := (fun k_ => Z0_ k_)) (by repeat (first | (with_reducible first | exact HK.out | apply Kept.alloc | apply Kept.drewN | apply Kept.drew) | exact HK.out)) hb); replace HB := yB HB hb
         (try clear hb)
         (try clear hk)
         refine hK.out _ _ ⟨HS0_, HS1_, HS2_, HS3_⟩ (fun hHeld => ?_)
         clear hK K
         refine nm ?_
         refine pu (i := 12) (N := some 170) (xB 14 8191) HT_.out ?_
         refine pu (i := 13) (N := some 171) (xB 14 16383) HT_.out ?_
         refine zb6 (zbB HT_.out (by kernel_rfl)) ?_
         try go_wp2
         go_roundg k2
         case measure => have := HJ59.out; have := HK2.out; omega
         case rel => exact ⟨(x20_2), (ji66), xr, (by first | rfl | (simp; done) | (simp only [← hji66] <;> (first | rfl | simp)) | (simp [*]; done)), H', ⟨by have := HJ59.out; have := HK2.out; omega⟩, ⟨xN HO_0.out⟩, ⟨by repeat (first | (with_reducible first | exact HK.out | apply Kept.alloc | apply Kept.drewN | apply Kept.drew) | exact HK.out)⟩, ⟨xb HB.out⟩⟩
        ·as_aux_lemma =>
         rw [if_neg c70] at H
         have c70b0 := decide_eq_false c70
         clear c70
         have H' := ax H
         clear H
         try go_wp2
         replace HO_0 := ax (Kd.zbp HO_0.out); replace HK := ax (Kept.drew HK.out); replace HB := ax (zaN HB.out)
         obtain ⟨Ao75, co75, eo75⟩ := Kd.zbt HO_0.out
         (first | subst eo75 | (injection eo75 with f1_ f2_ f3_; have f4_ := f1_.symm; have f5_ := f3_.symm; clear f1_ f2_ f3_; subst f4_; subst f5_))
         have p250 : 0 ≤ ((ji63) : Int) := xd
         have q250 : (ji63) < (l0.length : Int) := xd
         obtain ⟨ad250, A250_0, c250_0, e250, hx250_0, hx250_1, hl250_0, hi250_0⟩ := zbs (Kd.zaE HO_0.out).2.2 (ji63) p250 q250
         cases e250
         obtain ⟨ce250, hce250, hMe250, hcc250⟩ := Kd.zco HO_0.out z48 (ji63) p250 (by first | exact q250 | exact xd | (have e_ := (Kd.zaE HO_0.out).1; omega))
         obtain ⟨ua250_0, uc250_0, rfl, ul250_0, ge250_0⟩ := zaX hMe250
         have hv250_0 := hcc250 0 _ rfl
         rw [Nat.add_zero] at hv250_0
         replace hv250_0 := Option.some.inj (hv250_0.symm.trans hx250_0)
         injection hv250_0 with hva_ hvn_ hvc_
         rw [hva_] at ge250_0
         rw [hvc_] at ul250_0
         have HL250_0 := ax (show Kd.V (Kd.int .i64) 3 _ w0.heap.size _ _ ((zab l0 (ji63)).f0) from Kd.V_mk ul250_0 ge250_0)
         clear hva_ hvn_ hvc_ ge250_0 ul250_0 hcc250 hce250
         have HR250_0 := ax hi250_0
         have HC250_0 := ax hl250_0
         clear hi250_0 hl250_0
         replace p250 := eq_true p250
         replace q250 := eq_true q250
         have p251 : 0 ≤ ((ji66) : Int) := xd
         have q251 : (ji66) < (l0.length : Int) := xd
         obtain ⟨ad251, A251_0, c251_0, e251, hx251_0, hx251_1, hl251_0, hi251_0⟩ := zbs (Kd.zaE HO_0.out).2.2 (ji66) p251 q251
         obtain rfl : ad250 = ad251 := (by injection e251)
         obtain ⟨ce251, hce251, hMe251, hcc251⟩ := Kd.zco HO_0.out z48 (ji66) p251 (by first | exact q251 | exact xd | (have e_ := (Kd.zaE HO_0.out).1; omega))
         obtain ⟨ua251_0, uc251_0, rfl, ul251_0, ge251_0⟩ := zaX hMe251
         have hv251_0 := hcc251 0 _ rfl
         rw [Nat.add_zero] at hv251_0
         replace hv251_0 := Option.some.inj (hv251_0.symm.trans hx251_0)
         injection hv251_0 with hva_ hvn_ hvc_
         rw [hva_] at ge251_0
         rw [hvc_] at ul251_0
         have HL251_0 := ax (show Kd.V (Kd.int .i64) 3 _ w0.heap.size _ _ ((zab l0 (ji66)).f0) from Kd.V_mk ul251_0 ge251_0)
         clear hva_ hvn_ hvc_ ge251_0 ul251_0 hcc251 hce251
         have HR251_0 := ax hi251_0
         have HC251_0 := ax hl251_0
         clear hi251_0 hl251_0
         replace p251 := eq_true p251
         replace q251 := eq_true q251
         refine zbJ (n := 14) (S := fun w' => w'.cell? (ad250.add (((ji63)).toNat * 2)) = some (.slice A250_0 ((zab l0 (ji63)).f0).length c250_0) ∧ w'.cell? ⟨(ad250.add (((ji63)).toNat * 2)).block, (ad250.add (((ji63)).toNat * 2)).off + 1, none⟩ = some (.int .i64 ((zab l0 (ji63)).f1)) ∧ w'.cell? (ad250.add (((ji66)).toNat * 2)) = some (.slice A251_0 ((zab l0 (ji66)).f0).length c251_0) ∧ w'.cell? ⟨(ad250.add (((ji66)).toNat * 2)).block, (ad250.add (((ji66)).toNat * 2)).off + 1, none⟩ = some (.int .i64 ((zab l0 (ji66)).f1))) (ds := []) (xB 14 0) (by kernel_rfl) rfl (by kernel_rfl) ⟨hx250_0, hx250_1, hx251_0, hx251_1⟩ (fun hHeld => ?_); refine zbg za.zjF za.ziP (fun HT_ HW_ => ?_)
         generalize wr.drew = w74 at HO_0 HK HB HL250_0 HL251_0 HR250_0 HR251_0 hx250_0 hx250_1 hx251_0 hx251_1 hHeld ⊢
         (try simp [go_sem, World.setCells, show (k48).sz = 2 from rfl] at hx250_0)
         (try simp [go_sem, World.setCells, show (k48).sz = 2 from rfl] at hx250_1)
         (try simp [go_sem, World.setCells, show (k48).sz = 2 from rfl] at hx251_0)
         (try simp [go_sem, World.setCells, show (k48).sz = 2 from rfl] at hx251_1)
         refine pu (i := 0) (N := some 158) (xB 14 1) HT_.out ?_
         refine pu (i := 1) (N := some 159) (xB 14 3) HT_.out ?_
         refine pu (i := 2) (N := some 160) (xB 14 7) HT_.out ?_
         refine pu (i := 3) (N := some 161) (xB 14 15) HT_.out ?_
         refine pu (i := 4) (N := some 162) (xB 14 31) HT_.out ?_
         refine pu (i := 5) (N := some 163) (xB 14 63) HT_.out ?_
         refine pu (i := 7) (N := some 165) (xB 14 191) HT_.out ?_
         refine pu (i := 8) (N := some 166) (xB 14 447) HT_.out ?_
         refine pu (i := 9) (N := some 167) (xB 14 959) HT_.out ?_
         refine tk (i := 6) (N := some 164) (xB 14 1023) HT_.out HW_.out hHeld ?_
         refine tk (i := 10) (N := some 168) (xB 14 2047) HT_.out HW_.out hHeld ?_
         refine one_ (i := 11) (N := some 169) (xB 14 4095) rfl rfl (zbj HT_.out (by kernel_rfl)) (by decide) (fun K hK => ?_)
         (first | refine zbQ Try.func60 (by kernel_rfl) rfl #[.agg #[.slice A250_0 ((zab l0 (ji63)).f0).length c250_0, .int .i64 ((zab l0 (ji63)).f1)], .agg #[.slice A251_0 ((zab l0 (ji66)).f0).length c251_0, .int .i64 ((zab l0 (ji66)).f1)]] (by rfl) rfl rfl (by (try simp only [List.map_toArray, List.map_cons, List.map_nil]); first | done | (simp only [hji63, hji66]; rfl) | rfl | (simp only [List.length_drop, List.length_take]; rfl)) ?_ | refine zd9 Try.func60 (by kernel_rfl) rfl #[.agg #[.slice A250_0 ((zab l0 (ji63)).f0).length c250_0, .int .i64 ((zab l0 (ji63)).f1)], .agg #[.slice A251_0 ((zab l0 (ji66)).f0).length c251_0, .int .i64 ((zab l0 (ji66)).f1)]] (by rfl) rfl rfl rfl (by (try simp only [List.map_toArray, List.map_cons, List.map_nil]); first | done | (simp only [hji63, hji66]; rfl) | rfl | (simp only [List.length_drop, List.length_take]; rfl)) ?_)
         with_reducible refine (zaS.calls k2 _ _ ((zab l0 (ji63)).f0) ((zab l0 (ji63)).f1) _ _ ((zab l0 (ji66)).f0) ((zab l0 (ji66)).f1) t252 _ ?side1 ?side2 ?side3 ?side4 A69.out).mono ?_
         (case side1 => exact xw HR250_0.out)
         (case side2 => exact HC250_0.out)
         (case side3 => exact xw HR251_0.out)
         (case side4 => exact HC251_0.out)
         rintro e w76 ⟨rfl, hb⟩
         have HS0_ := (hb.cell (World.block_lt_of_cell? _ _ (hHeld.1))).trans (hHeld.1)
         have HS1_ := (hb.cell (World.block_lt_of_cell? _ _ (hHeld.2.1))).trans (hHeld.2.1)
         have HS2_ := (hb.cell (World.block_lt_of_cell? _ _ (hHeld.2.2.1))).trans (hHeld.2.2.1)
         have HS3_ := (hb.cell (World.block_lt_of_cell? _ _ (hHeld.2.2.2))).trans (hHeld.2.2.2)
         refine ⟨_, rfl, ?_⟩
         replace HO_0 := ax (Kd.zbL (xN HO_0.out) hb); replace HL250_0 := yV HL250_0 hb; replace HL251_0 := yV HL251_0 hb; replace HR250_0 := ax (Kd.zbE (xw HR250_0.out) hb); replace HR251_0 := ax (Kd.zbE (xw HR251_0.out) hb); replace HK := ax (Kept.below (S := (fun k_ => Z0_ k_)) (by repeat (first | (with_reducible first | exact HK.out | apply Kept.alloc | apply Kept.drewN | apply Kept.drew) | exact HK.out)) hb); replace HB := yB HB hb
         (try clear hb)
         (try clear hk)
         refine hK.out _ _ ⟨HS0_, HS1_, HS2_, HS3_⟩ (fun hHeld => ?_)
         clear hK K
         refine nm ?_
         refine pu (i := 12) (N := some 170) (xB 14 8191) HT_.out ?_
         refine pu (i := 13) (N := some 171) (xB 14 16383) HT_.out ?_
         refine zb6 (zbB HT_.out (by kernel_rfl)) ?_
         try go_wp2
         go_roundg k2
         case measure => have := HJ59.out; have := HK2.out; omega
         case rel => exact ⟨(wrap64 ((ji66) + 1)), (x21_2), (by first | rfl | (simp; done) | (simp only [← hji66] <;> (first | rfl | simp)) | (simp [*]; done)), xr, H', ⟨by have := HJ59.out; have := HK2.out; omega⟩, ⟨xN HO_0.out⟩, ⟨by repeat (first | (with_reducible first | exact HK.out | apply Kept.alloc | apply Kept.drewN | apply Kept.drew) | exact HK.out)⟩, ⟨xb HB.out⟩⟩
       ·as_aux_lemma =>
        rw [if_neg c62] at H
        have c62b0 := decide_eq_false c62
        clear c62
        have HC77 := ax H
        clear H
        go_upto_region 39 with (fail)
        go_cut [185] (fun v185 wc => ∃ (kq : Nat) (x185_76 : Bool), v185 = .bool x185_76 ∧ zap (za.j6 kq l0 a1 a2 a3 (wrap64 ((IntKind.u64.wrap (wrap64 (a1 + a3))) / 2)) x20_2 (wrap64 ((wrap64 ((wrap64 ((IntKind.u64.wrap (wrap64 (a1 + a3))) / 2)) + a2)) - x20_2)) x185_76 = some r) ∧ zap (kq ≤ k2) ∧ zap (Kd.N k48 48 wc w0.heap.size (fun k_ => P0_ k_) u9000_ l0) ∧ zap (Kept w wc (fun k_ => Z0_ k_)) ∧ zap (Below w0.heap.size w0 wc))
        case first =>
         as_aux_lemma =>
         have H := HC77.out
         clear HC77
         by_cases c78 : x20_2 < a2
         ·rw [if_pos c78] at H
          have c78b0 := decide_eq_true c78
          clear c78
          (first | rw [c78b0] | (simp only [zbZ, zcd]; rw [c78b0]) | skip)
          have H' := ax H
          clear H
          go_wp2
          go_meet
          case rel => exact ⟨_, (decide (a2 < (wrap64 ((wrap64 ((wrap64 ((IntKind.u64.wrap (wrap64 (a1 + a3))) / 2)) + a2)) - x20_2)))), xr, H', ⟨by have := HJ59.out; have := HK2.out; first | omega | exact Nat.le_refl _⟩, ⟨xN HO_0.out⟩, ⟨by repeat (first | (with_reducible first | exact HK.out | apply Kept.alloc | apply Kept.drewN | apply Kept.drew) | exact HK.out)⟩, ⟨xb HB.out⟩⟩
         ·rw [if_neg c78] at H
          have c78b0 := decide_eq_false c78
          clear c78
          (first | rw [c78b0] | (simp only [zbZ, zcd]; rw [c78b0]) | skip)
          have H' := ax H
          clear H
          go_wp2
          go_meet
          case rel => exact ⟨_, (false), xr, H', ⟨by have := HJ59.out; have := HK2.out; first | omega | exact Nat.le_refl _⟩, ⟨xN HO_0.out⟩, ⟨by repeat (first | (with_reducible first | exact HK.out | apply Kept.alloc | apply Kept.drewN | apply Kept.drew) | exact HK.out)⟩, ⟨xb HB.out⟩⟩
        case rest =>
         as_aux_lemma =>
         clear HC77
         (try clear c6); (try clear c7); (try clear c25); (try clear p27); (try clear q27); (try clear p28); (try clear q28); (try clear c35); (try clear c35b0); (try clear c36); (try clear c36b0); (try clear c38); (try clear c38b0); (try clear c39); (try clear c39b0); (try clear c41); (try clear c41b0); (try clear c48); (try clear c48b0); (try clear c50); (try clear c50b0); (try clear c51); (try clear c51b0); (try clear c52); (try clear c52b0); (try clear c53); (try clear c53b0); (try clear p54); (try clear q54); (try clear p55); (try clear q55); (try clear c61); (try clear c61b0); (try clear c62); (try clear c62b0); (try clear c64); (try clear c64b0); (try clear c65); (try clear c65b0); (try clear c67); (try clear c67b0); (try clear c68); (try clear c68b0); (try clear c70); (try clear c70b0); (try clear c78); (try clear c78b0); (try clear hx236_0); (try clear hx236_1); (try clear hx237_0); (try clear hx237_1); (try clear hx239_0); (try clear hx239_1); (try clear hx240_0); (try clear hx240_1); (try clear hx243_0); (try clear hx243_1); (try clear hx244_0); (try clear hx244_1); (try clear hx246_0); (try clear hx246_1); (try clear hx247_0); (try clear hx247_1); (try clear hx250_0); (try clear hx250_1); (try clear hx251_0); (try clear hx251_1); (try clear hx27_0); (try clear hx27_1); (try clear hx28_0); (try clear hx28_1); (try clear hx54_0); (try clear hx54_1); (try clear hx55_0); (try clear hx55_1); (try clear p236); (try clear p237); (try clear p239); (try clear p240); (try clear p243); (try clear p244); (try clear p246); (try clear p247); (try clear p250); (try clear p251); (try clear p27); (try clear p28); (try clear p54); (try clear p55); (try clear q236); (try clear q237); (try clear q239); (try clear q240); (try clear q243); (try clear q244); (try clear q246); (try clear q247); (try clear q250); (try clear q251); (try clear q27); (try clear q28); (try clear q54); (try clear q55)
         obtain ⟨kq, x185_76, rfl, HA, HJ76, HO_0, HK, HB⟩ := hcut
         cases kq with
         | zero => exact absurd HA.out (by simp [za.j6])
         | succ kj76 =>
          have H := HA.out
          clear HA
          simp only [za.j6] at H
          have HC79 := ax H
          clear H
          go_upto_if 185 with (fail)
          go_cut [] (fun wc => ∃ (kq : Nat) (x0_78 : List (S48)), zap (za.j7 kq x0_78 a1 a3 (wrap64 ((IntKind.u64.wrap (wrap64 (a1 + a3))) / 2)) x20_2 (wrap64 ((wrap64 ((wrap64 ((IntKind.u64.wrap (wrap64 (a1 + a3))) / 2)) + a2)) - x20_2)) = some r) ∧ zap (kq ≤ kj76) ∧ zap (Kd.N k48 48 wc w0.heap.size (fun k_ => P0_ k_) u9000_ x0_78) ∧ zap (Kept w wc (fun k_ => Z0_ k_)) ∧ zap (Below w0.heap.size w0 wc))
          case first =>
           as_aux_lemma =>
           have H := HC79.out
           clear HC79
           by_cases c80 : x185_76 = true
           ·subst c80
            rw [if_pos rfl] at H
            obtain ⟨t253, A81, H⟩ := xI H
            have H' := ax H
            clear H
            obtain ⟨Ao82, co82, eo82⟩ := Kd.zbt HO_0.out
            subst eo82
            go_wp2_with (first | ((with_reducible refine zas (f := 94) rfl ?_); refine za3 (some 191) rfl rfl Try.func94 (by kernel_rfl) rfl #[.slice Ao82 l0.length co82, .int .i64 x20_2, .int .i64 a2, .int .i64 (wrap64 ((wrap64 ((wrap64 ((IntKind.u64.wrap (wrap64 (a1 + a3))) / 2)) + a2)) - x20_2)), .func (.func 60) #[] #[]] rfl xm ?_; (with_reducible refine (zal.calls kj76 (fun k_ => P0_ k_) (fun k_ => some k_ = (.slice Ao82 l0.length co82 : Value).ownBlock) (.slice Ao82 l0.length co82) l0 x20_2 a2 (wrap64 ((wrap64 ((wrap64 ((IntKind.u64.wrap (wrap64 (a1 + a3))) / 2)) + a2)) - x20_2))  t253 w0 _ ?side1 ?side2 ?side3 A81.out).mono ?_); (case side1 => exact xb HB.out); (case side2 => exact HO_0.out); (case side3 => exact fun k_ e_ => e_.symm); rintro e w83 ⟨rfl, hy0, hb, hkp⟩; refine ⟨_, rfl, ?_⟩; replace HO_0 := ax (hy0); replace HK := ax (Kept.zc8 (S := (fun k_ => Z0_ k_)) (by repeat (first | (with_reducible first | exact HK.out | apply Kept.alloc | apply Kept.drewN | apply Kept.drew) | exact HK.out)) hkp (fun k_ hs_ => (fun e_ => (by first | exact .inl (HZ0.out k_ e_.symm) | exact .inl (zcH HZ0.out (e_.symm)))) hs_)); replace HB := ax (hb); (try clear hb); (try clear hkp); (try clear hy0)))
            go_meet
            case rel => exact ⟨_, (t253), H', ⟨by have := HJ59.out; have := HK2.out; have := HJ76.out; first | omega | exact Nat.le_refl _⟩, ⟨xN HO_0.out⟩, ⟨by repeat (first | (with_reducible first | exact HK.out | apply Kept.alloc | apply Kept.drewN | apply Kept.drew) | exact HK.out)⟩, ⟨xb HB.out⟩⟩
           ·replace c80 := Bool.eq_false_iff.mpr c80
            subst c80
            rw [if_neg (show ¬ (false = true) by decide)] at H
            have H' := ax H
            clear H
            go_wp2
            go_meet
            case rel => exact ⟨_, (l0), H', ⟨by have := HJ59.out; have := HK2.out; have := HJ76.out; first | omega | exact Nat.le_refl _⟩, ⟨xN HO_0.out⟩, ⟨by repeat (first | (with_reducible first | exact HK.out | apply Kept.alloc | apply Kept.drewN | apply Kept.drew) | exact HK.out)⟩, ⟨xb HB.out⟩⟩
          case rest =>
           as_aux_lemma =>
           clear HC79
           (try clear c6); (try clear c7); (try clear c9); (try clear c25); (try clear p27); (try clear q27); (try clear p28); (try clear q28); (try clear c35); (try clear c35b0); (try clear c36); (try clear c36b0); (try clear c38); (try clear c38b0); (try clear c39); (try clear c39b0); (try clear c41); (try clear c41b0); (try clear c48); (try clear c48b0); (try clear c50); (try clear c50b0); (try clear c51); (try clear c51b0); (try clear c52); (try clear c52b0); (try clear c53); (try clear c53b0); (try clear p54); (try clear q54); (try clear p55); (try clear q55); (try clear c61); (try clear c61b0); (try clear c62); (try clear c62b0); (try clear c64); (try clear c64b0); (try clear c65); (try clear c65b0); (try clear c67); (try clear c67b0); (try clear c68); (try clear c68b0); (try clear c70); (try clear c70b0); (try clear c78); (try clear c78b0); (try clear c80); (try clear hx236_0); (try clear hx236_1); (try clear hx237_0); (try clear hx237_1); (try clear hx239_0); (try clear hx239_1); (try clear hx240_0); (try clear hx240_1); (try clear hx243_0); (try clear hx243_1); (try clear hx244_0); (try clear hx244_1); (try clear hx246_0); (try clear hx246_1); (try clear hx247_0); (try clear hx247_1); (try clear hx250_0); (try clear hx250_1); (try clear hx251_0); (try clear hx251_1); (try clear hx27_0); (try clear hx27_1); (try clear hx28_0); (try clear hx28_1); (try clear hx54_0); (try clear hx54_1); (try clear hx55_0); (try clear hx55_1); (try clear p236); (try clear p237); (try clear p239); (try clear p240); (try clear p243); (try clear p244); (try clear p246); (try clear p247); (try clear p250); (try clear p251); (try clear p27); (try clear p28); (try clear p54); (try clear p55); (try clear q236); (try clear q237); (try clear q239); (try clear q240); (try clear q243); (try clear q244); (try clear q246); (try clear q247); (try clear q250); (try clear q251); (try clear q27); (try clear q28); (try clear q54); (try clear q55)
           obtain ⟨kq, x0_78, HA, HJ78, HO_0, HK, HB⟩ := hcut
           cases kq with
           | zero => exact absurd HA.out (by simp [za.j7])
           | succ kj78 =>
            have H := HA.out
            clear HA
            simp only [za.j7] at H
            have HC84 := ax H
            clear H
            go_upto_region 41 with (fail)
            go_cut [199] (fun v199 wc => ∃ (kq : Nat) (x199_83 : Bool), v199 = .bool x199_83 ∧ zap (za.j8 kq x0_78 a1 a3 (wrap64 ((IntKind.u64.wrap (wrap64 (a1 + a3))) / 2)) x20_2 (wrap64 ((wrap64 ((wrap64 ((IntKind.u64.wrap (wrap64 (a1 + a3))) / 2)) + a2)) - x20_2)) x199_83 = some r) ∧ zap (kq ≤ kj78) ∧ zap (Kd.N k48 48 wc w0.heap.size (fun k_ => P0_ k_) u9000_ x0_78) ∧ zap (Kept w wc (fun k_ => Z0_ k_)) ∧ zap (Below w0.heap.size w0 wc))
            case first =>
             as_aux_lemma =>
             have H := HC84.out
             clear HC84
             by_cases c85 : a1 < x20_2
             ·rw [if_pos c85] at H
              have c85b0 := decide_eq_true c85
              clear c85
              (first | rw [c85b0] | (simp only [zbZ, zcd]; rw [c85b0]) | skip)
              have H' := ax H
              clear H
              go_wp2
              go_meet
              case rel => exact ⟨_, (decide (x20_2 < (wrap64 ((IntKind.u64.wrap (wrap64 (a1 + a3))) / 2)))), xr, H', ⟨by have := HJ59.out; have := HK2.out; have := HJ76.out; have := HJ78.out; first | omega | exact Nat.le_refl _⟩, ⟨xN HO_0.out⟩, ⟨by repeat (first | (with_reducible first | exact HK.out | apply Kept.alloc | apply Kept.drewN | apply Kept.drew) | exact HK.out)⟩, ⟨xb HB.out⟩⟩
             ·rw [if_neg c85] at H
              have c85b0 := decide_eq_false c85
              clear c85
              (first | rw [c85b0] | (simp only [zbZ, zcd]; rw [c85b0]) | skip)
              have H' := ax H
              clear H
              go_wp2
              go_meet
              case rel => exact ⟨_, (false), xr, H', ⟨by have := HJ59.out; have := HK2.out; have := HJ76.out; have := HJ78.out; first | omega | exact Nat.le_refl _⟩, ⟨xN HO_0.out⟩, ⟨by repeat (first | (with_reducible first | exact HK.out | apply Kept.alloc | apply Kept.drewN | apply Kept.drew) | exact HK.out)⟩, ⟨xb HB.out⟩⟩
            case rest =>
             as_aux_lemma =>
             clear HC84
             (try clear c6); (try clear c7); (try clear c9); (try clear c25); (try clear p27); (try clear q27); (try clear p28); (try clear q28); (try clear c35); (try clear c35b0); (try clear c36); (try clear c36b0); (try clear c38); (try clear c38b0); (try clear c39); (try clear c39b0); (try clear c41); (try clear c41b0); (try clear c48); (try clear c48b0); (try clear c50); (try clear c50b0); (try clear c51); (try clear c51b0); (try clear c52); (try clear c52b0); (try clear c53); (try clear c53b0); (try clear p54); (try clear q54); (try clear p55); (try clear q55); (try clear c61); (try clear c61b0); (try clear c62); (try clear c62b0); (try clear c64); (try clear c64b0); (try clear c65); (try clear c65b0); (try clear c67); (try clear c67b0); (try clear c68); (try clear c68b0); (try clear c70); (try clear c70b0); (try clear c78); (try clear c78b0); (try clear c80); (try clear c85); (try clear c85b0); (try clear hx236_0); (try clear hx236_1); (try clear hx237_0); (try clear hx237_1); (try clear hx239_0); (try clear hx239_1); (try clear hx240_0); (try clear hx240_1); (try clear hx243_0); (try clear hx243_1); (try clear hx244_0); (try clear hx244_1); (try clear hx246_0); (try clear hx246_1); (try clear hx247_0); (try clear hx247_1); (try clear hx250_0); (try clear hx250_1); (try clear hx251_0); (try clear hx251_1); (try clear hx27_0); (try clear hx27_1); (try clear hx28_0); (try clear hx28_1); (try clear hx54_0); (try clear hx54_1); (try clear hx55_0); (try clear hx55_1); (try clear p236); (try clear p237); (try clear p239); (try clear p240); (try clear p243); (try clear p244); (try clear p246); (try clear p247); (try clear p250); (try clear p251); (try clear p27); (try clear p28); (try clear p54); (try clear p55); (try clear q236); (try clear q237); (try clear q239); (try clear q240); (try clear q243); (try clear q244); (try clear q246); (try clear q247); (try clear q250); (try clear q251); (try clear q27); (try clear q28); (try clear q54); (try clear q55)
             obtain ⟨kq, x199_83, rfl, HA, HJ83, HO_0, HK, HB⟩ := hcut
             cases kq with
             | zero => exact absurd HA.out (by simp [za.j8])
             | succ kj83 =>
              have H := HA.out
              clear HA
              simp only [za.j8] at H
              by_cases c86 : x199_83 = true
              ·as_aux_lemma =>
               subst c86
               rw [if_pos rfl] at H
               obtain ⟨t254, A87, H⟩ := xI H
               by_cases c88 : (wrap64 ((IntKind.u64.wrap (wrap64 (a1 + a3))) / 2)) < (wrap64 ((wrap64 ((wrap64 ((IntKind.u64.wrap (wrap64 (a1 + a3))) / 2)) + a2)) - x20_2))
               ·rw [if_pos c88] at H
                have c88b0 := decide_eq_true c88
                clear c88
                by_cases c89 : (wrap64 ((wrap64 ((wrap64 ((IntKind.u64.wrap (wrap64 (a1 + a3))) / 2)) + a2)) - x20_2)) < a3
                ·as_aux_lemma =>
                 rw [if_pos c89] at H
                 have c89b0 := decide_eq_true c89
                 clear c89
                 obtain ⟨t255, A90, H⟩ := xI H
                 obtain rfl := Option.some.inj H
                 obtain ⟨Ao91, co91, eo91⟩ := Kd.zbt HO_0.out
                 subst eo91
                 go_wp2_with (first | ((with_reducible refine zas (f := 91) rfl ?_); refine za3 (some 205) rfl rfl Try.func91 (by kernel_rfl) rfl #[.slice Ao91 x0_78.length co91, .int .i64 a1, .int .i64 x20_2, .int .i64 (wrap64 ((IntKind.u64.wrap (wrap64 (a1 + a3))) / 2)), .func (.func 60) #[] #[]] rfl xm ?_; (with_reducible refine (ih kj83 (by have := HJ59.out; have := HK2.out; have := HJ76.out; have := HJ78.out; have := HJ83.out; omega) (fun k_ => P0_ k_) (fun k_ => some k_ = (.slice Ao91 x0_78.length co91 : Value).ownBlock) (.slice Ao91 x0_78.length co91) x0_78 a1 x20_2 (wrap64 ((IntKind.u64.wrap (wrap64 (a1 + a3))) / 2))  t254 w0 _ ?side1 ?side2 ?side3 A87.out).mono ?_); (case side1 => exact xb HB.out); (case side2 => exact HO_0.out); (case side3 => exact fun k_ e_ => e_.symm); rintro e w92 ⟨rfl, hy0, hb, hkp⟩; refine ⟨_, rfl, ?_⟩; replace HO_0 := ax (hy0); replace HK := ax (Kept.zc8 (S := (fun k_ => Z0_ k_)) (by repeat (first | (with_reducible first | exact HK.out | apply Kept.alloc | apply Kept.drewN | apply Kept.drew) | exact HK.out)) hkp (fun k_ hs_ => (fun e_ => (by first | exact .inl (HZ0.out k_ e_.symm) | exact .inl (zcH HZ0.out (e_.symm)))) hs_)); replace HB := ax (hb); (try clear hb); (try clear hkp); (try clear hy0)) | ((with_reducible refine zas (f := 91) rfl ?_); refine za3 (some 219) rfl rfl Try.func91 (by kernel_rfl) rfl #[.slice Ao91 x0_78.length co91, .int .i64 (wrap64 ((IntKind.u64.wrap (wrap64 (a1 + a3))) / 2)), .int .i64 (wrap64 ((wrap64 ((wrap64 ((IntKind.u64.wrap (wrap64 (a1 + a3))) / 2)) + a2)) - x20_2)), .int .i64 a3, .func (.func 60) #[] #[]] rfl xm ?_; (with_reducible refine (ih kj83 (by have := HJ59.out; have := HK2.out; have := HJ76.out; have := HJ78.out; have := HJ83.out; omega) (fun k_ => P0_ k_) (fun k_ => some k_ = (.slice Ao91 x0_78.length co91 : Value).ownBlock) (.slice Ao91 x0_78.length co91) t254 (wrap64 ((IntKind.u64.wrap (wrap64 (a1 + a3))) / 2)) (wrap64 ((wrap64 ((wrap64 ((IntKind.u64.wrap (wrap64 (a1 + a3))) / 2)) + a2)) - x20_2)) a3  t255 w0 _ ?side1 ?side2 ?side3 A90.out).mono ?_); (case side1 => exact xb HB.out); (case side2 => exact HO_0.out); (case side3 => exact fun k_ e_ => e_.symm); rintro e w93 ⟨rfl, hy0, hb, hkp⟩; refine ⟨_, rfl, ?_⟩; replace HO_0 := ax (hy0); replace HK := ax (Kept.zc8 (S := (fun k_ => Z0_ k_)) (by repeat (first | (with_reducible first | exact HK.out | apply Kept.alloc | apply Kept.drewN | apply Kept.drew) | exact HK.out)) hkp (fun k_ hs_ => (fun e_ => (by first | exact .inl (HZ0.out k_ e_.symm) | exact .inl (zcH HZ0.out (e_.symm)))) hs_)); replace HB := ax (hb); (try clear hb); (try clear hkp); (try clear hy0)))
                 first | go_end0 | ((try simp only [Exit.inBlock, Exit.then]); refine bodyPost_ret (results_none rfl _ _ _) rfl ?_)
                 exact ⟨xe, xN HO_0.out, xb HB.out, by repeat (first | (with_reducible first | exact HK.out | apply Kept.alloc | apply Kept.drewN | apply Kept.drew) | exact HK.out)⟩
                ·rw [if_neg c89] at H
                 have c89b0 := decide_eq_false c89
                 clear c89
                 obtain rfl := Option.some.inj H
                 obtain ⟨Ao94, co94, eo94⟩ := Kd.zbt HO_0.out
                 subst eo94
                 go_wp2_with (first | ((with_reducible refine zas (f := 91) rfl ?_); refine za3 (some 205) rfl rfl Try.func91 (by kernel_rfl) rfl #[.slice Ao94 x0_78.length co94, .int .i64 a1, .int .i64 x20_2, .int .i64 (wrap64 ((IntKind.u64.wrap (wrap64 (a1 + a3))) / 2)), .func (.func 60) #[] #[]] rfl xm ?_; (with_reducible refine (ih kj83 (by have := HJ59.out; have := HK2.out; have := HJ76.out; have := HJ78.out; have := HJ83.out; omega) (fun k_ => P0_ k_) (fun k_ => some k_ = (.slice Ao94 x0_78.length co94 : Value).ownBlock) (.slice Ao94 x0_78.length co94) x0_78 a1 x20_2 (wrap64 ((IntKind.u64.wrap (wrap64 (a1 + a3))) / 2))  t254 w0 _ ?side1 ?side2 ?side3 A87.out).mono ?_); (case side1 => exact xb HB.out); (case side2 => exact HO_0.out); (case side3 => exact fun k_ e_ => e_.symm); rintro e w95 ⟨rfl, hy0, hb, hkp⟩; refine ⟨_, rfl, ?_⟩; replace HO_0 := ax (hy0); replace HK := ax (Kept.zc8 (S := (fun k_ => Z0_ k_)) (by repeat (first | (with_reducible first | exact HK.out | apply Kept.alloc | apply Kept.drewN | apply Kept.drew) | exact HK.out)) hkp (fun k_ hs_ => (fun e_ => (by first | exact .inl (HZ0.out k_ e_.symm) | exact .inl (zcH HZ0.out (e_.symm)))) hs_)); replace HB := ax (hb); (try clear hb); (try clear hkp); (try clear hy0)))
                 first | go_end0 | ((try simp only [Exit.inBlock, Exit.then]); refine bodyPost_ret (results_none rfl _ _ _) rfl ?_)
                 exact ⟨xe, xN HO_0.out, xb HB.out, by repeat (first | (with_reducible first | exact HK.out | apply Kept.alloc | apply Kept.drewN | apply Kept.drew) | exact HK.out)⟩
               ·rw [if_neg c88] at H
                have c88b0 := decide_eq_false c88
                clear c88
                obtain rfl := Option.some.inj H
                obtain ⟨Ao96, co96, eo96⟩ := Kd.zbt HO_0.out
                subst eo96
                go_wp2_with (first | ((with_reducible refine zas (f := 91) rfl ?_); refine za3 (some 205) rfl rfl Try.func91 (by kernel_rfl) rfl #[.slice Ao96 x0_78.length co96, .int .i64 a1, .int .i64 x20_2, .int .i64 (wrap64 ((IntKind.u64.wrap (wrap64 (a1 + a3))) / 2)), .func (.func 60) #[] #[]] rfl xm ?_; (with_reducible refine (ih kj83 (by have := HJ59.out; have := HK2.out; have := HJ76.out; have := HJ78.out; have := HJ83.out; omega) (fun k_ => P0_ k_) (fun k_ => some k_ = (.slice Ao96 x0_78.length co96 : Value).ownBlock) (.slice Ao96 x0_78.length co96) x0_78 a1 x20_2 (wrap64 ((IntKind.u64.wrap (wrap64 (a1 + a3))) / 2))  t254 w0 _ ?side1 ?side2 ?side3 A87.out).mono ?_); (case side1 => exact xb HB.out); (case side2 => exact HO_0.out); (case side3 => exact fun k_ e_ => e_.symm); rintro e w97 ⟨rfl, hy0, hb, hkp⟩; refine ⟨_, rfl, ?_⟩; replace HO_0 := ax (hy0); replace HK := ax (Kept.zc8 (S := (fun k_ => Z0_ k_)) (by repeat (first | (with_reducible first | exact HK.out | apply Kept.alloc | apply Kept.drewN | apply Kept.drew) | exact HK.out)) hkp (fun k_ hs_ => (fun e_ => (by first | exact .inl (HZ0.out k_ e_.symm) | exact .inl (zcH HZ0.out (e_.symm)))) hs_)); replace HB := ax (hb); (try clear hb); (try clear hkp); (try clear hy0)))
                first | go_end0 | ((try simp only [Exit.inBlock, Exit.then]); refine bodyPost_ret (results_none rfl _ _ _) rfl ?_)
                exact ⟨xe, xN HO_0.out, xb HB.out, by repeat (first | (with_reducible first | exact HK.out | apply Kept.alloc | apply Kept.drewN | apply Kept.drew) | exact HK.out)⟩
              ·as_aux_lemma =>
               replace c86 := Bool.eq_false_iff.mpr c86
               subst c86
               rw [if_neg (show ¬ (false = true) by decide)] at H
               by_cases c98 : (wrap64 ((IntKind.u64.wrap (wrap64 (a1 + a3))) / 2)) < (wrap64 ((wrap64 ((wrap64 ((IntKind.u64.wrap (wrap64 (a1 + a3))) / 2)) + a2)) - x20_2))
               ·rw [if_pos c98] at H
                have c98b0 := decide_eq_true c98
                clear c98
                by_cases c99 : (wrap64 ((wrap64 ((wrap64 ((IntKind.u64.wrap (wrap64 (a1 + a3))) / 2)) + a2)) - x20_2)) < a3
                ·rw [if_pos c99] at H
                 have c99b0 := decide_eq_true c99
                 clear c99
                 obtain ⟨t256, A100, H⟩ := xI H
                 obtain rfl := Option.some.inj H
                 obtain ⟨Ao101, co101, eo101⟩ := Kd.zbt HO_0.out
                 subst eo101
                 go_wp2_with (first | ((with_reducible refine zas (f := 91) rfl ?_); refine za3 (some 219) rfl rfl Try.func91 (by kernel_rfl) rfl #[.slice Ao101 x0_78.length co101, .int .i64 (wrap64 ((IntKind.u64.wrap (wrap64 (a1 + a3))) / 2)), .int .i64 (wrap64 ((wrap64 ((wrap64 ((IntKind.u64.wrap (wrap64 (a1 + a3))) / 2)) + a2)) - x20_2)), .int .i64 a3, .func (.func 60) #[] #[]] rfl xm ?_; (with_reducible refine (ih kj83 (by have := HJ59.out; have := HK2.out; have := HJ76.out; have := HJ78.out; have := HJ83.out; omega) (fun k_ => P0_ k_) (fun k_ => some k_ = (.slice Ao101 x0_78.length co101 : Value).ownBlock) (.slice Ao101 x0_78.length co101) x0_78 (wrap64 ((IntKind.u64.wrap (wrap64 (a1 + a3))) / 2)) (wrap64 ((wrap64 ((wrap64 ((IntKind.u64.wrap (wrap64 (a1 + a3))) / 2)) + a2)) - x20_2)) a3  t256 w0 _ ?side1 ?side2 ?side3 A100.out).mono ?_); (case side1 => exact xb HB.out); (case side2 => exact HO_0.out); (case side3 => exact fun k_ e_ => e_.symm); rintro e w102 ⟨rfl, hy0, hb, hkp⟩; refine ⟨_, rfl, ?_⟩; replace HO_0 := ax (hy0); replace HK := ax (Kept.zc8 (S := (fun k_ => Z0_ k_)) (by repeat (first | (with_reducible first | exact HK.out | apply Kept.alloc | apply Kept.drewN | apply Kept.drew) | exact HK.out)) hkp (fun k_ hs_ => (fun e_ => (by first | exact .inl (HZ0.out k_ e_.symm) | exact .inl (zcH HZ0.out (e_.symm)))) hs_)); replace HB := ax (hb); (try clear hb); (try clear hkp); (try clear hy0)))
                 first | go_end0 | ((try simp only [Exit.inBlock, Exit.then]); refine bodyPost_ret (results_none rfl _ _ _) rfl ?_)
                 exact ⟨xe, xN HO_0.out, xb HB.out, by repeat (first | (with_reducible first | exact HK.out | apply Kept.alloc | apply Kept.drewN | apply Kept.drew) | exact HK.out)⟩
                ·rw [if_neg c99] at H
                 have c99b0 := decide_eq_false c99
                 clear c99
                 obtain rfl := Option.some.inj H
                 go_wp2
                 first | go_end0 | ((try simp only [Exit.inBlock, Exit.then]); refine bodyPost_ret (results_none rfl _ _ _) rfl ?_)
                 exact ⟨xe, xN HO_0.out, xb HB.out, by repeat (first | (with_reducible first | exact HK.out | apply Kept.alloc | apply Kept.drewN | apply Kept.drew) | exact HK.out)⟩
               ·rw [if_neg c98] at H
                have c98b0 := decide_eq_false c98
                clear c98
                obtain rfl := Option.some.inj H
                go_wp2
                first | go_end0 | ((try simp only [Exit.inBlock, Exit.then]); refine bodyPost_ret (results_none rfl _ _ _) rfl ?_)
                exact ⟨xe, xN HO_0.out, xb HB.out, by repeat (first | (with_reducible first | exact HK.out | apply Kept.alloc | apply Kept.drewN | apply Kept.drew) | exact HK.out)⟩

end Go.Proofs.Ytneipehcmmigeaa.PFnExactAddPolys
