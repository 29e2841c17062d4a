import Derived.Test.YtneipehcmmigeaaPFnExactAddPolysx15
namespace Go.Proofs.Ytneipehcmmigeaa.PFnExactAddPolys
open Go.RowKit Go.Proofs.YtneipehcmmigeaaW.PrintWords Go.Proofs.YtneipehcmmigeaaW.PrintLast Go.Proofs.YtneipehcmmigeaaW.PrintMore
set_option linter.unusedVariables false
set_option linter.unusedSimpArgs false

-- NOT PRINTED: function 74 (slices_Grow_Mono)
set_option maxHeartbeats 8000000
set_option maxRecDepth 100000
def zbw.f (a1 : Int) : Option (List S48) := if 0 ≤ a1 ∧ a1 ≤ 4398046511104 then some [] else none
set_option maxHeartbeats 8000000 in
theorem zbw.calls (a1 : Int) (r : List S48) (w : World) (h : zbw.f a1 = some r) :
  Calls Try.prog 74 #[.slice none 0 0, .int .i64 a1] w fun e w' => ∃ v0_ : Value, e = .returned (v0_) ∧ Kd.S k48 48 w' w.heap.size (fun _ => True) v0_ r ∧ Below w.heap.size w w' := by
 unfold zbw.f at h
 by_cases hc : 0 ≤ a1 ∧ a1 ≤ 4398046511104
 ·rw [if_pos hc] at h
  obtain rfl := Option.some.inj h
  obtain ⟨h0, h1⟩ := hc
  clear h
  have c0 : decide (a1 < 0) = false := decide_eq_false (by omega)
  have HB := ax (Below.refl w.heap.size w)
  by_cases hp : a1 > 0
  ·have c1 : decide (a1 > 0) = true := decide_eq_true hp
   have c2 : (0 < a1) = True := eq_true (by omega)
   have w1 : wrap64 a1 = a1 := by unfold wrap64; omega
   go_enter Try.func74, Try.ntmps74
   go_wp2_with (first | (at_builtin; refine Kd.zeL k48 (w0 := w) w.heap.size rfl (.tmp 20) (.tmp 21) 26 3 48 (.agg #[(.slice none 0 0), (.int .i64 0)]) 32 rfl Try.underlying26 Try.underlying3 zcx rfl (by decide) (by omega) (.slice none 0 0) [] z48 (a1 : Int) (fun _ => True) rfl rfl (zcS _ _ _ z48 (Kd.zeM _ _ _ _ _)) (fun _ _ => trivial) (Kd.zg4 _ _ _ _ _) h0 HB.out (Nat.le_refl _) (by simp; omega) ?_; intro v1 w9 ho hb hg hat; obtain ⟨Ao, co, eo⟩ := Kd.zbC ho; subst eo; have HO := ax ho; have HB2 := ax hb; clear ho hb hg hat))
   go_ret
   have h2 := Kd.zjW HO.out (m := 0) (Nat.zero_le _)
   rw [List.take_zero] at h2
   exact ⟨_, rfl, h2, HB2.out⟩
  ·obtain rfl : a1 = 0 := by omega
   go_enter Try.func74, Try.ntmps74
   go_wp2
   go_ret
   exact ⟨_, rfl, Kd.zg4 _ _ _ _ _, HB.out⟩
 ·rw [if_neg hc] at h
  cases h


mutual
def zat.l0 : Nat → List (List (S48)) → Int → List (List (S48)) → Int → Int → Option ((List (S48)))
 | 0, _, _, _, _, _ => none
 | k + 1, x0, x3, x9, x10, x11 => if x11 < x10 then (if 0 ≤ x11 then (if x11 < (x9.length : Int) then (if (wrap64 (x3 + ((zdD x9 x11).length : Int))) < 0 then (none) else (zat.l0 k x0 (wrap64 (x3 + ((zdD x9 x11).length : Int))) x9 x10 (wrap64 (x11 + 1)))) else (none)) else (none)) else ((zbw.f x3).bind fun t261 => (zat.l1 k t261 x0 (x0.length : Int) 0))
def zat.l1 : Nat → List (S48) → List (List (S48)) → Int → Int → Option ((List (S48)))
 | 0, _, _, _, _ => none
 | k + 1, x6, x25, x26, x27 => if x27 < x26 then (if 0 ≤ x27 then (if x27 < (x25.length : Int) then (if x6.length + (zdD x25 x27).length < 4398046511104 then (zat.l1 k (x6 ++ (zdD x25 x27)) x25 x26 (wrap64 (x27 + 1))) else (none)) else (none)) else (none)) else (some x6)
end
def zat.f (k : Nat) (l0 : List (List (S48))) : Option ((List (S48))) := zat.l0 k l0 0 l0 (l0.length : Int) 0
theorem zat.za8 : ∀ k, (∀ y0 y1 y2 y3 y4, LeO (zat.l0 k y0 y1 y2 y3 y4) (zat.l0 (k + 1) y0 y1 y2 y3 y4)) ∧ (∀ y0 y1 y2 y3, LeO (zat.l1 k y0 y1 y2 y3) (zat.l1 (k + 1) y0 y1 y2 y3))
 | 0 => ⟨fun _ _ _ _ _ r h => by simp [zat.l0] at h, fun _ _ _ _ r h => by simp [zat.l1] at h⟩
 | k + 1 => by
  obtain ⟨ih0, ih1⟩ := zat.za8 k
  refine ⟨?_, ?_⟩ <;> intros <;> (first | unfold zat.l0 | unfold zat.l1) <;> repeat' with_reducible first | exact ih0 _ _ _ _ _ | exact ih1 _ _ _ _ | exact xl | refine LeO.ite ?_ ?_ | refine LeO.bind ?_ fun _ => ?_
theorem zat.mono : ∀ a0 k, LeO (zat.f k a0) (zat.f (k + 1) a0) := by
 intro a0 k
 obtain ⟨ih0, ih1⟩ := zat.za8 k
 unfold zat.f
 repeat' with_reducible first | exact ih0 _ _ _ _ _ | exact ih1 _ _ _ _ | exact xl | refine LeO.ite ?_ ?_ | refine LeO.bind ?_ fun _ => ?_
theorem zat.zhH (k : Nat) (P0_ : Nat → Prop) (A0 : Option Addr) (c0 : Nat) (l0 : List (List (S48))) (r : List (S48)) (w : World) (hs0 : Kd.V (Kd.slice 48 k48) 26 w w.heap.size (fun k_ => P0_ k_) (.slice A0 l0.length c0) l0) (h : zat.f k l0 = some r) :
  Calls Try.prog 45 #[.slice A0 l0.length c0] w fun e w' => ∃ v0_ : Value, e = .returned (v0_) ∧ Kd.N k48 48 w' w.heap.size (fun k_ => (P0_ k_ ∨ w.heap.size ≤ k_)) v0_ r ∧ Below w.heap.size w w' := by
 have HO0 := ax (show Kd.V (Kd.slice 48 k48) 26 w w.heap.size (fun k_ => (P0_ k_ ∨ w.heap.size ≤ k_)) (.slice A0 l0.length c0) l0 from Kd.zaP hs0 (fun k_ hk => .inl hk))
 have HB := ax (Below.refl w.heap.size w)
 have H : (zat.l0 k l0 0 l0 (l0.length : Int) 0) = some r := h
 clear h
 have H' := ax H
 clear H
 go_enter Try.func45, Try.ntmps45
 go_wp2
 go_loopg [3, 11] k (fun kq v3 v11 w' => ∃ (x3_1 : Int) (x11_1 : Int), v3 = .int .i64 x3_1 ∧ v11 = .int .i64 x11_1 ∧ zap (zat.l0 kq l0 x3_1 l0 (l0.length : Int) x11_1 = some r) ∧ zap (kq ≤ k) ∧ zap (Kd.V (Kd.slice 48 k48) 26 w' w.heap.size (fun k_ => (P0_ k_ ∨ w.heap.size ≤ k_)) (.slice A0 l0.length c0) l0) ∧ zap (Kd.V (Kd.slice 48 k48) 26 w' w.heap.size (fun k_ => (P0_ k_ ∨ w.heap.size ≤ k_)) (.slice A0 l0.length c0) l0) ∧ zap (Below w.heap.size w w'))
 case atStart => exact ⟨(0), (0), xr, xr, H', ⟨Nat.le_refl _⟩, ⟨xV HO0.out⟩, ⟨xV HO0.out⟩, ⟨xb HB.out⟩⟩
 case round =>
  clear H'
  obtain ⟨x3_1, x11_1, rfl, rfl, HA, HK1, HO_0, HO_9, HB⟩ := hrel
  cases gk with
  | zero => exact absurd HA.out (by simp [zat.l0])
  | succ k1 =>
   have H := HA.out
   clear HA
   simp only [zat.l0] at H
   by_cases c2 : x11_1 < (l0.length : Int)
   ·rw [if_pos c2] at H
    have c2b0 := decide_eq_true c2
    clear c2
    obtain ⟨c3b0, H⟩ := xq H
    obtain ⟨c4b0, H⟩ := xq H
    by_cases c5 : (wrap64 (x3_1 + ((zdD l0 x11_1).length : Int))) < 0
    ·rw [if_pos c5] at H
     exact absurd H (by simp)
    ·rw [if_neg c5] at H
     have c5b0 := decide_eq_false c5
     clear c5
     have H' := ax H
     clear H
     have p260 : 0 ≤ (x11_1 : Int) := xd
     have q260 : x11_1 < (l0.length : Int) := xd
     obtain ⟨ad260, A260_0, c260_0, e260, hx260_0, hl260_0, hi260_0⟩ := zjS (Kd.za2 HO_9.out).2.2 x11_1 p260 q260
     cases e260
     obtain ⟨ce260, hce260, hMe260, hcc260⟩ := Kd.zhP HO_9.out [] x11_1 p260 (by first | exact q260 | exact xd | (have e_ := (Kd.za2 HO_9.out).1; omega))
     obtain ⟨ua260_0, uc260_0, rfl, ul260_0, ge260_0⟩ := Kd.zdY hMe260
     have hv260_0 := hcc260 0 _ rfl
     rw [Nat.add_zero, show ((Kd.slice 48 k48)).sz = 1 from rfl, Nat.mul_one] at hv260_0
     replace hv260_0 := Option.some.inj (hv260_0.symm.trans hx260_0)
     injection hv260_0 with hva_ hvn_ hvc_
     rw [hva_] at ge260_0
     rw [hvc_] at ul260_0
     have HL260_0 := ax (show Kd.V k48 48 _ w.heap.size _ _ (zdD l0 x11_1) from Kd.V_mk ul260_0 ge260_0)
     clear hva_ hvn_ hvc_ ge260_0 ul260_0 hcc260 hce260
     have HR260_0 := ax hi260_0
     have HC260_0 := ax hl260_0
     clear hi260_0 hl260_0
     replace p260 := eq_true p260
     replace q260 := eq_true q260
     go_wp2
     go_roundg k1
     case measure => have := HK1.out; omega
     case rel => exact ⟨(wrap64 (x3_1 + ((zdD l0 x11_1).length : Int))), (wrap64 (x11_1 + 1)), xr, xr, H', ⟨by have := HK1.out; omega⟩, ⟨xV HO_0.out⟩, ⟨xV HO_9.out⟩, ⟨xb HB.out⟩⟩
   ·rw [if_neg c2] at H
    have c2b0 := decide_eq_false c2
    clear c2
    obtain ⟨t261, A6, H⟩ := xI H
    have H' := ax H
    clear H
    go_wp2_with (first | ((with_reducible refine zas (f := 74) rfl ?_); refine za3 (some 24) rfl rfl Try.func74 (by kernel_rfl) rfl #[.slice none 0 0, .int .i64 x3_1] rfl xm ?_; (with_reducible refine (zbw.calls  x3_1 t261 _ A6.out).mono ?_); rintro e w7 ⟨v262, rfl, ho0, hb⟩; refine ⟨_, rfl, ?_⟩; replace HO_0 := ax (Kd.zcb (xV HO_0.out) (by first | exact Kd.zcI ho0 | exact Kd.za6 ho0 | exact Kd.zb4 ho0) hb); replace HO_9 := ax (Kd.zcb (xV HO_9.out) (by first | exact Kd.zcI ho0 | exact Kd.za6 ho0 | exact Kd.zb4 ho0) hb); have HO263 := ax (Kd.zdM (Kd.zbe (ok' := fun k_ => (P0_ k_ ∨ w.heap.size ≤ k_)) (Kd.S_N (Kd.zc1 ho0)) (fun k_ hk_ => (.inr (Nat.le_trans (zah (xb HB.out)) hk_.2.1)))) (zah (xb HB.out))); replace HB := yB HB hb; (try clear hb); (try clear ho0)))
    go_loopg [6, 27] k1 (fun kq v6 v27 w' => ∃ (x6_2 : List (S48)) (x27_2 : Int), v27 = .int .i64 x27_2 ∧ zap (zat.l1 kq x6_2 l0 (l0.length : Int) x27_2 = some r) ∧ zap (kq ≤ k1) ∧ zap (Kd.N k48 48 w' w.heap.size (fun k_ => (P0_ k_ ∨ w.heap.size ≤ k_)) v6 x6_2) ∧ zap (Kd.V (Kd.slice 48 k48) 26 w' w.heap.size (fun k_ => (P0_ k_ ∨ w.heap.size ≤ k_) ∧ some k_ ≠ (v6 : Value).ownBlock) (.slice A0 l0.length c0) l0) ∧ zap (Below w.heap.size w w'))
    case atStart => exact ⟨(t261), (0), xr, H', ⟨Nat.le_refl _⟩, ⟨xN HO263.out⟩, ⟨xV HO_0.out⟩, ⟨xb HB.out⟩⟩
    case round =>
     clear H'
     (try clear c2); (try clear c2b0); (try clear c3); (try clear c3b0); (try clear c4); (try clear c4b0); (try clear c5); (try clear c5b0); (try clear hx260_0); (try clear p260); (try clear q260)
     obtain ⟨x6_2, x27_2, rfl, HA, HK2, HO_6, HO_25, HB⟩ := hrel
     cases gk with
     | zero => exact absurd HA.out (by simp [zat.l1])
     | succ k2 =>
      have H := HA.out
      clear HA
      simp only [zat.l1] at H
      by_cases c8 : x27_2 < (l0.length : Int)
      ·rw [if_pos c8] at H
       have c8b0 := decide_eq_true c8
       clear c8
       obtain ⟨c9b0, H⟩ := xq H
       obtain ⟨c10b0, H⟩ := xq H
       obtain ⟨c11, H⟩ := xp H
       have LMc11 := ax c11
       clear c11
       obtain ⟨y265, hy265⟩ : ∃ y_ : List (S48), y_ = (x6_2 ++ (zdD l0 x27_2)) := ⟨_, rfl⟩
       replace H : (zat.l1 k2 y265 l0 (l0.length : Int) (wrap64 (x27_2 + 1))) = some r := xv hy265 H
       have Ny265 := ax hy265
       clear hy265
       have H' := ax H
       clear H
       have p264 : 0 ≤ (x27_2 : Int) := xd
       have q264 : x27_2 < (l0.length : Int) := xd
       obtain ⟨ad264, A264_0, c264_0, e264, hx264_0, hl264_0, hi264_0⟩ := zjS (Kd.za2 HO_25.out).2.2 x27_2 p264 q264
       cases e264
       obtain ⟨ce264, hce264, hMe264, hcc264⟩ := Kd.zhP HO_25.out [] x27_2 p264 (by first | exact q264 | exact xd | (have e_ := (Kd.za2 HO_25.out).1; omega))
       obtain ⟨ua264_0, uc264_0, rfl, ul264_0, ge264_0⟩ := Kd.zdY hMe264
       have hv264_0 := hcc264 0 _ rfl
       rw [Nat.add_zero, show ((Kd.slice 48 k48)).sz = 1 from rfl, Nat.mul_one] at hv264_0
       replace hv264_0 := Option.some.inj (hv264_0.symm.trans hx264_0)
       injection hv264_0 with hva_ hvn_ hvc_
       rw [hva_] at ge264_0
       rw [hvc_] at ul264_0
       have HL264_0 := ax (show Kd.V k48 48 _ w.heap.size _ _ (zdD l0 x27_2) from Kd.V_mk ul264_0 ge264_0)
       clear hva_ hvn_ hvc_ ge264_0 ul264_0 hcc264 hce264
       have HR264_0 := ax hi264_0
       have HC264_0 := ax hl264_0
       clear hi264_0 hl264_0
       replace p264 := eq_true p264
       replace q264 := eq_true q264
       go_wp2_with (first | ((with_reducible refine zcg (b := .append) (xs := #[.tmp 31, .tmp 32]) rfl ?_); at_builtin; refine Kd.zdX k48 (w0 := w) w.heap.size rfl (.tmp 31) (.tmp 32) 26 48 (.agg #[(.slice none 0 0), (.int .i64 0)]) 32 rfl Try.underlying26 zcx rfl (by decide) (by omega) u6 x6_2 (zdD l0 x27_2) _ _ _ (fun k_ => (P0_ k_ ∨ w.heap.size ≤ k_)) (fun k_ => ((fun k_ => (P0_ k_ ∨ w.heap.size ≤ k_))) k_ ∧ some k_ ≠ (u6 : Value).ownBlock) rfl rfl ?aO ?aR (fun _ hk => hk) ?aF ?aB ?aS ?aL ?_; (case aR => exact (by skip; exact Kd.V_F (Kd.zaP (ok' := (fun k_ => ((fun k_ => (P0_ k_ ∨ w.heap.size ≤ k_))) k_ ∧ some k_ ≠ (u6 : Value).ownBlock)) (HL264_0.out) (fun k_ hk => ⟨hk.1, hk.2⟩)))); (case aB => exact (xb HB.out)); (case aF => exact (fun k_ hk => (.inr (Nat.le_trans (zah (xb HB.out)) hk)))); (case aO => exact (xN HO_6.out)); (case aS => exact (zah (xb HB.out))); (case aL => have := LMc11.out; omega); intro v266 w12 ho hb hg hat; rw [← Ny265.out] at ho; have n0_ := ax (Kd.zcB (ok := (fun k_ => (P0_ k_ ∨ w.heap.size ≤ k_))) (xV HO_25.out) hg hat); have n1_ := ax (Kd.zcB (ok := (fun k_ => (P0_ k_ ∨ w.heap.size ≤ k_))) (xV HL264_0.out) hg hat); have n2_ := ax (hb); have n3_ := ax (ho); clear HO_25; clear HL264_0; clear HB; clear HO_6; have HO_25 := n0_; have HL264_0 := n1_; have HB := n2_; have HO267 := n3_; clear n0_ n1_ n2_ n3_; clear ho hb hg hat))
       go_roundg k2
       case measure => have := HK1.out; have := HK2.out; omega
       case rel => exact ⟨(y265), (wrap64 (x27_2 + 1)), xr, H', ⟨by have := HK1.out; have := HK2.out; omega⟩, ⟨xN HO267.out⟩, ⟨xV HO_25.out⟩, ⟨xb HB.out⟩⟩
      ·rw [if_neg c8] at H
       have c8b0 := decide_eq_false c8
       clear c8
       obtain rfl := Option.some.inj H
       go_wp2
       go_ret
       exact ⟨_, xe, xN HO_6.out, xb HB.out⟩
theorem zat.calls (k : Nat) (P0_ : Nat → Prop) (A0 : Option Addr) (c0 : Nat) (l0 : List (List (S48))) (r : List (S48)) (w : World) (hs0 : Kd.V (Kd.slice 48 k48) 26 w w.heap.size (fun k_ => P0_ k_) (.slice A0 l0.length c0) l0) (h : zat.f k l0 = some r) :
  Calls Try.prog 45 #[.slice A0 l0.length c0] w fun e w' => ∃ v0_ : Value, e = .returned (v0_) ∧ Kd.V k48 48 w' w.heap.size (fun k_ => (P0_ k_ ∨ w.heap.size ≤ k_)) v0_ r ∧ Below w.heap.size w w' := by
 refine (zat.zhH k P0_ A0 c0 l0 r w hs0 h).mono ?_
 rintro e w' ⟨v_, h1, h2, h3⟩
 exact ⟨v_, h1, Kd.N_V h2, h3⟩


def zaC.j0 : Nat → Bool → Int → List (S48) → Int → List (S48) → Option (Int × (List (S48)) × Bool)
 | 0, _, _, _, _, _ => none
 | k + 1, x20, x1002, x1000, x1003, x1001 => if x20 = true then (some (0, ([] : List (S48)), false)) else ((zat.f k (([x1000, x1001] : List (List (S48))))).bind fun t276 => ((zau.f k x1002 t276).bind fun bt279 => ((zbx.f k bt279.1 bt279.2).bind fun bt283 => (some (bt283.1, bt283.2.1, bt283.2.2)))))
def zaC.f (k : Nat) (a0_0 : Int) (l0_1 : List (S48)) (a1_0 : Int) (l1_1 : List (S48)) : Option (Int × (List (S48)) × Bool) := (zaw.f k a0_0 l0_1).bind fun t271 => (if t271 = true then ((zaw.f k a1_0 l1_1).bind fun t272 => (if t272 = true then (zaC.j0 k (a0_0 != a1_0) a0_0 l0_1 a1_0 l1_1) else (zaC.j0 k true a0_0 l0_1 a1_0 l1_1))) else (zaC.j0 k true a0_0 l0_1 a1_0 l1_1))
theorem zaC.za8 : ∀ k, (∀ y0 y1 y2 y3 y4, LeO (zaC.j0 k y0 y1 y2 y3 y4) (zaC.j0 (k + 1) y0 y1 y2 y3 y4))
 | 0 => fun _ _ _ _ _ r h => by simp [zaC.j0] at h
 | k + 1 => by
  have ih0 := zaC.za8 k
  ·intro y0 y1 y2 y3 y4
   unfold zaC.j0
   repeat' with_reducible first | exact ih0 _ _ _ _ _ | exact zaw.mono _ _ _ | exact zbx.mono _ _ _ | exact zau.mono _ _ _ | exact zat.mono _ _ | exact xl | refine LeO.ite ?_ ?_ | refine LeO.bind ?_ fun _ => ?_
theorem zaC.mono : ∀ a0 a1 a2 a3 k, LeO (zaC.f k a0 a1 a2 a3) (zaC.f (k + 1) a0 a1 a2 a3) := by
 intro a0 a1 a2 a3 k
 have ih0 := zaC.za8 k
 unfold zaC.f
 repeat' with_reducible first | exact ih0 _ _ _ _ _ | exact zaw.mono _ _ _ | exact zbx.mono _ _ _ | exact zau.mono _ _ _ | exact zat.mono _ _ | exact xl | refine LeO.ite ?_ ?_ | refine LeO.bind ?_ fun _ => ?_
def zaC.T3 : Bool × List (List Nat × List Nat) := (true, [([], []), ([0], [0]), ([], []), ([2], [2]), ([], []), ([4], [4]), ([3, 5], [3, 5]), ([6], [6]), ([1, 7, 7], [1, 7]), ([8, 8], [8]), ([9], [9]), ([9], [9]), ([10, 9, 0, 1, 2, 3, 4, 5, 6, 7, 8, 9, 10, 11], [10]), ([11, 12, 0, 1, 2, 3, 4, 5, 6, 7, 8, 9, 10, 11, 12], [11])])
def zaC.B3 : List Nat := [0, 1, 0, 4, 0, 16, 60, 124, 255, 511, 1023, 1023, 4095, 8191]
theorem zaC.tab3 : rtab .any (opsOf Try.f20 3) = zaC.T3 := by kernel_rfl
theorem zaC.zjn : zbS zaC.T3.2 zaC.B3 = true := by kernel_rfl
theorem zaC.zfT (k : Nat) (a0_0 : Int) (P0_1_ : Nat → Prop) (A0_1 : Option Addr) (c0_1 : Nat) (l0_1 : List (S48)) (a1_0 : Int) (P1_1_ : Nat → Prop) (A1_1 : Option Addr) (c1_1 : Nat) (l1_1 : List (S48)) (r1 : Int) (r2 : List (S48)) (r3 : Bool) (w : World) (hs0_1 : Kd.V k48 48 w w.heap.size (fun k_ => P0_1_ k_) (.slice A0_1 l0_1.length c0_1) l0_1) (hs1_1 : Kd.V k48 48 w w.heap.size (fun k_ => P1_1_ k_) (.slice A1_1 l1_1.length c1_1) l1_1) (h : zaC.f k a0_0 l0_1 a1_0 l1_1 = some (r1, r2, r3)) :
  Calls Try.prog 20 #[.agg #[.int .i64 a0_0, .slice A0_1 l0_1.length c0_1], .agg #[.int .i64 a1_0, .slice A1_1 l1_1.length c1_1]] w fun e w' => ∃ v1_ : Value, e = .returned (.tuple #[.agg #[.int .i64 r1, v1_], .bool r3]) ∧ Kd.S k48 48 w' w.heap.size (fun _ => True) v1_ r2 ∧ Below w.heap.size w w' := by
 have hu28 := Try.underlying28
 have HO0_1 := ax (show Kd.V k48 48 w w.heap.size (fun k_ => ((P0_1_ k_ ∨ P1_1_ k_) ∨ w.heap.size ≤ k_)) (.slice A0_1 l0_1.length c0_1) l0_1 from Kd.zaP hs0_1 (fun k_ hk => .inl (.inl hk)))
 have HO1_1 := ax (show Kd.V k48 48 w w.heap.size (fun k_ => ((P0_1_ k_ ∨ P1_1_ k_) ∨ w.heap.size ≤ k_)) (.slice A1_1 l1_1.length c1_1) l1_1 from Kd.zaP hs1_1 (fun k_ hk => .inl (.inr hk)))
 have HB := ax (Below.refl w.heap.size w)
 have H : ((zaw.f k a0_0 l0_1).bind fun t271 => (if t271 = true then ((zaw.f k a1_0 l1_1).bind fun t272 => (if t272 = true then (zaC.j0 k (a0_0 != a1_0) a0_0 l0_1 a1_0 l1_1) else (zaC.j0 k true a0_0 l0_1 a1_0 l1_1))) else (zaC.j0 k true a0_0 l0_1 a1_0 l1_1))) = some (r1, r2, r3) := h
 clear h
 have HC3 := ax H
 clear H
 go_enter Try.func20, Try.ntmps20
 go_upto_region 1 with (first | ((with_reducible refine zaV (N := 2) rfl ?_); refine zaO ?hg (N := 2) ?hd (cs := #[.int .i64 a0_0, .slice A0_1 l0_1.length c0_1]) (t := 28) ?hr ?_; (case hd => rfl); (case hg => rfl); (case hr => first | (go_simp; done) | (go_simp; rfl)); intro gb268 hg w4 hbox hb; replace HO0_1 := ax (Kd.zbG (Kd.zbH (xV HO0_1.out) gb268 (Nat.le_of_eq hg.symm)) hb); replace HO1_1 := ax (Kd.zbG (Kd.zbH (xV HO1_1.out) gb268 (Nat.le_of_eq hg.symm)) hb); have BK268 := ax (hbox); have GW268 := ax ((by rw [hg]; exact (zah (xb HB.out)) : w.heap.size ≤ gb268)); have GE268 := ax ((by rw [hg]; exact (zah (xb HB.out)) : w.heap.size ≤ gb268)); replace HB := yB HB hb; clear hb hbox hg) | ((with_reducible refine zaV (N := 3) rfl ?_); refine zaO ?hg (N := 3) ?hd (cs := #[.int .i64 a1_0, .slice A1_1 l1_1.length c1_1]) (t := 28) ?hr ?_; (case hd => rfl); (case hg => rfl); (case hr => first | (go_simp; done) | (go_simp; rfl)); intro gb269 hg w5 hbox hb; replace HO0_1 := ax (Kd.zbG (Kd.zbH (xV HO0_1.out) gb269 (Nat.le_of_eq hg.symm)) hb); replace HO1_1 := ax (Kd.zbG (Kd.zbH (xV HO1_1.out) gb269 (Nat.le_of_eq hg.symm)) hb); have BK269 := ax (hbox); have GW269 := ax ((by rw [hg]; exact (zah (xs HB.out GE268.out)) : w.heap.size ≤ gb269)); have GE269 := ax ((by rw [hg]; exact (zah (xs HB.out GE268.out)) : w.heap.size ≤ gb269)); replace HB := ax (zar (xs HB.out GE268.out) hb); have NB268_269 := ax (bn hg BK268.out); have NB269_268 := ax (bm hg BK268.out); replace BK268 := ax (bb BK268.out hb); clear hb hbox hg) | ((with_reducible refine zaV (N := 4) rfl ?_); refine zaO ?hg (N := 4) ?hd (cs := #[.int .i64 0, .slice none 0 0]) (t := 28) ?hr ?_; (case hd => rfl); (case hg => rfl); (case hr => first | (go_simp; done) | (go_simp; rfl)); intro gb270 hg w6 hbox hb; replace HO0_1 := ax (Kd.zbG (Kd.zbH (xV HO0_1.out) gb270 (Nat.le_of_eq hg.symm)) hb); replace HO1_1 := ax (Kd.zbG (Kd.zbH (xV HO1_1.out) gb270 (Nat.le_of_eq hg.symm)) hb); have BK270 := ax (hbox); have GW270 := ax ((by rw [hg]; exact (zah (bh HB.out)) : w.heap.size ≤ gb270)); have GE270 := ax ((by rw [hg]; exact (zah (bh HB.out)) : w.heap.size ≤ gb270)); replace HB := ax (zar (bh HB.out) hb); have NB268_270 := ax (bn hg BK268.out); have NB270_268 := ax (bm hg BK268.out); replace BK268 := ax (bb BK268.out hb); have NB269_270 := ax (bn hg BK269.out); have NB270_269 := ax (bm hg BK269.out); replace BK269 := ax (bb BK269.out hb); clear hb hbox hg))
 (try simp only [Act.put, List.setIfInBounds_toArray, List.set_cons_zero, List.set_cons_succ])
 go_cut [20] (fun v20 wc => ∃ (kq : Nat) (x20_2 : Bool), v20 = .bool x20_2 ∧ zap (zaC.j0 kq x20_2 a0_0 l0_1 a1_0 l1_1 = some (r1, r2, r3)) ∧ zap (kq ≤ k) ∧ zap (Kd.V k48 48 wc w.heap.size (fun k_ => ((P0_1_ k_ ∨ P1_1_ k_) ∨ w.heap.size ≤ k_) ∧ k_ ≠ gb268 ∧ k_ ≠ gb269 ∧ k_ ≠ gb270) (.slice A0_1 l0_1.length c0_1) l0_1) ∧ zap (Kd.V k48 48 wc w.heap.size (fun k_ => ((P0_1_ k_ ∨ P1_1_ k_) ∨ w.heap.size ≤ k_) ∧ k_ ≠ gb268 ∧ k_ ≠ gb269 ∧ k_ ≠ gb270) (.slice A1_1 l1_1.length c1_1) l1_1) ∧ zap (wc.heap[gb268]? = some (.cells #[.int .i64 a0_0, (.slice A0_1 l0_1.length c0_1)] 28 (0, 0))) ∧ zap (wc.heap[gb269]? = some (.cells #[.int .i64 a1_0, (.slice A1_1 l1_1.length c1_1)] 28 (0, 0))) ∧ zap (wc.heap[gb270]? = some (.cells #[.int .i64 0, (.slice none 0 0)] 28 (0, 0))) ∧ zap (Below w.heap.size w wc))
 case first =>
  have H := HC3.out
  clear HC3
  obtain ⟨t271, A7, H⟩ := xI H
  by_cases c8 : t271 = true
  ·subst c8
   rw [if_pos rfl] at H
   obtain ⟨t272, A9, H⟩ := xI H
   by_cases c10 : t272 = true
   ·subst c10
    rw [if_pos rfl] at H
    have H' := ax H
    clear H
    have hnb11 := NB268_269.out
    have hnc11 := NB269_268.out
    have hnb12 := NB268_270.out
    have hnc12 := NB270_268.out
    have hcz13_0 := bc0 BK268.out
    have hcz13_1 := bc1 BK268.out
    have hfz13_0 := zae BK268.out 0
    have hfz13_1 := zae BK268.out 1
    go_wp2_with (first | ((with_reducible refine zas (f := 29) rfl ?_); refine za3 (some 7) rfl rfl Try.func29 (by kernel_rfl) rfl #[.agg #[.int .i64 a0_0, .slice A0_1 l0_1.length c0_1]] rfl xm ?_; (with_reducible refine (zaw.calls k a0_0 _ _ l0_1 true _ ?side1 ?side2 A7.out).mono ?_); (case side1 => exact xc (Kd.za2 HO0_1.out).2.2); (case side2 => exact (Kd.za2 HO0_1.out).2.1); rintro e w14 ⟨rfl, hb⟩; refine ⟨_, rfl, ?_⟩; replace HO0_1 := yV HO0_1 hb; replace HO1_1 := yV HO1_1 hb; replace BK268 := ax (bb BK268.out hb); replace BK269 := ax (bb BK269.out hb); replace BK270 := ax (bb BK270.out hb); replace HB := ax (zar (bh HB.out) hb); (try clear hb); have hnb15 := NB269_270.out; have hnc15 := NB270_269.out; have hcz16_0 := bc0 BK269.out; have hcz16_1 := bc1 BK269.out; have hfz16_0 := zae BK269.out 0; have hfz16_1 := zae BK269.out 1) | (go_at_call 29; (with_reducible refine (zaw.calls k a1_0 _ _ l1_1 true _ ?side1 ?side2 A9.out).mono ?_); (case side1 => exact xc (Kd.za2 HO1_1.out).2.2); (case side2 => exact (Kd.za2 HO1_1.out).2.1); rintro e w17 ⟨rfl, hb⟩; replace HO0_1 := yV HO0_1 hb; replace HO1_1 := yV HO1_1 hb; replace BK268 := ax (bb BK268.out hb); replace BK269 := ax (bb BK269.out hb); replace BK270 := ax (bb BK270.out hb); replace HB := ax (zar (bh HB.out) hb); (try clear hb); have hcz18_0 := bc0 BK268.out; have hcz18_1 := bc1 BK268.out; have hfz18_0 := zae BK268.out 0; have hfz18_1 := zae BK268.out 1; have hcz19_0 := bc0 BK269.out; have hcz19_1 := bc1 BK269.out; have hfz19_0 := zae BK269.out 0; have hfz19_1 := zae BK269.out 1))
    go_meet
    case rel => exact ⟨_, ((a0_0 != a1_0)), xr, H', ⟨by first | omega | exact Nat.le_refl _⟩, ⟨by (with_reducible repeat (first | apply Kd.zbr | apply Kd.zbq | apply Kd.zbm)); exact Kd.zaP HO0_1.out (fun _ hk => ⟨hk.1.1.1, ⟨hk.1.1.2, ⟨hk.1.2, hk.2⟩⟩⟩)⟩, ⟨by (with_reducible repeat (first | apply Kd.zbr | apply Kd.zbq | apply Kd.zbm)); exact Kd.zaP HO1_1.out (fun _ hk => ⟨hk.1.1.1, ⟨hk.1.1.2, ⟨hk.1.2, hk.2⟩⟩⟩)⟩, ⟨xk BK268.out⟩, ⟨xk BK269.out⟩, ⟨xk BK270.out⟩, ⟨bh HB.out⟩⟩
   ·replace c10 := Bool.eq_false_iff.mpr c10
    subst c10
    rw [if_neg (show ¬ (false = true) by decide)] at H
    have H' := ax H
    clear H
    have hnb20 := NB268_269.out
    have hnc20 := NB269_268.out
    have hnb21 := NB268_270.out
    have hnc21 := NB270_268.out
    have hcz22_0 := bc0 BK268.out
    have hcz22_1 := bc1 BK268.out
    have hfz22_0 := zae BK268.out 0
    have hfz22_1 := zae BK268.out 1
    go_wp2_with (first | ((with_reducible refine zas (f := 29) rfl ?_); refine za3 (some 7) rfl rfl Try.func29 (by kernel_rfl) rfl #[.agg #[.int .i64 a0_0, .slice A0_1 l0_1.length c0_1]] rfl xm ?_; (with_reducible refine (zaw.calls k a0_0 _ _ l0_1 true _ ?side1 ?side2 A7.out).mono ?_); (case side1 => exact xc (Kd.za2 HO0_1.out).2.2); (case side2 => exact (Kd.za2 HO0_1.out).2.1); rintro e w23 ⟨rfl, hb⟩; refine ⟨_, rfl, ?_⟩; replace HO0_1 := yV HO0_1 hb; replace HO1_1 := yV HO1_1 hb; replace BK268 := ax (bb BK268.out hb); replace BK269 := ax (bb BK269.out hb); replace BK270 := ax (bb BK270.out hb); replace HB := ax (zar (bh HB.out) hb); (try clear hb); have hnb24 := NB269_270.out; have hnc24 := NB270_269.out; have hcz25_0 := bc0 BK269.out; have hcz25_1 := bc1 BK269.out; have hfz25_0 := zae BK269.out 0; have hfz25_1 := zae BK269.out 1) | (go_at_call 29; (with_reducible refine (zaw.calls k a1_0 _ _ l1_1 false _ ?side1 ?side2 A9.out).mono ?_); (case side1 => exact xc (Kd.za2 HO1_1.out).2.2); (case side2 => exact (Kd.za2 HO1_1.out).2.1); rintro e w26 ⟨rfl, hb⟩; replace HO0_1 := yV HO0_1 hb; replace HO1_1 := yV HO1_1 hb; replace BK268 := ax (bb BK268.out hb); replace BK269 := ax (bb BK269.out hb); replace BK270 := ax (bb BK270.out hb); replace HB := ax (zar (bh HB.out) hb); (try clear hb)))
    go_meet
    case rel => exact ⟨_, (true), xr, H', ⟨by first | omega | exact Nat.le_refl _⟩, ⟨by (with_reducible repeat (first | apply Kd.zbr | apply Kd.zbq | apply Kd.zbm)); exact Kd.zaP HO0_1.out (fun _ hk => ⟨hk.1.1.1, ⟨hk.1.1.2, ⟨hk.1.2, hk.2⟩⟩⟩)⟩, ⟨by (with_reducible repeat (first | apply Kd.zbr | apply Kd.zbq | apply Kd.zbm)); exact Kd.zaP HO1_1.out (fun _ hk => ⟨hk.1.1.1, ⟨hk.1.1.2, ⟨hk.1.2, hk.2⟩⟩⟩)⟩, ⟨xk BK268.out⟩, ⟨xk BK269.out⟩, ⟨xk BK270.out⟩, ⟨bh HB.out⟩⟩
  ·replace c8 := Bool.eq_false_iff.mpr c8
   subst c8
   rw [if_neg (show ¬ (false = true) by decide)] at H
   have H' := ax H
   clear H
   have hnb27 := NB268_269.out
   have hnc27 := NB269_268.out
   have hnb28 := NB268_270.out
   have hnc28 := NB270_268.out
   have hcz29_0 := bc0 BK268.out
   have hcz29_1 := bc1 BK268.out
   have hfz29_0 := zae BK268.out 0
   have hfz29_1 := zae BK268.out 1
   go_wp2_with (first | ((with_reducible refine zas (f := 29) rfl ?_); refine za3 (some 7) rfl rfl Try.func29 (by kernel_rfl) rfl #[.agg #[.int .i64 a0_0, .slice A0_1 l0_1.length c0_1]] rfl xm ?_; (with_reducible refine (zaw.calls k a0_0 _ _ l0_1 false _ ?side1 ?side2 A7.out).mono ?_); (case side1 => exact xc (Kd.za2 HO0_1.out).2.2); (case side2 => exact (Kd.za2 HO0_1.out).2.1); rintro e w30 ⟨rfl, hb⟩; refine ⟨_, rfl, ?_⟩; replace HO0_1 := yV HO0_1 hb; replace HO1_1 := yV HO1_1 hb; replace BK268 := ax (bb BK268.out hb); replace BK269 := ax (bb BK269.out hb); replace BK270 := ax (bb BK270.out hb); replace HB := ax (zar (bh HB.out) hb); (try clear hb)))
   go_meet
   case rel => exact ⟨_, (true), xr, H', ⟨by first | omega | exact Nat.le_refl _⟩, ⟨by (with_reducible repeat (first | apply Kd.zbr | apply Kd.zbq | apply Kd.zbm)); exact Kd.zaP HO0_1.out (fun _ hk => ⟨hk.1.1.1, ⟨hk.1.1.2, ⟨hk.1.2, hk.2⟩⟩⟩)⟩, ⟨by (with_reducible repeat (first | apply Kd.zbr | apply Kd.zbq | apply Kd.zbm)); exact Kd.zaP HO1_1.out (fun _ hk => ⟨hk.1.1.1, ⟨hk.1.1.2, ⟨hk.1.2, hk.2⟩⟩⟩)⟩, ⟨xk BK268.out⟩, ⟨xk BK269.out⟩, ⟨xk BK270.out⟩, ⟨bh HB.out⟩⟩
 case rest =>
  clear HC3
  (try clear c8); (try clear c10); (try clear hcz13_0); (try clear hcz13_1); (try clear hcz16_0); (try clear hcz16_1); (try clear hcz18_0); (try clear hcz18_1); (try clear hcz19_0); (try clear hcz19_1); (try clear hcz22_0); (try clear hcz22_1); (try clear hcz25_0); (try clear hcz25_1); (try clear hcz29_0); (try clear hcz29_1); (try clear hfz13_0); (try clear hfz13_1); (try clear hfz16_0); (try clear hfz16_1); (try clear hfz18_0); (try clear hfz18_1); (try clear hfz19_0); (try clear hfz19_1); (try clear hfz22_0); (try clear hfz22_1); (try clear hfz25_0); (try clear hfz25_1); (try clear hfz29_0); (try clear hfz29_1)
  obtain ⟨kq, x20_2, rfl, HA, HJ2, HO_1000, HO_1001, BK268, BK269, BK270, HB⟩ := hcut
  cases kq with
  | zero => exact absurd HA.out (by simp [zaC.j0])
  | succ kj2 =>
   have H := HA.out
   clear HA
   simp only [zaC.j0] at H
   by_cases c31 : x20_2 = true
   ·subst c31
    rw [if_pos rfl] at H
    simp only [Option.some.injEq, Prod.mk.injEq] at H
    obtain ⟨rfl, rfl, rfl⟩ := H
    have hnb32 := NB270_268.out
    have hnc32 := NB268_270.out
    have hnb33 := NB270_269.out
    have hnc33 := NB269_270.out
    have hcz34_0 := bc0 BK270.out
    have hcz34_1 := bc1 BK270.out
    have hfz34_0 := zae BK270.out 0
    have hfz34_1 := zae BK270.out 1
    go_wp2
    refine bodyPost_ret (zcN rfl _ _ gb270 28 #[.int .i64 0, .slice none 0 0] (0, 0) _ rfl (by (with_reducible repeat (first | refine zaj ?_ _ | refine zaf ?_ | refine zai ?_ _)); refine zbf (cs := #[.int .i64 0, .slice none 0 0]) ?_ 1 _ rfl; (with_reducible repeat (first | refine zaj ?_ _ | refine zaf ?_ | refine zai ?_ _)); refine zbf (cs := #[.int .i64 0, .slice none 0 0]) ?_ 0 _ rfl; (with_reducible repeat (first | refine zaj ?_ _ | refine zaf ?_ | refine zai ?_ _)); exact BK270.out) Try.underlying28 rfl (by kernel_rfl)) rfl ?_
    exact ⟨_, xe, by first | exact Kd.zg4 _ _ _ _ _ | exact Kd.ziA _ _ _ _ _ | exact Kd.zit _ _ _ _ _ | exact Kd.zjs _ _ _ _ _ | exact Kd.zeM _ _ _ _ _, bh HB.out⟩
   ·replace c31 := Bool.eq_false_iff.mpr c31
    subst c31
    rw [if_neg (show ¬ (false = true) by decide)] at H
    obtain ⟨y273, hy273⟩ : ∃ y_ : List (List (S48)), y_ = (([l0_1, l1_1] : List (List (S48)))) := ⟨_, rfl⟩
    replace H : ((zat.f kj2 y273).bind fun t276 => ((zau.f kj2 a0_0 t276).bind fun bt279 => ((zbx.f kj2 bt279.1 bt279.2).bind fun bt283 => (some (bt283.1, bt283.2.1, bt283.2.2))))) = some (r1, r2, r3) := xv hy273 H
    have Ny273 := ax hy273
    clear hy273
    obtain ⟨t276, A35, H⟩ := xI H
    obtain ⟨⟨t279, t280⟩, A36, H⟩ := xI H
    dsimp only at H
    obtain ⟨⟨t283, t284, t287⟩, A37, H⟩ := xI H
    dsimp only at H
    simp only [Option.some.injEq, Prod.mk.injEq] at H
    obtain ⟨rfl, rfl, rfl⟩ := H
    try go_wp2
    replace HO_1000 := ax (Kd.zbm HO_1000.out); replace HO_1001 := ax (Kd.zbm HO_1001.out); replace BK268 := ax (zaf BK268.out); replace BK269 := ax (zaf BK269.out); replace BK270 := ax (zaf BK270.out); replace HB := ax (zaN HB.out)
    refine zbJ (n := 14) (S := fun w' => w'.cell? ⟨gb268, 0, none⟩ = some (.int .i64 a0_0) ∧ w'.cell? ⟨gb268, 1, none⟩ = some (.slice A0_1 l0_1.length c0_1) ∧ w'.cell? ⟨gb269, 0, none⟩ = some (.int .i64 a1_0) ∧ w'.cell? ⟨gb269, 1, none⟩ = some (.slice A1_1 l1_1.length c1_1)) (ds := []) (xB 14 0) (by kernel_rfl) rfl (by kernel_rfl) ⟨(zag BK268.out 0).trans rfl, (zag BK268.out 1).trans rfl, (zag BK269.out 0).trans rfl, (zag BK269.out 1).trans rfl⟩ (fun hHeld => ?_); refine zbg zaC.tab3 zaC.zjn (fun HT_ HW_ => ?_)
    generalize wc.drew = w38 at HO_1000 HO_1001 BK268 BK269 BK270 HB hHeld ⊢
    refine pu (i := 0) (N := some 22) (xB 14 1) HT_.out ?_
    refine pu (i := 2) (N := some 24) (xB 14 5) HT_.out ?_
    refine pu (i := 4) (N := some 26) (xB 14 21) HT_.out ?_
    refine tk (i := 1) (N := some 23) (xB 14 23) HT_.out HW_.out hHeld ?_
    refine tk (i := 3) (N := some 25) (xB 14 31) HT_.out HW_.out hHeld ?_
    refine tk (i := 5) (N := some 27) (xB 14 63) HT_.out HW_.out hHeld ?_
    refine one_ (i := 6) (N := some 28) (xB 14 127) rfl rfl (zbj HT_.out (by kernel_rfl)) (by decide) (fun K hK => ?_)
    refine Kd.zg5 (Kd.slice 48 k48) _ 26 ?hg (N' := 28) ?hd (xs := ([l0_1, l1_1] : List (List (S48)))) (inner := [.slice A0_1 l0_1.length c0_1, .slice A1_1 l1_1.length c1_1]) (ok := (fun k_ => ((P0_1_ k_ ∨ P1_1_ k_) ∨ w.heap.size ≤ k_) ∧ k_ ≠ gb268 ∧ k_ ≠ gb269 ∧ k_ ≠ gb270)) (okp := (fun k_ => ((P0_1_ k_ ∨ P1_1_ k_) ∨ w.heap.size ≤ k_) ∧ k_ ≠ gb268 ∧ k_ ≠ gb269 ∧ k_ ≠ gb270)) ?hr ?hp (fun _ hk => hk) ((show ∀ k_, w38.heap.size ≤ k_ → (fun k_ => ((P0_1_ k_ ∨ P1_1_ k_) ∨ w.heap.size ≤ k_) ∧ k_ ≠ gb268 ∧ k_ ≠ gb269 ∧ k_ ≠ gb270) k_ from fun k_ hk => ⟨(.inr (Nat.le_trans (zah (bh HB.out)) hk)), Kd.zbN (g := gb268) (o := .cells #[.int .i64 a0_0, .slice A0_1 l0_1.length c0_1] 28 (0, 0)) (xk BK268.out) k_ hk, Kd.zbN (g := gb269) (o := .cells #[.int .i64 a1_0, .slice A1_1 l1_1.length c1_1] 28 (0, 0)) (xk BK269.out) k_ hk, Kd.zbN (g := gb270) (o := .cells #[.int .i64 0, .slice none 0 0] 28 (0, 0)) (xk BK270.out) k_ hk⟩) _ (Nat.le_refl _)) (Below.refl _ _) (Nat.le_refl _) (by simp) ?_; (case hd => rfl); (case hg => rfl); (case hr => first | (go_simp; done) | (go_simp; rfl)); (case hp => exact (Reps.one (show Kd.FK (Kd.slice 48 k48) _ _ l0_1 [.slice A0_1 l0_1.length c0_1] from (Kd.zeE (Kd.za2 (Kd.zaP (ok' := (fun k_ => ((P0_1_ k_ ∨ P1_1_ k_) ∨ w.heap.size ≤ k_) ∧ k_ ≠ gb268 ∧ k_ ≠ gb269 ∧ k_ ≠ gb270)) (HO_1000.out) (fun k_ hk => ⟨hk.1, ⟨hk.2.1, ⟨hk.2.2.1, hk.2.2.2⟩⟩⟩))).2.1 (Kd.V_F (Kd.zaP (ok' := (fun k_ => ((P0_1_ k_ ∨ P1_1_ k_) ∨ w.heap.size ≤ k_) ∧ k_ ≠ gb268 ∧ k_ ≠ gb269 ∧ k_ ≠ gb270)) (HO_1000.out) (fun k_ hk => ⟨hk.1, ⟨hk.2.1, ⟨hk.2.2.1, hk.2.2.2⟩⟩⟩))))) (Reps.one (show Kd.FK (Kd.slice 48 k48) _ _ l1_1 [.slice A1_1 l1_1.length c1_1] from (Kd.zeE (Kd.za2 (Kd.zaP (ok' := (fun k_ => ((P0_1_ k_ ∨ P1_1_ k_) ∨ w.heap.size ≤ k_) ∧ k_ ≠ gb268 ∧ k_ ≠ gb269 ∧ k_ ≠ gb270)) (HO_1001.out) (fun k_ hk => ⟨hk.1, ⟨hk.2.1, ⟨hk.2.2.1, hk.2.2.2⟩⟩⟩))).2.1 (Kd.V_F (Kd.zaP (ok' := (fun k_ => ((P0_1_ k_ ∨ P1_1_ k_) ∨ w.heap.size ≤ k_) ∧ k_ ≠ gb268 ∧ k_ ≠ gb269 ∧ k_ ≠ gb270)) (HO_1001.out) (fun k_ hk => ⟨hk.1, ⟨hk.2.1, ⟨hk.2.2.1, hk.2.2.2⟩⟩⟩))))) (Reps.none _ _))))
    intro v274 w39 ho40 hb hg_ hnew_
    clear hg_ hnew_
    (first | rw [← Ny273.out] at ho40 | (simp only [Int.reduceToNat] at ho40; rw [← Ny273.out] at ho40))
    replace HO_1000 := ax (Kd.zcb (xV HO_1000.out) (by first | exact Kd.zcI ho40 | exact Kd.za6 ho40 | exact Kd.zb4 ho40) hb); replace HO_1001 := ax (Kd.zcb (xV HO_1001.out) (by first | exact Kd.zcI ho40 | exact Kd.za6 ho40 | exact Kd.zb4 ho40) hb); have HO275 := ax (Kd.zdM ho40 (zah (bh HB.out))); replace BK268 := ax (bb BK268.out hb); replace BK269 := ax (bb BK269.out hb); replace BK270 := ax (bb BK270.out hb); replace HB := ax (zar (bh HB.out) hb); clear hb ho40
    obtain ⟨Ao41, co41, eo41⟩ := Kd.zbt HO275.out
    (first | subst eo41 | (injection eo41 with f1_ f2_ f3_; have f4_ := f1_.symm; have f5_ := f3_.symm; clear f1_ f2_ f3_; subst f4_; subst f5_))
    refine hK.out _ _ ⟨(zag BK268.out 0).trans rfl, (zag BK268.out 1).trans rfl, (zag BK269.out 0).trans rfl, (zag BK269.out 1).trans rfl⟩ (fun hHeld => ?_)
    clear hK K
    refine nm ?_
    refine one_ (i := 7) (N := some 29) (xB 14 255) rfl rfl (zbj HT_.out (by kernel_rfl)) (by decide) (fun K hK => ?_)
    refine zbQ Try.func45 (by kernel_rfl) rfl #[.slice Ao41 y273.length co41] (by rfl) rfl rfl xm ?_
    with_reducible refine (zat.calls kj2 (fun k_ => (((P0_1_ k_ ∨ P1_1_ k_) ∨ w.heap.size ≤ k_) ∧ (k_ ≠ gb268 ∧ (k_ ≠ gb269 ∧ k_ ≠ gb270)))) _ _ y273 t276 _ ?side1 A35.out).mono ?_
    (case side1 => exact Kd.N_V (HO275.out))
    rintro e w42 ⟨v277, rfl, ho0, hb⟩
    refine ⟨_, rfl, ?_⟩
    replace HO_1000 := yV HO_1000 hb; replace HO_1001 := yV HO_1001 hb; replace HO275 := ax (Kd.zbL (xN HO275.out) hb); have HO278 := ax (Kd.zeB (Kd.zaP (ok' := fun k_ => ((P0_1_ k_ ∨ P1_1_ k_) ∨ w.heap.size ≤ k_) ∧ k_ ≠ gb268 ∧ k_ ≠ gb269 ∧ k_ ≠ gb270) ho0 (fun k_ hk_ => ⟨Or.elim hk_ (fun hs_ => hs_.1) (fun hn_ => (.inr (Nat.le_trans (zah (bh HB.out)) hn_))), Or.elim hk_ (fun hs_ => hs_.2.1) (fun hn_ => (Kd.zbN (g := gb268) (o := .cells #[.int .i64 a0_0, .slice A0_1 l0_1.length c0_1] 28 (0, 0)) (xk BK268.out) k_ hn_)), Or.elim hk_ (fun hs_ => hs_.2.2.1) (fun hn_ => (Kd.zbN (g := gb269) (o := .cells #[.int .i64 a1_0, .slice A1_1 l1_1.length c1_1] 28 (0, 0)) (xk BK269.out) k_ hn_)), Or.elim hk_ (fun hs_ => hs_.2.2.2) (fun hn_ => (Kd.zbN (g := gb270) (o := .cells #[.int .i64 0, .slice none 0 0] 28 (0, 0)) (xk BK270.out) k_ hn_))⟩)) (zah (bh HB.out))); replace BK268 := ax (bb BK268.out hb); replace BK269 := ax (bb BK269.out hb); replace BK270 := ax (bb BK270.out hb); replace HB := ax (zar (bh HB.out) hb)
    (try clear hb)
    (try clear hk)
    (try clear ho0)
    obtain ⟨Ao43, co43, eo43⟩ := Kd.zhO HO278.out
    (first | subst eo43 | (injection eo43 with f1_ f2_ f3_; have f4_ := f1_.symm; have f5_ := f3_.symm; clear f1_ f2_ f3_; subst f4_; subst f5_))
    refine hK.out _ _ ⟨(zag BK268.out 0).trans rfl, (zag BK268.out 1).trans rfl, (zag BK269.out 0).trans rfl, (zag BK269.out 1).trans rfl⟩ (fun hHeld => ?_)
    clear hK K
    refine nm ?_
    refine one_ (i := 8) (N := some 30) (xB 14 511) rfl rfl (zbj HT_.out (by kernel_rfl)) (by decide) (fun K hK => ?_)
    refine zbQ Try.func32 (by kernel_rfl) rfl #[.int .i64 a0_0, .slice Ao43 t276.length co43] (by rfl) rfl rfl xm ?_
    with_reducible refine (zau.calls kj2 a0_0 _ _ t276 t279 t280 _ ?side1 ?side2 A36.out).mono ?_
    (case side1 => exact xc (Kd.za2 HO278.out).2.2)
    (case side2 => exact (Kd.za2 HO278.out).2.1)
    rintro e w44 ⟨v281, rfl, ho0, hb⟩
    refine ⟨_, rfl, ?_⟩
    replace HO_1000 := ax (Kd.zcb (xV HO_1000.out) (by first | exact Kd.zcI ho0 | exact Kd.za6 ho0 | exact Kd.zb4 ho0) hb); replace HO_1001 := ax (Kd.zcb (xV HO_1001.out) (by first | exact Kd.zcI ho0 | exact Kd.za6 ho0 | exact Kd.zb4 ho0) hb); replace HO278 := ax (Kd.zcb (xV HO278.out) (by first | exact Kd.zcI ho0 | exact Kd.za6 ho0 | exact Kd.zb4 ho0) hb); have HO282 := ax (Kd.zbV (Kd.zaZ (ok' := fun k_ => ((P0_1_ k_ ∨ P1_1_ k_) ∨ w.heap.size ≤ k_) ∧ some k_ ≠ (.slice Ao41 y273.length co41 : Value).ownBlock ∧ k_ ≠ gb268 ∧ k_ ≠ gb269 ∧ k_ ≠ gb270) (Kd.zc1 ho0) (fun k_ hk_ => ⟨(.inr (Nat.le_trans (zah (bh HB.out)) hk_.2.1)), (Kd.fresh' (Kd.N_lt (xN HO275.out)) k_ hk_.2.1), (Kd.zbN (g := gb268) (o := .cells #[.int .i64 a0_0, .slice A0_1 l0_1.length c0_1] 28 (0, 0)) (xk BK268.out) k_ hk_.2.1), (Kd.zbN (g := gb269) (o := .cells #[.int .i64 a1_0, .slice A1_1 l1_1.length c1_1] 28 (0, 0)) (xk BK269.out) k_ hk_.2.1), (Kd.zbN (g := gb270) (o := .cells #[.int .i64 0, .slice none 0 0] 28 (0, 0)) (xk BK270.out) k_ hk_.2.1)⟩)) (zah (bh HB.out))); replace HO275 := ax (Kd.zdj (xN HO275.out) (by first | exact Kd.zcI ho0 | exact Kd.za6 ho0 | exact Kd.zb4 ho0) hb); replace BK268 := ax (bb BK268.out hb); replace BK269 := ax (bb BK269.out hb); replace BK270 := ax (bb BK270.out hb); replace HB := ax (zar (bh HB.out) hb)
    (try clear hb)
    (try clear hk)
    (try clear ho0)
    obtain ⟨Ao45, co45, eo45⟩ := Kd.zbC HO282.out
    (first | subst eo45 | (injection eo45 with f1_ f2_ f3_; have f4_ := f1_.symm; have f5_ := f3_.symm; clear f1_ f2_ f3_; subst f4_; subst f5_))
    refine hK.out _ _ ⟨(zag BK268.out 0).trans rfl, (zag BK268.out 1).trans rfl, (zag BK269.out 0).trans rfl, (zag BK269.out 1).trans rfl⟩ (fun hHeld => ?_)
    clear hK K
    refine nm ?_
    refine one_ (i := 9) (N := some 31) (xB 14 1023) rfl rfl (zbj HT_.out (by kernel_rfl)) (by decide) (fun K hK => ?_)
    refine zbQ Try.func31 (by kernel_rfl) rfl #[.agg #[.int .i64 t279, .slice Ao45 t280.length co45]] (by rfl) rfl rfl xm ?_
    with_reducible refine (zbx.calls ?pc1_ kj2 t279 (fun k_ => some k_ = (.slice Ao45 t280.length co45 : Value).ownBlock) (.slice Ao45 t280.length co45) t280 t283 t284 t287 w _ ?side1 ?side2 A37.out).mono ?_
    (case side1 => exact bh HB.out)
    (case side2 => exact HO282.out)
    rintro e w46 ⟨v285, rfl, ho0, hb, hkp⟩
    refine ⟨_, rfl, ?_⟩
    have n0_ := ax trivial
    have n1_ := ax trivial
    have n2_ := ax (zbh (xk BK268.out) hkp (fun hs_ => (fun e_ => (Kd.S_ne HO282.out BK268.out (by decide)) e_) hs_))
    have n3_ := ax (zbh (xk BK269.out) hkp (fun hs_ => (fun e_ => (Kd.S_ne HO282.out BK269.out (by decide)) e_) hs_))
    have n4_ := ax (zbh (xk BK270.out) hkp (fun hs_ => (fun e_ => (Kd.S_ne HO282.out BK270.out (by decide)) e_) hs_))
    have n5_ := ax trivial
    have n6_ := ax trivial
    have n7_ := ax (Kd.zaZ (ok' := fun k_ => ((P0_1_ k_ ∨ P1_1_ k_) ∨ w.heap.size ≤ k_) ∧ some k_ ≠ (.slice Ao41 y273.length co41 : Value).ownBlock ∧ k_ ≠ gb268 ∧ k_ ≠ gb269 ∧ k_ ≠ gb270) ho0 (fun k_ hk_ => by first | exact hk_ | exact hk_.1 | exact hk_.2))
    have n8_ := ax (hb)
    clear HO_1000 HO_1001 BK268 BK269 BK270 HO275 HO278 HB HO282
    have HO_1000 := n0_
    have HO_1001 := n1_
    have BK268 := n2_
    have BK269 := n3_
    have BK270 := n4_
    have HO275 := n5_
    have HO278 := n6_
    have HO286 := n7_
    have HB := n8_
    clear n0_ n1_ n2_ n3_ n4_ n5_ n6_ n7_ n8_
    (try clear hb)
    (try clear hkp)
    (try clear ho0)
    obtain ⟨Ao48, co48, eo48⟩ := Kd.zbC HO286.out
    (first | subst eo48 | (injection eo48 with f1_ f2_ f3_; have f4_ := f1_.symm; have f5_ := f3_.symm; clear f1_ f2_ f3_; subst f4_; subst f5_))
    refine hK.out _ _ ⟨(zag BK268.out 0).trans rfl, (zag BK268.out 1).trans rfl, (zag BK269.out 0).trans rfl, (zag BK269.out 1).trans rfl⟩ (fun hHeld => ?_)
    clear hK K
    refine nm ?_
    refine pu (i := 10) (N := some 32) (xB 14 2047) HT_.out ?_
    refine pu (i := 11) (N := some 33) (xB 14 4095) HT_.out ?_
    refine one_ (i := 12) (N := none) (xB 14 8191) rfl rfl (zbj HT_.out (by kernel_rfl)) (by decide) (fun K hK => ?_)
    have hs47 : w46.cell? ⟨gb270, 0, none⟩ = some (.int .i64 0) := (zag BK270.out 0).trans rfl
    have hfs47 := zae BK270.out 0
    have hns47_0 := NB268_270.out
    have hns47_1 := NB269_270.out
    have hms47_0 := NB270_268.out
    have hms47_1 := NB270_269.out
    have hs49 : w46.cell? ⟨gb270, 1, none⟩ = some (.slice none 0 0) := (zag BK270.out 1).trans rfl
    have hfs49 := zae BK270.out 1
    have hns49_0 := NB268_270.out
    have hns49_1 := NB269_270.out
    have hms49_0 := NB270_268.out
    have hms49_1 := NB270_269.out
    refine zdF (w1 := ?_) (by rfl) rfl ?_ ?_
    rotate_left
    ·go_simp
     rfl
    refine hK.out _ _ ⟨((cell_far (p := ⟨gb270, _, none⟩) NB268_270.out _).trans (((cell_far (p := ⟨gb270, _, none⟩) NB268_270.out _).trans (hHeld.1)))), ((cell_far (p := ⟨gb270, _, none⟩) NB268_270.out _).trans (((cell_far (p := ⟨gb270, _, none⟩) NB268_270.out _).trans (hHeld.2.1)))), ((cell_far (p := ⟨gb270, _, none⟩) NB269_270.out _).trans (((cell_far (p := ⟨gb270, _, none⟩) NB269_270.out _).trans (hHeld.2.2.1)))), ((cell_far (p := ⟨gb270, _, none⟩) NB269_270.out _).trans (((cell_far (p := ⟨gb270, _, none⟩) NB269_270.out _).trans (hHeld.2.2.2))))⟩ (fun hHeld => ?_)
    clear hK K
    refine pu (i := 13) (N := some 5) (xB 14 16383) HT_.out ?_
    refine zb6 (zbB HT_.out (by kernel_rfl)) ?_
    try go_wp2
    refine bodyPost_ret (zcN rfl _ _ gb270 28 #[.int .i64 t283, .slice Ao48 t284.length co48] (0, 0) _ rfl (by (with_reducible repeat (first | refine zaj ?_ _ | refine zaf ?_ | refine zai ?_ _)); refine zbf (cs := #[.int .i64 t283, .slice none 0 0]) ?_ 1 _ rfl; (with_reducible repeat (first | refine zaj ?_ _ | refine zaf ?_ | refine zai ?_ _)); refine zbf (cs := #[.int .i64 0, .slice none 0 0]) ?_ 0 _ rfl; (with_reducible repeat (first | refine zaj ?_ _ | refine zaf ?_ | refine zai ?_ _)); exact BK270.out) Try.underlying28 rfl (by kernel_rfl)) rfl ?_
    exact ⟨_, xe, by (with_reducible repeat (first | apply Kd.zaH | apply Kd.zaD | apply Kd.zaK)); exact Kd.zaZ (Kd.zgo (p := ⟨gb270, 1, none⟩) (Kd.zgo (p := ⟨gb270, 0, none⟩) (Kd.zaZ HO286.out (fun k_ hk => (⟨hk, hk.2.2.2.2⟩ : _ ∧ k_ ≠ gb270))) (fun _ hk => hk.2) (.int .i64 t283)) (fun _ hk => hk.2) (.slice Ao48 t284.length co48)) (fun _ _ => trivial), bh HB.out⟩
theorem zaC.calls (k : Nat) (a0_0 : Int) (A0_1 : Option Addr) (c0_1 : Nat) (l0_1 : List (S48)) (a1_0 : Int) (A1_1 : Option Addr) (c1_1 : Nat) (l1_1 : List (S48)) (r1 : Int) (r2 : List (S48)) (r3 : Bool) (w : World) (hr0_1 : Kd.C k48 w A0_1 l0_1.length l0_1) (hc0_1 : l0_1.length ≤ c0_1) (hr1_1 : Kd.C k48 w A1_1 l1_1.length l1_1) (hc1_1 : l1_1.length ≤ c1_1) (h : zaC.f k a0_0 l0_1 a1_0 l1_1 = some (r1, r2, r3)) :
  Calls Try.prog 20 #[.agg #[.int .i64 a0_0, .slice A0_1 l0_1.length c0_1], .agg #[.int .i64 a1_0, .slice A1_1 l1_1.length c1_1]] w fun e w' => ∃ v1_ : Value, e = .returned (.tuple #[.agg #[.int .i64 r1, v1_], .bool r3]) ∧ Kd.S k48 48 w' w.heap.size (fun _ => True) v1_ r2 ∧ Below w.heap.size w w' :=
 zaC.zfT k a0_0 (fun k_ => k_ < w.heap.size) A0_1 c0_1 l0_1 a1_0 (fun k_ => k_ < w.heap.size) A1_1 c1_1 l1_1 r1 r2 r3 w (Kd.V_mk hc0_1 (Kd.C_F ze8 hr0_1)) (Kd.V_mk hc1_1 (Kd.C_F ze8 hr1_1)) h

end Go.Proofs.Ytneipehcmmigeaa.PFnExactAddPolys
