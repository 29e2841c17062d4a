import Derived.Test.YtneipehcmmigeaaPFnExactAddPolysx11
import Derived.Test.YtneipehcmmigeaaPFnExactAddPolysx13
namespace Go.Proofs.Ytneipehcmmigeaa.PFnExactAddPolys
open Go.RowKit Go.Proofs.YtneipehcmmigeaaW.PrintWords Go.Proofs.YtneipehcmmigeaaW.PrintLast Go.Proofs.YtneipehcmmigeaaW.PrintMore
set_option linter.unusedVariables false
set_option linter.unusedSimpArgs false
set_option maxHeartbeats 8000000
set_option maxRecDepth 100000
mutual
def zac.l0 : Nat → List (S48) → Int → Int → Int → Int → Option ((List (S48)))
 | 0, _, _, _, _, _ => none
 | k + 1, x0, x1, x6, x7, x8 => if x8 ≤ x1 then ((zaa.f k x0 x7 x8).bind fun t257 => (zac.l0 k t257 x1 x6 x8 (wrap64 (x8 + x6)))) else ((zaa.f k x0 x7 x1).bind fun t258 => (zac.l1 k t258 x1 x6))
def zac.l1 : Nat → List (S48) → Int → Int → Option ((List (S48)))
 | 0, _, _, _ => none
 | k + 1, x0, x1, x6 => if x6 < x1 then (zac.l2 k x0 x1 x6 0 (wrap64 (2 * x6))) else (some x0)
def zac.l2 : Nat → List (S48) → Int → Int → Int → Int → Option ((List (S48)))
 | 0, _, _, _, _, _ => none
 | k + 1, x0, x1, x6, x7, x8 => if x8 ≤ x1 then ((za.f k x0 x7 (wrap64 (x7 + x6)) x8).bind fun t259 => (zac.l2 k t259 x1 x6 x8 (wrap64 (x8 + (wrap64 (2 * x6)))))) else (if (wrap64 (x7 + x6)) < x1 then ((za.f k x0 x7 (wrap64 (x7 + x6)) x1).bind fun t260 => (zac.l1 k t260 x1 (wrap64 (x6 * 2)))) else (zac.l1 k x0 x1 (wrap64 (x6 * 2))))
end
def zac.f (k : Nat) (l0 : List (S48)) (a1 : Int)  : Option ((List (S48))) := zac.l0 k l0 a1 20 0 20
theorem zac.za8 : ∀ k, (∀ y0 y1 y2 y3 y4, LeO (zac.l0 k y0 y1 y2 y3 y4) (zac.l0 (k + 1) y0 y1 y2 y3 y4)) ∧ (∀ y0 y1 y2, LeO (zac.l1 k y0 y1 y2) (zac.l1 (k + 1) y0 y1 y2)) ∧ (∀ y0 y1 y2 y3 y4, LeO (zac.l2 k y0 y1 y2 y3 y4) (zac.l2 (k + 1) y0 y1 y2 y3 y4))
 | 0 => ⟨fun _ _ _ _ _ r h => by simp [zac.l0] at h, fun _ _ _ r h => by simp [zac.l1] at h, fun _ _ _ _ _ r h => by simp [zac.l2] at h⟩
 | k + 1 => by
  obtain ⟨ih0, ih1, ih2⟩ := zac.za8 k
  refine ⟨?_, ?_, ?_⟩ <;> intros <;> (first | unfold zac.l0 | unfold zac.l1 | unfold zac.l2) <;> repeat' with_reducible first | exact ih0 _ _ _ _ _ | exact ih1 _ _ _ | exact ih2 _ _ _ _ _ | exact zaa.mono _ _ _ _ | exact za.mono _ _ _ _ _ | exact xl | refine LeO.ite ?_ ?_ | refine LeO.bind ?_ fun _ => ?_
theorem zac.mono : ∀ a0 a1 k, LeO (zac.f k a0 a1) (zac.f (k + 1) a0 a1) := by
 intro a0 a1 k
 obtain ⟨ih0, ih1, ih2⟩ := zac.za8 k
 unfold zac.f
 repeat' with_reducible first | exact ih0 _ _ _ _ _ | exact ih1 _ _ _ | exact ih2 _ _ _ _ _ | exact zaa.mono _ _ _ _ | exact za.mono _ _ _ _ _ | exact xl | refine LeO.ite ?_ ?_ | refine LeO.bind ?_ fun _ => ?_
theorem zac.calls (k : Nat) (P0_ Z0_ : Nat → Prop) (u9000_ : Value) (l0 : List (S48)) (a1 : Int)  (r : List (S48)) (w0 w : World) (hB : Below w0.heap.size w0 w) (ho0 : Kd.N k48 48 w w0.heap.size P0_ u9000_ l0) (hz0 : ∀ k_, u9000_.ownBlock = some k_ → Z0_ k_) (h : zac.f k l0 a1 = some r) :
  Calls Try.prog 79 #[u9000_, .int .i64 a1, .func (.func 60) #[] #[]] w fun e w' => e = .returned (.tuple #[]) ∧ Kd.N k48 48 w' w0.heap.size (fun k_ => P0_ k_) u9000_ r ∧ Below w0.heap.size w0 w' ∧ Kept w w' (fun k_ => Z0_ k_) := by
 have HO0 := ax (show Kd.N k48 48 w w0.heap.size (fun k_ => P0_ k_) u9000_ l0 from Kd.zbe ho0 (fun k_ hk => hk))
 have HZ0 := ax hz0
 clear hz0
 have HK := ax (Kept.refl w (fun k_ => Z0_ k_))
 have HW0 := ax hB.size
 have HB := ax hB
 clear hB
 have H : (zac.l0 k l0 a1 20 0 20) = some r := h
 clear h
 have H' := ax H
 clear H
 go_enter Try.func79, Try.ntmps79
 go_wp2
 (try simp only [Act.put, List.setIfInBounds_toArray, List.set_cons_zero, List.set_cons_succ])
 go_loopg [7, 8] k (fun kq v7 v8 w' => ∃ (x0_1 : List (S48)) (x7_1 : Int) (x8_1 : Int), v7 = .int .i64 x7_1 ∧ v8 = .int .i64 x8_1 ∧ zap (zac.l0 kq x0_1 a1 20 x7_1 x8_1 = some r) ∧ zap (kq ≤ k) ∧ zap (Kd.N k48 48 w' w0.heap.size (fun k_ => P0_ k_) u9000_ x0_1) ∧ zap (Kept w w' (fun k_ => Z0_ k_)) ∧ zap (Below w0.heap.size w0 w'))
 case atStart => exact ⟨(l0), (0), (20), xr, xr, H', ⟨Nat.le_refl _⟩, ⟨xN HO0.out⟩, ⟨by repeat (first | (with_reducible first | exact HK.out | apply Kept.alloc | apply Kept.drewN | apply Kept.drew) | exact HK.out)⟩, ⟨xb HB.out⟩⟩
 case round =>
  clear H'
  obtain ⟨x0_1, x7_1, x8_1, rfl, rfl, HA, HK1, HO_0, HK, HB⟩ := hrel
  cases gk with
  | zero => exact absurd HA.out (by simp [zac.l0])
  | succ k1 =>
   have H := HA.out
   clear HA
   simp only [zac.l0] at H
   by_cases c4 : x8_1 ≤ a1
   ·rw [if_pos c4] at H
    have c4b0 := decide_eq_true c4
    clear c4
    obtain ⟨t257, A5, H⟩ := xI H
    have H' := ax H
    clear H
    obtain ⟨Ao6, co6, eo6⟩ := Kd.zbt HO_0.out
    subst eo6
    go_wp2_with (first | ((with_reducible refine zas (f := 90) rfl ?_); refine za3 (some 18) rfl rfl Try.func90 (by kernel_rfl) rfl #[.slice Ao6 x0_1.length co6, .int .i64 x7_1, .int .i64 x8_1, .func (.func 60) #[] #[]] rfl xm ?_; (with_reducible refine (zaa.calls k1 (fun k_ => P0_ k_) (fun k_ => some k_ = (.slice Ao6 x0_1.length co6 : Value).ownBlock) (.slice Ao6 x0_1.length co6) x0_1 x7_1 x8_1  t257 w0 _ ?side1 ?side2 ?side3 A5.out).mono ?_); (case side1 => exact xb HB.out); (case side2 => exact HO_0.out); (case side3 => exact fun k_ e_ => e_.symm); rintro e w7 ⟨rfl, hy0, hb, hkp⟩; refine ⟨_, rfl, ?_⟩; replace HO_0 := ax (hy0); replace HK := ax (Kept.zc8 (S := (fun k_ => Z0_ k_)) (by repeat (first | (with_reducible first | exact HK.out | apply Kept.alloc | apply Kept.drewN | apply Kept.drew) | exact HK.out)) hkp (fun k_ hs_ => (fun e_ => (by first | exact .inl (HZ0.out k_ e_.symm) | exact .inl (zcH HZ0.out (e_.symm)))) hs_)); replace HB := ax (hb); (try clear hb); (try clear hkp); (try clear hy0)))
    go_roundg k1
    case measure => have := HK1.out; omega
    case rel => exact ⟨(t257), (x8_1), (wrap64 (x8_1 + 20)), xr, xr, H', ⟨by have := HK1.out; omega⟩, ⟨xN HO_0.out⟩, ⟨by repeat (first | (with_reducible first | exact HK.out | apply Kept.alloc | apply Kept.drewN | apply Kept.drew) | exact HK.out)⟩, ⟨xb HB.out⟩⟩
   ·rw [if_neg c4] at H
    have c4b0 := decide_eq_false c4
    clear c4
    obtain ⟨t258, A8, H⟩ := xI H
    have H' := ax H
    clear H
    obtain ⟨Ao9, co9, eo9⟩ := Kd.zbt HO_0.out
    subst eo9
    go_wp2_with (first | ((with_reducible refine zas (f := 90) rfl ?_); refine za3 (some 27) rfl rfl Try.func90 (by kernel_rfl) rfl #[.slice Ao9 x0_1.length co9, .int .i64 x7_1, .int .i64 a1, .func (.func 60) #[] #[]] rfl xm ?_; (with_reducible refine (zaa.calls k1 (fun k_ => P0_ k_) (fun k_ => some k_ = (.slice Ao9 x0_1.length co9 : Value).ownBlock) (.slice Ao9 x0_1.length co9) x0_1 x7_1 a1  t258 w0 _ ?side1 ?side2 ?side3 A8.out).mono ?_); (case side1 => exact xb HB.out); (case side2 => exact HO_0.out); (case side3 => exact fun k_ e_ => e_.symm); rintro e w10 ⟨rfl, hy0, hb, hkp⟩; refine ⟨_, rfl, ?_⟩; replace HO_0 := ax (hy0); replace HK := ax (Kept.zc8 (S := (fun k_ => Z0_ k_)) (by repeat (first | (with_reducible first | exact HK.out | apply Kept.alloc | apply Kept.drewN | apply Kept.drew) | exact HK.out)) hkp (fun k_ hs_ => (fun e_ => (by first | exact .inl (HZ0.out k_ e_.symm) | exact .inl (zcH HZ0.out (e_.symm)))) hs_)); replace HB := ax (hb); (try clear hb); (try clear hkp); (try clear hy0)))
    (try simp only [Act.put, List.setIfInBounds_toArray, List.set_cons_zero, List.set_cons_succ])
    go_loopg [6] k1 (fun kq v6 w' => ∃ (x0_2 : List (S48)) (x6_2 : Int), v6 = .int .i64 x6_2 ∧ zap (zac.l1 kq x0_2 a1 x6_2 = some r) ∧ zap (kq ≤ k1) ∧ zap (Kd.N k48 48 w' w0.heap.size (fun k_ => P0_ k_) (.slice Ao9 x0_1.length co9) x0_2) ∧ zap (Kept w w' (fun k_ => Z0_ k_)) ∧ zap (Below w0.heap.size w0 w'))
    case atStart => exact ⟨(t258), (20), xr, H', ⟨Nat.le_refl _⟩, ⟨xN HO_0.out⟩, ⟨by repeat (first | (with_reducible first | exact HK.out | apply Kept.alloc | apply Kept.drewN | apply Kept.drew) | exact HK.out)⟩, ⟨xb HB.out⟩⟩
    case round =>
     clear H'
     (try clear c4); (try clear c4b0)
     obtain ⟨x0_2, x6_2, rfl, HA, HK2, HO_0, HK, HB⟩ := hrel
     have hl0_2 := (Kd.zaE HO_0.out).1
     rw [hl0_2] at HO_0
     (try simp only [hl0_2])
     cases gk with
     | zero => exact absurd HA.out (by simp [zac.l1])
     | succ k2 =>
      have H := HA.out
      clear HA
      simp only [zac.l1] at H
      by_cases c11 : x6_2 < a1
      ·rw [if_pos c11] at H
       have c11b0 := decide_eq_true c11
       clear c11
       have H' := ax H
       clear H
       go_wp2
       (try simp only [Act.put, List.setIfInBounds_toArray, List.set_cons_zero, List.set_cons_succ])
       go_loopg [7, 8] k2 (fun kq v7 v8 w' => ∃ (x0_3 : List (S48)) (x7_3 : Int) (x8_3 : Int), v7 = .int .i64 x7_3 ∧ v8 = .int .i64 x8_3 ∧ zap (zac.l2 kq x0_3 a1 x6_2 x7_3 x8_3 = some r) ∧ zap (kq ≤ k2) ∧ zap (Kd.N k48 48 w' w0.heap.size (fun k_ => P0_ k_) (.slice Ao9 x0_2.length co9) x0_3) ∧ zap (Kept w w' (fun k_ => Z0_ k_)) ∧ zap (Below w0.heap.size w0 w'))
       case atStart => exact ⟨(x0_2), (0), (wrap64 (2 * x6_2)), xr, xr, H', ⟨Nat.le_refl _⟩, ⟨by (try simp only [hl0_2]); (with_reducible repeat (first | apply Kd.zbD | apply Kd.zbz | apply Kd.zbp)); first | exact HO_0.out | exact Kd.zbe HO_0.out xi⟩, ⟨by repeat (first | (with_reducible first | exact HK.out | apply Kept.alloc | apply Kept.drewN | apply Kept.drew) | exact HK.out)⟩, ⟨xb HB.out⟩⟩
       case round =>
        clear H'
        (try clear c4); (try clear c4b0); (try clear c11); (try clear c11b0)
        obtain ⟨x0_3, x7_3, x8_3, rfl, rfl, HA, HK3, HO_0, HK, HB⟩ := hrel
        have hl0_3 := (Kd.zaE HO_0.out).1
        rw [hl0_3] at HO_0
        (try simp only [hl0_3])
        cases gk with
        | zero => exact absurd HA.out (by simp [zac.l2])
        | succ k3 =>
         have H := HA.out
         clear HA
         simp only [zac.l2] at H
         by_cases c12 : x8_3 ≤ a1
         ·rw [if_pos c12] at H
          have c12b0 := decide_eq_true c12
          clear c12
          obtain ⟨t259, A13, H⟩ := xI H
          have H' := ax H
          clear H
          go_wp2_with (first | ((with_reducible refine zas (f := 91) rfl ?_); refine za3 (some 43) rfl rfl Try.func91 (by kernel_rfl) rfl #[.slice Ao9 x0_3.length co9, .int .i64 x7_3, .int .i64 (wrap64 (x7_3 + x6_2)), .int .i64 x8_3, .func (.func 60) #[] #[]] rfl xm ?_; (with_reducible refine (za.calls k3 (fun k_ => P0_ k_) (fun k_ => some k_ = (.slice Ao9 x0_3.length co9 : Value).ownBlock) (.slice Ao9 x0_3.length co9) x0_3 x7_3 (wrap64 (x7_3 + x6_2)) x8_3  t259 w0 _ ?side1 ?side2 ?side3 A13.out).mono ?_); (case side1 => exact xb HB.out); (case side2 => exact HO_0.out); (case side3 => exact fun k_ e_ => e_.symm); rintro e w14 ⟨rfl, hy0, hb, hkp⟩; refine ⟨_, rfl, ?_⟩; replace HO_0 := ax (hy0); replace HK := ax (Kept.zc8 (S := (fun k_ => Z0_ k_)) (by repeat (first | (with_reducible first | exact HK.out | apply Kept.alloc | apply Kept.drewN | apply Kept.drew) | exact HK.out)) hkp (fun k_ hs_ => (fun e_ => (by first | exact .inl (HZ0.out k_ e_.symm) | exact .inl (zcH HZ0.out (e_.symm)))) hs_)); replace HB := ax (hb); (try clear hb); (try clear hkp); (try clear hy0)))
          (try simp only [← hl0_3])
          go_roundg k3
          case measure => have := HK1.out; have := HK2.out; have := HK3.out; omega
          case rel => exact ⟨(t259), (x8_3), (wrap64 (x8_3 + (wrap64 (2 * x6_2)))), xr, xr, H', ⟨by have := HK1.out; have := HK2.out; have := HK3.out; omega⟩, ⟨by (try simp only [hl0_2]); (try simp only [hl0_3]); (with_reducible repeat (first | apply Kd.zbD | apply Kd.zbz | apply Kd.zbp)); first | exact HO_0.out | exact Kd.zbe HO_0.out xi⟩, ⟨by repeat (first | (with_reducible first | exact HK.out | apply Kept.alloc | apply Kept.drewN | apply Kept.drew) | exact HK.out)⟩, ⟨xb HB.out⟩⟩
         ·rw [if_neg c12] at H
          have c12b0 := decide_eq_false c12
          clear c12
          by_cases c15 : (wrap64 (x7_3 + x6_2)) < a1
          ·rw [if_pos c15] at H
           have c15b0 := decide_eq_true c15
           clear c15
           obtain ⟨t260, A16, H⟩ := xI H
           have H' := ax H
           clear H
           go_wp2_with (first | ((with_reducible refine zas (f := 91) rfl ?_); refine za3 (some 60) rfl rfl Try.func91 (by kernel_rfl) rfl #[.slice Ao9 x0_3.length co9, .int .i64 x7_3, .int .i64 (wrap64 (x7_3 + x6_2)), .int .i64 a1, .func (.func 60) #[] #[]] rfl xm ?_; (with_reducible refine (za.calls k3 (fun k_ => P0_ k_) (fun k_ => some k_ = (.slice Ao9 x0_3.length co9 : Value).ownBlock) (.slice Ao9 x0_3.length co9) x0_3 x7_3 (wrap64 (x7_3 + x6_2)) a1  t260 w0 _ ?side1 ?side2 ?side3 A16.out).mono ?_); (case side1 => exact xb HB.out); (case side2 => exact HO_0.out); (case side3 => exact fun k_ e_ => e_.symm); rintro e w17 ⟨rfl, hy0, hb, hkp⟩; refine ⟨_, rfl, ?_⟩; replace HO_0 := ax (hy0); replace HK := ax (Kept.zc8 (S := (fun k_ => Z0_ k_)) (by repeat (first | (with_reducible first | exact HK.out | apply Kept.alloc | apply Kept.drewN | apply Kept.drew) | exact HK.out)) hkp (fun k_ hs_ => (fun e_ => (by first | exact .inl (HZ0.out k_ e_.symm) | exact .inl (zcH HZ0.out (e_.symm)))) hs_)); replace HB := ax (hb); (try clear hb); (try clear hkp); (try clear hy0)))
           (try simp only [← hl0_2, ← hl0_3])
           go_roundg k3
           case measure => have := HK1.out; have := HK2.out; have := HK3.out; omega
           case rel => exact ⟨(t260), (wrap64 (x6_2 * 2)), xr, H', ⟨by have := HK1.out; have := HK2.out; have := HK3.out; omega⟩, ⟨by (try simp only [hl0_2]); (try simp only [hl0_3]); (with_reducible repeat (first | apply Kd.zbD | apply Kd.zbz | apply Kd.zbp)); first | exact HO_0.out | exact Kd.zbe HO_0.out xi⟩, ⟨by repeat (first | (with_reducible first | exact HK.out | apply Kept.alloc | apply Kept.drewN | apply Kept.drew) | exact HK.out)⟩, ⟨xb HB.out⟩⟩
          ·rw [if_neg c15] at H
           have c15b0 := decide_eq_false c15
           clear c15
           have H' := ax H
           clear H
           go_wp2
           (try simp only [← hl0_2, ← hl0_3])
           go_roundg k3
           case measure => have := HK1.out; have := HK2.out; have := HK3.out; omega
           case rel => exact ⟨(x0_3), (wrap64 (x6_2 * 2)), xr, H', ⟨by have := HK1.out; have := HK2.out; have := HK3.out; omega⟩, ⟨by (try simp only [hl0_2]); (try simp only [hl0_3]); (with_reducible repeat (first | apply Kd.zbD | apply Kd.zbz | apply Kd.zbp)); first | exact HO_0.out | exact Kd.zbe HO_0.out xi⟩, ⟨by repeat (first | (with_reducible first | exact HK.out | apply Kept.alloc | apply Kept.drewN | apply Kept.drew) | exact HK.out)⟩, ⟨xb HB.out⟩⟩
      ·rw [if_neg c11] at H
       have c11b0 := decide_eq_false c11
       clear c11
       obtain rfl := Option.some.inj H
       go_wp2
       first | go_end0 | ((try simp only [Exit.inBlock, Exit.then]); refine bodyPost_ret (results_none rfl _ _ _) rfl ?_)
       exact ⟨xe, (by first | exact (xN HO_0.out) | (simp only [hl0_2]; exact (xN HO_0.out))), xb HB.out, by repeat (first | (with_reducible first | exact HK.out | apply Kept.alloc | apply Kept.drewN | apply Kept.drew) | exact HK.out)⟩

def zax.f (k : Nat) (l0 : List (S48))  : Option ((List (S48))) := (zac.f k l0 (l0.length : Int)).bind fun t233 => (some t233)
theorem zax.mono : ∀ a0 k, LeO (zax.f k a0) (zax.f (k + 1) a0) := by
 intro a0 k
 unfold zax.f
 repeat' with_reducible first | exact zac.mono _ _ _ | exact xl | refine LeO.ite ?_ ?_ | refine LeO.bind ?_ fun _ => ?_
theorem zax.calls (k : Nat) (P0_ Z0_ : Nat → Prop) (u9000_ : Value) (l0 : List (S48))  (r : List (S48)) (w0 w : World) (hB : Below w0.heap.size w0 w) (ho0 : Kd.N k48 48 w w0.heap.size P0_ u9000_ l0) (hz0 : ∀ k_, u9000_.ownBlock = some k_ → Z0_ k_) (h : zax.f k l0 = some r) :
  Calls Try.prog 59 #[u9000_, .func (.func 60) #[] #[]] w fun e w' => e = .returned (.tuple #[]) ∧ Kd.N k48 48 w' w0.heap.size (fun k_ => P0_ k_) u9000_ r ∧ Below w0.heap.size w0 w' ∧ Kept w w' (fun k_ => Z0_ k_) := by
 have HO0 := ax (show Kd.N k48 48 w w0.heap.size (fun k_ => P0_ k_) u9000_ l0 from Kd.zbe ho0 (fun k_ hk => hk))
 have HZ0 := ax hz0
 clear hz0
 have HK := ax (Kept.refl w (fun k_ => Z0_ k_))
 have HW0 := ax hB.size
 have HB := ax hB
 clear hB
 have H : ((zac.f k l0 (l0.length : Int)).bind fun t233 => (some t233)) = some r := h
 clear h
 obtain ⟨t233, A3, H⟩ := xI H
 obtain rfl := Option.some.inj H
 obtain ⟨Ao4, co4, eo4⟩ := Kd.zbt HO0.out
 subst eo4
 go_enter Try.func59, Try.ntmps59
 go_wp2_with (first | ((with_reducible refine zas (f := 79) rfl ?_); refine za3 (some 8) rfl rfl Try.func79 (by kernel_rfl) rfl #[.slice Ao4 l0.length co4, .int .i64 (l0.length : Int), .func (.func 60) #[] #[]] rfl xm ?_; (with_reducible refine (zac.calls k (fun k_ => P0_ k_) (fun k_ => some k_ = (.slice Ao4 l0.length co4 : Value).ownBlock) (.slice Ao4 l0.length co4) l0 (l0.length : Int)  t233 w0 _ ?side1 ?side2 ?side3 A3.out).mono ?_); (case side1 => exact xb HB.out); (case side2 => exact HO0.out); (case side3 => exact fun k_ e_ => e_.symm); rintro e w5 ⟨rfl, hy0, hb, hkp⟩; refine ⟨_, rfl, ?_⟩; replace HO0 := ax (hy0); replace HK := ax (Kept.zc8 (S := (fun k_ => Z0_ k_)) (by repeat (first | (with_reducible first | exact HK.out | apply Kept.alloc | apply Kept.drewN | apply Kept.drew) | exact HK.out)) hkp (fun k_ hs_ => (fun e_ => (by first | exact .inl (HZ0.out k_ e_.symm) | exact .inl (zcH HZ0.out (e_.symm)))) hs_)); replace HB := ax (hb); (try clear hb); (try clear hkp); (try clear hy0)))
 first | go_end0 | ((try simp only [Exit.inBlock, Exit.then]); refine bodyPost_ret (results_none rfl _ _ _) rfl ?_)
 exact ⟨xe, xN HO0.out, xb HB.out, by repeat (first | (with_reducible first | exact HK.out | apply Kept.alloc | apply Kept.drewN | apply Kept.drew) | exact HK.out)⟩

def zan.l0 : Nat → List (S48) → Int → Int → Option (Int)
 | 0, _, _, _ => none
 | k + 1, x0, x7, x8 => if x8 < x7 then (if 0 ≤ x8 then (if x8 < (x0.length : Int) then ((zbF.f ((zab x0 x8).f0) ((zab x0 x8).f1)).bind fun t234 => (if t234 = true then (some x8) else (zan.l0 k x0 x7 (wrap64 (x8 + 1))))) else (none)) else (none)) else (some (-1))
def zan.f (k : Nat) (l0 : List (S48))  : Option (Int) := zan.l0 k l0 (l0.length : Int) 0
theorem zan.za8 : ∀ k, (∀ y0 y1 y2, LeO (zan.l0 k y0 y1 y2) (zan.l0 (k + 1) y0 y1 y2))
 | 0 => fun _ _ _ r h => by simp [zan.l0] at h
 | k + 1 => by
  have ih0 := zan.za8 k
  ·intro y0 y1 y2
   unfold zan.l0
   repeat' with_reducible first | exact ih0 _ _ _ | exact xl | refine LeO.ite ?_ ?_ | refine LeO.bind ?_ fun _ => ?_
theorem zan.mono : ∀ a0 k, LeO (zan.f k a0) (zan.f (k + 1) a0) := by
 intro a0 k
 have ih0 := zan.za8 k
 unfold zan.f
 repeat' with_reducible first | exact ih0 _ _ _ | exact xl | refine LeO.ite ?_ ?_ | refine LeO.bind ?_ fun _ => ?_
theorem zan.calls (k : Nat) (A0 : Option Addr) (c0 : Nat) (l0 : List (S48))  (r : Int) (w : World) (hr0 : Kd.C k48 w A0 l0.length l0) (hc0 : l0.length ≤ c0) (h : zan.f k l0 = some r) :
  Calls Try.prog 80 #[.slice A0 l0.length c0, .func (.func 63) #[] #[]] w fun e w' => e = .returned (.int .i64 r) ∧ Below w.heap.size w w' := by
 have hu48 := Try.underlying48
 have HR0 := ax hr0
 have HC0 := ax hc0
 clear hr0 hc0
 have HB := ax (Below.refl w.heap.size w)
 have H : (zan.l0 k l0 (l0.length : Int) 0) = some r := h
 clear h
 have H' := ax H
 clear H
 go_enter Try.func80, Try.ntmps80
 go_wp2
 go_loopg [8] k (fun kq v8 w' => ∃ (x8_1 : Int), v8 = .int .i64 x8_1 ∧ zap (zan.l0 kq l0 (l0.length : Int) x8_1 = some r) ∧ zap (kq ≤ k) ∧ zap (Below w.heap.size w w'))
 case atStart => exact ⟨(0), xr, H', ⟨Nat.le_refl _⟩, ⟨xb HB.out⟩⟩
 case round =>
  clear H'
  obtain ⟨x8_1, rfl, HA, HK1, HB⟩ := hrel
  cases gk with
  | zero => exact absurd HA.out (by simp [zan.l0])
  | succ k1 =>
   have H := HA.out
   clear HA
   simp only [zan.l0] at H
   by_cases c3 : x8_1 < (l0.length : Int)
   ·rw [if_pos c3] at H
    have c3b0 := decide_eq_true c3
    clear c3
    obtain ⟨c4b0, H⟩ := xq H
    obtain ⟨c5b0, H⟩ := xq H
    obtain ⟨t234, A6, H⟩ := xI H
    by_cases c7 : t234 = true
    ·subst c7
     rw [if_pos rfl] at H
     obtain rfl := Option.some.inj H
     have p233 : 0 ≤ (x8_1 : Int) := xd
     have q233 : x8_1 < (l0.length : Int) := xd
     obtain ⟨ad233, A233_0, c233_0, e233, hx233_0, hx233_1, hl233_0, hi233_0⟩ := zbs HR0.out x8_1 p233 q233
     cases e233
     (try replace hx233_0 := (HB.out.cell (World.block_lt_of_cell? w _ hx233_0)).trans hx233_0)
     (try replace hx233_1 := (HB.out.cell (World.block_lt_of_cell? w _ hx233_1)).trans hx233_1)
     have HR233_0 := ax hi233_0
     have HC233_0 := ax hl233_0
     clear hi233_0 hl233_0
     replace p233 := eq_true p233
     replace q233 := eq_true q233
     go_wp2_with (first | (go_at_call 63; (with_reducible refine (zbF.calls _ _ ((zab l0 x8_1).f0) ((zab l0 x8_1).f1) true _ ?side1 ?side2 A6.out).mono ?_); (case side1 => exact xz HR233_0.out HB.out); (case side2 => exact HC233_0.out); rintro e w8 ⟨rfl, hb⟩; replace HB := yB HB hb; (try clear hb)))
     go_ret
     exact ⟨xe, xb HB.out⟩
    ·replace c7 := Bool.eq_false_iff.mpr c7
     subst c7
     rw [if_neg (show ¬ (false = true) by decide)] at H
     have H' := ax H
     clear H
     have p233 : 0 ≤ (x8_1 : Int) := xd
     have q233 : x8_1 < (l0.length : Int) := xd
     obtain ⟨ad233, A233_0, c233_0, e233, hx233_0, hx233_1, hl233_0, hi233_0⟩ := zbs HR0.out x8_1 p233 q233
     cases e233
     (try replace hx233_0 := (HB.out.cell (World.block_lt_of_cell? w _ hx233_0)).trans hx233_0)
     (try replace hx233_1 := (HB.out.cell (World.block_lt_of_cell? w _ hx233_1)).trans hx233_1)
     have HR233_0 := ax hi233_0
     have HC233_0 := ax hl233_0
     clear hi233_0 hl233_0
     replace p233 := eq_true p233
     replace q233 := eq_true q233
     go_wp2_with (first | (go_at_call 63; (with_reducible refine (zbF.calls _ _ ((zab l0 x8_1).f0) ((zab l0 x8_1).f1) false _ ?side1 ?side2 A6.out).mono ?_); (case side1 => exact xz HR233_0.out HB.out); (case side2 => exact HC233_0.out); rintro e w9 ⟨rfl, hb⟩; replace HB := yB HB hb; (try clear hb)))
     go_roundg k1
     case measure => have := HK1.out; omega
     case rel => exact ⟨(wrap64 (x8_1 + 1)), xr, H', ⟨by have := HK1.out; omega⟩, ⟨xb HB.out⟩⟩
   ·rw [if_neg c3] at H
    have c3b0 := decide_eq_false c3
    clear c3
    obtain rfl := Option.some.inj H
    go_wp2
    go_ret
    exact ⟨xe, xb HB.out⟩

def zam.l0 : Nat → List (S48) → Int → Int → Option ((List (S48)))
 | 0, _, _, _ => none
 | k + 1, x0, x5, x6 => if x6 < (x0.length : Int) then (if 0 ≤ x6 then ((zbF.f ((zab x0 x6).f0) ((zab x0 x6).f1)).bind fun t236 => (if t236 = true then (zam.l0 k x0 x5 (wrap64 (x6 + 1))) else (if 0 ≤ x5 then (if x5 < (x0.length : Int) then (zam.l0 k (x0.set (x5 : Int).toNat (⟨(zab x0 x6).f0, (zab x0 x6).f1⟩ : S48)) (wrap64 (x5 + 1)) (wrap64 (x6 + 1))) else (none)) else (none)))) else (none)) else (if 0 ≤ x5 then (if x5 ≤ (x0.length : Int) then (some (x0.take (x5 : Int).toNat)) else (none)) else (none))
def zam.f (k : Nat) (l0 : List (S48))  : Option ((List (S48))) := (zan.f k l0).bind fun t233 => (if t233 = (-1) then (some l0) else (zam.l0 k l0 t233 (wrap64 (t233 + 1))))
theorem zam.za8 : ∀ k, (∀ y0 y1 y2, LeO (zam.l0 k y0 y1 y2) (zam.l0 (k + 1) y0 y1 y2))
 | 0 => fun _ _ _ r h => by simp [zam.l0] at h
 | k + 1 => by
  have ih0 := zam.za8 k
  ·intro y0 y1 y2
   unfold zam.l0
   repeat' with_reducible first | exact ih0 _ _ _ | exact zan.mono _ _ | exact xl | refine LeO.ite ?_ ?_ | refine LeO.bind ?_ fun _ => ?_
theorem zam.mono : ∀ a0 k, LeO (zam.f k a0) (zam.f (k + 1) a0) := by
 intro a0 k
 have ih0 := zam.za8 k
 unfold zam.f
 repeat' with_reducible first | exact ih0 _ _ _ | exact zan.mono _ _ | exact xl | refine LeO.ite ?_ ?_ | refine LeO.bind ?_ fun _ => ?_
theorem zam.calls (k : Nat) (P0_ Z0_ : Nat → Prop) (u9000_ : Value) (l0 : List (S48))  (r : List (S48)) (w0 w : World) (hB : Below w0.heap.size w0 w) (ho0 : Kd.N (Kd.zcr w0.heap.size k48) 48 w w0.heap.size P0_ u9000_ l0) (hz0 : ∀ k_, u9000_.ownBlock = some k_ → Z0_ k_) (h : zam.f k l0 = some r) :
  Calls Try.prog 62 #[u9000_, .func (.func 63) #[] #[]] w fun e w' => ∃ v0_ : Value, e = .returned (v0_) ∧ Kd.N (Kd.zcr w0.heap.size k48) 48 w' w0.heap.size (fun k_ => P0_ k_) v0_ r ∧ Below w0.heap.size w0 w' ∧ Kept w w' (fun k_ => Z0_ k_) := by
 have hu48 := Try.underlying48
 have HO0 := ax (show Kd.N (Kd.zcr w0.heap.size k48) 48 w w0.heap.size (fun k_ => P0_ k_) u9000_ l0 from Kd.zbe ho0 (fun k_ hk => hk))
 have HZ0 := ax hz0
 clear hz0
 have HK := ax (Kept.refl w (fun k_ => Z0_ k_))
 have HW0 := ax hB.size
 have HB := ax hB
 clear hB
 have H : ((zan.f k l0).bind fun t233 => (if t233 = (-1) then (some l0) else (zam.l0 k l0 t233 (wrap64 (t233 + 1))))) = some r := h
 clear h
 obtain ⟨t233, A3, H⟩ := xI H
 by_cases c4 : t233 = (-1)
 ·rw [if_pos c4] at H
  have c4b0 : (t233 == (-1)) = true := beq_iff_eq.mpr c4
  have c4b1 : (t233 != (-1)) = false := bne_eq_false_iff_eq.mpr c4
  clear c4
  obtain rfl := Option.some.inj H
  obtain ⟨Ao5, co5, eo5⟩ := Kd.zbt HO0.out
  subst eo5
  go_enter Try.func62, Try.ntmps62
  go_wp2_with (first | ((with_reducible refine zas (f := 80) rfl ?_); refine za3 (some 10) rfl rfl Try.func80 (by kernel_rfl) rfl #[.slice Ao5 l0.length co5, .func (.func 63) #[] #[]] rfl xm ?_; (with_reducible refine (zan.calls k _ _ l0  t233 _ ?side1 ?side2 A3.out).mono ?_); (case side1 => exact xc (Kd.zaE (Kd.zcE HO0.out)).2.2); (case side2 => exact (Kd.zaE HO0.out).2.1); rintro e w6 ⟨rfl, hb⟩; refine ⟨_, rfl, ?_⟩; replace HO0 := ax (Kd.zbL (xN HO0.out) hb); replace HK := ax (Kept.below (S := (fun k_ => Z0_ k_)) (by repeat (first | (with_reducible first | exact HK.out | apply Kept.alloc | apply Kept.drewN | apply Kept.drew) | exact HK.out)) hb); replace HB := yB HB hb; (try clear hb)))
  go_ret
  exact ⟨_, xe, xN HO0.out, xb HB.out, by repeat (first | (with_reducible first | exact HK.out | apply Kept.alloc | apply Kept.drewN | apply Kept.drew) | exact HK.out)⟩
 ·rw [if_neg c4] at H
  have c4b0 : (t233 == (-1)) = false := beq_eq_false_iff_ne.mpr c4
  have c4b1 : (t233 != (-1)) = true := bne_iff_ne.mpr c4
  have H' := ax H
  clear H
  obtain ⟨Ao7, co7, eo7⟩ := Kd.zbt HO0.out
  subst eo7
  go_enter Try.func62, Try.ntmps62
  go_wp2_with (first | ((with_reducible refine zas (f := 80) rfl ?_); refine za3 (some 10) rfl rfl Try.func80 (by kernel_rfl) rfl #[.slice Ao7 l0.length co7, .func (.func 63) #[] #[]] rfl xm ?_; (with_reducible refine (zan.calls k _ _ l0  t233 _ ?side1 ?side2 A3.out).mono ?_); (case side1 => exact xc (Kd.zaE (Kd.zcE HO0.out)).2.2); (case side2 => exact (Kd.zaE HO0.out).2.1); rintro e w8 ⟨rfl, hb⟩; refine ⟨_, rfl, ?_⟩; replace HO0 := ax (Kd.zbL (xN HO0.out) hb); replace HK := ax (Kept.below (S := (fun k_ => Z0_ k_)) (by repeat (first | (with_reducible first | exact HK.out | apply Kept.alloc | apply Kept.drewN | apply Kept.drew) | exact HK.out)) hb); replace HB := yB HB hb; (try clear hb)))
  (try simp only [Act.put, List.setIfInBounds_toArray, List.set_cons_zero, List.set_cons_succ])
  go_loopg [5, 6] k (fun kq v5 v6 w' => ∃ (x0_1 : List (S48)) (x5_1 : Int) (x6_1 : Int), v5 = .int .i64 x5_1 ∧ v6 = .int .i64 x6_1 ∧ zap (zam.l0 kq x0_1 x5_1 x6_1 = some r) ∧ zap (kq ≤ k) ∧ zap (Kd.N (Kd.zcr w0.heap.size k48) 48 w' w0.heap.size (fun k_ => P0_ k_) (.slice Ao7 l0.length co7) x0_1) ∧ zap (Kept w w' (fun k_ => Z0_ k_)) ∧ zap (Below w0.heap.size w0 w'))
  case atStart => exact ⟨(l0), (t233), (wrap64 (t233 + 1)), xr, xr, H', ⟨Nat.le_refl _⟩, ⟨xN HO0.out⟩, ⟨by repeat (first | (with_reducible first | exact HK.out | apply Kept.alloc | apply Kept.drewN | apply Kept.drew) | exact HK.out)⟩, ⟨xb HB.out⟩⟩
  case round =>
   clear H'
   (try clear c4); (try clear c4b0); (try clear c4b1)
   obtain ⟨x0_1, x5_1, x6_1, rfl, rfl, HA, HK1, HO_0, HK, HB⟩ := hrel
   have hl0_1 := (Kd.zaE HO_0.out).1
   rw [hl0_1] at HO_0
   (try simp only [hl0_1])
   cases gk with
   | zero => exact absurd HA.out (by simp [zam.l0])
   | succ k1 =>
    have H := HA.out
    clear HA
    simp only [zam.l0] at H
    by_cases c9 : x6_1 < (x0_1.length : Int)
    ·rw [if_pos c9] at H
     have c9b0 := decide_eq_true c9
     have c9b0x := c9b0
     (try simp only [hl0_1] at c9b0x)
     clear c9
     obtain ⟨c10b0, H⟩ := xq H
     obtain ⟨t236, A11, H⟩ := xI H
     by_cases c12 : t236 = true
     ·subst c12
      rw [if_pos rfl] at H
      have H' := ax H
      clear H
      have p234 : 0 ≤ (x6_1 : Int) := xd
      have q234 : x6_1 < (x0_1.length : Int) := xd
      obtain ⟨ad234, A234_0, c234_0, e234, hx234_0, hx234_1, hl234_0, hi234_0⟩ := zbs (Kd.zaE (Kd.zcE HO_0.out)).2.2 x6_1 p234 q234
      cases e234
      obtain ⟨ce234, hce234, hMe234, hcc234⟩ := Kd.zco HO_0.out z48 x6_1 p234 (by first | exact q234 | exact xd | (have e_ := (Kd.zaE HO_0.out).1; omega))
      obtain ⟨ua234_0, uc234_0, rfl, ul234_0, ge234_0⟩ := zaX (Kd.zca hMe234)
      have hv234_0 := hcc234 0 _ rfl
      rw [Nat.add_zero] at hv234_0
      replace hv234_0 := Option.some.inj (hv234_0.symm.trans hx234_0)
      injection hv234_0 with hva_ hvn_ hvc_
      rw [hva_] at ge234_0
      rw [hvc_] at ul234_0
      have HL234_0 := ax (show Kd.V (Kd.int .i64) 3 _ w0.heap.size _ _ ((zab x0_1 x6_1).f0) from Kd.V_mk ul234_0 ge234_0)
      rw [hva_, hvc_] at hMe234
      have HF234 := ax hMe234
      clear hva_ hvn_ hvc_ ge234_0 ul234_0 hcc234 hce234
      have HR234_0 := ax hi234_0
      have HC234_0 := ax hl234_0
      clear hi234_0 hl234_0
      replace p234 := eq_true p234
      replace q234 := eq_true q234
      go_wp2_with (first | ((with_reducible refine zaV (N := 7) rfl ?_); refine zaO ?hg (N := 7) ?hd (cs := #[.slice none 0 0, .int .i64 0]) (t := 48) ?hr ?_; (case hd => rfl); (case hg => rfl); (case hr => first | (go_simp; done) | (go_simp; rfl)); intro gb235 hg w13 hbox hb; replace HO_0 := ax (Kd.zbL (Kd.zcL (xN HO_0.out) gb235 (Nat.le_of_eq hg.symm)) hb); replace HL234_0 := ax (Kd.zbG (Kd.zbH (xV HL234_0.out) gb235 (Nat.le_of_eq hg.symm)) hb); replace HR234_0 := ax (Kd.zbE (xw HR234_0.out) hb); have BK235 := ax (hbox); have GW235 := ax ((by rw [hg]; exact (by first | exact HK.out.1 | exact (show Kept w _ (fun k_ => Z0_ k_) from by repeat (first | (with_reducible first | exact HK.out | apply Kept.alloc | apply Kept.drewN | apply Kept.drew) | exact HK.out)).1) : w.heap.size ≤ gb235)); replace HK := ax (Kept.below (S := (fun k_ => Z0_ k_)) (by repeat (first | (with_reducible first | exact HK.out | apply Kept.alloc | apply Kept.drewN | apply Kept.drew) | exact HK.out)) hb); have GE235 := ax ((by rw [hg]; exact (zah (xb HB.out)) : w0.heap.size ≤ gb235)); replace HB := yB HB hb; clear hb hbox hg; have hcz14_0 := bc0 BK235.out; have hcz14_1 := bc1 BK235.out; have hfz14_0 := zae BK235.out 0; have hfz14_1 := zae BK235.out 1) | (go_at_call 63; (with_reducible refine (zbF.calls _ _ ((zab x0_1 x6_1).f0) ((zab x0_1 x6_1).f1) true _ ?side1 ?side2 A11.out).mono ?_); (case side1 => repeat (first | exact ((Kd.za2 (by (with_reducible repeat (first | apply Kd.zbr | apply Kd.zbq | apply Kd.zbm)); exact (Kd.zaP (Kd.zb7 (p := ⟨gb235, 1, none⟩) (Kd.zb7 (p := ⟨gb235, 0, none⟩) (Kd.zaP HL234_0.out (fun k_ hk => (⟨hk, hk.2⟩ : _ ∧ k_ ≠ gb235))) (fun _ hk => hk.2) (.slice A234_0 ((zab x0_1 x6_1).f0).length c234_0)) (fun _ hk => hk.2) (.int .i64 ((zab x0_1 x6_1).f1))) (fun _ h_ => h_.1)))).2.2) | (with_reducible refine Kd.zdy ?_ _) | (with_reducible refine Kd.zc2 ?_ _) | (with_reducible refine Kd.zdm ?_))); (case side2 => exact HC234_0.out); rintro e w15 ⟨rfl, hb⟩; replace HO_0 := ax (Kd.zbL (by (with_reducible repeat (first | apply Kd.zbD | apply Kd.zbz | apply Kd.zbp)); exact (Kd.zbe (Kd.zcw (p := ⟨gb235, 1, none⟩) (Kd.zcw (p := ⟨gb235, 0, none⟩) (Kd.zbe HO_0.out (fun k_ hk => (⟨hk, hk.2⟩ : _ ∧ k_ ≠ gb235))) (fun _ hk => hk.2) (.slice A234_0 ((zab x0_1 x6_1).f0).length c234_0)) (fun _ hk => hk.2) (.int .i64 ((zab x0_1 x6_1).f1))) (fun _ h_ => h_.1))) hb); replace HR234_0 := ax (Kd.zbE ((Kd.za2 (by (with_reducible repeat (first | apply Kd.zbr | apply Kd.zbq | apply Kd.zbm)); exact (Kd.zaP (Kd.zb7 (p := ⟨gb235, 1, none⟩) (Kd.zb7 (p := ⟨gb235, 0, none⟩) (Kd.zaP HL234_0.out (fun k_ hk => (⟨hk, hk.2⟩ : _ ∧ k_ ≠ gb235))) (fun _ hk => hk.2) (.slice A234_0 ((zab x0_1 x6_1).f0).length c234_0)) (fun _ hk => hk.2) (.int .i64 ((zab x0_1 x6_1).f1))) (fun _ h_ => h_.1)))).2.2) hb); replace HL234_0 := ax (Kd.zbG (by (with_reducible repeat (first | apply Kd.zbr | apply Kd.zbq | apply Kd.zbm)); exact (Kd.zaP (Kd.zb7 (p := ⟨gb235, 1, none⟩) (Kd.zb7 (p := ⟨gb235, 0, none⟩) (Kd.zaP HL234_0.out (fun k_ hk => (⟨hk, hk.2⟩ : _ ∧ k_ ≠ gb235))) (fun _ hk => hk.2) (.slice A234_0 ((zab x0_1 x6_1).f0).length c234_0)) (fun _ hk => hk.2) (.int .i64 ((zab x0_1 x6_1).f1))) (fun _ h_ => h_.1))) hb); replace BK235 := ax (zba (g := gb235) (o := .cells #[.slice A234_0 ((zab x0_1 x6_1).f0).length c234_0, .int .i64 ((zab x0_1 x6_1).f1)] 48 (0, 0)) (by (with_reducible repeat (first | refine zaj ?_ _ | refine zaf ?_ | refine zai ?_ _)); refine zbf (cs := #[.slice A234_0 ((zab x0_1 x6_1).f0).length c234_0, .int .i64 0]) ?_ 1 _ rfl; (with_reducible repeat (first | refine zaj ?_ _ | refine zaf ?_ | refine zai ?_ _)); refine zbf (cs := #[.slice none 0 0, .int .i64 0]) ?_ 0 _ rfl; (with_reducible repeat (first | refine zaj ?_ _ | refine zaf ?_ | refine zai ?_ _)); exact BK235.out) hb); replace HK := ax (Kept.below (S := (fun k_ => Z0_ k_)) (by repeat (first | (with_reducible first | exact HK.out | apply Kept.alloc | apply Kept.drewN | apply Kept.drew | refine Kept.setCell ?_ (.inr GW235.out) _) | exact HK.out)) hb); replace HB := ax (zar (xs HB.out GE235.out) hb); (try clear hb)))
      (try simp only [← hl0_1])
      go_roundg k1
      case measure => have := HK1.out; omega
      case rel => exact ⟨(x0_1), (x5_1), (wrap64 (x6_1 + 1)), xr, xr, H', ⟨by have := HK1.out; omega⟩, ⟨by (try simp only [hl0_1]); (with_reducible repeat (first | apply Kd.zbD | apply Kd.zbz | apply Kd.zbp)); exact Kd.zbe HO_0.out (fun _ hk => hk.1)⟩, ⟨by repeat (first | (with_reducible first | exact HK.out | apply Kept.alloc | apply Kept.drewN | apply Kept.drew | refine Kept.setCell ?_ (.inr GW235.out) _) | exact HK.out)⟩, ⟨xs HB.out GE235.out⟩⟩
     ·replace c12 := Bool.eq_false_iff.mpr c12
      subst c12
      rw [if_neg (show ¬ (false = true) by decide)] at H
      obtain ⟨c16b0, H⟩ := xq H
      obtain ⟨c17, H⟩ := xp H
      have c17b0 := decide_eq_true c17
      have c17b0x := c17b0
      (try simp only [hl0_1] at c17b0x)
      clear c17
      obtain ⟨y237, hy237⟩ : ∃ y_ : List (S48), y_ = (x0_1.set (x5_1 : Int).toNat (⟨(zab x0_1 x6_1).f0, (zab x0_1 x6_1).f1⟩ : S48)) := ⟨_, rfl⟩
      replace H : (zam.l0 k1 y237 (wrap64 (x5_1 + 1)) (wrap64 (x6_1 + 1))) = some r := xv hy237 H
      have Ny237 := ax hy237
      clear hy237
      have H' := ax H
      clear H
      have p234 : 0 ≤ (x6_1 : Int) := xd
      have q234 : x6_1 < (x0_1.length : Int) := xd
      obtain ⟨ad234, A234_0, c234_0, e234, hx234_0, hx234_1, hl234_0, hi234_0⟩ := zbs (Kd.zaE (Kd.zcE HO_0.out)).2.2 x6_1 p234 q234
      cases e234
      obtain ⟨ce234, hce234, hMe234, hcc234⟩ := Kd.zco HO_0.out z48 x6_1 p234 (by first | exact q234 | exact xd | (have e_ := (Kd.zaE HO_0.out).1; omega))
      obtain ⟨ua234_0, uc234_0, rfl, ul234_0, ge234_0⟩ := zaX (Kd.zca hMe234)
      have hv234_0 := hcc234 0 _ rfl
      rw [Nat.add_zero] at hv234_0
      replace hv234_0 := Option.some.inj (hv234_0.symm.trans hx234_0)
      injection hv234_0 with hva_ hvn_ hvc_
      rw [hva_] at ge234_0
      rw [hvc_] at ul234_0
      have HL234_0 := ax (show Kd.V (Kd.int .i64) 3 _ w0.heap.size _ _ ((zab x0_1 x6_1).f0) from Kd.V_mk ul234_0 ge234_0)
      rw [hva_, hvc_] at hMe234
      have HF234 := ax hMe234
      clear hva_ hvn_ hvc_ ge234_0 ul234_0 hcc234 hce234
      have HR234_0 := ax hi234_0
      have HC234_0 := ax hl234_0
      clear hi234_0 hl234_0
      replace p234 := eq_true p234
      replace q234 := eq_true q234
      go_wp2_with (first | ((with_reducible refine zaV (N := 7) rfl ?_); refine zaO ?hg (N := 7) ?hd (cs := #[.slice none 0 0, .int .i64 0]) (t := 48) ?hr ?_; (case hd => rfl); (case hg => rfl); (case hr => first | (go_simp; done) | (go_simp; rfl)); intro gb235 hg w19 hbox hb; replace HF234 := ax (Kd.zdN (Kd.zcG (Kd.zej HF234.out) (fun k_ hk => (⟨hk.1, by have := hk.2; omega⟩ : _ ∧ k_ ≠ gb235))) (fun k_ _ hlt => hb.block k_ hlt)); replace HO_0 := ax (Kd.zbL (Kd.zcL (xN HO_0.out) gb235 (Nat.le_of_eq hg.symm)) hb); replace HL234_0 := ax (Kd.zbG (Kd.zbH (xV HL234_0.out) gb235 (Nat.le_of_eq hg.symm)) hb); replace HR234_0 := ax (Kd.zbE (xw HR234_0.out) hb); have BK235 := ax (hbox); have GW235 := ax ((by rw [hg]; exact (by first | exact HK.out.1 | exact (show Kept w _ (fun k_ => Z0_ k_) from by repeat (first | (with_reducible first | exact HK.out | apply Kept.alloc | apply Kept.drewN | apply Kept.drew) | exact HK.out)).1) : w.heap.size ≤ gb235)); replace HK := ax (Kept.below (S := (fun k_ => Z0_ k_)) (by repeat (first | (with_reducible first | exact HK.out | apply Kept.alloc | apply Kept.drewN | apply Kept.drew) | exact HK.out)) hb); have GE235 := ax ((by rw [hg]; exact (zah (xb HB.out)) : w0.heap.size ≤ gb235)); replace HB := yB HB hb; clear hb hbox hg; have hcz20_0 := bc0 BK235.out; have hcz20_1 := bc1 BK235.out; have hfz20_0 := zae BK235.out 0; have hfz20_1 := zae BK235.out 1) | (go_at_call 63; (with_reducible refine (zbF.calls _ _ ((zab x0_1 x6_1).f0) ((zab x0_1 x6_1).f1) false _ ?side1 ?side2 A11.out).mono ?_); (case side1 => repeat (first | exact ((Kd.za2 (by (with_reducible repeat (first | apply Kd.zbr | apply Kd.zbq | apply Kd.zbm)); exact (Kd.zaP (Kd.zb7 (p := ⟨gb235, 1, none⟩) (Kd.zb7 (p := ⟨gb235, 0, none⟩) (Kd.zaP HL234_0.out (fun k_ hk => (⟨hk, hk.2⟩ : _ ∧ k_ ≠ gb235))) (fun _ hk => hk.2) (.slice A234_0 ((zab x0_1 x6_1).f0).length c234_0)) (fun _ hk => hk.2) (.int .i64 ((zab x0_1 x6_1).f1))) (fun _ h_ => h_.1)))).2.2) | (with_reducible refine Kd.zdy ?_ _) | (with_reducible refine Kd.zc2 ?_ _) | (with_reducible refine Kd.zdm ?_))); (case side2 => exact HC234_0.out); rintro e w21 ⟨rfl, hb⟩; replace HF234 := ax (Kd.zdN HF234.out (fun k_ hk hlt => (hb.block k_ (by first | exact hlt | simpa [World.setCell] using hlt)).trans ((Below.heap_setCell _ _ _ k_ hk.2).trans (Below.heap_setCell _ _ _ k_ hk.2)))); replace HO_0 := ax (Kd.zbL (by (with_reducible repeat (first | apply Kd.zbD | apply Kd.zbz | apply Kd.zbp)); exact (Kd.zbe (Kd.zcw (p := ⟨gb235, 1, none⟩) (Kd.zcw (p := ⟨gb235, 0, none⟩) (Kd.zbe HO_0.out (fun k_ hk => (⟨hk, hk.2⟩ : _ ∧ k_ ≠ gb235))) (fun _ hk => hk.2) (.slice A234_0 ((zab x0_1 x6_1).f0).length c234_0)) (fun _ hk => hk.2) (.int .i64 ((zab x0_1 x6_1).f1))) (fun _ h_ => h_.1))) hb); replace HR234_0 := ax (Kd.zbE ((Kd.za2 (by (with_reducible repeat (first | apply Kd.zbr | apply Kd.zbq | apply Kd.zbm)); exact (Kd.zaP (Kd.zb7 (p := ⟨gb235, 1, none⟩) (Kd.zb7 (p := ⟨gb235, 0, none⟩) (Kd.zaP HL234_0.out (fun k_ hk => (⟨hk, hk.2⟩ : _ ∧ k_ ≠ gb235))) (fun _ hk => hk.2) (.slice A234_0 ((zab x0_1 x6_1).f0).length c234_0)) (fun _ hk => hk.2) (.int .i64 ((zab x0_1 x6_1).f1))) (fun _ h_ => h_.1)))).2.2) hb); replace HL234_0 := ax (Kd.zbG (by (with_reducible repeat (first | apply Kd.zbr | apply Kd.zbq | apply Kd.zbm)); exact (Kd.zaP (Kd.zb7 (p := ⟨gb235, 1, none⟩) (Kd.zb7 (p := ⟨gb235, 0, none⟩) (Kd.zaP HL234_0.out (fun k_ hk => (⟨hk, hk.2⟩ : _ ∧ k_ ≠ gb235))) (fun _ hk => hk.2) (.slice A234_0 ((zab x0_1 x6_1).f0).length c234_0)) (fun _ hk => hk.2) (.int .i64 ((zab x0_1 x6_1).f1))) (fun _ h_ => h_.1))) hb); replace BK235 := ax (zba (g := gb235) (o := .cells #[.slice A234_0 ((zab x0_1 x6_1).f0).length c234_0, .int .i64 ((zab x0_1 x6_1).f1)] 48 (0, 0)) (by (with_reducible repeat (first | refine zaj ?_ _ | refine zaf ?_ | refine zai ?_ _)); refine zbf (cs := #[.slice A234_0 ((zab x0_1 x6_1).f0).length c234_0, .int .i64 0]) ?_ 1 _ rfl; (with_reducible repeat (first | refine zaj ?_ _ | refine zaf ?_ | refine zai ?_ _)); refine zbf (cs := #[.slice none 0 0, .int .i64 0]) ?_ 0 _ rfl; (with_reducible repeat (first | refine zaj ?_ _ | refine zaf ?_ | refine zai ?_ _)); exact BK235.out) hb); replace HK := ax (Kept.below (S := (fun k_ => Z0_ k_)) (by repeat (first | (with_reducible first | exact HK.out | apply Kept.alloc | apply Kept.drewN | apply Kept.drew | refine Kept.setCell ?_ (.inr GW235.out) _) | exact HK.out)) hb); replace HB := ax (zar (xs HB.out GE235.out) hb); (try clear hb); have hcz22_0 := bc0 BK235.out; have hcz22_1 := bc1 BK235.out; have hfz22_0 := zae BK235.out 0; have hfz22_1 := zae BK235.out 1; have p18 : 0 ≤ (x5_1 : Int) := xd; have q18 : (x5_1 : Int) < ((x0_1.length : Int) : Int) := xd; obtain ⟨go18, co18, eo18, gb18, gl18, cl18, HG18⟩ := Kd.zeb HO_0.out (by omega); (first | cases eo18 | (injection eo18 with ea_ en_ ec_; (first | subst ea_ | (injection ea_ with ea_; subst ea_)); subst ec_; clear en_)); have GB18 := ax gb18; have GG18 := ax HG18; clear gb18 gl18 HG18; have HMgo18 := ax (show Z0_ go18 ∨ w.heap.size ≤ go18 from .inl (HZ0.out _ rfl)); (first | simp only [add_plain] at hx234_0 | skip); (first | simp only [add_plain] at hx234_1 | skip); obtain ⟨ce18, hcl18, hM18, hcc18, hfr18⟩ := Kd.zc HO_0.out z48 (x5_1 : Int) p18 q18; obtain ⟨ua18_0, uc18_0, rfl, ul18_0, ge18_0⟩ := zaX (Kd.zca hM18); have hx18_0 : w21.cell? ⟨go18, (x5_1 : Int).toNat * 2, none⟩ = some (.slice ua18_0 ((zab x0_1 x5_1).f0).length uc18_0) := hcc18 0 _ rfl; have hx18_1 : w21.cell? ⟨go18, (x5_1 : Int).toNat * 2 + 1, none⟩ = some (.int .i64 ((zab x0_1 x5_1).f1)) := hcc18 1 _ rfl; have hf18_0 : w21.frozen? ⟨go18, (x5_1 : Int).toNat * 2, none⟩ = false := hfr18 0; have hf18_1 : w21.frozen? ⟨go18, (x5_1 : Int).toNat * 2 + 1, none⟩ = false := hfr18 1; clear hcl18 hcc18 hfr18; (try clear hM18); replace p18 := eq_true p18; replace q18 := eq_true q18; have HX23 := ax (show Kd.N (Kd.zcr w0.heap.size k48) 48 w21 w0.heap.size (fun k_ => P0_ k_ ∧ k_ ≠ gb235) (.slice (some ⟨go18, 0, none⟩) x0_1.length co7) x0_1 from (xN HO_0.out)); obtain ⟨ce23, hcl23, hM23, hcc23, hfr23⟩ := Kd.zc HX23.out z48 (x5_1 : Int) (xd) (by have h_ : (x5_1 : Int) < ((x0_1.length : Int) : Int) := xd; first | exact h_ | (have e_ := (Kd.zaE HO_0.out).1; omega) | simpa using h_); obtain ⟨ua23_0, uc23_0, rfl, ul23_0, ge23_0⟩ := zaX (Kd.zca hM23); have HP23 := Kd.zeC HX23.out (x5_1 : Int) (xd) (by have h_ : (x5_1 : Int) < ((x0_1.length : Int) : Int) := xd; first | exact h_ | (have e_ := (Kd.zaE HO_0.out).1; omega) | simpa using h_) (seg := [.slice A234_0 ((zab x0_1 x6_1).f0).length c234_0, .int .i64 ((zab x0_1 x6_1).f1)]) (j := 0) hcl23 hcc23 (show 2 ≤ 2 from by decide) (x' := (⟨(zab x0_1 x6_1).f0, (zab x0_1 x6_1).f1⟩ : S48)) (Kd.zcG (ok' := (fun k_ => ((fun k_ => P0_ k_ ∧ k_ ≠ gb235)) k_ ∧ k_ ≠ go18)) HF234.out (fun k_ hk => ⟨⟨hk.1.1, hk.2⟩, fun e_ => (hk.1.2) (by rw [e_]; rfl)⟩)) (fun _ hk => hk); have hx23_0 := hcc23 0 _ rfl; (try simp only [show (Kd.zcr w0.heap.size k48).sz = 2 from rfl, Nat.mul_one, Nat.add_zero] at hx23_0); have hf23_0 := hfr23 0; (try simp only [show (Kd.zcr w0.heap.size k48).sz = 2 from rfl, Nat.mul_one, Nat.add_zero] at hf23_0); have hx23_1 := hcc23 1 _ rfl; (try simp only [show (Kd.zcr w0.heap.size k48).sz = 2 from rfl, Nat.mul_one, Nat.add_zero] at hx23_1); have hf23_1 := hfr23 1; (try simp only [show (Kd.zcr w0.heap.size k48).sz = 2 from rfl, Nat.mul_one, Nat.add_zero] at hf23_1); clear hcl23 hcc23 hfr23; (try clear hM23)) | ((with_reducible refine zc6 (t := 48) (p := 33) rfl ?_); refine zc9 (t := 48) (p := 33) (v := ?vo_w24) (w1 := ((w21.setCell ⟨go18, (x5_1 : Int).toNat * 2, none⟩ (.slice A234_0 ((zab x0_1 x6_1).f0).length c234_0)).setCell ⟨go18, (x5_1 : Int).toNat * 2 + 1, none⟩ (.int .i64 ((zab x0_1 x6_1).f1)))) ?hg ?ho ?hn ?hr ?_; (case ho => rfl); (case hg => rfl); (case hn => rfl); (case hr => first | (go_simp; done) | (go_simp; rfl)); intro w24 hw; have hg : w21.grownBy w24 (some go18) := (by rw [hw]; exact HP23.2); have hp_ : Kd.N (Kd.zcr w0.heap.size k48) 48 w24 w0.heap.size (fun k_ => P0_ k_ ∧ k_ ≠ gb235) (.slice (some ⟨go18, 0, none⟩) x0_1.length co7) y237 := (by rw [hw, Ny237.out]; exact HP23.1); clear HP23; replace HL234_0 := ax (Kd.zcB (v := (.slice (some ⟨go18, 0, none⟩) x0_1.length co7)) (v1 := (.slice (some ⟨go18, 0, none⟩) x0_1.length co7)) (ok := (fun k_ => P0_ k_ ∧ k_ ≠ gb235)) (by (with_reducible repeat (first | apply Kd.zbr | apply Kd.zbq | apply Kd.zbm)); exact Kd.zaP HL234_0.out (by first | exact (fun _ hk => ⟨⟨hk.1.1, hk.2⟩, hk.1.2⟩) | exact xi)) hg (.inl rfl)); replace BK235 := ax (zcT (g := gb235) (o := .cells #[.slice A234_0 ((zab x0_1 x6_1).f0).length c234_0, .int .i64 ((zab x0_1 x6_1).f1)] 48 (0, 0)) (xk BK235.out) hg (Kd.zf3 HO_0.out (fun _ hk => hk.2))); replace HO_0 := ax (hp_); replace HB := ax ((by rw [hw]; exact zcD (zcD (HB.out) GB18.out) GB18.out : Below w0.heap.size w0 w24)); replace HK := ax (Kept.zcA (S := (fun k_ => Z0_ k_)) hg (by repeat (first | (with_reducible first | exact HK.out | apply Kept.alloc | apply Kept.drewN | apply Kept.drew | refine Kept.setCell ?_ (.inr GW235.out) _) | exact HK.out)) (fun k_ e_ => (by first | exact .inl (HZ0.out k_ e_) | exact .inl (zcH HZ0.out (e_))))); clear hg hw hp_))
      (try simp only [← hl0_1])
      go_roundg k1
      case measure => have := HK1.out; omega
      case rel => exact ⟨(y237), (wrap64 (x5_1 + 1)), (wrap64 (x6_1 + 1)), xr, xr, H', ⟨by have := HK1.out; omega⟩, ⟨by (try simp only [hl0_1]); (with_reducible repeat (first | apply Kd.zbD | apply Kd.zbz | apply Kd.zbp)); exact Kd.zbe HO_0.out (fun _ hk => hk.1)⟩, ⟨by repeat (first | (with_reducible first | exact HK.out | apply Kept.alloc | apply Kept.drewN | apply Kept.drew | refine Kept.setCell ?_ (.inr GW235.out) _) | exact HK.out)⟩, ⟨xs HB.out GE235.out⟩⟩
    ·rw [if_neg c9] at H
     have c9b0 := decide_eq_false c9
     have c9b0x := c9b0
     (try simp only [hl0_1] at c9b0x)
     clear c9
     obtain ⟨c25, H⟩ := xp H
     have c25b0 := eq_true c25
     have c25b1 := decide_eq_true c25
     clear c25
     obtain ⟨c26, H⟩ := xp H
     have c26b0 := eq_true c26
     have c26b1 := decide_eq_true c26
     have c26b1x := c26b1
     (try simp only [hl0_1] at c26b1x)
     clear c26
     obtain ⟨y238, Ny238⟩ := xy ((x0_1.drop (x5_1 : Int).toNat) : List (S48))
     have c27b0 := eq_true (xd : x5_1 ≤ (x0_1.length : Int))
     obtain ⟨y243, hy243⟩ : ∃ y_ : List (S48), y_ = (x0_1.take (x5_1 : Int).toNat) := ⟨_, rfl⟩
     replace H : (some y243) = some r := xv hy243 H
     have Ny243 := ax hy243
     clear hy243
     obtain rfl := Option.some.inj H
     have q28 : (x5_1 : Int) ≤ ((x0_1.length : Int) : Int) := xd
     obtain ⟨i028, hi028, _, hsz28, _⟩ := info_parts zcx
     have hroom28 : x0_1.length ≤ co7 := (Kd.zaE HO_0.out).2.1
     have hC28 : Kd.F k48 _ _ Ao7 x0_1.length x0_1 := (Kd.V_at (base := w0.heap.size) (Kd.N_V (Kd.zcE HO_0.out))).2.2
     have q028 : (0 : Int) ≤ (x5_1 : Int) := xd
     have hcut28 := ze9 (P := Try.prog) 26 48 .i64 Try.underlying26 hi028 2 hsz28 Ao7 x0_1.length co7 x5_1 q028 q28
     have hr28 := Kd.zky (m := (x5_1 : Int).toNat) (c := co7) hC28 (by omega) hroom28
     obtain ⟨A28, hA28⟩ : ∃ A1, A1 = (if co7 = (x5_1 : Int).toNat then Ao7 else (Ao7 : Option Addr).map (·.add ((x5_1 : Int).toNat * 2))) := ⟨_, rfl⟩
     obtain ⟨c28, hc28⟩ : ∃ c1, c1 = co7 - (x5_1 : Int).toNat := ⟨_, rfl⟩
     have hy28 : y238.length = x0_1.length - (x5_1 : Int).toNat := (by rw [Ny238.out, List.length_drop] <;> omega)
     rw [show (x0_1).drop (x5_1 : Int).toNat = y238 from Ny238.out.symm] at hr28
     replace hr28 : Kd.F k48 _ _ A28 y238.length y238 := (by rw [hA28]; exact hr28)
     rw [← hy28, ← hA28, ← hc28] at hcut28
     have HO242 := ax (show Kd.V k48 48 _ w0.heap.size _ (.slice A28 y238.length c28) y238 from Kd.V_mk (by rw [hy28, hc28]; exact Nat.sub_le_sub_right hroom28 _) hr28)
     have HC242 := ax (show y238.length ≤ c28 from by rw [hy28, hc28]; exact Nat.sub_le_sub_right hroom28 _)
     clear hr28 hC28 hroom28 hi028 hsz28 hc28
     have KY28 := ax hy28
     have KA28 := ax hA28
     clear hy28 hA28
     replace q28 := eq_true q28
     have q29 : (x5_1 : Int) ≤ ((x0_1.length : Int) : Int) := xd
     obtain ⟨i029, hi029, _, hsz29, _⟩ := info_parts zcx
     have h0_ : 0 ≤ (x5_1 : Int) := xd
     have hcut29 := zhB (P := Try.prog) 26 48 .i64 Try.underlying26 hi029 Ao7 x0_1.length co7 x5_1 h0_ q29 (Kd.zaE HO_0.out).2.1
     have HM_ := ax (show (x5_1 : Int).toNat ≤ x0_1.length from by omega)
     have hy29 : y243.length = (x5_1 : Int).toNat := (by rw [Ny243.out, List.length_take]; omega)
     have HY_ := ax hy29
     rw [← hy29] at hcut29
     clear hy29 hi029 hsz29 h0_
     replace q29 := eq_true q29
     go_wp2_with (first | ((with_reducible refine zcg (b := .clear) (xs := #[.tmp 38]) rfl ?_); refine zgl (P := Try.prog) (w0 := w0) (base := w0.heap.size) (ok := fun k_ => P0_ k_) (c' := c28) (Kd.zcr w0.heap.size k48) rfl (.tmp 38) 26 48 rfl Try.underlying26 z48 (.slice none 0 0) (.int .i64 0) (zi5 zcx) rfl rfl rfl rfl ?hz (m := (x5_1 : Int).toNat) HM_.out KA28.out KY28.out ?hs ?hN ?hB ?hb ?_; (case hz => exact fun W ok => Kd.zei (zcS W _ ok z48 (Kd.zeM _ _ _ _ _))); (case hs => first | rfl | (go_simp; done)); (case hN => (with_reducible repeat (first | apply Kd.zbD | apply Kd.zbz | apply Kd.zbp)); exact HO_0.out); (case hB => exact (xb HB.out)); (case hb => exact zah (xb HB.out)); intro w9 ys_ ho_ hl_ ht_ hg_ hb_; have n0_ := ax (show Kd.N (Kd.zcr w0.heap.size k48) 48 w9 w0.heap.size (fun k_ => P0_ k_) (.slice Ao7 y243.length co7) y243 from by have h_ := Kd.zf1 (m := (x5_1 : Int).toNat) ho_ (by rw [hl_]; exact HM_.out); rw [ht_] at h_; rw [HY_.out, Ny243.out]; exact h_); have n1_ := ax hb_; have n2_ := ax (Kept.zcA (S := (fun k_ => Z0_ k_)) hg_ (by repeat (first | (with_reducible first | exact HK.out | apply Kept.alloc | apply Kept.drewN | apply Kept.drew) | exact HK.out)) (fun k_ e_ => .inl (zcH HZ0.out e_))); clear HO_0 HB HK; have HO245 := n0_; have HB := n1_; have HK := n2_; clear n0_ n1_ n2_ ho_ hl_ ht_ hg_ hb_))
     go_ret
     exact ⟨_, xe, xN HO245.out, xb HB.out, by repeat (first | (with_reducible first | exact HK.out | apply Kept.alloc | apply Kept.drewN | apply Kept.drew) | exact HK.out)⟩

end Go.Proofs.Ytneipehcmmigeaa.PFnExactAddPolys
