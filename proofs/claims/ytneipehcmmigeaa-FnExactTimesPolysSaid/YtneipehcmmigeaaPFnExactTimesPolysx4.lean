import Derived.Test.YtneipehcmmigeaaPFnExactTimesPolysx0
namespace Go.Proofs.Ytneipehcmmigeaa.PFnExactTimesPolys
open Go.RowKit Go.Proofs.YtneipehcmmigeaaW.PrintWords Go.Proofs.YtneipehcmmigeaaW.PrintLast Go.Proofs.YtneipehcmmigeaaW.PrintMore
set_option linter.unusedVariables false
set_option linter.unusedSimpArgs false
set_option maxHeartbeats 8000000
set_option maxRecDepth 100000
def zaL.l0 : Nat → List (S48) → List (S48) → Int → Option ((List (S48)))
 | 0, _, _, _ => none
 | k + 1, x0, x3, x4 => if x4 < (x0.length : Int) then (if 0 ≤ x4 then (if ((zab x0 x4).f1) = 0 then (zaL.l0 k x0 x3 (wrap64 (x4 + 1))) else (if x3.length < 4398046511104 then (zaL.l0 k x0 (x3 ++ [(⟨(zab x0 x4).f0, (zab x0 x4).f1⟩ : S48)]) (wrap64 (x4 + 1))) else (none))) else (none)) else (some x3)
def zaL.f (k : Nat) (l0 : List (S48)) : Option ((List (S48))) := zaL.l0 k l0 (([] : List (S48))) 0
theorem zaL.zbb : ∀ k, (∀ y0 y1 y2, LeO (zaL.l0 k y0 y1 y2) (zaL.l0 (k + 1) y0 y1 y2))
 | 0 => fun _ _ _ r h => by simp [zaL.l0] at h
 | k + 1 => by
  have ih0 := zaL.zbb k
  ·intro y0 y1 y2
   unfold zaL.l0
   repeat' with_reducible first | exact ih0 _ _ _ | exact xl | refine LeO.ite ?_ ?_ | refine LeO.bind ?_ fun _ => ?_
theorem zaL.mono : ∀ a0 k, LeO (zaL.f k a0) (zaL.f (k + 1) a0) := by
 intro a0 k
 have ih0 := zaL.zbb k
 unfold zaL.f
 repeat' with_reducible first | exact ih0 _ _ _ | exact xl | refine LeO.ite ?_ ?_ | refine LeO.bind ?_ fun _ => ?_
theorem zaL.calls (k : Nat) (P0_ : Nat → Prop) (A0 : Option Addr) (c0 : Nat) (l0 : List (S48)) (r : List (S48)) (w : World) (hs0 : Kd.V k48 48 w w.heap.size (fun k_ => P0_ k_) (.slice A0 l0.length c0) l0) (h : zaL.f k l0 = some r) :
  Calls Try.prog 27 #[.slice A0 l0.length c0] w fun e w' => ∃ v0_ : Value, e = .returned (v0_) ∧ Kd.N k48 48 w' w.heap.size (fun k_ => (P0_ k_ ∨ w.heap.size ≤ k_)) v0_ r ∧ Below w.heap.size w w' := by
 have hu48 := Try.underlying48
 have HO0 := ax (show Kd.V k48 48 w w.heap.size (fun k_ => (P0_ k_ ∨ w.heap.size ≤ k_)) (.slice A0 l0.length c0) l0 from Kd.za3 hs0 (fun k_ hk => .inl hk))
 have HB := ax (Below.refl w.heap.size w)
 have H : (zaL.l0 k l0 (([] : List (S48))) 0) = some r := h
 clear h
 obtain ⟨y123, hy123⟩ : ∃ y_ : List (S48), y_ = (([] : List (S48))) := ⟨_, rfl⟩
 replace H : (zaL.l0 k l0 y123 0) = some r := xv hy123 H
 have Ny123 := ax hy123
 clear hy123
 have H' := ax H
 clear H
 go_enter Try.func27, Try.ntmps27
 go_wp2_with (first | ((with_reducible refine zaP (N := 5) rfl ?_); refine Kd.zhQ k48 _ 48 ?hg (N' := 5) ?hd (xs := ([] : List (S48))) (inner := []) (ok := (fun k_ => (P0_ k_ ∨ w.heap.size ≤ k_))) (okp := (fun k_ => (P0_ k_ ∨ w.heap.size ≤ k_))) ?hr ?hp (fun _ hk => hk) ((show ∀ k_, w.heap.size ≤ k_ → (fun k_ => (P0_ k_ ∨ w.heap.size ≤ k_)) k_ from fun k_ hk => (.inr (Nat.le_trans (zaj (xb HB.out)) hk))) _ (Nat.le_refl _)) (Below.refl _ _) (Nat.le_refl _) (by simp) ?_; (case hd => rfl); (case hg => rfl); (case hr => first | (go_simp; done) | (go_simp; rfl)); (case hp => exact (Reps.none _ _)); intro v124 w2 ho3 hb hg_ hnew_; clear hg_ hnew_; (first | rw [← Ny123.out] at ho3 | (simp only [Int.reduceToNat] at ho3; rw [← Ny123.out] at ho3)); replace HO0 := ax (Kd.zde (xV HO0.out) (by first | exact Kd.zdT ho3 | exact Kd.za9 ho3 | exact Kd.zcf ho3) hb); have HO125 := ax (Kd.zdv ho3 (zaj (xb HB.out))); replace HB := yB HB hb; clear hb ho3))
 go_loopg [3, 4] k (fun kq v3 v4 w' => ∃ (x3_1 : List (S48)) (x4_1 : Int), v4 = .int .i64 x4_1 ∧ zal (zaL.l0 kq l0 x3_1 x4_1 = some r) ∧ zal (kq ≤ k) ∧ zal (Kd.V k48 48 w' w.heap.size (fun k_ => (P0_ k_ ∨ w.heap.size ≤ k_) ∧ some k_ ≠ (v3 : Value).ownBlock) (.slice A0 l0.length c0) l0) ∧ zal (Kd.N k48 48 w' w.heap.size (fun k_ => (P0_ k_ ∨ w.heap.size ≤ k_)) v3 x3_1) ∧ zal (Below w.heap.size w w'))
 case atStart => exact ⟨(y123), (0), xr, H', ⟨Nat.le_refl _⟩, ⟨xV HO0.out⟩, ⟨xN HO125.out⟩, ⟨xb HB.out⟩⟩
 case round =>
  clear H'
  obtain ⟨x3_1, x4_1, rfl, HA, HK1, HO_0, HO_3, HB⟩ := hrel
  cases gk with
  | zero => exact absurd HA.out (by simp [zaL.l0])
  | succ k1 =>
   have H := HA.out
   clear HA
   simp only [zaL.l0] at H
   by_cases c4 : x4_1 < (l0.length : Int)
   ·rw [if_pos c4] at H
    have c4b0 := decide_eq_true c4
    clear c4
    obtain ⟨c5b0, H⟩ := xq H
    by_cases c6 : ((zab l0 x4_1).f1) = 0
    ·rw [if_pos c6] at H
     have c6b0 : (((zab l0 x4_1).f1) == 0) = true := beq_iff_eq.mpr c6
     have c6b1 : (((zab l0 x4_1).f1) != 0) = false := bne_eq_false_iff_eq.mpr c6
     clear c6
     have H' := ax H
     clear H
     have p126 : 0 ≤ (x4_1 : Int) := xd
     have q126 : x4_1 < (l0.length : Int) := xd
     obtain ⟨ad126, A126_0, c126_0, e126, hx126_0, hx126_1, hl126_0, hi126_0⟩ := zbr (Kd.zbl HO_0.out).2.2 x4_1 p126 q126
     cases e126
     obtain ⟨ce126, hce126, hMe126, hcc126⟩ := Kd.zje HO_0.out z48 x4_1 p126 (by first | exact q126 | exact xd | (have e_ := (Kd.zbl HO_0.out).1; omega))
     obtain ⟨ua126_0, uc126_0, rfl, ul126_0, ge126_0⟩ := zaW hMe126
     have hv126_0 := hcc126 0 _ rfl
     rw [Nat.add_zero] at hv126_0
     replace hv126_0 := Option.some.inj (hv126_0.symm.trans hx126_0)
     injection hv126_0 with hva_ hvn_ hvc_
     rw [hva_] at ge126_0
     rw [hvc_] at ul126_0
     have HL126_0 := ax (show Kd.V (Kd.int .i64) 3 _ w.heap.size _ _ ((zab l0 x4_1).f0) from Kd.V_mk ul126_0 ge126_0)
     clear hva_ hvn_ hvc_ ge126_0 ul126_0 hcc126 hce126
     have HR126_0 := ax hi126_0
     have HC126_0 := ax hl126_0
     clear hi126_0 hl126_0
     replace p126 := eq_true p126
     replace q126 := eq_true q126
     go_wp2
     go_roundg k1
     case measure => have := HK1.out; omega
     case rel => exact ⟨(x3_1), (wrap64 (x4_1 + 1)), xr, H', ⟨by have := HK1.out; omega⟩, ⟨xV HO_0.out⟩, ⟨xN HO_3.out⟩, ⟨xb HB.out⟩⟩
    ·rw [if_neg c6] at H
     have c6b0 : (((zab l0 x4_1).f1) == 0) = false := beq_eq_false_iff_ne.mpr c6
     have c6b1 : (((zab l0 x4_1).f1) != 0) = true := bne_iff_ne.mpr c6
     obtain ⟨c7, H⟩ := xp H
     have LMc7 := ax c7
     clear c7
     obtain ⟨y128, hy128⟩ : ∃ y_ : List (S48), y_ = (x3_1 ++ [(⟨(zab l0 x4_1).f0, (zab l0 x4_1).f1⟩ : S48)]) := ⟨_, rfl⟩
     replace H : (zaL.l0 k1 l0 y128 (wrap64 (x4_1 + 1))) = some r := xv hy128 H
     have Ny128 := ax hy128
     clear hy128
     have H' := ax H
     clear H
     have p126 : 0 ≤ (x4_1 : Int) := xd
     have q126 : x4_1 < (l0.length : Int) := xd
     obtain ⟨ad126, A126_0, c126_0, e126, hx126_0, hx126_1, hl126_0, hi126_0⟩ := zbr (Kd.zbl HO_0.out).2.2 x4_1 p126 q126
     cases e126
     obtain ⟨ce126, hce126, hMe126, hcc126⟩ := Kd.zje HO_0.out z48 x4_1 p126 (by first | exact q126 | exact xd | (have e_ := (Kd.zbl HO_0.out).1; omega))
     obtain ⟨ua126_0, uc126_0, rfl, ul126_0, ge126_0⟩ := zaW hMe126
     have hv126_0 := hcc126 0 _ rfl
     rw [Nat.add_zero] at hv126_0
     replace hv126_0 := Option.some.inj (hv126_0.symm.trans hx126_0)
     injection hv126_0 with hva_ hvn_ hvc_
     rw [hva_] at ge126_0
     rw [hvc_] at ul126_0
     have HL126_0 := ax (show Kd.V (Kd.int .i64) 3 _ w.heap.size _ _ ((zab l0 x4_1).f0) from Kd.V_mk ul126_0 ge126_0)
     clear hva_ hvn_ hvc_ ge126_0 ul126_0 hcc126 hce126
     have HR126_0 := ax hi126_0
     have HC126_0 := ax hl126_0
     clear hi126_0 hl126_0
     replace p126 := eq_true p126
     replace q126 := eq_true q126
     have p127 : 0 ≤ (x4_1 : Int) := xd
     have q127 : x4_1 < (l0.length : Int) := xd
     obtain ⟨ad127, A127_0, c127_0, e127, hx127_0, hx127_1, hl127_0, hi127_0⟩ := zbr (Kd.zbl HO_0.out).2.2 x4_1 p127 q127
     obtain rfl : ad126 = ad127 := (by injection e127)
     obtain ⟨rfl, rfl⟩ : A126_0 = A127_0 ∧ c126_0 = c127_0 := by first | exact zbz hx126_0 hx127_0 | exact zbz HS0_ hx127_0 | exact zbz HS1_ hx127_0 | exact zbz HS2_ hx127_0 | exact zbz hHeld hx127_0 | exact zbz hHeld.1 hx127_0 | exact zbz hHeld.2 hx127_0 | exact zbz hHeld.2.1 hx127_0 | exact zbz hHeld.2.2 hx127_0 | exact zbz hHeld.2.2.1 hx127_0 | exact zbz hHeld.2.2.2 hx127_0 | exact zbz hHeld.2.2.2.1 hx127_0 | exact zbz hHeld.2.2.2.2 hx127_0 | exact zbz hHeld.2.2.2.2.1 hx127_0 | exact zbz hHeld.2.2.2.2.2 hx127_0
     obtain ⟨ce127, hce127, hMe127, hcc127⟩ := Kd.zje HO_0.out z48 x4_1 p127 (by first | exact q127 | exact xd | (have e_ := (Kd.zbl HO_0.out).1; omega))
     obtain ⟨ua127_0, uc127_0, rfl, ul127_0, ge127_0⟩ := zaW hMe127
     have hv127_0 := hcc127 0 _ rfl
     rw [Nat.add_zero] at hv127_0
     replace hv127_0 := Option.some.inj (hv127_0.symm.trans hx127_0)
     injection hv127_0 with hva_ hvn_ hvc_
     rw [hva_] at ge127_0
     rw [hvc_] at ul127_0
     have HL127_0 := ax (show Kd.V (Kd.int .i64) 3 _ w.heap.size _ _ ((zab l0 x4_1).f0) from Kd.V_mk ul127_0 ge127_0)
     clear hva_ hvn_ hvc_ ge127_0 ul127_0 hcc127 hce127
     have HR127_0 := ax hi127_0
     have HC127_0 := ax hl127_0
     clear hi127_0 hl127_0
     replace p127 := eq_true p127
     replace q127 := eq_true q127
     have ea_ := Option.some.inj (hx126_0.symm.trans hx127_0)
     injection ea_ with ea_ en_ ec_
     (try subst ea_)
     (try subst ec_)
     clear en_
     go_wp2_with (first | ((with_reducible refine zcj (b := .append) (xs := #[.tmp 18, .tmp 23]) rfl ?_); at_builtin; refine Kd.ziv k48 (w0 := w) w.heap.size rfl (.tmp 18) (.tmp 23) 26 48 (.agg #[(.slice none 0 0), (.int .i64 0)]) 32 rfl Try.underlying26 zcH rfl (by decide) (by omega) u3 x3_1 (⟨(zab l0 x4_1).f0, (zab l0 x4_1).f1⟩ : S48) [.slice A126_0 ((zab l0 x4_1).f0).length c126_0, .int .i64 ((zab l0 x4_1).f1)] (fun k_ => (P0_ k_ ∨ w.heap.size ≤ k_)) (fun k_ => ((fun k_ => (P0_ k_ ∨ w.heap.size ≤ k_))) k_ ∧ some k_ ≠ (u3 : Value).ownBlock) rfl rfl ?aP (fun _ hk => hk) ?aF ?aO ?aB ?aS ?aL ?_; (case aP => exact (zdc _ _ (⟨(zab l0 x4_1).f0, (zab l0 x4_1).f1⟩ : S48) (Kd.zbl (Kd.za3 (ok' := (fun k_ => ((fun k_ => (P0_ k_ ∨ w.heap.size ≤ k_))) k_ ∧ some k_ ≠ (u3 : Value).ownBlock)) (HL127_0.out) (fun k_ hk => ⟨hk.1, hk.2⟩))).2.1 (Kd.V_F (Kd.za3 (ok' := (fun k_ => ((fun k_ => (P0_ k_ ∨ w.heap.size ≤ k_))) k_ ∧ some k_ ≠ (u3 : Value).ownBlock)) (HL127_0.out) (fun k_ hk => ⟨hk.1, hk.2⟩))))); (case aB => exact (xb HB.out)); (case aF => exact (fun k_ hk => (.inr (Nat.le_trans (zaj (xb HB.out)) hk)))); (case aO => exact (xN HO_3.out)); (case aS => exact (zaj (xb HB.out))); (case aL => have := LMc7.out; omega); intro v129 w8 ho hb hg hat; rw [← Ny128.out] at ho; have n0_ := ax (Kd.zc2 (ok := (fun k_ => (P0_ k_ ∨ w.heap.size ≤ k_))) (xV HO_0.out) hg hat); have n1_ := ax (Kd.zc2 (ok := (fun k_ => (P0_ k_ ∨ w.heap.size ≤ k_))) (xV HL126_0.out) hg hat); have n2_ := ax (Kd.zc2 (ok := (fun k_ => (P0_ k_ ∨ w.heap.size ≤ k_))) (xV HL127_0.out) hg hat); have n3_ := ax (hb); have n4_ := ax (ho); clear HO_0; clear HL126_0; clear HL127_0; clear HB; clear HO_3; have HO_0 := n0_; have HL126_0 := n1_; have HL127_0 := n2_; have HB := n3_; have HO130 := n4_; clear n0_ n1_ n2_ n3_ n4_; clear ho hb hg hat))
     go_roundg k1
     case measure => have := HK1.out; omega
     case rel => exact ⟨(y128), (wrap64 (x4_1 + 1)), xr, H', ⟨by have := HK1.out; omega⟩, ⟨xV HO_0.out⟩, ⟨xN HO130.out⟩, ⟨xb HB.out⟩⟩
   ·rw [if_neg c4] at H
    have c4b0 := decide_eq_false c4
    clear c4
    obtain rfl := Option.some.inj H
    go_wp2
    go_ret
    exact ⟨_, xe, xN HO_3.out, xb HB.out⟩

end Go.Proofs.Ytneipehcmmigeaa.PFnExactTimesPolys
