import Derived.Test.YtneipehcmmigeaaPFnExactAddPolysx0
namespace Go.Proofs.Ytneipehcmmigeaa.PFnExactAddPolys
open Go.RowKit Go.Proofs.YtneipehcmmigeaaW.PrintWords Go.Proofs.YtneipehcmmigeaaW.PrintLast Go.Proofs.YtneipehcmmigeaaW.PrintMore
set_option linter.unusedVariables false
set_option linter.unusedSimpArgs false
set_option maxHeartbeats 8000000
set_option maxRecDepth 100000
def zaT.l0 : Nat → List (S48) → List (S48) → Int → Option ((List (S48)))
 | 0, _, _, _ => none
 | k + 1, x0, x3, x4 => if x4 < (x0.length : Int) then (if 0 ≤ x4 then (if ((zab x0 x4).f1) = 0 then (zaT.l0 k x0 x3 (wrap64 (x4 + 1))) else (if x3.length < 4398046511104 then (zaT.l0 k x0 (x3 ++ [(⟨(zab x0 x4).f0, (zab x0 x4).f1⟩ : S48)]) (wrap64 (x4 + 1))) else (none))) else (none)) else (some x3)
def zaT.f (k : Nat) (l0 : List (S48)) : Option ((List (S48))) := zaT.l0 k l0 (([] : List (S48))) 0
theorem zaT.za8 : ∀ k, (∀ y0 y1 y2, LeO (zaT.l0 k y0 y1 y2) (zaT.l0 (k + 1) y0 y1 y2))
 | 0 => fun _ _ _ r h => by simp [zaT.l0] at h
 | k + 1 => by
  have ih0 := zaT.za8 k
  ·intro y0 y1 y2
   unfold zaT.l0
   repeat' with_reducible first | exact ih0 _ _ _ | exact xl | refine LeO.ite ?_ ?_ | refine LeO.bind ?_ fun _ => ?_
theorem zaT.mono : ∀ a0 k, LeO (zaT.f k a0) (zaT.f (k + 1) a0) := by
 intro a0 k
 have ih0 := zaT.za8 k
 unfold zaT.f
 repeat' with_reducible first | exact ih0 _ _ _ | exact xl | refine LeO.ite ?_ ?_ | refine LeO.bind ?_ fun _ => ?_
theorem zaT.calls (k : Nat) (P0_ : Nat → Prop) (A0 : Option Addr) (c0 : Nat) (l0 : List (S48)) (r : List (S48)) (w : World) (hs0 : Kd.V k48 48 w w.heap.size (fun k_ => P0_ k_) (.slice A0 l0.length c0) l0) (h : zaT.f k l0 = some r) :
  Calls Try.prog 27 #[.slice A0 l0.length c0] w fun e w' => ∃ v0_ : Value, e = .returned (v0_) ∧ Kd.N k48 48 w' w.heap.size (fun k_ => (P0_ k_ ∨ w.heap.size ≤ k_)) v0_ r ∧ Below w.heap.size w w' := by
 have hu48 := Try.underlying48
 have HO0 := ax (show Kd.V k48 48 w w.heap.size (fun k_ => (P0_ k_ ∨ w.heap.size ≤ k_)) (.slice A0 l0.length c0) l0 from Kd.zaP hs0 (fun k_ hk => .inl hk))
 have HB := ax (Below.refl w.heap.size w)
 have H : (zaT.l0 k l0 (([] : List (S48))) 0) = some r := h
 clear h
 obtain ⟨y167, hy167⟩ : ∃ y_ : List (S48), y_ = (([] : List (S48))) := ⟨_, rfl⟩
 replace H : (zaT.l0 k l0 y167 0) = some r := xv hy167 H
 have Ny167 := ax hy167
 clear hy167
 have H' := ax H
 clear H
 go_enter Try.func27, Try.ntmps27
 go_wp2_with (first | ((with_reducible refine zaV (N := 5) rfl ?_); refine Kd.zhV k48 _ 48 ?hg (N' := 5) ?hd (xs := ([] : List (S48))) (inner := []) (ok := (fun k_ => (P0_ k_ ∨ w.heap.size ≤ k_))) (okp := (fun k_ => (P0_ k_ ∨ w.heap.size ≤ k_))) ?hr ?hp (fun _ hk => hk) ((show ∀ k_, w.heap.size ≤ k_ → (fun k_ => (P0_ k_ ∨ w.heap.size ≤ k_)) k_ from fun k_ hk => (.inr (Nat.le_trans (zah (xb HB.out)) hk))) _ (Nat.le_refl _)) (Below.refl _ _) (Nat.le_refl _) (by simp) ?_; (case hd => rfl); (case hg => rfl); (case hr => first | (go_simp; done) | (go_simp; rfl)); (case hp => exact (Reps.none _ _)); intro v168 w2 ho3 hb hg_ hnew_; clear hg_ hnew_; (first | rw [← Ny167.out] at ho3 | (simp only [Int.reduceToNat] at ho3; rw [← Ny167.out] at ho3)); replace HO0 := ax (Kd.zcb (xV HO0.out) (by first | exact Kd.zcI ho3 | exact Kd.za6 ho3 | exact Kd.zb4 ho3) hb); have HO169 := ax (Kd.zdM ho3 (zah (xb HB.out))); replace HB := yB HB hb; clear hb ho3))
 go_loopg [3, 4] k (fun kq v3 v4 w' => ∃ (x3_1 : List (S48)) (x4_1 : Int), v4 = .int .i64 x4_1 ∧ zap (zaT.l0 kq l0 x3_1 x4_1 = some r) ∧ zap (kq ≤ k) ∧ zap (Kd.V k48 48 w' w.heap.size (fun k_ => (P0_ k_ ∨ w.heap.size ≤ k_) ∧ some k_ ≠ (v3 : Value).ownBlock) (.slice A0 l0.length c0) l0) ∧ zap (Kd.N k48 48 w' w.heap.size (fun k_ => (P0_ k_ ∨ w.heap.size ≤ k_)) v3 x3_1) ∧ zap (Below w.heap.size w w'))
 case atStart => exact ⟨(y167), (0), xr, H', ⟨Nat.le_refl _⟩, ⟨xV HO0.out⟩, ⟨xN HO169.out⟩, ⟨xb HB.out⟩⟩
 case round =>
  clear H'
  obtain ⟨x3_1, x4_1, rfl, HA, HK1, HO_0, HO_3, HB⟩ := hrel
  cases gk with
  | zero => exact absurd HA.out (by simp [zaT.l0])
  | succ k1 =>
   have H := HA.out
   clear HA
   simp only [zaT.l0] at H
   by_cases c4 : x4_1 < (l0.length : Int)
   ·rw [if_pos c4] at H
    have c4b0 := decide_eq_true c4
    clear c4
    obtain ⟨c5b0, H⟩ := xq H
    by_cases c6 : ((zab l0 x4_1).f1) = 0
    ·rw [if_pos c6] at H
     have c6b0 : (((zab l0 x4_1).f1) == 0) = true := beq_iff_eq.mpr c6
     have c6b1 : (((zab l0 x4_1).f1) != 0) = false := bne_eq_false_iff_eq.mpr c6
     clear c6
     have H' := ax H
     clear H
     have p170 : 0 ≤ (x4_1 : Int) := xd
     have q170 : x4_1 < (l0.length : Int) := xd
     obtain ⟨ad170, A170_0, c170_0, e170, hx170_0, hx170_1, hl170_0, hi170_0⟩ := zbs (Kd.za2 HO_0.out).2.2 x4_1 p170 q170
     cases e170
     obtain ⟨ce170, hce170, hMe170, hcc170⟩ := Kd.zhP HO_0.out z48 x4_1 p170 (by first | exact q170 | exact xd | (have e_ := (Kd.za2 HO_0.out).1; omega))
     obtain ⟨ua170_0, uc170_0, rfl, ul170_0, ge170_0⟩ := zaX hMe170
     have hv170_0 := hcc170 0 _ rfl
     rw [Nat.add_zero] at hv170_0
     replace hv170_0 := Option.some.inj (hv170_0.symm.trans hx170_0)
     injection hv170_0 with hva_ hvn_ hvc_
     rw [hva_] at ge170_0
     rw [hvc_] at ul170_0
     have HL170_0 := ax (show Kd.V (Kd.int .i64) 3 _ w.heap.size _ _ ((zab l0 x4_1).f0) from Kd.V_mk ul170_0 ge170_0)
     clear hva_ hvn_ hvc_ ge170_0 ul170_0 hcc170 hce170
     have HR170_0 := ax hi170_0
     have HC170_0 := ax hl170_0
     clear hi170_0 hl170_0
     replace p170 := eq_true p170
     replace q170 := eq_true q170
     go_wp2
     go_roundg k1
     case measure => have := HK1.out; omega
     case rel => exact ⟨(x3_1), (wrap64 (x4_1 + 1)), xr, H', ⟨by have := HK1.out; omega⟩, ⟨xV HO_0.out⟩, ⟨xN HO_3.out⟩, ⟨xb HB.out⟩⟩
    ·rw [if_neg c6] at H
     have c6b0 : (((zab l0 x4_1).f1) == 0) = false := beq_eq_false_iff_ne.mpr c6
     have c6b1 : (((zab l0 x4_1).f1) != 0) = true := bne_iff_ne.mpr c6
     obtain ⟨c7, H⟩ := xp H
     have LMc7 := ax c7
     clear c7
     obtain ⟨y172, hy172⟩ : ∃ y_ : List (S48), y_ = (x3_1 ++ [(⟨(zab l0 x4_1).f0, (zab l0 x4_1).f1⟩ : S48)]) := ⟨_, rfl⟩
     replace H : (zaT.l0 k1 l0 y172 (wrap64 (x4_1 + 1))) = some r := xv hy172 H
     have Ny172 := ax hy172
     clear hy172
     have H' := ax H
     clear H
     have p170 : 0 ≤ (x4_1 : Int) := xd
     have q170 : x4_1 < (l0.length : Int) := xd
     obtain ⟨ad170, A170_0, c170_0, e170, hx170_0, hx170_1, hl170_0, hi170_0⟩ := zbs (Kd.za2 HO_0.out).2.2 x4_1 p170 q170
     cases e170
     obtain ⟨ce170, hce170, hMe170, hcc170⟩ := Kd.zhP HO_0.out z48 x4_1 p170 (by first | exact q170 | exact xd | (have e_ := (Kd.za2 HO_0.out).1; omega))
     obtain ⟨ua170_0, uc170_0, rfl, ul170_0, ge170_0⟩ := zaX hMe170
     have hv170_0 := hcc170 0 _ rfl
     rw [Nat.add_zero] at hv170_0
     replace hv170_0 := Option.some.inj (hv170_0.symm.trans hx170_0)
     injection hv170_0 with hva_ hvn_ hvc_
     rw [hva_] at ge170_0
     rw [hvc_] at ul170_0
     have HL170_0 := ax (show Kd.V (Kd.int .i64) 3 _ w.heap.size _ _ ((zab l0 x4_1).f0) from Kd.V_mk ul170_0 ge170_0)
     clear hva_ hvn_ hvc_ ge170_0 ul170_0 hcc170 hce170
     have HR170_0 := ax hi170_0
     have HC170_0 := ax hl170_0
     clear hi170_0 hl170_0
     replace p170 := eq_true p170
     replace q170 := eq_true q170
     have p171 : 0 ≤ (x4_1 : Int) := xd
     have q171 : x4_1 < (l0.length : Int) := xd
     obtain ⟨ad171, A171_0, c171_0, e171, hx171_0, hx171_1, hl171_0, hi171_0⟩ := zbs (Kd.za2 HO_0.out).2.2 x4_1 p171 q171
     obtain rfl : ad170 = ad171 := (by injection e171)
     obtain ⟨rfl, rfl⟩ : A170_0 = A171_0 ∧ c170_0 = c171_0 := by first | exact zbi hx170_0 hx171_0 | exact zbi HS0_ hx171_0 | exact zbi HS1_ hx171_0 | exact zbi HS2_ hx171_0 | exact zbi hHeld hx171_0 | exact zbi hHeld.1 hx171_0 | exact zbi hHeld.2 hx171_0 | exact zbi hHeld.2.1 hx171_0 | exact zbi hHeld.2.2 hx171_0 | exact zbi hHeld.2.2.1 hx171_0 | exact zbi hHeld.2.2.2 hx171_0 | exact zbi hHeld.2.2.2.1 hx171_0 | exact zbi hHeld.2.2.2.2 hx171_0 | exact zbi hHeld.2.2.2.2.1 hx171_0 | exact zbi hHeld.2.2.2.2.2 hx171_0
     obtain ⟨ce171, hce171, hMe171, hcc171⟩ := Kd.zhP HO_0.out z48 x4_1 p171 (by first | exact q171 | exact xd | (have e_ := (Kd.za2 HO_0.out).1; omega))
     obtain ⟨ua171_0, uc171_0, rfl, ul171_0, ge171_0⟩ := zaX hMe171
     have hv171_0 := hcc171 0 _ rfl
     rw [Nat.add_zero] at hv171_0
     replace hv171_0 := Option.some.inj (hv171_0.symm.trans hx171_0)
     injection hv171_0 with hva_ hvn_ hvc_
     rw [hva_] at ge171_0
     rw [hvc_] at ul171_0
     have HL171_0 := ax (show Kd.V (Kd.int .i64) 3 _ w.heap.size _ _ ((zab l0 x4_1).f0) from Kd.V_mk ul171_0 ge171_0)
     clear hva_ hvn_ hvc_ ge171_0 ul171_0 hcc171 hce171
     have HR171_0 := ax hi171_0
     have HC171_0 := ax hl171_0
     clear hi171_0 hl171_0
     replace p171 := eq_true p171
     replace q171 := eq_true q171
     have ea_ := Option.some.inj (hx170_0.symm.trans hx171_0)
     injection ea_ with ea_ en_ ec_
     (try subst ea_)
     (try subst ec_)
     clear en_
     go_wp2_with (first | ((with_reducible refine zcg (b := .append) (xs := #[.tmp 18, .tmp 23]) rfl ?_); at_builtin; refine Kd.ziB k48 (w0 := w) w.heap.size rfl (.tmp 18) (.tmp 23) 26 48 (.agg #[(.slice none 0 0), (.int .i64 0)]) 32 rfl Try.underlying26 zcx rfl (by decide) (by omega) u3 x3_1 (⟨(zab l0 x4_1).f0, (zab l0 x4_1).f1⟩ : S48) [.slice A170_0 ((zab l0 x4_1).f0).length c170_0, .int .i64 ((zab l0 x4_1).f1)] (fun k_ => (P0_ k_ ∨ w.heap.size ≤ k_)) (fun k_ => ((fun k_ => (P0_ k_ ∨ w.heap.size ≤ k_))) k_ ∧ some k_ ≠ (u3 : Value).ownBlock) rfl rfl ?aP (fun _ hk => hk) ?aF ?aO ?aB ?aS ?aL ?_; (case aP => exact (zde _ _ (⟨(zab l0 x4_1).f0, (zab l0 x4_1).f1⟩ : S48) (Kd.za2 (Kd.zaP (ok' := (fun k_ => ((fun k_ => (P0_ k_ ∨ w.heap.size ≤ k_))) k_ ∧ some k_ ≠ (u3 : Value).ownBlock)) (HL171_0.out) (fun k_ hk => ⟨hk.1, hk.2⟩))).2.1 (Kd.V_F (Kd.zaP (ok' := (fun k_ => ((fun k_ => (P0_ k_ ∨ w.heap.size ≤ k_))) k_ ∧ some k_ ≠ (u3 : Value).ownBlock)) (HL171_0.out) (fun k_ hk => ⟨hk.1, hk.2⟩))))); (case aB => exact (xb HB.out)); (case aF => exact (fun k_ hk => (.inr (Nat.le_trans (zah (xb HB.out)) hk)))); (case aO => exact (xN HO_3.out)); (case aS => exact (zah (xb HB.out))); (case aL => have := LMc7.out; omega); intro v173 w8 ho hb hg hat; rw [← Ny172.out] at ho; have n0_ := ax (Kd.zcB (ok := (fun k_ => (P0_ k_ ∨ w.heap.size ≤ k_))) (xV HO_0.out) hg hat); have n1_ := ax (Kd.zcB (ok := (fun k_ => (P0_ k_ ∨ w.heap.size ≤ k_))) (xV HL170_0.out) hg hat); have n2_ := ax (Kd.zcB (ok := (fun k_ => (P0_ k_ ∨ w.heap.size ≤ k_))) (xV HL171_0.out) hg hat); have n3_ := ax (hb); have n4_ := ax (ho); clear HO_0; clear HL170_0; clear HL171_0; clear HB; clear HO_3; have HO_0 := n0_; have HL170_0 := n1_; have HL171_0 := n2_; have HB := n3_; have HO174 := n4_; clear n0_ n1_ n2_ n3_ n4_; clear ho hb hg hat))
     go_roundg k1
     case measure => have := HK1.out; omega
     case rel => exact ⟨(y172), (wrap64 (x4_1 + 1)), xr, H', ⟨by have := HK1.out; omega⟩, ⟨xV HO_0.out⟩, ⟨xN HO174.out⟩, ⟨xb HB.out⟩⟩
   ·rw [if_neg c4] at H
    have c4b0 := decide_eq_false c4
    clear c4
    obtain rfl := Option.some.inj H
    go_wp2
    go_ret
    exact ⟨_, xe, xN HO_3.out, xb HB.out⟩

end Go.Proofs.Ytneipehcmmigeaa.PFnExactAddPolys
