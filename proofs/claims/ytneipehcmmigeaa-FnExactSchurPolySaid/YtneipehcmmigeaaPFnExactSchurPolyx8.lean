import Derived.Test.YtneipehcmmigeaaPFnExactSchurPolyx0
namespace Go.Proofs.Ytneipehcmmigeaa.PFnExactSchurPoly
open Go.RowKit Go.Proofs.YtneipehcmmigeaaW.PrintWords Go.Proofs.YtneipehcmmigeaaW.PrintLast Go.Proofs.YtneipehcmmigeaaW.PrintMore
set_option linter.unusedVariables false
set_option linter.unusedSimpArgs false
set_option maxHeartbeats 8000000
set_option maxRecDepth 100000
/-! ### zbS: function 58 -/
def zbS.f (l0 : List (S48)) : Option ((List (S48))) := (some (([] : List (S48)) : List (S48))).bind fun y261 => (if y261.length + l0.length < 4398046511104 then (some (y261 ++ l0)) else (none))
theorem zbS.calls (P0_ : Nat → Prop) (A0 : Option Addr) (c0 : Nat) (l0 : List (S48)) (r : List (S48)) (w : World) (hs0 : Kd.V k48 48 w w.heap.size (fun k_ => P0_ k_) (.slice A0 l0.length c0) l0) (h : zbS.f l0 = some r) :
  Calls Try.prog 58 #[.slice A0 l0.length c0] w fun e w' => ∃ v0_ : Value, e = .returned (v0_) ∧ Kd.N k48 48 w' w.heap.size (fun k_ => (P0_ k_ ∨ w.heap.size ≤ k_)) v0_ r ∧ Below w.heap.size w w' := by
 cases hA : A0.isNone with
 | true =>
  have e0 : l0 = [] := by
   obtain ⟨_, _, h1, h2, h3⟩ := Kd.zc hs0
   cases l0 with
   | nil => rfl
   | cons x xs =>
    exfalso
    obtain ⟨ad, e, _⟩ := h3 (by simp)
    subst e
    simp at hA
  subst e0
  have er : r = [] := by simpa [zbS.f] using h.symm
  subst er
  have he_ : ∀ W : World, (binOp .eql 26 (.slice A0 0 c0) (.slice none 0 0)).run Try.prog W = .ok (.bool true) W := fun W => by rw [Lib.run_eql_slice_nil W 26 48 A0 0 c0 0 0 Try.underlying26, hA]
  show Calls Try.prog 58 #[.slice A0 0 c0] w _
  clear h hs0 hA
  go_enter Try.func58, Try.ntmps58
  go_wp2
  go_ret
  exact ⟨_, rfl, Kd.zgs _ _ _ _ _, Below.refl _ _⟩
 | false =>
 have he_ : ∀ W : World, (binOp .eql 26 (.slice A0 l0.length c0) (.slice none 0 0)).run Try.prog W = .ok (.bool false) W := fun W => by rw [Lib.run_eql_slice_nil W 26 48 A0 l0.length c0 0 0 Try.underlying26, hA]
 clear hA
 have HO0 := ax (show Kd.V k48 48 w w.heap.size (fun k_ => (P0_ k_ ∨ w.heap.size ≤ k_)) (.slice A0 l0.length c0) l0 from Kd.zbA hs0 (fun k_ hk => .inl hk))
 have HB := ax (Below.refl w.heap.size w)
 have H : ((some (([] : List (S48)) : List (S48))).bind fun y261 => (if y261.length + l0.length < 4398046511104 then (some (y261 ++ l0)) else (none))) = some r := h
 clear h
 obtain ⟨y261, Ny261, H⟩ := xg H
 obtain ⟨c2, H⟩ := xp H
 have LMc2 := ax c2
 clear c2
 obtain ⟨y264, hy264⟩ : ∃ y_ : List (S48), y_ = (y261 ++ l0) := ⟨_, rfl⟩
 replace H : (some y264) = some r := xv hy264 H
 have Ny264 := ax hy264
 clear hy264
 obtain rfl := Option.some.inj H
 go_enter Try.func58, Try.ntmps58
 go_wp2_with (first | ((with_reducible refine zaG (N := 5) rfl ?_); refine Kd.zhv k48 _ 48 ?hg (N' := 5) ?hd (xs := ([] : List (S48))) (inner := []) (ok := (fun k_ => (P0_ k_ ∨ w.heap.size ≤ k_))) (okp := (fun k_ => (P0_ k_ ∨ w.heap.size ≤ k_))) ?hr ?hp (fun _ hk => hk) ((show ∀ k_, w.heap.size ≤ k_ → (fun k_ => (P0_ k_ ∨ w.heap.size ≤ k_)) k_ from fun k_ hk => (.inr (Nat.le_trans (zaf (xb HB.out)) hk))) _ (Nat.le_refl _)) (Below.refl _ _) (Nat.le_refl _) (by simp) ?_; (case hd => rfl); (case hg => rfl); (case hr => first | (go_simp; done) | (go_simp; rfl)); (case hp => exact (Reps.none _ _)); intro v262 w3 ho4 hb hg_ hnew_; clear hg_ hnew_; (first | rw [← Ny261.out] at ho4 | (simp only [Int.reduceToNat] at ho4; rw [← Ny261.out] at ho4)); replace HO0 := ax (Kd.zcM (by (with_reducible repeat (first | apply Kd.zb1 | apply Kd.zb0 | apply Kd.zbV)); exact HO0.out) (Kd.zdu ho4) hb); have HO263 := ax (Kd.zcD ho4 (zaf (xb HB.out))); replace HB := yB HB hb; clear hb ho4) | ((with_reducible refine zbN (b := .append) (xs := #[.tmp 5, .tmp 6]) rfl ?_); at_builtin; refine Kd.zfX k48 (w0 := w) w.heap.size rfl (.tmp 5) (.tmp 6) 26 48 (.agg #[(.slice none 0 0), (.int .i64 0)]) 32 rfl Try.underlying26 zey rfl (by decide) (by omega) v262 y261 l0 _ _ _ (fun k_ => (P0_ k_ ∨ w.heap.size ≤ k_)) (fun k_ => ((fun k_ => (P0_ k_ ∨ w.heap.size ≤ k_))) k_ ∧ some k_ ≠ (v262 : Value).ownBlock) rfl rfl ?aO ?aR (fun _ hk => hk) ?aF ?aB ?aS ?aL ?_; (case aR => exact (by skip; exact Kd.V_F (Kd.zbA (ok' := (fun k_ => ((fun k_ => (P0_ k_ ∨ w.heap.size ≤ k_))) k_ ∧ some k_ ≠ (v262 : Value).ownBlock)) (HO0.out) (fun k_ hk => ⟨hk.1, hk.2⟩)))); (case aB => exact (xb HB.out)); (case aF => exact (fun k_ hk => (.inr (Nat.le_trans (zaf (xb HB.out)) hk)))); (case aO => exact (by (with_reducible repeat (first | apply Kd.za4 | apply Kd.za3 | apply Kd.zaY)); exact HO263.out)); (case aS => exact (zaf (xb HB.out))); (case aL => have := LMc2.out; omega); intro v265 w5 ho hb hg hat; rw [← Ny264.out] at ho; have n0_ := ax (Kd.zcN (ok := (fun k_ => (P0_ k_ ∨ w.heap.size ≤ k_))) (by (with_reducible repeat (first | apply Kd.zb1 | apply Kd.zb0 | apply Kd.zbV)); exact HO0.out) hg hat); have n1_ := ax (hb); have n2_ := ax (ho); clear HO0; clear HB; clear HO263; have HO0 := n0_; have HB := n1_; have HO266 := n2_; clear n0_ n1_ n2_; clear ho hb hg hat))
 go_ret
 exact ⟨_, xe, by (with_reducible repeat (first | apply Kd.za4 | apply Kd.za3 | apply Kd.zaY)); exact HO266.out, xb HB.out⟩

-- NOT PRINTED: function 90 (slices_insertionSortCmpFunc_Mono)

-- NOT PRINTED: function 96 (slices_swapRangeCmpFunc_Mono)

-- NOT PRINTED: function 94 (slices_rotateCmpFunc_Mono)

-- NOT PRINTED: function 91 (slices_symMergeCmpFunc_Mono)

-- NOT PRINTED: function 79 (slices_stableCmpFunc_Mono)

-- NOT PRINTED: function 59 (slices_SortStableFunc_Mono)

/-! ### zbn: function 89 -/
def zbn.f (a0 : Int) : Option (Bool) := some (a0 != a0)
theorem zbn.calls (a0 : Int) (r : Bool) (w : World) (h : zbn.f a0 = some r) :
  Calls Try.prog 89 #[.int .i64 a0] w fun e w' => e = .returned (.bool r) ∧ zaE w w' := by
 have H : (some (a0 != a0)) = some r := h
 clear h
 obtain rfl := Option.some.inj H
 go_enter Try.func89, Try.ntmps89
 go_wp2
 go_ret
 exact ⟨by first | rfl | (simp; done) | (simp [*]; done), by repeat (first | exact zaE.refl _ | apply zaE.step)⟩

/-! ### zb7: function 77 -/
def zb7.f (a0 : Int) (a1 : Int) : Option (Int) := (zbn.f a0).bind fun t267 => ((zbn.f a1).bind fun t268 => (if t267 = true then (if t268 = true then (some 0) else (some (-1))) else (if t268 = true then (some 1) else (if a0 < a1 then (some (-1)) else (if a0 > a1 then (some 1) else (some 0))))))
theorem zb7.calls (a0 : Int) (a1 : Int) (r : Int) (w : World) (h : zb7.f a0 a1 = some r) :
  Calls Try.prog 77 #[.int .i64 a0, .int .i64 a1] w fun e w' => e = .returned (.int .i64 r) ∧ zaE w w' := by
 have H : ((zbn.f a0).bind fun t267 => ((zbn.f a1).bind fun t268 => (if t267 = true then (if t268 = true then (some 0) else (some (-1))) else (if t268 = true then (some 1) else (if a0 < a1 then (some (-1)) else (if a0 > a1 then (some 1) else (some 0))))))) = some r := h
 clear h
 obtain ⟨t267, A3, H⟩ := xI H
 obtain ⟨t268, A4, H⟩ := xI H
 by_cases c5 : t267 = true
 ·subst c5
  rw [if_pos rfl] at H
  by_cases c6 : t268 = true
  ·subst c6
   rw [if_pos rfl] at H
   obtain rfl := Option.some.inj H
   go_enter Try.func77, Try.ntmps77
   go_wp2_with (first | ((with_reducible refine zan (f := 89) rfl ?_); refine zaM (some 8) rfl rfl Try.func89 (by kernel_rfl) rfl #[.int .i64 a0] rfl xm ?_; (with_reducible refine (zbn.calls a0 true _ A3.out).mono ?_); rintro e w' ⟨rfl, ⟨nd, rfl⟩⟩; refine ⟨_, rfl, ?_⟩) | ((with_reducible refine zan (f := 89) rfl ?_); refine zaM (some 10) rfl rfl Try.func89 (by kernel_rfl) rfl #[.int .i64 a1] rfl xm ?_; (with_reducible refine (zbn.calls a1 true _ A4.out).mono ?_); rintro e w' ⟨rfl, ⟨nd, rfl⟩⟩; refine ⟨_, rfl, ?_⟩))
   go_ret
   exact ⟨by first | rfl | (simp; done) | (simp [*]; done), by repeat (first | exact zaE.refl _ | apply zaE.step)⟩
  ·replace c6 := Bool.eq_false_iff.mpr c6
   subst c6
   rw [if_neg (show ¬ (false = true) by decide)] at H
   obtain rfl := Option.some.inj H
   go_enter Try.func77, Try.ntmps77
   go_wp2_with (first | ((with_reducible refine zan (f := 89) rfl ?_); refine zaM (some 8) rfl rfl Try.func89 (by kernel_rfl) rfl #[.int .i64 a0] rfl xm ?_; (with_reducible refine (zbn.calls a0 true _ A3.out).mono ?_); rintro e w' ⟨rfl, ⟨nd, rfl⟩⟩; refine ⟨_, rfl, ?_⟩) | ((with_reducible refine zan (f := 89) rfl ?_); refine zaM (some 10) rfl rfl Try.func89 (by kernel_rfl) rfl #[.int .i64 a1] rfl xm ?_; (with_reducible refine (zbn.calls a1 false _ A4.out).mono ?_); rintro e w' ⟨rfl, ⟨nd, rfl⟩⟩; refine ⟨_, rfl, ?_⟩))
   go_ret
   exact ⟨by first | rfl | (simp; done) | (simp [*]; done), by repeat (first | exact zaE.refl _ | apply zaE.step)⟩
 ·replace c5 := Bool.eq_false_iff.mpr c5
  subst c5
  rw [if_neg (show ¬ (false = true) by decide)] at H
  by_cases c7 : t268 = true
  ·subst c7
   rw [if_pos rfl] at H
   obtain rfl := Option.some.inj H
   go_enter Try.func77, Try.ntmps77
   go_wp2_with (first | ((with_reducible refine zan (f := 89) rfl ?_); refine zaM (some 8) rfl rfl Try.func89 (by kernel_rfl) rfl #[.int .i64 a0] rfl xm ?_; (with_reducible refine (zbn.calls a0 false _ A3.out).mono ?_); rintro e w' ⟨rfl, ⟨nd, rfl⟩⟩; refine ⟨_, rfl, ?_⟩) | ((with_reducible refine zan (f := 89) rfl ?_); refine zaM (some 10) rfl rfl Try.func89 (by kernel_rfl) rfl #[.int .i64 a1] rfl xm ?_; (with_reducible refine (zbn.calls a1 true _ A4.out).mono ?_); rintro e w' ⟨rfl, ⟨nd, rfl⟩⟩; refine ⟨_, rfl, ?_⟩))
   go_ret
   exact ⟨by first | rfl | (simp; done) | (simp [*]; done), by repeat (first | exact zaE.refl _ | apply zaE.step)⟩
  ·replace c7 := Bool.eq_false_iff.mpr c7
   subst c7
   rw [if_neg (show ¬ (false = true) by decide)] at H
   by_cases c8 : a0 < a1
   ·rw [if_pos c8] at H
    have c8b0 := decide_eq_true c8
    clear c8
    obtain rfl := Option.some.inj H
    go_enter Try.func77, Try.ntmps77
    go_wp2_with (first | ((with_reducible refine zan (f := 89) rfl ?_); refine zaM (some 8) rfl rfl Try.func89 (by kernel_rfl) rfl #[.int .i64 a0] rfl xm ?_; (with_reducible refine (zbn.calls a0 false _ A3.out).mono ?_); rintro e w' ⟨rfl, ⟨nd, rfl⟩⟩; refine ⟨_, rfl, ?_⟩) | ((with_reducible refine zan (f := 89) rfl ?_); refine zaM (some 10) rfl rfl Try.func89 (by kernel_rfl) rfl #[.int .i64 a1] rfl xm ?_; (with_reducible refine (zbn.calls a1 false _ A4.out).mono ?_); rintro e w' ⟨rfl, ⟨nd, rfl⟩⟩; refine ⟨_, rfl, ?_⟩))
    go_ret
    exact ⟨by first | rfl | (simp; done) | (simp [*]; done), by repeat (first | exact zaE.refl _ | apply zaE.step)⟩
   ·rw [if_neg c8] at H
    have c8b0 := decide_eq_false c8
    clear c8
    by_cases c9 : a0 > a1
    ·rw [if_pos c9] at H
     have c9b0 : decide (a1 < a0) = true := decide_eq_true c9
     clear c9
     obtain rfl := Option.some.inj H
     go_enter Try.func77, Try.ntmps77
     go_wp2_with (first | ((with_reducible refine zan (f := 89) rfl ?_); refine zaM (some 8) rfl rfl Try.func89 (by kernel_rfl) rfl #[.int .i64 a0] rfl xm ?_; (with_reducible refine (zbn.calls a0 false _ A3.out).mono ?_); rintro e w' ⟨rfl, ⟨nd, rfl⟩⟩; refine ⟨_, rfl, ?_⟩) | ((with_reducible refine zan (f := 89) rfl ?_); refine zaM (some 10) rfl rfl Try.func89 (by kernel_rfl) rfl #[.int .i64 a1] rfl xm ?_; (with_reducible refine (zbn.calls a1 false _ A4.out).mono ?_); rintro e w' ⟨rfl, ⟨nd, rfl⟩⟩; refine ⟨_, rfl, ?_⟩))
     go_ret
     exact ⟨by first | rfl | (simp; done) | (simp [*]; done), by repeat (first | exact zaE.refl _ | apply zaE.step)⟩
    ·rw [if_neg c9] at H
     have c9b0 : decide (a1 < a0) = false := decide_eq_false c9
     clear c9
     obtain rfl := Option.some.inj H
     go_enter Try.func77, Try.ntmps77
     go_wp2_with (first | ((with_reducible refine zan (f := 89) rfl ?_); refine zaM (some 8) rfl rfl Try.func89 (by kernel_rfl) rfl #[.int .i64 a0] rfl xm ?_; (with_reducible refine (zbn.calls a0 false _ A3.out).mono ?_); rintro e w' ⟨rfl, ⟨nd, rfl⟩⟩; refine ⟨_, rfl, ?_⟩) | ((with_reducible refine zan (f := 89) rfl ?_); refine zaM (some 10) rfl rfl Try.func89 (by kernel_rfl) rfl #[.int .i64 a1] rfl xm ?_; (with_reducible refine (zbn.calls a1 false _ A4.out).mono ?_); rintro e w' ⟨rfl, ⟨nd, rfl⟩⟩; refine ⟨_, rfl, ?_⟩))
     go_ret
     exact ⟨by first | rfl | (simp; done) | (simp [*]; done), by repeat (first | exact zaE.refl _ | apply zaE.step)⟩

/-! ### zaz: function 55 -/
def zaz.l0 : Nat → List Int → List Int → List Int → Int → Int → Option (Int)
 | 0, _, _, _, _, _ => none
 | k + 1, x0, x1, x9, x10, x11 => if x11 < x10 then (if 0 ≤ x11 then (if x11 < (x9.length : Int) then (if x11 ≥ (x1.length : Int) then (some 1) else (if x11 < (x1.length : Int) then ((zb7.f (rd x9 x11) (rd x1 x11)).bind fun t271 => (if t271 = 0 then (zaz.l0 k x0 x1 x9 x10 (wrap64 (x11 + 1))) else (some t271))) else (none))) else (none)) else (none)) else (if (x0.length : Int) < (x1.length : Int) then (some (-1)) else (some 0))
def zaz.f (k : Nat) (l0 : List Int) (l1 : List Int) : Option (Int) := zaz.l0 k l0 l1 l0 (l0.length : Int) 0
theorem zaz.zaZ : ∀ k, (∀ y0 y1 y2 y3 y4, LeO (zaz.l0 k y0 y1 y2 y3 y4) (zaz.l0 (k + 1) y0 y1 y2 y3 y4))
 | 0 => fun _ _ _ _ _ r h => by simp [zaz.l0] at h
 | k + 1 => by
  have ih0 := zaz.zaZ k
  ·intro y0 y1 y2 y3 y4
   unfold zaz.l0
   repeat' with_reducible first | exact ih0 _ _ _ _ _ | exact xl | refine LeO.ite ?_ ?_ | refine LeO.bind ?_ fun _ => ?_
theorem zaz.mono : ∀ a0 a1 k, LeO (zaz.f k a0 a1) (zaz.f (k + 1) a0 a1) := by
 intro a0 a1 k
 have ih0 := zaz.zaZ k
 unfold zaz.f
 repeat' with_reducible first | exact ih0 _ _ _ _ _ | exact xl | refine LeO.ite ?_ ?_ | refine LeO.bind ?_ fun _ => ?_
theorem zaz.calls (k : Nat) (A0 : Option Addr) (c0 : Nat) (l0 : List Int) (A1 : Option Addr) (c1 : Nat) (l1 : List Int) (r : Int) (w : World) (hr0 : Kd.C (Kd.int .i64) w A0 l0.length l0) (hc0 : l0.length ≤ c0) (hr1 : Kd.C (Kd.int .i64) w A1 l1.length l1) (hc1 : l1.length ≤ c1) (h : zaz.f k l0 l1 = some r) :
  Calls Try.prog 55 #[.slice A0 l0.length c0, .slice A1 l1.length c1] w fun e w' => e = .returned (.int .i64 r) ∧ zaE w w' := by
 have HR0 := ax hr0
 have HC0 := ax hc0
 clear hr0 hc0
 have HR1 := ax hr1
 have HC1 := ax hc1
 clear hr1 hc1
 have H : (zaz.l0 k l0 l1 l0 (l0.length : Int) 0) = some r := h
 clear h
 have H' := ax H
 clear H
 go_enter Try.func55, Try.ntmps55
 go_wp2
 go_loopg [11] k (fun kq v11 w' => ∃ (x11_1 : Int), v11 = .int .i64 x11_1 ∧ zao (zaz.l0 kq l0 l1 l0 (l0.length : Int) x11_1 = some r) ∧ zao (kq ≤ k) ∧ zaE w w')
 case atStart => exact ⟨(0), xr, H', ⟨Nat.le_refl _⟩, by repeat (first | exact zaE.refl _ | apply zaE.step)⟩
 case round =>
  clear H'
  (try clear c1)
  obtain ⟨x11_1, rfl, HA, HK1, ⟨m1, rfl⟩⟩ := hrel
  cases gk with
  | zero => exact absurd HA.out (by simp [zaz.l0])
  | succ k1 =>
   have H := HA.out
   clear HA
   simp only [zaz.l0] at H
   by_cases c3 : x11_1 < (l0.length : Int)
   ·rw [if_pos c3] at H
    have c3b0 := decide_eq_true c3
    clear c3
    obtain ⟨c4b0, H⟩ := xq H
    obtain ⟨c5b0, H⟩ := xq H
    by_cases c6 : x11_1 ≥ (l1.length : Int)
    ·rw [if_pos c6] at H
     have c6b0 : decide ((l1.length : Int) ≤ x11_1) = true := decide_eq_true c6
     clear c6
     obtain rfl := Option.some.inj H
     have p269 : 0 ≤ (x11_1 : Int) := xd
     have q269 : x11_1 < (l0.length : Int) := xd
     obtain ⟨ad269, e269, hx269_0⟩ := Kd.zbK HR0.out x11_1 p269 q269
     cases e269
     replace p269 := eq_true p269
     replace q269 := eq_true q269
     go_wp2
     go_ret
     exact ⟨by first | rfl | (simp; done) | (simp [*]; done), by repeat (first | exact zaE.refl _ | apply zaE.step)⟩
    ·rw [if_neg c6] at H
     have c6b0 : decide ((l1.length : Int) ≤ x11_1) = false := decide_eq_false c6
     clear c6
     obtain ⟨c7b0, H⟩ := xq H
     obtain ⟨t271, A8, H⟩ := xI H
     by_cases c9 : t271 = 0
     ·rw [if_pos c9] at H
      have c9b0 : (t271 == 0) = true := beq_iff_eq.mpr c9
      have c9b1 : (t271 != 0) = false := bne_eq_false_iff_eq.mpr c9
      clear c9
      have H' := ax H
      clear H
      have p269 : 0 ≤ (x11_1 : Int) := xd
      have q269 : x11_1 < (l0.length : Int) := xd
      obtain ⟨ad269, e269, hx269_0⟩ := Kd.zbK HR0.out x11_1 p269 q269
      cases e269
      replace p269 := eq_true p269
      replace q269 := eq_true q269
      have p270 : 0 ≤ (x11_1 : Int) := xd
      have q270 : x11_1 < (l1.length : Int) := xd
      obtain ⟨ad270, e270, hx270_0⟩ := Kd.zbK HR1.out x11_1 p270 q270
      cases e270
      replace p270 := eq_true p270
      replace q270 := eq_true q270
      go_wp2_with (first | ((with_reducible refine zan (f := 77) rfl ?_); refine zaM (some 26) rfl rfl Try.func77 (by kernel_rfl) rfl #[.int .i64 (rd l0 x11_1), .int .i64 (rd l1 x11_1)] rfl xm ?_; (with_reducible refine (zb7.calls (rd l0 x11_1) (rd l1 x11_1) t271 _ A8.out).mono ?_); rintro e w' ⟨rfl, ⟨nd, rfl⟩⟩; refine ⟨_, rfl, ?_⟩))
      go_roundg k1
      case measure => have := HK1.out; omega
      case rel => exact ⟨(wrap64 (x11_1 + 1)), xr, H', ⟨by have := HK1.out; omega⟩, by repeat (first | exact zaE.refl _ | apply zaE.step)⟩
     ·rw [if_neg c9] at H
      have c9b0 : (t271 == 0) = false := beq_eq_false_iff_ne.mpr c9
      have c9b1 : (t271 != 0) = true := bne_iff_ne.mpr c9
      obtain rfl := Option.some.inj H
      have p269 : 0 ≤ (x11_1 : Int) := xd
      have q269 : x11_1 < (l0.length : Int) := xd
      obtain ⟨ad269, e269, hx269_0⟩ := Kd.zbK HR0.out x11_1 p269 q269
      cases e269
      replace p269 := eq_true p269
      replace q269 := eq_true q269
      have p270 : 0 ≤ (x11_1 : Int) := xd
      have q270 : x11_1 < (l1.length : Int) := xd
      obtain ⟨ad270, e270, hx270_0⟩ := Kd.zbK HR1.out x11_1 p270 q270
      cases e270
      replace p270 := eq_true p270
      replace q270 := eq_true q270
      go_wp2_with (first | ((with_reducible refine zan (f := 77) rfl ?_); refine zaM (some 26) rfl rfl Try.func77 (by kernel_rfl) rfl #[.int .i64 (rd l0 x11_1), .int .i64 (rd l1 x11_1)] rfl xm ?_; (with_reducible refine (zb7.calls (rd l0 x11_1) (rd l1 x11_1) t271 _ A8.out).mono ?_); rintro e w' ⟨rfl, ⟨nd, rfl⟩⟩; refine ⟨_, rfl, ?_⟩))
      go_ret
      exact ⟨by first | rfl | (simp; done) | (simp [*]; done), by repeat (first | exact zaE.refl _ | apply zaE.step)⟩
   ·rw [if_neg c3] at H
    have c3b0 := decide_eq_false c3
    clear c3
    by_cases c10 : (l0.length : Int) < (l1.length : Int)
    ·rw [if_pos c10] at H
     have c10b0 := decide_eq_true c10
     have c10b1 : decide (l0.length < l1.length) = true := decide_eq_true (Int.ofNat_lt.mp c10)
     clear c10
     obtain rfl := Option.some.inj H
     go_wp2
     go_ret
     exact ⟨by first | rfl | (simp; done) | (simp [*]; done), by repeat (first | exact zaE.refl _ | apply zaE.step)⟩
    ·rw [if_neg c10] at H
     have c10b0 := decide_eq_false c10
     have c10b1 : decide (l0.length < l1.length) = false := decide_eq_false (fun h => c10 (Int.ofNat_lt.mpr h))
     clear c10
     obtain rfl := Option.some.inj H
     go_wp2
     go_ret
     exact ⟨by first | rfl | (simp; done) | (simp [*]; done), by repeat (first | exact zaE.refl _ | apply zaE.step)⟩

/-! ### zaW: function 60 -/
def zaW.f (k : Nat) (l0_0 : List Int) (a0_1 : Int) (l1_0 : List Int) (a1_1 : Int) : Option (Int) := (zaz.f k l1_0 l0_0).bind fun t274 => (some t274)
theorem zaW.mono : ∀ a0 a1 a2 a3 k, LeO (zaW.f k a0 a1 a2 a3) (zaW.f (k + 1) a0 a1 a2 a3) := by
 intro a0 a1 a2 a3 k
 unfold zaW.f
 repeat' with_reducible first | exact zaz.mono _ _ _ | exact xl | refine LeO.ite ?_ ?_ | refine LeO.bind ?_ fun _ => ?_
theorem zaW.calls (k : Nat) (A0_0 : Option Addr) (c0_0 : Nat) (l0_0 : List Int) (a0_1 : Int) (A1_0 : Option Addr) (c1_0 : Nat) (l1_0 : List Int) (a1_1 : Int) (r : Int) (w : World) (hr0_0 : Kd.C (Kd.int .i64) w A0_0 l0_0.length l0_0) (hc0_0 : l0_0.length ≤ c0_0) (hr1_0 : Kd.C (Kd.int .i64) w A1_0 l1_0.length l1_0) (hc1_0 : l1_0.length ≤ c1_0) (h : zaW.f k l0_0 a0_1 l1_0 a1_1 = some r) :
  Calls Try.prog 60 #[.agg #[.slice A0_0 l0_0.length c0_0, .int .i64 a0_1], .agg #[.slice A1_0 l1_0.length c1_0, .int .i64 a1_1]] w fun e w' => e = .returned (.int .i64 r) ∧ Below w.heap.size w w' := by
 have hu48 := Try.underlying48
 have HR0_0 := ax hr0_0
 have HC0_0 := ax hc0_0
 clear hr0_0 hc0_0
 have HR1_0 := ax hr1_0
 have HC1_0 := ax hc1_0
 clear hr1_0 hc1_0
 have HB := ax (Below.refl w.heap.size w)
 have H : ((zaz.f k l1_0 l0_0).bind fun t274 => (some t274)) = some r := h
 clear h
 obtain ⟨t274, A3, H⟩ := xI H
 obtain rfl := Option.some.inj H
 go_enter Try.func60, Try.ntmps60
 go_wp2_with (first | ((with_reducible refine zaG (N := 2) rfl ?_); refine zaK ?hg (N := 2) ?hd (cs := #[.slice A0_0 l0_0.length c0_0, .int .i64 a0_1]) (t := 48) ?hr ?_; (case hd => rfl); (case hg => rfl); (case hr => first | (go_simp; done) | (go_simp; rfl)); intro gb272 hg w4 hbox hb; have BK272 := ax (hbox); have GW272 := ax ((by rw [hg]; exact (zaf (xb HB.out)) : w.heap.size ≤ gb272)); have GE272 := ax ((by rw [hg]; exact (zaf (xb HB.out)) : w.heap.size ≤ gb272)); replace HB := yB HB hb; clear hb hbox hg) | ((with_reducible refine zaG (N := 3) rfl ?_); refine zaK ?hg (N := 3) ?hd (cs := #[.slice A1_0 l1_0.length c1_0, .int .i64 a1_1]) (t := 48) ?hr ?_; (case hd => rfl); (case hg => rfl); (case hr => first | (go_simp; done) | (go_simp; rfl)); intro gb273 hg w5 hbox hb; have BK273 := ax (hbox); have GW273 := ax ((by rw [hg]; exact (zaf (xs HB.out GE272.out)) : w.heap.size ≤ gb273)); have GE273 := ax ((by rw [hg]; exact (zaf (xs HB.out GE272.out)) : w.heap.size ≤ gb273)); replace HB := ax (zat (xs HB.out GE272.out) hb); have NB272_273 := ax (bn hg BK272.out); have NB273_272 := ax (bm hg BK272.out); replace BK272 := ax (bb BK272.out hb); clear hb hbox hg; have hnb6 := NB273_272.out; have hnc6 := NB272_273.out; have hcz7_0 := bc0 BK273.out; have hcz7_1 := bc1 BK273.out; have hfz7_0 := zae BK273.out 0; have hfz7_1 := zae BK273.out 1; have hcz8_0 := bc0 BK272.out; have hcz8_1 := bc1 BK272.out; have hfz8_0 := zae BK272.out 0; have hfz8_1 := zae BK272.out 1) | ((with_reducible refine zan (f := 55) rfl ?_); refine zaM (some 9) rfl rfl Try.func55 (by kernel_rfl) rfl #[.slice A1_0 l1_0.length c1_0, .slice A0_0 l0_0.length c0_0] rfl xm ?_; (with_reducible refine (zaz.calls k _ _ l1_0 _ _ l0_0 t274 _ ?side1 ?side2 ?side3 ?side4 A3.out).mono ?_); (case side1 => exact xz HR1_0.out HB.out); (case side2 => exact HC1_0.out); (case side3 => exact xz HR0_0.out HB.out); (case side4 => exact HC0_0.out); rintro e w' ⟨rfl, ⟨nd, rfl⟩⟩; refine ⟨_, rfl, ?_⟩))
 go_ret
 exact ⟨xe, bh HB.out⟩

/-! ### zaB: function 61 -/
def zaB.l0 : Nat → List Int → List Int → Int → Int → Option (Bool)
 | 0, _, _, _, _ => none
 | k + 1, x0, x1, x12, x13 => if x13 < x12 then (if 0 ≤ x13 then (if x13 < (x0.length : Int) then (if x13 < (x1.length : Int) then (if (rd x0 x13) = (rd x1 x13) then (zaB.l0 k x0 x1 x12 (wrap64 (x13 + 1))) else (some false)) else (none)) else (none)) else (none)) else (some true)
def zaB.f (k : Nat) (l0 : List Int) (l1 : List Int) : Option (Bool) := if (l0.length : Int) = (l1.length : Int) then (zaB.l0 k l0 l1 (l0.length : Int) 0) else (some false)
theorem zaB.zaZ : ∀ k, (∀ y0 y1 y2 y3, LeO (zaB.l0 k y0 y1 y2 y3) (zaB.l0 (k + 1) y0 y1 y2 y3))
 | 0 => fun _ _ _ _ r h => by simp [zaB.l0] at h
 | k + 1 => by
  have ih0 := zaB.zaZ k
  ·intro y0 y1 y2 y3
   unfold zaB.l0
   repeat' with_reducible first | exact ih0 _ _ _ _ | exact xl | refine LeO.ite ?_ ?_ | refine LeO.bind ?_ fun _ => ?_
theorem zaB.mono : ∀ a0 a1 k, LeO (zaB.f k a0 a1) (zaB.f (k + 1) a0 a1) := by
 intro a0 a1 k
 have ih0 := zaB.zaZ k
 unfold zaB.f
 repeat' with_reducible first | exact ih0 _ _ _ _ | exact xl | refine LeO.ite ?_ ?_ | refine LeO.bind ?_ fun _ => ?_
theorem zaB.calls (k : Nat) (A0 : Option Addr) (c0 : Nat) (l0 : List Int) (A1 : Option Addr) (c1 : Nat) (l1 : List Int) (r : Bool) (w : World) (hr0 : Kd.C (Kd.int .i64) w A0 l0.length l0) (hc0 : l0.length ≤ c0) (hr1 : Kd.C (Kd.int .i64) w A1 l1.length l1) (hc1 : l1.length ≤ c1) (h : zaB.f k l0 l1 = some r) :
  Calls Try.prog 61 #[.slice A0 l0.length c0, .slice A1 l1.length c1] w fun e w' => e = .returned (.bool r) ∧ zaE w w' := by
 have HR0 := ax hr0
 have HC0 := ax hc0
 clear hr0 hc0
 have HR1 := ax hr1
 have HC1 := ax hc1
 clear hr1 hc1
 have H : (if (l0.length : Int) = (l1.length : Int) then (zaB.l0 k l0 l1 (l0.length : Int) 0) else (some false)) = some r := h
 clear h
 by_cases c3 : (l0.length : Int) = (l1.length : Int)
 ·rw [if_pos c3] at H
  have c3b0 : ((l0.length : Int) == (l1.length : Int)) = true := beq_iff_eq.mpr c3
  have c3b1 : ((l0.length : Int) != (l1.length : Int)) = false := bne_eq_false_iff_eq.mpr c3
  have c3b2 : (l0.length == l1.length) = true := by first | simpa using c3 | (simp at c3 ⊢; omega)
  clear c3
  have H' := ax H
  clear H
  go_enter Try.func61, Try.ntmps61
  go_wp2
  repeat (go_quiet (fail); try go_wp2)
  go_loopg [13] k (fun kq v13 w' => ∃ (x13_1 : Int), v13 = .int .i64 x13_1 ∧ zao (zaB.l0 kq l0 l1 (l0.length : Int) x13_1 = some r) ∧ zao (kq ≤ k) ∧ zaE w w')
  case atStart => exact ⟨(0), xr, H', ⟨Nat.le_refl _⟩, by repeat (first | exact zaE.refl _ | apply zaE.step)⟩
  case round =>
   clear H'
   (try clear c1); (try clear c3); (try clear c3b0); (try clear c3b1); (try clear c3b2)
   obtain ⟨x13_1, rfl, HA, HK1, ⟨m1, rfl⟩⟩ := hrel
   cases gk with
   | zero => exact absurd HA.out (by simp [zaB.l0])
   | succ k1 =>
    have H := HA.out
    clear HA
    simp only [zaB.l0] at H
    by_cases c4 : x13_1 < (l0.length : Int)
    ·rw [if_pos c4] at H
     have c4b0 := decide_eq_true c4
     clear c4
     obtain ⟨c5b0, H⟩ := xq H
     obtain ⟨c6b0, H⟩ := xq H
     obtain ⟨c7b0, H⟩ := xq H
     by_cases c8 : (rd l0 x13_1) = (rd l1 x13_1)
     ·rw [if_pos c8] at H
      have c8b0 : ((rd l0 x13_1) == (rd l1 x13_1)) = true := beq_iff_eq.mpr c8
      have c8b1 : ((rd l0 x13_1) != (rd l1 x13_1)) = false := bne_eq_false_iff_eq.mpr c8
      clear c8
      have H' := ax H
      clear H
      have p275 : 0 ≤ (x13_1 : Int) := xd
      have q275 : x13_1 < (l0.length : Int) := xd
      obtain ⟨ad275, e275, hx275_0⟩ := Kd.zbK HR0.out x13_1 p275 q275
      cases e275
      replace p275 := eq_true p275
      replace q275 := eq_true q275
      have p276 : 0 ≤ (x13_1 : Int) := xd
      have q276 : x13_1 < (l1.length : Int) := xd
      obtain ⟨ad276, e276, hx276_0⟩ := Kd.zbK HR1.out x13_1 p276 q276
      cases e276
      replace p276 := eq_true p276
      replace q276 := eq_true q276
      go_wp2
      repeat (go_quiet (fail); try go_wp2)
      go_roundg k1
      case measure => have := HK1.out; omega
      case rel => exact ⟨(wrap64 (x13_1 + 1)), xr, H', ⟨by have := HK1.out; omega⟩, by repeat (first | exact zaE.refl _ | apply zaE.step)⟩
     ·rw [if_neg c8] at H
      have c8b0 : ((rd l0 x13_1) == (rd l1 x13_1)) = false := beq_eq_false_iff_ne.mpr c8
      have c8b1 : ((rd l0 x13_1) != (rd l1 x13_1)) = true := bne_iff_ne.mpr c8
      obtain rfl := Option.some.inj H
      have p275 : 0 ≤ (x13_1 : Int) := xd
      have q275 : x13_1 < (l0.length : Int) := xd
      obtain ⟨ad275, e275, hx275_0⟩ := Kd.zbK HR0.out x13_1 p275 q275
      cases e275
      replace p275 := eq_true p275
      replace q275 := eq_true q275
      have p276 : 0 ≤ (x13_1 : Int) := xd
      have q276 : x13_1 < (l1.length : Int) := xd
      obtain ⟨ad276, e276, hx276_0⟩ := Kd.zbK HR1.out x13_1 p276 q276
      cases e276
      replace p276 := eq_true p276
      replace q276 := eq_true q276
      go_wp2
      repeat (go_quiet (fail); try go_wp2)
      go_ret
      exact ⟨by first | rfl | (simp; done) | (simp [*]; done), by repeat (first | exact zaE.refl _ | apply zaE.step)⟩
    ·rw [if_neg c4] at H
     have c4b0 := decide_eq_false c4
     clear c4
     obtain rfl := Option.some.inj H
     go_wp2
     repeat (go_quiet (fail); try go_wp2)
     go_ret
     exact ⟨by first | rfl | (simp; done) | (simp [*]; done), by repeat (first | exact zaE.refl _ | apply zaE.step)⟩
 ·rw [if_neg c3] at H
  have c3b0 : ((l0.length : Int) == (l1.length : Int)) = false := beq_eq_false_iff_ne.mpr c3
  have c3b1 : ((l0.length : Int) != (l1.length : Int)) = true := bne_iff_ne.mpr c3
  have c3b2 : (l0.length == l1.length) = false := by first | simpa using c3 | (simp at c3 ⊢; omega)
  obtain rfl := Option.some.inj H
  go_enter Try.func61, Try.ntmps61
  go_wp2
  repeat (go_quiet (fail); try go_wp2)
  go_ret
  exact ⟨by first | rfl | (simp; done) | (simp [*]; done), by repeat (first | exact zaE.refl _ | apply zaE.step)⟩

-- NOT PRINTED: function 80 (slices_IndexFunc_Mono)

-- NOT PRINTED: function 62 (slices_DeleteFunc_Mono)

/-! ### zbJ: function 63 -/
def zbJ.f (l0_0 : List Int) (a0_1 : Int) : Option (Bool) := some (a0_1 == 0)
theorem zbJ.calls (A0_0 : Option Addr) (c0_0 : Nat) (l0_0 : List Int) (a0_1 : Int) (r : Bool) (w : World) (hr0_0 : Kd.C (Kd.int .i64) w A0_0 l0_0.length l0_0) (hc0_0 : l0_0.length ≤ c0_0) (h : zbJ.f l0_0 a0_1 = some r) :
  Calls Try.prog 63 #[.agg #[.slice A0_0 l0_0.length c0_0, .int .i64 a0_1]] w fun e w' => e = .returned (.bool r) ∧ Below w.heap.size w w' := by
 have hu48 := Try.underlying48
 have HR0_0 := ax hr0_0
 have HC0_0 := ax hc0_0
 clear hr0_0 hc0_0
 have HB := ax (Below.refl w.heap.size w)
 have H : (some (a0_1 == 0)) = some r := h
 clear h
 obtain rfl := Option.some.inj H
 go_enter Try.func63, Try.ntmps63
 go_wp2_with (first | ((with_reducible refine zaG (N := 1) rfl ?_); refine zaK ?hg (N := 1) ?hd (cs := #[.slice A0_0 l0_0.length c0_0, .int .i64 a0_1]) (t := 48) ?hr ?_; (case hd => rfl); (case hg => rfl); (case hr => first | (go_simp; done) | (go_simp; rfl)); intro gb277 hg w2 hbox hb; have BK277 := ax (hbox); have GW277 := ax ((by rw [hg]; exact (zaf (xb HB.out)) : w.heap.size ≤ gb277)); have GE277 := ax ((by rw [hg]; exact (zaf (xb HB.out)) : w.heap.size ≤ gb277)); replace HB := yB HB hb; clear hb hbox hg; have hcz3_0 := bc0 BK277.out; have hcz3_1 := bc1 BK277.out; have hfz3_0 := zae BK277.out 0; have hfz3_1 := zae BK277.out 1))
 go_ret
 exact ⟨xe, xs HB.out GE277.out⟩

end Go.Proofs.Ytneipehcmmigeaa.PFnExactSchurPoly
