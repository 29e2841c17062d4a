import Derived.Test.YtopmggldaicpaaaPFnCoresx2
namespace Go.Proofs.Ytopmggldaicpaaa.PFnCores
open Go.RowKit Go.Proofs.YtopmggldaicpaaaW.PrintWords Go.Proofs.YtopmggldaicpaaaW.PrintLast Go.Proofs.YtopmggldaicpaaaW.PrintMore
set_option linter.unusedVariables false
set_option linter.unusedSimpArgs false
set_option maxHeartbeats 8000000
set_option maxRecDepth 100000
/-! ### impl_BetaNumbers: function 10 -/
mutual
def impl_BetaNumbers.j0 : Nat → List Int → Int → Bool → Option (List Int)
 | 0, _, _, _ => none
 | k + 1, x0, x1, x16 => if x16 = true then (some ([] : List Int)) else (impl_BetaNumbers.l0 k x0 x1 (([] : List Int)) x1 0)
def impl_BetaNumbers.l0 : Nat → List Int → Int → List Int → Int → Int → Option (List Int)
 | 0, _, _, _, _, _ => none
 | k + 1, x0, x1, x5, x18, x19 => if x19 < x18 then ((impl_at.f x0 x19).bind fun t305 => (if x5.length < 17592186044416 then (impl_BetaNumbers.l0 k x0 x1 (x5 ++ [wrap64 ((wrap64 ((wrap64 (t305 + x1)) - 1)) - x19)]) x18 (wrap64 (x19 + 1))) else (none))) else (some x5)
end
def impl_BetaNumbers.f (k : Nat) (l0 : List Int) (a1 : Int) : Option (List Int) := (impl_IsPartition.f k l0).bind fun t300 => (if t300 = true then ((impl_within.f a1 (l0.length : Int) 18).bind fun t301 => (impl_BetaNumbers.j0 k l0 a1 (!t301))) else (impl_BetaNumbers.j0 k l0 a1 true))
theorem impl_BetaNumbers.mono_l : ∀ k, (∀ y0 y1 y2, LeO (impl_BetaNumbers.j0 k y0 y1 y2) (impl_BetaNumbers.j0 (k + 1) y0 y1 y2)) ∧ (∀ y0 y1 y2 y3 y4, LeO (impl_BetaNumbers.l0 k y0 y1 y2 y3 y4) (impl_BetaNumbers.l0 (k + 1) y0 y1 y2 y3 y4))
 | 0 => ⟨fun _ _ _ r h => by simp [impl_BetaNumbers.j0] at h, fun _ _ _ _ _ r h => by simp [impl_BetaNumbers.l0] at h⟩
 | k + 1 => by
  obtain ⟨ih0, ih1⟩ := impl_BetaNumbers.mono_l k
  refine ⟨?_, ?_⟩
  ·intro y0 y1 y2
   unfold impl_BetaNumbers.j0
   repeat' with_reducible first | exact ih0 _ _ _ | exact ih1 _ _ _ _ _ | exact impl_IsPartition.mono _ _ | exact xl | refine LeO.ite ?_ ?_ | refine LeO.bind ?_ fun _ => ?_
  ·intro y0 y1 y2 y3 y4
   unfold impl_BetaNumbers.l0
   repeat' with_reducible first | exact ih0 _ _ _ | exact ih1 _ _ _ _ _ | exact impl_IsPartition.mono _ _ | exact xl | refine LeO.ite ?_ ?_ | refine LeO.bind ?_ fun _ => ?_
theorem impl_BetaNumbers.mono : ∀ a0 a1 k, LeO (impl_BetaNumbers.f k a0 a1) (impl_BetaNumbers.f (k + 1) a0 a1) := by
 intro a0 a1 k
 obtain ⟨ih0, ih1⟩ := impl_BetaNumbers.mono_l k
 unfold impl_BetaNumbers.f
 repeat' with_reducible first | exact ih0 _ _ _ | exact ih1 _ _ _ _ _ | exact impl_IsPartition.mono _ _ | exact xl | refine LeO.ite ?_ ?_ | refine LeO.bind ?_ fun _ => ?_
theorem impl_BetaNumbers.calls (k : Nat) (A0 : Option Addr) (c0 : Nat) (l0 : List Int) (a1 : Int) (r : List Int) (w : World) (hr0 : Kd.C (Kd.int .i64) w A0 l0.length l0) (hc0 : l0.length ≤ c0) (h : impl_BetaNumbers.f k l0 a1 = some r) :
  Calls Try.prog 10 #[.slice A0 l0.length c0, .int .i64 a1] w fun e w' => ∃ v0_ : Value, e = .returned (v0_) ∧ Kd.R (Kd.int .i64) 3 w' w.heap.size (fun _ => True) v0_ r ∧ Below w.heap.size w w' := by
 have HR0 := ax hr0
 have HC0 := ax hc0
 clear hr0 hc0
 have HB := ax (Below.refl w.heap.size w)
 have H : ((impl_IsPartition.f k l0).bind fun t300 => (if t300 = true then ((impl_within.f a1 (l0.length : Int) 18).bind fun t301 => (impl_BetaNumbers.j0 k l0 a1 (!t301))) else (impl_BetaNumbers.j0 k l0 a1 true))) = some r := h
 clear h
 have HC3 := ax H
 clear H
 go_enter Try.func10, Try.ntmps10
 go_upto_region 1 with (fail)
 go_cut [16] (fun v16 wc => ∃ (kq : Nat) (x16_2 : Bool), v16 = .bool x16_2 ∧ Aside0 (impl_BetaNumbers.j0 kq l0 a1 x16_2 = some r) ∧ Aside0 (kq ≤ k) ∧ Aside0 (Below w.heap.size w wc))
 case first =>
  have H := HC3.out
  clear HC3
  obtain ⟨t300, A4, H⟩ := xI H
  by_cases c5 : t300 = true
  ·subst c5
   rw [if_pos rfl] at H
   obtain ⟨t301, A6, H⟩ := xI H
   have H' := ax H
   clear H
   go_wp2_with (first | ((with_reducible refine gate_callee (f := 26) rfl ?_); refine goesL_ (some 8) rfl rfl Try.func26 (by kernel_rfl) rfl #[.slice A0 l0.length c0] rfl xm ?_; (with_reducible refine (impl_IsPartition.calls k _ _ l0 true _ ?side1 ?side2 A4.out).mono ?_); (case side1 => exact xz HR0.out HB.out); (case side2 => exact HC0.out); rintro e w' ⟨rfl, ⟨nd, rfl⟩⟩; refine ⟨_, rfl, ?_⟩) | (go_at_call 27; (with_reducible refine (impl_within.calls a1 (l0.length : Int) 18 t301 _ A6.out).mono ?_); rintro e w' ⟨rfl, ⟨nd, rfl⟩⟩))
   go_meet
   case rel => exact ⟨_, (!t301), xr, H', ⟨by first | omega | exact Nat.le_refl _⟩, ⟨xb HB.out⟩⟩
  ·replace c5 := Bool.eq_false_iff.mpr c5
   subst c5
   rw [if_neg (show ¬ (false = true) by decide)] at H
   have H' := ax H
   clear H
   go_wp2_with (first | ((with_reducible refine gate_callee (f := 26) rfl ?_); refine goesL_ (some 8) rfl rfl Try.func26 (by kernel_rfl) rfl #[.slice A0 l0.length c0] rfl xm ?_; (with_reducible refine (impl_IsPartition.calls k _ _ l0 false _ ?side1 ?side2 A4.out).mono ?_); (case side1 => exact xz HR0.out HB.out); (case side2 => exact HC0.out); rintro e w' ⟨rfl, ⟨nd, rfl⟩⟩; refine ⟨_, rfl, ?_⟩))
   go_meet
   case rel => exact ⟨_, (true), xr, H', ⟨by first | omega | exact Nat.le_refl _⟩, ⟨xb HB.out⟩⟩
 case rest =>
  clear HC3
  (try clear c5)
  obtain ⟨kq, x16_2, rfl, HA, HJ2, HB⟩ := hcut
  cases kq with
  | zero => exact absurd HA.out (by simp [impl_BetaNumbers.j0])
  | succ kj2 =>
   have H := HA.out
   clear HA
   simp only [impl_BetaNumbers.j0] at H
   by_cases c7 : x16_2 = true
   ·subst c7
    rw [if_pos rfl] at H
    obtain rfl := Option.some.inj H
    go_wp2
    go_ret
    exact ⟨_, xe, by first | exact Kd.R_nil _ _ _ _ _ | exact Kd.N_nil _ _ _ _ _ | exact Kd.V_nil _ _ _ _ _ | exact Kd.Q_nil _ _ _ _ _ | exact Kd.S_nil _ _ _ _ _, xb HB.out⟩
   ·replace c7 := Bool.eq_false_iff.mpr c7
    subst c7
    rw [if_neg (show ¬ (false = true) by decide)] at H
    obtain ⟨y302, hy302⟩ : ∃ y_ : List Int, y_ = (([] : List Int)) := ⟨_, rfl⟩
    replace H : (impl_BetaNumbers.l0 kj2 l0 a1 y302 a1 0) = some r := xv hy302 H
    have Ny302 := ax hy302
    clear hy302
    have H' := ax H
    clear H
    go_wp2_with (first | ((with_reducible refine gate_dst (N := 17) rfl ?_); (try (refine gate_guard (by rfl) ?_; dsimp only)); refine Kd.R_lit (Kd.int .i64) _ 3 ?hg (N := 17) ?hd (xs := ([] : List Int)) (inner := []) (ok := fun _ => True) (okp := fun _ => True) ?hr ?hp (fun _ hk => hk) trivial (Below.refl _ _) (Nat.le_refl _) (by simp) ?_; (case hd => rfl); (case hg => rfl); (case hr => first | (go_simp; done) | (go_simp; rfl)); (case hp => exact (Reps.none _ _)); intro v303 w8 ho9 hb hg_ hnew_; clear hg_ hnew_; (first | rw [← Ny302.out] at ho9 | (simp only [Int.reduceToNat] at ho9; rw [← Ny302.out] at ho9)); have HO304 := ax (Kd.R_lower ho9 (below_size (xb HB.out))); replace HB := yB HB hb; clear hb ho9))
    go_loopg [5, 19] kj2 (fun kq v5 v19 w' => ∃ (x5_2 : List Int) (x19_2 : Int), v19 = .int .i64 x19_2 ∧ Aside0 (impl_BetaNumbers.l0 kq l0 a1 x5_2 a1 x19_2 = some r) ∧ Aside0 (kq ≤ kj2) ∧ Aside0 (Kd.R (Kd.int .i64) 3 w' w.heap.size (fun _ => True) v5 x5_2) ∧ Aside0 (Below w.heap.size w w'))
    case atStart => exact ⟨(y302), (0), xr, H', ⟨Nat.le_refl _⟩, ⟨xR HO304.out⟩, ⟨xb HB.out⟩⟩
    case round =>
     clear H'
     (try clear c5); (try clear c7)
     obtain ⟨x5_2, x19_2, rfl, HA, HK2, HO_5, HB⟩ := hrel
     cases gk with
     | zero => exact absurd HA.out (by simp [impl_BetaNumbers.l0])
     | succ k2 =>
      have H := HA.out
      clear HA
      simp only [impl_BetaNumbers.l0] at H
      by_cases c10 : x19_2 < a1
      ·rw [if_pos c10] at H
       have c10b0 := decide_eq_true c10
       clear c10
       obtain ⟨t305, A11, H⟩ := xI H
       obtain ⟨c12, H⟩ := xp H
       have LMc12 := ax c12
       clear c12
       obtain ⟨y306, hy306⟩ : ∃ y_ : List Int, y_ = (x5_2 ++ [wrap64 ((wrap64 ((wrap64 (t305 + a1)) - 1)) - x19_2)]) := ⟨_, rfl⟩
       replace H : (impl_BetaNumbers.l0 k2 l0 a1 y306 a1 (wrap64 (x19_2 + 1))) = some r := xv hy306 H
       have Ny306 := ax hy306
       clear hy306
       have H' := ax H
       clear H
       go_wp2_with (first | ((with_reducible refine gate_callee (f := 33) rfl ?_); refine goesL_ (some 25) rfl rfl Try.func33 (by kernel_rfl) rfl #[.slice A0 l0.length c0, .int .i64 x19_2] rfl xm ?_; (with_reducible refine (impl_at.calls _ _ l0 x19_2 t305 _ ?side1 ?side2 A11.out).mono ?_); (case side1 => exact xz HR0.out HB.out); (case side2 => exact HC0.out); rintro e w' ⟨rfl, ⟨nd, rfl⟩⟩; refine ⟨_, rfl, ?_⟩) | ((with_reducible refine gate_builtin (b := .append) (xs := #[.tmp 22, .tmp 31]) rfl ?_); (try (refine gate_guard (by rfl) ?_; dsimp only)); at_builtin; refine Kd.R_append (Kd.int .i64) (w0 := w) w.heap.size rfl (.tmp 22) (.tmp 31) 24 3 (.int .i64 0) 8 rfl Try.underlying24 info3 rfl (by decide) (by omega) u5 x5_2 (wrap64 ((wrap64 ((wrap64 (t305 + a1)) - 1)) - x19_2)) [.int .i64 (wrap64 ((wrap64 ((wrap64 (t305 + a1)) - 1)) - x19_2))] (fun _ => True) (fun _ => False) rfl rfl ?aP (fun _ hk => hk.elim) ?aF ?aO ?aB ?aS ?aL ?_; (case aP => exact rfl); (case aB => exact (xb HB.out)); (case aF => exact (fun _ _ => trivial)); (case aO => exact (xR HO_5.out)); (case aS => exact (below_size (xb HB.out))); (case aL => have := LMc12.out; omega); intro v307 w13 ho hb hg hat; rw [← Ny306.out] at ho; have n0_ := ax (hb); have n1_ := ax (ho); clear HB; clear HO_5; have HB := n0_; have HO308 := n1_; clear n0_ n1_; clear ho hb hg hat))
       go_roundg k2
       case measure => have := HJ2.out; have := HK2.out; omega
       case rel => exact ⟨(y306), (wrap64 (x19_2 + 1)), xr, H', ⟨by have := HJ2.out; have := HK2.out; omega⟩, ⟨xR HO308.out⟩, ⟨xb HB.out⟩⟩
      ·rw [if_neg c10] at H
       have c10b0 := decide_eq_false c10
       clear c10
       obtain rfl := Option.some.inj H
       go_wp2
       go_ret
       exact ⟨_, xe, xR HO_5.out, xb HB.out⟩

/-! ### slices_Clip_int_int: function 50 -/
def slices_Clip_int_int.f (l0 : List Int) : Option (List Int) := some l0
theorem slices_Clip_int_int.cut (A : Option Addr) (n c : Nat) (hc : n ≤ c) : ∀ W : World, (Instr.slice 24 (.slice A n c) none (some (.int .i64 (n : Int))) (some (.int .i64 (n : Int)))).run Try.prog W = .ok (.slice A n n) W := by
 intro W
 obtain ⟨i0, hi0, _, hsz, _⟩ := info_parts info3
 have ht : Try.prog.underlying 24 = some (.slice 3) := Try.underlying24
 have hel : Try.prog.elem 24 = 3 := by simp [Program.elem, ht]
 have hu : Try.prog.underlying 24 = some (.slice (Try.prog.elem 24)) := by rw [hel]; exact ht
 have ha : (A.map fun x => x.add 0) = A := by cases A <;> simp [Addr.add]
 have h2 : (n : Int) ≤ (c : Int) := by omega
 simp [Instr.slice, run_underlying hu, Instr.sliceBounds, run_sliceBound, sliced, hel, sizeOf, typeInfo, hi0, Result.andThen, ha, h2]
set_option maxHeartbeats 8000000 in
theorem slices_Clip_int_int.calls (P0_ : Nat → Prop) (u9000_ : Value) (l0 : List Int) (r : List Int) (w0 w : World) (hB : Below w0.heap.size w0 w) (ho0 : Kd.Q ((Kd.int .i64)) 3 w w0.heap.size P0_ u9000_ l0) (h : slices_Clip_int_int.f l0 = some r) :
  Calls Try.prog 50 #[u9000_] w fun e w' => ∃ v0_ : Value, e = .returned (v0_) ∧ Kd.Q ((Kd.int .i64)) 3 w' w0.heap.size (fun k_ => (P0_ k_ ∨ w.heap.size ≤ k_)) v0_ r ∧ Below w0.heap.size w0 w' ∧ Kept w w' (fun k_ => P0_ k_) := by
 have hr : l0 = r := by simpa [slices_Clip_int_int.f] using h
 subst hr
 obtain ⟨A, c, rfl, hlc⟩ := Kd.Q_slice ho0
 have hQ := ax (Kd.Q_mono (Kd.Q_clip ho0) (ok' := fun k_ => (P0_ k_ ∨ w.heap.size ≤ k_)) (fun _ hk => .inl hk))
 have HB := ax hB
 have hcut := slices_Clip_int_int.cut A l0.length c hlc
 clear ho0 hB h
 go_enter Try.func50, Try.ntmps50
 go_wp2
 go_ret
 exact ⟨_, rfl, hQ.out, HB.out, Kept.refl _ _⟩


/-! ### impl_trimmed: function 35 -/
def impl_trimmed.l0 : Nat → List Int → Option (List Int)
 | 0, _ => none
 | k + 1, x0 => if (x0.length : Int) > 0 then (if 0 ≤ (wrap64 ((x0.length : Int) - 1)) then (if (wrap64 ((x0.length : Int) - 1)) < (x0.length : Int) then (if (rd x0 (wrap64 ((x0.length : Int) - 1))) = 0 then (if (wrap64 ((x0.length : Int) - 1)) ≤ (x0.length : Int) then (impl_trimmed.l0 k (x0.take ((wrap64 ((x0.length : Int) - 1)) : Int).toNat)) else (none)) else ((slices_Clip_int_int.f x0).bind fun t313 => (some t313))) else (none)) else (none)) else ((slices_Clip_int_int.f x0).bind fun t316 => (some t316))
def impl_trimmed.f (k : Nat) (l0 : List Int) : Option (List Int) := impl_trimmed.l0 k l0
theorem impl_trimmed.mono_l : ∀ k, (∀ y0, LeO (impl_trimmed.l0 k y0) (impl_trimmed.l0 (k + 1) y0))
 | 0 => fun _ r h => by simp [impl_trimmed.l0] at h
 | k + 1 => by
  have ih0 := impl_trimmed.mono_l k
  ·intro y0
   unfold impl_trimmed.l0
   repeat' with_reducible first | exact ih0 _ | exact xl | refine LeO.ite ?_ ?_ | refine LeO.bind ?_ fun _ => ?_
theorem impl_trimmed.mono : ∀ a0 k, LeO (impl_trimmed.f k a0) (impl_trimmed.f (k + 1) a0) := by
 intro a0 k
 have ih0 := impl_trimmed.mono_l k
 unfold impl_trimmed.f
 repeat' with_reducible first | exact ih0 _ | exact xl | refine LeO.ite ?_ ?_ | refine LeO.bind ?_ fun _ => ?_
theorem impl_trimmed.calls (k : Nat) (P0_ : Nat → Prop) (u9000_ : Value) (l0 : List Int) (r : List Int) (w0 w : World) (hB : Below w0.heap.size w0 w) (ho0 : Kd.Q (Kd.int .i64) 3 w w0.heap.size P0_ u9000_ l0) (h : impl_trimmed.f k l0 = some r) :
  Calls Try.prog 35 #[u9000_] w fun e w' => ∃ v0_ : Value, e = .returned (v0_) ∧ Kd.Q (Kd.int .i64) 3 w' w0.heap.size (fun k_ => (P0_ k_ ∨ w.heap.size ≤ k_)) v0_ r ∧ Below w0.heap.size w0 w' ∧ Kept w w' (fun k_ => P0_ k_) := by
 have HO0 := ax (show Kd.Q (Kd.int .i64) 3 w w0.heap.size (fun k_ => (P0_ k_ ∨ w.heap.size ≤ k_)) u9000_ l0 from Kd.Q_mono ho0 (fun k_ hk => (.inl hk)))
 have HK := ax (Kept.refl w (fun k_ => P0_ k_))
 have HW0 := ax hB.size
 have HB := ax hB
 clear hB
 have H : (impl_trimmed.l0 k l0) = some r := h
 clear h
 have H' := ax H
 clear H
 go_enter Try.func35, Try.ntmps35
 go_wp2
 go_loopg [0] k (fun kq v0 w' => ∃ (x0_1 : List Int), Aside0 (impl_trimmed.l0 kq x0_1 = some r) ∧ Aside0 (kq ≤ k) ∧ Aside0 (Kd.Q (Kd.int .i64) 3 w' w0.heap.size (fun k_ => (P0_ k_ ∨ w.heap.size ≤ k_)) v0 x0_1) ∧ Aside0 (Kept w w' (fun k_ => P0_ k_)) ∧ Aside0 (Below w0.heap.size w0 w'))
 case atStart => exact ⟨(l0), H', ⟨Nat.le_refl _⟩, ⟨xQ HO0.out⟩, ⟨by repeat (first | (with_reducible first | exact HK.out | apply Kept.alloc | apply Kept.drewN | apply Kept.drew) | exact HK.out)⟩, ⟨xb HB.out⟩⟩
 case round =>
  clear H'
  obtain ⟨x0_1, HA, HK1, HO_0, HK, HB⟩ := hrel
  cases gk with
  | zero => exact absurd HA.out (by simp [impl_trimmed.l0])
  | succ k1 =>
   have H := HA.out
   clear HA
   simp only [impl_trimmed.l0] at H
   by_cases c2 : (x0_1.length : Int) > 0
   ·rw [if_pos c2] at H
    have c2b0 : decide (0 < (x0_1.length : Int)) = true := decide_eq_true c2
    have c2b1 : decide (0 < x0_1.length) = true := decide_eq_true (by omega)
    clear c2
    obtain ⟨ji3, hji3⟩ : ∃ j_ : Int, (wrap64 ((x0_1.length : Int) - 1)) = j_ := ⟨_, rfl⟩
    replace H : (if 0 ≤ (ji3) then (if (ji3) < (x0_1.length : Int) then (if (rd x0_1 (ji3)) = 0 then (if (ji3) ≤ (x0_1.length : Int) then (impl_trimmed.l0 k1 (x0_1.take ((ji3) : Int).toNat)) else (none)) else ((slices_Clip_int_int.f x0_1).bind fun t313 => (some t313))) else (none)) else (none)) = some r := by first | (rw [hji3] at H; exact H) | (simp only [hji3] at H ⊢; exact H)
    have hji3w : (IntKind.i64.wrap ((x0_1.length : Int) - 1)) = ji3 := (i64_w _).trans hji3
    obtain ⟨c4b0, H⟩ := xq H
    obtain ⟨c5b0, H⟩ := xq H
    by_cases c6 : (rd x0_1 (ji3)) = 0
    ·rw [if_pos c6] at H
     have c6b0 : ((rd x0_1 (ji3)) == 0) = true := beq_iff_eq.mpr c6
     have c6b1 : ((rd x0_1 (ji3)) != 0) = false := bne_eq_false_iff_eq.mpr c6
     clear c6
     obtain ⟨c7, H⟩ := xp H
     have c7b0 := eq_true c7
     have c7b1 := decide_eq_true c7
     clear c7
     obtain ⟨y310, hy310⟩ : ∃ y_ : List Int, y_ = (x0_1.take ((ji3) : Int).toNat) := ⟨_, rfl⟩
     replace H : (impl_trimmed.l0 k1 y310) = some r := xv hy310 H
     have Ny310 := ax hy310
     clear hy310
     have H' := ax H
     clear H
     obtain ⟨Ao8, co8, eo8, _⟩ := Kd.Q_slice HO_0.out
     subst eo8
     have p309 : 0 ≤ ((ji3) : Int) := xd
     have q309 : (ji3) < (x0_1.length : Int) := xd
     obtain ⟨ad309, e309, hx309_0⟩ := Kd.at_int (Kd.Q_reads' HO_0.out).2.2 (ji3) p309 q309
     cases e309
     replace p309 := eq_true p309
     replace q309 := eq_true q309
     have q9 : ((ji3) : Int) ≤ ((x0_1.length : Int) : Int) := xd
     obtain ⟨i09, hi09, _, hsz9, _⟩ := info_parts info3
     have hcut9 := cut_to (P := Try.prog) 24 3 .i64 Try.underlying24 hi09 (some ad309) x0_1.length co8 (ji3) (xd) q9 (Kd.Q_reads' HO_0.out).2.1
     have hr9 := Kd.Q_take (m := ((ji3) : Int).toNat) HO_0.out (by omega)
     have hy9 : y310.length = ((ji3) : Int).toNat := (by rw [Ny310.out, List.length_take]; omega)
     rw [← Ny310.out] at hr9
     rw [← hy9] at hr9 hcut9
     clear hy9 hi09 hsz9 HO_0
     have HO312 := ax hr9
     clear hr9
     replace q9 := eq_true q9
     go_wp2
     go_roundg k1
     case measure => have := HK1.out; omega
     case rel => exact ⟨(y310), H', ⟨by have := HK1.out; omega⟩, ⟨xQ HO312.out⟩, ⟨by repeat (first | (with_reducible first | exact HK.out | apply Kept.alloc | apply Kept.drewN | apply Kept.drew) | exact HK.out)⟩, ⟨xb HB.out⟩⟩
    ·rw [if_neg c6] at H
     have c6b0 : ((rd x0_1 (ji3)) == 0) = false := beq_eq_false_iff_ne.mpr c6
     have c6b1 : ((rd x0_1 (ji3)) != 0) = true := bne_iff_ne.mpr c6
     obtain ⟨t313, A10, H⟩ := xI H
     obtain rfl := Option.some.inj H
     obtain ⟨Ao11, co11, eo11, _⟩ := Kd.Q_slice HO_0.out
     subst eo11
     have p309 : 0 ≤ ((ji3) : Int) := xd
     have q309 : (ji3) < (x0_1.length : Int) := xd
     obtain ⟨ad309, e309, hx309_0⟩ := Kd.at_int (Kd.Q_reads' HO_0.out).2.2 (ji3) p309 q309
     cases e309
     replace p309 := eq_true p309
     replace q309 := eq_true q309
     go_wp2_with (first | ((with_reducible refine gate_callee (f := 50) rfl ?_); refine goesL_ (some 21) rfl rfl Try.func50 (by kernel_rfl) rfl #[.slice (some ad309) x0_1.length co11] rfl xm ?_; (with_reducible refine (slices_Clip_int_int.calls (fun k_ => some k_ = (.slice (some ad309) x0_1.length co11 : Value).ownBlock) (.slice (some ad309) x0_1.length co11) x0_1 t313 w0 _ ?side1 ?side2 A10.out).mono ?_); (case side1 => exact xb HB.out); (case side2 => exact Kd.Q_tight rfl (HO_0.out)); rintro e w12 ⟨v314, rfl, ho0, hb, hkp⟩; refine ⟨_, rfl, ?_⟩; have n0_ := ax (Kd.Q_mono (ok' := fun k_ => (P0_ k_ ∨ w.heap.size ≤ k_)) ho0 (fun k_ hk_ => Or.elim hk_ (fun hs_ => (HO_0.out.1 k_ (hs_).symm)) (fun hn_ => (.inr (Nat.le_trans (by first | exact HK.out.1 | exact (show Kept w _ (fun k_ => P0_ k_) from by repeat (first | (with_reducible first | exact HK.out | apply Kept.alloc | apply Kept.drewN | apply Kept.drew) | exact HK.out)).1) hn_))))); have n1_ := ax (Kept.then_ (S := (fun k_ => P0_ k_)) (by repeat (first | (with_reducible first | exact HK.out | apply Kept.alloc | apply Kept.drewN | apply Kept.drew) | exact HK.out)) hkp (fun k_ hs_ => (fun e_ => (HO_0.out.1 k_ e_.symm)) hs_)); have n2_ := ax (hb); clear HK; clear HB; clear HO_0; have HO315 := n0_; have HK := n1_; have HB := n2_; clear n0_ n1_ n2_; (try clear hb); (try clear hkp); (try clear ho0)))
     go_ret
     exact ⟨_, by first | rfl | (simp [errW_none, errW_some] <;> rfl) | (simp only [← hji3]; first | rfl | (simp [errW_none, errW_some] <;> rfl)) | (simp [*, errW_none, errW_some] <;> rfl), xQ HO315.out, xb HB.out, by repeat (first | (with_reducible first | exact HK.out | apply Kept.alloc | apply Kept.drewN | apply Kept.drew) | exact HK.out)⟩
   ·rw [if_neg c2] at H
    have c2b0 : decide (0 < (x0_1.length : Int)) = false := decide_eq_false c2
    have c2b1 : decide (0 < x0_1.length) = false := decide_eq_false (by omega)
    clear c2
    obtain ⟨t316, A13, H⟩ := xI H
    obtain rfl := Option.some.inj H
    obtain ⟨Ao14, co14, eo14, _⟩ := Kd.Q_slice HO_0.out
    subst eo14
    go_wp2_with (first | ((with_reducible refine gate_callee (f := 50) rfl ?_); refine goesL_ (some 21) rfl rfl Try.func50 (by kernel_rfl) rfl #[.slice Ao14 x0_1.length co14] rfl xm ?_; (with_reducible refine (slices_Clip_int_int.calls (fun k_ => some k_ = (.slice Ao14 x0_1.length co14 : Value).ownBlock) (.slice Ao14 x0_1.length co14) x0_1 t316 w0 _ ?side1 ?side2 A13.out).mono ?_); (case side1 => exact xb HB.out); (case side2 => exact Kd.Q_tight rfl (HO_0.out)); rintro e w15 ⟨v317, rfl, ho0, hb, hkp⟩; refine ⟨_, rfl, ?_⟩; have n0_ := ax (Kd.Q_mono (ok' := fun k_ => (P0_ k_ ∨ w.heap.size ≤ k_)) ho0 (fun k_ hk_ => Or.elim hk_ (fun hs_ => (HO_0.out.1 k_ (hs_).symm)) (fun hn_ => (.inr (Nat.le_trans (by first | exact HK.out.1 | exact (show Kept w _ (fun k_ => P0_ k_) from by repeat (first | (with_reducible first | exact HK.out | apply Kept.alloc | apply Kept.drewN | apply Kept.drew) | exact HK.out)).1) hn_))))); have n1_ := ax (Kept.then_ (S := (fun k_ => P0_ k_)) (by repeat (first | (with_reducible first | exact HK.out | apply Kept.alloc | apply Kept.drewN | apply Kept.drew) | exact HK.out)) hkp (fun k_ hs_ => (fun e_ => (HO_0.out.1 k_ e_.symm)) hs_)); have n2_ := ax (hb); clear HK; clear HB; clear HO_0; have HO318 := n0_; have HK := n1_; have HB := n2_; clear n0_ n1_ n2_; (try clear hb); (try clear hkp); (try clear ho0)))
    go_ret
    exact ⟨_, xe, xQ HO318.out, xb HB.out, by repeat (first | (with_reducible first | exact HK.out | apply Kept.alloc | apply Kept.drewN | apply Kept.drew) | exact HK.out)⟩

/-! ### slices_Equal_int_int: function 36 -/
def slices_Equal_int_int.l0 : Nat → List Int → List Int → Int → Int → Option (Bool)
 | 0, _, _, _, _ => none
 | k + 1, x0, x1, x12, x13 => if x13 < x12 then (if 0 ≤ x13 then (if x13 < (x0.length : Int) then (if x13 < (x1.length : Int) then (if (rd x0 x13) = (rd x1 x13) then (slices_Equal_int_int.l0 k x0 x1 x12 (wrap64 (x13 + 1))) else (some false)) else (none)) else (none)) else (none)) else (some true)
def slices_Equal_int_int.f (k : Nat) (l0 : List Int) (l1 : List Int) : Option (Bool) := if (l0.length : Int) = (l1.length : Int) then (slices_Equal_int_int.l0 k l0 l1 (l0.length : Int) 0) else (some false)
theorem slices_Equal_int_int.mono_l : ∀ k, (∀ y0 y1 y2 y3, LeO (slices_Equal_int_int.l0 k y0 y1 y2 y3) (slices_Equal_int_int.l0 (k + 1) y0 y1 y2 y3))
 | 0 => fun _ _ _ _ r h => by simp [slices_Equal_int_int.l0] at h
 | k + 1 => by
  have ih0 := slices_Equal_int_int.mono_l k
  ·intro y0 y1 y2 y3
   unfold slices_Equal_int_int.l0
   repeat' with_reducible first | exact ih0 _ _ _ _ | exact xl | refine LeO.ite ?_ ?_ | refine LeO.bind ?_ fun _ => ?_
theorem slices_Equal_int_int.mono : ∀ a0 a1 k, LeO (slices_Equal_int_int.f k a0 a1) (slices_Equal_int_int.f (k + 1) a0 a1) := by
 intro a0 a1 k
 have ih0 := slices_Equal_int_int.mono_l k
 unfold slices_Equal_int_int.f
 repeat' with_reducible first | exact ih0 _ _ _ _ | exact xl | refine LeO.ite ?_ ?_ | refine LeO.bind ?_ fun _ => ?_
theorem slices_Equal_int_int.calls (k : Nat) (A0 : Option Addr) (c0 : Nat) (l0 : List Int) (A1 : Option Addr) (c1 : Nat) (l1 : List Int) (r : Bool) (w : World) (hr0 : Kd.C (Kd.int .i64) w A0 l0.length l0) (hc0 : l0.length ≤ c0) (hr1 : Kd.C (Kd.int .i64) w A1 l1.length l1) (hc1 : l1.length ≤ c1) (h : slices_Equal_int_int.f k l0 l1 = some r) :
  Calls Try.prog 36 #[.slice A0 l0.length c0, .slice A1 l1.length c1] w fun e w' => e = .returned (.bool r) ∧ Drawn0 w w' := by
 have HR0 := ax hr0
 have HC0 := ax hc0
 clear hr0 hc0
 have HR1 := ax hr1
 have HC1 := ax hc1
 clear hr1 hc1
 have H : (if (l0.length : Int) = (l1.length : Int) then (slices_Equal_int_int.l0 k l0 l1 (l0.length : Int) 0) else (some false)) = some r := h
 clear h
 by_cases c3 : (l0.length : Int) = (l1.length : Int)
 ·rw [if_pos c3] at H
  have c3b0 : ((l0.length : Int) == (l1.length : Int)) = true := beq_iff_eq.mpr c3
  have c3b1 : ((l0.length : Int) != (l1.length : Int)) = false := bne_eq_false_iff_eq.mpr c3
  have c3b2 : (l0.length == l1.length) = true := by first | simpa using c3 | (simp at c3 ⊢; omega)
  clear c3
  have H' := ax H
  clear H
  go_enter Try.func36, Try.ntmps36
  go_wp2
  repeat (go_quiet (fail); try go_wp2)
  go_loopg [13] k (fun kq v13 w' => ∃ (x13_1 : Int), v13 = .int .i64 x13_1 ∧ Aside0 (slices_Equal_int_int.l0 kq l0 l1 (l0.length : Int) x13_1 = some r) ∧ Aside0 (kq ≤ k) ∧ Drawn0 w w')
  case atStart => exact ⟨(0), xr, H', ⟨Nat.le_refl _⟩, by repeat (first | exact Drawn0.refl _ | apply Drawn0.step)⟩
  case round =>
   clear H'
   (try clear c1); (try clear c3); (try clear c3b0); (try clear c3b1); (try clear c3b2)
   obtain ⟨x13_1, rfl, HA, HK1, ⟨m1, rfl⟩⟩ := hrel
   cases gk with
   | zero => exact absurd HA.out (by simp [slices_Equal_int_int.l0])
   | succ k1 =>
    have H := HA.out
    clear HA
    simp only [slices_Equal_int_int.l0] at H
    by_cases c4 : x13_1 < (l0.length : Int)
    ·rw [if_pos c4] at H
     have c4b0 := decide_eq_true c4
     clear c4
     obtain ⟨c5b0, H⟩ := xq H
     obtain ⟨c6b0, H⟩ := xq H
     obtain ⟨c7b0, H⟩ := xq H
     by_cases c8 : (rd l0 x13_1) = (rd l1 x13_1)
     ·rw [if_pos c8] at H
      have c8b0 : ((rd l0 x13_1) == (rd l1 x13_1)) = true := beq_iff_eq.mpr c8
      have c8b1 : ((rd l0 x13_1) != (rd l1 x13_1)) = false := bne_eq_false_iff_eq.mpr c8
      clear c8
      have H' := ax H
      clear H
      have p319 : 0 ≤ (x13_1 : Int) := xd
      have q319 : x13_1 < (l0.length : Int) := xd
      obtain ⟨ad319, e319, hx319_0⟩ := Kd.at_int HR0.out x13_1 p319 q319
      cases e319
      replace p319 := eq_true p319
      replace q319 := eq_true q319
      have p320 : 0 ≤ (x13_1 : Int) := xd
      have q320 : x13_1 < (l1.length : Int) := xd
      obtain ⟨ad320, e320, hx320_0⟩ := Kd.at_int HR1.out x13_1 p320 q320
      cases e320
      replace p320 := eq_true p320
      replace q320 := eq_true q320
      go_wp2
      repeat (go_quiet (fail); try go_wp2)
      go_roundg k1
      case measure => have := HK1.out; omega
      case rel => exact ⟨(wrap64 (x13_1 + 1)), xr, H', ⟨by have := HK1.out; omega⟩, by repeat (first | exact Drawn0.refl _ | apply Drawn0.step)⟩
     ·rw [if_neg c8] at H
      have c8b0 : ((rd l0 x13_1) == (rd l1 x13_1)) = false := beq_eq_false_iff_ne.mpr c8
      have c8b1 : ((rd l0 x13_1) != (rd l1 x13_1)) = true := bne_iff_ne.mpr c8
      obtain rfl := Option.some.inj H
      have p319 : 0 ≤ (x13_1 : Int) := xd
      have q319 : x13_1 < (l0.length : Int) := xd
      obtain ⟨ad319, e319, hx319_0⟩ := Kd.at_int HR0.out x13_1 p319 q319
      cases e319
      replace p319 := eq_true p319
      replace q319 := eq_true q319
      have p320 : 0 ≤ (x13_1 : Int) := xd
      have q320 : x13_1 < (l1.length : Int) := xd
      obtain ⟨ad320, e320, hx320_0⟩ := Kd.at_int HR1.out x13_1 p320 q320
      cases e320
      replace p320 := eq_true p320
      replace q320 := eq_true q320
      go_wp2
      repeat (go_quiet (fail); try go_wp2)
      go_ret
      exact ⟨by first | rfl | (simp; done) | (simp [*]; done), by repeat (first | exact Drawn0.refl _ | apply Drawn0.step)⟩
    ·rw [if_neg c4] at H
     have c4b0 := decide_eq_false c4
     clear c4
     obtain rfl := Option.some.inj H
     go_wp2
     repeat (go_quiet (fail); try go_wp2)
     go_ret
     exact ⟨by first | rfl | (simp; done) | (simp [*]; done), by repeat (first | exact Drawn0.refl _ | apply Drawn0.step)⟩
 ·rw [if_neg c3] at H
  have c3b0 : ((l0.length : Int) == (l1.length : Int)) = false := beq_eq_false_iff_ne.mpr c3
  have c3b1 : ((l0.length : Int) != (l1.length : Int)) = true := bne_iff_ne.mpr c3
  have c3b2 : (l0.length == l1.length) = false := by first | simpa using c3 | (simp at c3 ⊢; omega)
  obtain rfl := Option.some.inj H
  go_enter Try.func36, Try.ntmps36
  go_wp2
  repeat (go_quiet (fail); try go_wp2)
  go_ret
  exact ⟨by first | rfl | (simp; done) | (simp [*]; done), by repeat (first | exact Drawn0.refl _ | apply Drawn0.step)⟩

/-! ### impl_FromBeta: function 12 -/
def impl_FromBeta.l0 : Nat → List Int → List Int → List Int → Int → Int → Option (List Int × Bool)
 | 0, _, _, _, _, _ => none
 | k + 1, x0, x4, x8, x9, x10 => if x10 < x9 then (if 0 ≤ x10 then (if x10 < (x8.length : Int) then (if x4.length < 17592186044416 then (impl_FromBeta.l0 k x0 (x4 ++ [wrap64 ((rd x8 x10) - (wrap64 ((wrap64 ((x0.length : Int) - 1)) - x10)))]) x8 x9 (wrap64 (x10 + 1))) else (none)) else (none)) else (none)) else ((impl_trimmed.f k x4).bind fun t328 => ((impl_IsPartition.f k t328).bind fun t331 => (if t331 = true then ((impl_BetaNumbers.f k t328 (x0.length : Int)).bind fun t332 => ((slices_Equal_int_int.f k t332 x0).bind fun t335 => (if t335 = true then (some (t328, true)) else (some (([] : List Int), false))))) else (some (([] : List Int), false)))))
def impl_FromBeta.f (k : Nat) (l0 : List Int) : Option (List Int × Bool) := impl_FromBeta.l0 k l0 (([] : List Int)) l0 (l0.length : Int) 0
theorem impl_FromBeta.mono_l : ∀ k, (∀ y0 y1 y2 y3 y4, LeO (impl_FromBeta.l0 k y0 y1 y2 y3 y4) (impl_FromBeta.l0 (k + 1) y0 y1 y2 y3 y4))
 | 0 => fun _ _ _ _ _ r h => by simp [impl_FromBeta.l0] at h
 | k + 1 => by
  have ih0 := impl_FromBeta.mono_l k
  ·intro y0 y1 y2 y3 y4
   unfold impl_FromBeta.l0
   repeat' with_reducible first | exact ih0 _ _ _ _ _ | exact impl_BetaNumbers.mono _ _ _ | exact impl_IsPartition.mono _ _ | exact impl_trimmed.mono _ _ | exact slices_Equal_int_int.mono _ _ _ | exact xl | refine LeO.ite ?_ ?_ | refine LeO.bind ?_ fun _ => ?_
theorem impl_FromBeta.mono : ∀ a0 k, LeO (impl_FromBeta.f k a0) (impl_FromBeta.f (k + 1) a0) := by
 intro a0 k
 have ih0 := impl_FromBeta.mono_l k
 unfold impl_FromBeta.f
 repeat' with_reducible first | exact ih0 _ _ _ _ _ | exact impl_BetaNumbers.mono _ _ _ | exact impl_IsPartition.mono _ _ | exact impl_trimmed.mono _ _ | exact slices_Equal_int_int.mono _ _ _ | exact xl | refine LeO.ite ?_ ?_ | refine LeO.bind ?_ fun _ => ?_
theorem impl_FromBeta.calls (k : Nat) (A0 : Option Addr) (c0 : Nat) (l0 : List Int) (r1 : List Int) (r2 : Bool) (w : World) (hr0 : Kd.C (Kd.int .i64) w A0 l0.length l0) (hc0 : l0.length ≤ c0) (h : impl_FromBeta.f k l0 = some (r1, r2)) :
  Calls Try.prog 12 #[.slice A0 l0.length c0] w fun e w' => ∃ v0_ : Value, e = .returned (.tuple #[v0_, .bool r2]) ∧ Kd.Q (Kd.int .i64) 3 w' w.heap.size (fun _ => True) v0_ r1 ∧ Below w.heap.size w w' := by
 have HR0 := ax hr0
 have HC0 := ax hc0
 clear hr0 hc0
 have HB := ax (Below.refl w.heap.size w)
 have H : (impl_FromBeta.l0 k l0 (([] : List Int)) l0 (l0.length : Int) 0) = some (r1, r2) := h
 clear h
 obtain ⟨y321, hy321⟩ : ∃ y_ : List Int, y_ = (([] : List Int)) := ⟨_, rfl⟩
 replace H : (impl_FromBeta.l0 k l0 y321 l0 (l0.length : Int) 0) = some (r1, r2) := xv hy321 H
 have Ny321 := ax hy321
 clear hy321
 have H' := ax H
 clear H
 go_enter Try.func12, Try.ntmps12
 go_wp2_with (first | ((with_reducible refine gate_dst (N := 7) rfl ?_); (try (refine gate_guard (by rfl) ?_; dsimp only)); refine Kd.R_lit (Kd.int .i64) _ 3 ?hg (N := 7) ?hd (xs := ([] : List Int)) (inner := []) (ok := fun _ => True) (okp := fun _ => True) ?hr ?hp (fun _ hk => hk) trivial (Below.refl _ _) (Nat.le_refl _) (by simp) ?_; (case hd => rfl); (case hg => rfl); (case hr => first | (go_simp; done) | (go_simp; rfl)); (case hp => exact (Reps.none _ _)); intro v322 w2 ho3 hb hg_ hnew_; clear hg_ hnew_; (first | rw [← Ny321.out] at ho3 | (simp only [Int.reduceToNat] at ho3; rw [← Ny321.out] at ho3)); have HO323 := ax (Kd.R_lower ho3 (below_size (xb HB.out))); replace HB := yB HB hb; clear hb ho3))
 go_loopg [4, 10] k (fun kq v4 v10 w' => ∃ (x4_1 : List Int) (x10_1 : Int), v10 = .int .i64 x10_1 ∧ Aside0 (impl_FromBeta.l0 kq l0 x4_1 l0 (l0.length : Int) x10_1 = some (r1, r2)) ∧ Aside0 (kq ≤ k) ∧ Aside0 (Kd.Q (Kd.int .i64) 3 w' w.heap.size (fun _ => True) v4 x4_1) ∧ Aside0 (Below w.heap.size w w'))
 case atStart => exact ⟨(y321), (0), xr, H', ⟨Nat.le_refl _⟩, ⟨Kd.Q_of_R (xR HO323.out)⟩, ⟨xb HB.out⟩⟩
 case round =>
  clear H'
  obtain ⟨x4_1, x10_1, rfl, HA, HK1, HO_4, HB⟩ := hrel
  cases gk with
  | zero => exact absurd HA.out (by simp [impl_FromBeta.l0])
  | succ k1 =>
   have H := HA.out
   clear HA
   simp only [impl_FromBeta.l0] at H
   by_cases c4 : x10_1 < (l0.length : Int)
   ·rw [if_pos c4] at H
    have c4b0 := decide_eq_true c4
    clear c4
    obtain ⟨c5b0, H⟩ := xq H
    obtain ⟨c6b0, H⟩ := xq H
    obtain ⟨c7, H⟩ := xp H
    have LMc7 := ax c7
    clear c7
    obtain ⟨y325, hy325⟩ : ∃ y_ : List Int, y_ = (x4_1 ++ [wrap64 ((rd l0 x10_1) - (wrap64 ((wrap64 ((l0.length : Int) - 1)) - x10_1)))]) := ⟨_, rfl⟩
    replace H : (impl_FromBeta.l0 k1 l0 y325 l0 (l0.length : Int) (wrap64 (x10_1 + 1))) = some (r1, r2) := xv hy325 H
    have Ny325 := ax hy325
    clear hy325
    have H' := ax H
    clear H
    have p324 : 0 ≤ (x10_1 : Int) := xd
    have q324 : x10_1 < (l0.length : Int) := xd
    obtain ⟨ad324, e324, hx324_0⟩ := Kd.at_int HR0.out x10_1 p324 q324
    cases e324
    (try replace hx324_0 := (HB.out.cell (World.block_lt_of_cell? w _ hx324_0)).trans hx324_0)
    replace p324 := eq_true p324
    replace q324 := eq_true q324
    go_wp2_with (first | ((with_reducible refine gate_builtin (b := .append) (xs := #[.tmp 15, .tmp 23]) rfl ?_); (try (refine gate_guard (by rfl) ?_; dsimp only)); at_builtin; refine Kd.Q_append (Kd.int .i64) (w0 := w) w.heap.size rfl (.tmp 15) (.tmp 23) 24 3 (.int .i64 0) 8 rfl Try.underlying24 info3 rfl (by decide) (by omega) u4 x4_1 (wrap64 ((rd l0 x10_1) - (wrap64 ((wrap64 ((l0.length : Int) - 1)) - x10_1)))) [.int .i64 (wrap64 ((rd l0 x10_1) - (wrap64 ((wrap64 ((l0.length : Int) - 1)) - x10_1))))] (fun _ => True) (fun _ => False) rfl rfl ?aP (fun _ hk => hk.elim) ?aF ?aO ?aB ?aS ?aL ?_; (case aP => exact rfl); (case aB => exact (xb HB.out)); (case aF => exact (fun _ _ => trivial)); (case aO => exact (xQ HO_4.out)); (case aS => exact (below_size (xb HB.out))); (case aL => have := LMc7.out; omega); intro v326 w8 ho hb hg hat; rw [← Ny325.out] at ho; have n0_ := ax (hb); have n1_ := ax (ho); clear HB; clear HO_4; have HB := n0_; have HO327 := n1_; clear n0_ n1_; clear ho hb hg hat))
    go_roundg k1
    case measure => have := HK1.out; omega
    case rel => exact ⟨(y325), (wrap64 (x10_1 + 1)), xr, H', ⟨by have := HK1.out; omega⟩, ⟨xQ HO327.out⟩, ⟨xb HB.out⟩⟩
   ·rw [if_neg c4] at H
    have c4b0 := decide_eq_false c4
    clear c4
    obtain ⟨t328, A9, H⟩ := xI H
    obtain ⟨t331, A10, H⟩ := xI H
    by_cases c11 : t331 = true
    ·subst c11
     rw [if_pos rfl] at H
     obtain ⟨t332, A12, H⟩ := xI H
     obtain ⟨t335, A13, H⟩ := xI H
     by_cases c14 : t335 = true
     ·subst c14
      rw [if_pos rfl] at H
      simp only [Option.some.injEq, Prod.mk.injEq] at H
      obtain ⟨rfl, rfl⟩ := H
      obtain ⟨Ao15, co15, eo15, _⟩ := Kd.Q_slice HO_4.out
      subst eo15
      go_wp2_with (first | ((with_reducible refine gate_callee (f := 35) rfl ?_); refine goesL_ (some 27) rfl rfl Try.func35 (by kernel_rfl) rfl #[.slice Ao15 x4_1.length co15] rfl xm ?_; (with_reducible refine (impl_trimmed.calls k1 (fun k_ => some k_ = (.slice Ao15 x4_1.length co15 : Value).ownBlock) (.slice Ao15 x4_1.length co15) x4_1 t328 w _ ?side1 ?side2 A9.out).mono ?_); (case side1 => exact xb HB.out); (case side2 => exact Kd.Q_tight rfl (HO_4.out)); rintro e w16 ⟨v329, rfl, ho0, hb, hkp⟩; refine ⟨_, rfl, ?_⟩; have n0_ := ax (Kd.Q_mono (ok' := fun k_ => True) ho0 (fun k_ hk_ => trivial)); have n1_ := ax (hb); clear HB; clear HO_4; have HO330 := n0_; have HB := n1_; clear n0_ n1_; (try clear hb); (try clear hkp); (try clear ho0); obtain ⟨Ao17, co17, eo17, _⟩ := Kd.Q_slice HO330.out; subst eo17) | ((with_reducible refine gate_callee (f := 26) rfl ?_); refine goesL_ (some 29) rfl rfl Try.func26 (by kernel_rfl) rfl #[.slice Ao17 t328.length co17] rfl xm ?_; (with_reducible refine (impl_IsPartition.calls k1 _ _ t328 true _ ?side1 ?side2 A10.out).mono ?_); (case side1 => exact xc (Kd.Q_reads' HO330.out).2.2); (case side2 => exact (Kd.Q_reads' HO330.out).2.1); rintro e w' ⟨rfl, ⟨nd, rfl⟩⟩; refine ⟨_, rfl, ?_⟩) | (go_at_call 10; (with_reducible refine (impl_BetaNumbers.calls k1 _ _ t328 (l0.length : Int) t332 _ ?side1 ?side2 A12.out).mono ?_); (case side1 => exact xc (Kd.Q_reads' HO330.out).2.2); (case side2 => exact (Kd.Q_reads' HO330.out).2.1); rintro e w18 ⟨v333, rfl, ho0, hb⟩; have HO334 := ax (Kd.R_lower (Kd.R_new' ho0 (Kd.Q_lt (xQ HO330.out))) (below_size (xb HB.out))); replace HO330 := ax (Kd.Q_elder' (xQ HO330.out) (Kd.R_base ho0) hb); replace HB := yB HB hb; (try clear hb); (try clear ho0); obtain ⟨Ao19, co19, eo19⟩ := Kd.R_slice HO334.out; subst eo19) | (go_at_call 36; (with_reducible refine (slices_Equal_int_int.calls k1 _ _ t332 _ _ l0 true _ ?side1 ?side2 ?side3 ?side4 A13.out).mono ?_); (case side1 => exact xc (Kd.R_reads' HO334.out).2.2); (case side2 => exact (Kd.R_reads' HO334.out).2.1); (case side3 => exact xz HR0.out HB.out); (case side4 => exact HC0.out); rintro e w' ⟨rfl, ⟨nd, rfl⟩⟩))
      go_ret2
      exact ⟨_, xe, by (with_reducible repeat (first | apply Kd.Q_alloc | apply Kd.Q_drewN | apply Kd.Q_drew)); exact Kd.Q_mono HO330.out (fun _ hk => trivial), xb HB.out⟩
     ·replace c14 := Bool.eq_false_iff.mpr c14
      subst c14
      rw [if_neg (show ¬ (false = true) by decide)] at H
      simp only [Option.some.injEq, Prod.mk.injEq] at H
      obtain ⟨rfl, rfl⟩ := H
      obtain ⟨Ao20, co20, eo20, _⟩ := Kd.Q_slice HO_4.out
      subst eo20
      go_wp2_with (first | ((with_reducible refine gate_callee (f := 35) rfl ?_); refine goesL_ (some 27) rfl rfl Try.func35 (by kernel_rfl) rfl #[.slice Ao20 x4_1.length co20] rfl xm ?_; (with_reducible refine (impl_trimmed.calls k1 (fun k_ => some k_ = (.slice Ao20 x4_1.length co20 : Value).ownBlock) (.slice Ao20 x4_1.length co20) x4_1 t328 w _ ?side1 ?side2 A9.out).mono ?_); (case side1 => exact xb HB.out); (case side2 => exact Kd.Q_tight rfl (HO_4.out)); rintro e w21 ⟨v329, rfl, ho0, hb, hkp⟩; refine ⟨_, rfl, ?_⟩; have n0_ := ax (Kd.Q_mono (ok' := fun k_ => True) ho0 (fun k_ hk_ => trivial)); have n1_ := ax (hb); clear HB; clear HO_4; have HO330 := n0_; have HB := n1_; clear n0_ n1_; (try clear hb); (try clear hkp); (try clear ho0); obtain ⟨Ao22, co22, eo22, _⟩ := Kd.Q_slice HO330.out; subst eo22) | ((with_reducible refine gate_callee (f := 26) rfl ?_); refine goesL_ (some 29) rfl rfl Try.func26 (by kernel_rfl) rfl #[.slice Ao22 t328.length co22] rfl xm ?_; (with_reducible refine (impl_IsPartition.calls k1 _ _ t328 true _ ?side1 ?side2 A10.out).mono ?_); (case side1 => exact xc (Kd.Q_reads' HO330.out).2.2); (case side2 => exact (Kd.Q_reads' HO330.out).2.1); rintro e w' ⟨rfl, ⟨nd, rfl⟩⟩; refine ⟨_, rfl, ?_⟩) | (go_at_call 10; (with_reducible refine (impl_BetaNumbers.calls k1 _ _ t328 (l0.length : Int) t332 _ ?side1 ?side2 A12.out).mono ?_); (case side1 => exact xc (Kd.Q_reads' HO330.out).2.2); (case side2 => exact (Kd.Q_reads' HO330.out).2.1); rintro e w23 ⟨v333, rfl, ho0, hb⟩; have HO334 := ax (Kd.R_lower (Kd.R_new' ho0 (Kd.Q_lt (xQ HO330.out))) (below_size (xb HB.out))); replace HO330 := ax (Kd.Q_elder' (xQ HO330.out) (Kd.R_base ho0) hb); replace HB := yB HB hb; (try clear hb); (try clear ho0); obtain ⟨Ao24, co24, eo24⟩ := Kd.R_slice HO334.out; subst eo24) | (go_at_call 36; (with_reducible refine (slices_Equal_int_int.calls k1 _ _ t332 _ _ l0 false _ ?side1 ?side2 ?side3 ?side4 A13.out).mono ?_); (case side1 => exact xc (Kd.R_reads' HO334.out).2.2); (case side2 => exact (Kd.R_reads' HO334.out).2.1); (case side3 => exact xz HR0.out HB.out); (case side4 => exact HC0.out); rintro e w' ⟨rfl, ⟨nd, rfl⟩⟩))
      go_ret2
      exact ⟨_, xe, Kd.Q_of_R (by first | exact Kd.R_nil _ _ _ _ _ | exact Kd.N_nil _ _ _ _ _ | exact Kd.V_nil _ _ _ _ _ | exact Kd.Q_nil _ _ _ _ _ | exact Kd.S_nil _ _ _ _ _), xb HB.out⟩
    ·replace c11 := Bool.eq_false_iff.mpr c11
     subst c11
     rw [if_neg (show ¬ (false = true) by decide)] at H
     simp only [Option.some.injEq, Prod.mk.injEq] at H
     obtain ⟨rfl, rfl⟩ := H
     obtain ⟨Ao25, co25, eo25, _⟩ := Kd.Q_slice HO_4.out
     subst eo25
     go_wp2_with (first | ((with_reducible refine gate_callee (f := 35) rfl ?_); refine goesL_ (some 27) rfl rfl Try.func35 (by kernel_rfl) rfl #[.slice Ao25 x4_1.length co25] rfl xm ?_; (with_reducible refine (impl_trimmed.calls k1 (fun k_ => some k_ = (.slice Ao25 x4_1.length co25 : Value).ownBlock) (.slice Ao25 x4_1.length co25) x4_1 t328 w _ ?side1 ?side2 A9.out).mono ?_); (case side1 => exact xb HB.out); (case side2 => exact Kd.Q_tight rfl (HO_4.out)); rintro e w26 ⟨v329, rfl, ho0, hb, hkp⟩; refine ⟨_, rfl, ?_⟩; have n0_ := ax (Kd.Q_mono (ok' := fun k_ => True) ho0 (fun k_ hk_ => trivial)); have n1_ := ax (hb); clear HB; clear HO_4; have HO330 := n0_; have HB := n1_; clear n0_ n1_; (try clear hb); (try clear hkp); (try clear ho0); obtain ⟨Ao27, co27, eo27, _⟩ := Kd.Q_slice HO330.out; subst eo27) | ((with_reducible refine gate_callee (f := 26) rfl ?_); refine goesL_ (some 29) rfl rfl Try.func26 (by kernel_rfl) rfl #[.slice Ao27 t328.length co27] rfl xm ?_; (with_reducible refine (impl_IsPartition.calls k1 _ _ t328 false _ ?side1 ?side2 A10.out).mono ?_); (case side1 => exact xc (Kd.Q_reads' HO330.out).2.2); (case side2 => exact (Kd.Q_reads' HO330.out).2.1); rintro e w' ⟨rfl, ⟨nd, rfl⟩⟩; refine ⟨_, rfl, ?_⟩))
     go_ret2
     exact ⟨_, xe, Kd.Q_of_R (by first | exact Kd.R_nil _ _ _ _ _ | exact Kd.N_nil _ _ _ _ _ | exact Kd.V_nil _ _ _ _ _ | exact Kd.Q_nil _ _ _ _ _ | exact Kd.S_nil _ _ _ _ _), xb HB.out⟩

end Go.Proofs.Ytopmggldaicpaaa.PFnCores
