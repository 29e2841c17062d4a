import Derived.Test.YtnfcdaojglicfaaPFnOperatorsx3
namespace Go.Proofs.Ytnfcdaojglicfaa.PFnOperators
open Go.RowKit Go.Proofs.YtnfcdaojglicfaaW.PrintWords Go.Proofs.YtnfcdaojglicfaaW.PrintLast Go.Proofs.YtnfcdaojglicfaaW.PrintMore
set_option linter.unusedVariables false
set_option linter.unusedSimpArgs false
set_option maxHeartbeats 8000000
set_option maxRecDepth 100000
/-! ### impl_free: function 22 -/
mutual
def impl_free.j0 : Nat → List Int → Int → Bool → Option (List Int × List Int × Bool)
 | 0, _, _, _ => none
 | k + 1, x0, x1, x18 => if x18 = true then (some (([] : List Int), ([] : List Int), false)) else (impl_free.l0 k x1 (([] : List Int)) (([] : List Int)) x0 (x0.length : Int) 0)
def impl_free.l0 : Nat → Int → List Int → List Int → List Int → Int → Int → Option (List Int × List Int × Bool)
 | 0, _, _, _, _, _, _ => none
 | k + 1, x1, x7, x8, x21, x22, x23 => if x23 < x22 then (if 0 ≤ x23 then (if x23 < (x21.length : Int) then (if (rd x21 x23) = (wrap64 (x1 + 1)) then (if x8.length < 17592186044416 then (impl_free.l0 k x1 x7 (x8 ++ [x23]) x21 x22 (wrap64 (x23 + 1))) else (none)) else (if (rd x21 x23) = x1 then (impl_free.j2 k x1 x7 x8 x23 (rd x21 x23) x21 x22 x23 (decide ((x8.length : Int) > 0))) else (impl_free.j2 k x1 x7 x8 x23 (rd x21 x23) x21 x22 x23 false))) else (none)) else (none)) else (some (x7, x8, true))
def impl_free.j2 : Nat → Int → List Int → List Int → Int → Int → List Int → Int → Int → Bool → Option (List Int × List Int × Bool)
 | 0, _, _, _, _, _, _, _, _, _ => none
 | k + 1, x1, x7, x8, x9, x10, x21, x22, x23, x37 => if x37 = true then (if 0 ≤ (wrap64 ((x8.length : Int) - 1)) then (if (wrap64 ((x8.length : Int) - 1)) ≤ (x8.length : Int) then (impl_free.l0 k x1 x7 (x8.take ((wrap64 ((x8.length : Int) - 1)) : Int).toNat) x21 x22 (wrap64 (x23 + 1))) else (none)) else (none)) else (if x10 = x1 then (if x7.length < 17592186044416 then (impl_free.l0 k x1 (x7 ++ [x9]) x8 x21 x22 (wrap64 (x23 + 1))) else (none)) else (impl_free.l0 k x1 x7 x8 x21 x22 (wrap64 (x23 + 1))))
end
def impl_free.f (k : Nat) (l0 : List Int) (a1 : Int) : Option (List Int × List Int × Bool) := (impl_IsWord.f k l0).bind fun t213 => (if t213 = true then ((impl_within.f a1 1 8).bind fun t214 => (impl_free.j0 k l0 a1 (!t214))) else (impl_free.j0 k l0 a1 true))
theorem impl_free.mono_l : ∀ k, (∀ y0 y1 y2, LeO (impl_free.j0 k y0 y1 y2) (impl_free.j0 (k + 1) y0 y1 y2)) ∧ (∀ y0 y1 y2 y3 y4 y5, LeO (impl_free.l0 k y0 y1 y2 y3 y4 y5) (impl_free.l0 (k + 1) y0 y1 y2 y3 y4 y5)) ∧ (∀ y0 y1 y2 y3 y4 y5 y6 y7 y8, LeO (impl_free.j2 k y0 y1 y2 y3 y4 y5 y6 y7 y8) (impl_free.j2 (k + 1) y0 y1 y2 y3 y4 y5 y6 y7 y8))
 | 0 => ⟨fun _ _ _ r h => by simp [impl_free.j0] at h, fun _ _ _ _ _ _ r h => by simp [impl_free.l0] at h, fun _ _ _ _ _ _ _ _ _ r h => by simp [impl_free.j2] at h⟩
 | k + 1 => by
  obtain ⟨ih0, ih1, ih2⟩ := impl_free.mono_l k
  refine ⟨?_, ?_, ?_⟩
  ·intro y0 y1 y2
   unfold impl_free.j0
   repeat' with_reducible first | exact ih0 _ _ _ | exact ih1 _ _ _ _ _ _ | exact ih2 _ _ _ _ _ _ _ _ _ | exact impl_IsWord.mono _ _ | exact xl | refine LeO.ite ?_ ?_ | refine LeO.bind ?_ fun _ => ?_
  ·intro y0 y1 y2 y3 y4 y5
   unfold impl_free.l0
   repeat' with_reducible first | exact ih0 _ _ _ | exact ih1 _ _ _ _ _ _ | exact ih2 _ _ _ _ _ _ _ _ _ | exact impl_IsWord.mono _ _ | exact xl | refine LeO.ite ?_ ?_ | refine LeO.bind ?_ fun _ => ?_
  ·intro y0 y1 y2 y3 y4 y5 y6 y7 y8
   unfold impl_free.j2
   repeat' with_reducible first | exact ih0 _ _ _ | exact ih1 _ _ _ _ _ _ | exact ih2 _ _ _ _ _ _ _ _ _ | exact impl_IsWord.mono _ _ | exact xl | refine LeO.ite ?_ ?_ | refine LeO.bind ?_ fun _ => ?_
theorem impl_free.mono : ∀ a0 a1 k, LeO (impl_free.f k a0 a1) (impl_free.f (k + 1) a0 a1) := by
 intro a0 a1 k
 obtain ⟨ih0, ih1, ih2⟩ := impl_free.mono_l k
 unfold impl_free.f
 repeat' with_reducible first | exact ih0 _ _ _ | exact ih1 _ _ _ _ _ _ | exact ih2 _ _ _ _ _ _ _ _ _ | exact impl_IsWord.mono _ _ | exact xl | refine LeO.ite ?_ ?_ | refine LeO.bind ?_ fun _ => ?_
theorem impl_free.calls (k : Nat) (A0 : Option Addr) (c0 : Nat) (l0 : List Int) (a1 : Int) (r1 : List Int) (r2 : List Int) (r3 : Bool) (w : World) (hr0 : Kd.C (Kd.int .i64) w A0 l0.length l0) (hc0 : l0.length ≤ c0) (h : impl_free.f k l0 a1 = some (r1, r2, r3)) :
  Calls Try.prog 22 #[.slice A0 l0.length c0, .int .i64 a1] w fun e w' => ∃ v0_ v1_ : Value, e = .returned (.tuple #[v0_, v1_, .bool r3]) ∧ Kd.R (Kd.int .i64) 3 w' w.heap.size (fun k_ => some k_ ≠ (v1_ : Value).ownBlock) v0_ r1 ∧ Kd.R (Kd.int .i64) 3 w' w.heap.size (fun k_ => some k_ ≠ (v0_ : Value).ownBlock) v1_ r2 ∧ Below w.heap.size w w' := by
 have HR0 := ax hr0
 have HC0 := ax hc0
 clear hr0 hc0
 have HB := ax (Below.refl w.heap.size w)
 have H : ((impl_IsWord.f k l0).bind fun t213 => (if t213 = true then ((impl_within.f a1 1 8).bind fun t214 => (impl_free.j0 k l0 a1 (!t214))) else (impl_free.j0 k l0 a1 true))) = some (r1, r2, r3) := h
 clear h
 have HC3 := ax H
 clear H
 go_enter Try.func22, Try.ntmps22
 go_upto_region 1 with (fail)
 go_cut [18] (fun v18 wc => ∃ (kq : Nat) (x18_2 : Bool), v18 = .bool x18_2 ∧ Aside0 (impl_free.j0 kq l0 a1 x18_2 = some (r1, r2, r3)) ∧ Aside0 (kq ≤ k) ∧ Aside0 (Below w.heap.size w wc))
 case first =>
  have H := HC3.out
  clear HC3
  obtain ⟨t213, A4, H⟩ := xI H
  by_cases c5 : t213 = true
  ·subst c5
   rw [if_pos rfl] at H
   obtain ⟨t214, A6, H⟩ := xI H
   have H' := ax H
   clear H
   go_wp2_with (first | ((with_reducible refine gate_callee (f := 30) rfl ?_); refine goesL_ (some 12) rfl rfl Try.func30 (by kernel_rfl) rfl #[.slice A0 l0.length c0] rfl xm ?_; (with_reducible refine (impl_IsWord.calls k _ _ l0 true _ ?side1 ?side2 A4.out).mono ?_); (case side1 => exact xz HR0.out HB.out); (case side2 => exact HC0.out); rintro e w' ⟨rfl, ⟨nd, rfl⟩⟩; refine ⟨_, rfl, ?_⟩) | (go_at_call 35; (with_reducible refine (impl_within.calls a1 1 8 t214 _ A6.out).mono ?_); rintro e w' ⟨rfl, ⟨nd, rfl⟩⟩))
   go_meet
   case rel => exact ⟨_, (!t214), xr, H', ⟨by first | omega | exact Nat.le_refl _⟩, ⟨xb HB.out⟩⟩
  ·replace c5 := Bool.eq_false_iff.mpr c5
   subst c5
   rw [if_neg (show ¬ (false = true) by decide)] at H
   have H' := ax H
   clear H
   go_wp2_with (first | ((with_reducible refine gate_callee (f := 30) rfl ?_); refine goesL_ (some 12) rfl rfl Try.func30 (by kernel_rfl) rfl #[.slice A0 l0.length c0] rfl xm ?_; (with_reducible refine (impl_IsWord.calls k _ _ l0 false _ ?side1 ?side2 A4.out).mono ?_); (case side1 => exact xz HR0.out HB.out); (case side2 => exact HC0.out); rintro e w' ⟨rfl, ⟨nd, rfl⟩⟩; refine ⟨_, rfl, ?_⟩))
   go_meet
   case rel => exact ⟨_, (true), xr, H', ⟨by first | omega | exact Nat.le_refl _⟩, ⟨xb HB.out⟩⟩
 case rest =>
  clear HC3
  (try clear c5)
  obtain ⟨kq, x18_2, rfl, HA, HJ2, HB⟩ := hcut
  cases kq with
  | zero => exact absurd HA.out (by simp [impl_free.j0])
  | succ kj2 =>
   have H := HA.out
   clear HA
   simp only [impl_free.j0] at H
   by_cases c7 : x18_2 = true
   ·subst c7
    rw [if_pos rfl] at H
    simp only [Option.some.injEq, Prod.mk.injEq] at H
    obtain ⟨rfl, rfl, rfl⟩ := H
    go_wp2
    go_ret3
    exact ⟨_, _, xe, by first | exact Kd.R_nil _ _ _ _ _ | exact Kd.N_nil _ _ _ _ _ | exact Kd.V_nil _ _ _ _ _ | exact Kd.Q_nil _ _ _ _ _ | exact Kd.S_nil _ _ _ _ _, by first | exact Kd.R_nil _ _ _ _ _ | exact Kd.N_nil _ _ _ _ _ | exact Kd.V_nil _ _ _ _ _ | exact Kd.Q_nil _ _ _ _ _ | exact Kd.S_nil _ _ _ _ _, xb HB.out⟩
   ·replace c7 := Bool.eq_false_iff.mpr c7
    subst c7
    rw [if_neg (show ¬ (false = true) by decide)] at H
    obtain ⟨y215, hy215⟩ : ∃ y_ : List Int, y_ = (([] : List Int)) := ⟨_, rfl⟩
    replace H : (impl_free.l0 kj2 a1 y215 (([] : List Int)) l0 (l0.length : Int) 0) = some (r1, r2, r3) := xv hy215 H
    have Ny215 := ax hy215
    clear hy215
    obtain ⟨y218, hy218⟩ : ∃ y_ : List Int, y_ = (([] : List Int)) := ⟨_, rfl⟩
    replace H : (impl_free.l0 kj2 a1 y215 y218 l0 (l0.length : Int) 0) = some (r1, r2, r3) := xv hy218 H
    have Ny218 := ax hy218
    clear hy218
    have H' := ax H
    clear H
    go_wp2_with (first | ((with_reducible refine gate_dst (N := 19) rfl ?_); (try (refine gate_guard (by rfl) ?_; dsimp only)); refine Kd.R_lit (Kd.int .i64) _ 3 ?hg (N := 19) ?hd (xs := ([] : List Int)) (inner := []) (ok := fun _ => True) (okp := fun _ => True) ?hr ?hp (fun _ hk => hk) trivial (Below.refl _ _) (Nat.le_refl _) (by simp) ?_; (case hd => rfl); (case hg => rfl); (case hr => first | (go_simp; done) | (go_simp; rfl)); (case hp => exact (Reps.none _ _)); intro v216 w8 ho9 hb hg_ hnew_; clear hg_ hnew_; (first | rw [← Ny215.out] at ho9 | (simp only [Int.reduceToNat] at ho9; rw [← Ny215.out] at ho9)); have HO217 := ax (Kd.R_lower ho9 (below_size (xb HB.out))); replace HB := yB HB hb; clear hb ho9) | ((with_reducible refine gate_dst (N := 20) rfl ?_); (try (refine gate_guard (by rfl) ?_; dsimp only)); refine Kd.R_lit (Kd.int .i64) _ 3 ?hg (N := 20) ?hd (xs := ([] : List Int)) (inner := []) (ok := fun _ => True) (okp := fun _ => True) ?hr ?hp (fun _ hk => hk) trivial (Below.refl _ _) (Nat.le_refl _) (by simp) ?_; (case hd => rfl); (case hg => rfl); (case hr => first | (go_simp; done) | (go_simp; rfl)); (case hp => exact (Reps.none _ _)); intro v219 w10 ho11 hb hg_ hnew_; clear hg_ hnew_; (first | rw [← Ny218.out] at ho11 | (simp only [Int.reduceToNat] at ho11; rw [← Ny218.out] at ho11)); have HO220 := ax (Kd.R_lower (Kd.R_new' ho11 (Kd.R_lt (xR HO217.out))) (below_size (xb HB.out))); replace HO217 := ax (Kd.R_elder' (xR HO217.out) (Kd.R_base ho11) hb); replace HB := yB HB hb; clear hb ho11))
    go_loopg [7, 8, 23] kj2 (fun kq v7 v8 v23 w' => ∃ (x7_2 : List Int) (x8_2 : List Int) (x23_2 : Int), v23 = .int .i64 x23_2 ∧ Aside0 (impl_free.l0 kq a1 x7_2 x8_2 l0 (l0.length : Int) x23_2 = some (r1, r2, r3)) ∧ Aside0 (kq ≤ kj2) ∧ Aside0 (Kd.R (Kd.int .i64) 3 w' w.heap.size (fun k_ => some k_ ≠ (v8 : Value).ownBlock) v7 x7_2) ∧ Aside0 (Kd.R (Kd.int .i64) 3 w' w.heap.size (fun k_ => some k_ ≠ (v7 : Value).ownBlock) v8 x8_2) ∧ Aside0 (Below w.heap.size w w'))
    case atStart => exact ⟨(y215), (y218), (0), xr, H', ⟨Nat.le_refl _⟩, ⟨by (with_reducible repeat (first | apply Kd.R_alloc | apply Kd.R_drewN | apply Kd.R_drew)); exact Kd.R_mono HO217.out (fun _ hk => hk.2)⟩, ⟨by (with_reducible repeat (first | apply Kd.R_alloc | apply Kd.R_drewN | apply Kd.R_drew)); exact Kd.R_mono HO220.out (fun _ hk => hk.2)⟩, ⟨xb HB.out⟩⟩
    case round =>
     clear H'
     (try clear c5); (try clear c7)
     obtain ⟨x7_2, x8_2, x23_2, rfl, HA, HK2, HO_7, HO_8, HB⟩ := hrel
     cases gk with
     | zero => exact absurd HA.out (by simp [impl_free.l0])
     | succ k2 =>
      have H := HA.out
      clear HA
      simp only [impl_free.l0] at H
      by_cases c12 : x23_2 < (l0.length : Int)
      ·rw [if_pos c12] at H
       have c12b0 := decide_eq_true c12
       clear c12
       obtain ⟨c13b0, H⟩ := xq H
       obtain ⟨c14b0, H⟩ := xq H
       by_cases c15 : (rd l0 x23_2) = (wrap64 (a1 + 1))
       ·rw [if_pos c15] at H
        have c15b0 : ((rd l0 x23_2) == (wrap64 (a1 + 1))) = true := beq_iff_eq.mpr c15
        have c15b1 : ((rd l0 x23_2) != (wrap64 (a1 + 1))) = false := bne_eq_false_iff_eq.mpr c15
        clear c15
        obtain ⟨c16, H⟩ := xp H
        have LMc16 := ax c16
        clear c16
        obtain ⟨y222, hy222⟩ : ∃ y_ : List Int, y_ = (x8_2 ++ [x23_2]) := ⟨_, rfl⟩
        replace H : (impl_free.l0 k2 a1 x7_2 y222 l0 (l0.length : Int) (wrap64 (x23_2 + 1))) = some (r1, r2, r3) := xv hy222 H
        have Ny222 := ax hy222
        clear hy222
        have H' := ax H
        clear H
        have p221 : 0 ≤ (x23_2 : Int) := xd
        have q221 : x23_2 < (l0.length : Int) := xd
        obtain ⟨ad221, e221, hx221_0⟩ := Kd.at_int HR0.out x23_2 p221 q221
        cases e221
        (try replace hx221_0 := (HB.out.cell (World.block_lt_of_cell? w _ hx221_0)).trans hx221_0)
        replace p221 := eq_true p221
        replace q221 := eq_true q221
        go_wp2_with (first | ((with_reducible refine gate_builtin (b := .append) (xs := #[.tmp 33, .tmp 35]) rfl ?_); (try (refine gate_guard (by rfl) ?_; dsimp only)); at_builtin; refine Kd.R_append (Kd.int .i64) (w0 := w) w.heap.size rfl (.tmp 33) (.tmp 35) 24 3 (.int .i64 0) 8 rfl Try.underlying24 info3 rfl (by decide) (by omega) u8 x8_2 x23_2 [.int .i64 x23_2] (fun k_ => some k_ ≠ (u7 : Value).ownBlock) (fun _ => False) rfl rfl ?aP (fun _ hk => hk.elim) ?aF ?aO ?aB ?aS ?aL ?_; (case aP => exact rfl); (case aB => exact (xb HB.out)); (case aF => exact (fun k_ hk => Kd.fresh' (Kd.R_lt (xR HO_7.out)) k_ hk)); (case aO => exact (xR HO_8.out)); (case aS => exact (below_size (xb HB.out))); (case aL => have := LMc16.out; omega); intro v223 w17 ho hb hg hat; rw [← Ny222.out] at ho; have n0_ := ax (Kd.R_after (ok := (fun _ => True)) (by (with_reducible repeat (first | apply Kd.R_alloc | apply Kd.R_drewN | apply Kd.R_drew)); exact Kd.R_mono HO_7.out (fun _ hk => ⟨trivial, by first | exact hk | simpa only [xw_own] using hk⟩)) hg hat); have n1_ := ax (hb); have n2_ := ax (ho); clear HO_7; clear HB; clear HO_8; have HO_7 := n0_; have HB := n1_; have HO224 := n2_; clear n0_ n1_ n2_; clear ho hb hg hat))
        go_roundg k2
        case measure => have := HJ2.out; have := HK2.out; omega
        case rel => exact ⟨(x7_2), (y222), (wrap64 (x23_2 + 1)), xr, H', ⟨by have := HJ2.out; have := HK2.out; omega⟩, ⟨by (with_reducible repeat (first | apply Kd.R_alloc | apply Kd.R_drewN | apply Kd.R_drew)); exact Kd.R_mono HO_7.out (fun _ hk => hk.2)⟩, ⟨xR HO224.out⟩, ⟨xb HB.out⟩⟩
       ·rw [if_neg c15] at H
        have c15b0 : ((rd l0 x23_2) == (wrap64 (a1 + 1))) = false := beq_eq_false_iff_ne.mpr c15
        have c15b1 : ((rd l0 x23_2) != (wrap64 (a1 + 1))) = true := bne_iff_ne.mpr c15
        have HC18 := ax H
        clear H
        have p221 : 0 ≤ (x23_2 : Int) := xd
        have q221 : x23_2 < (l0.length : Int) := xd
        obtain ⟨ad221, e221, hx221_0⟩ := Kd.at_int HR0.out x23_2 p221 q221
        cases e221
        (try replace hx221_0 := (HB.out.cell (World.block_lt_of_cell? w _ hx221_0)).trans hx221_0)
        replace p221 := eq_true p221
        replace q221 := eq_true q221
        go_upto_region 9 with (fail)
        go_cut [37] (fun v37 wc => ∃ (kq : Nat) (x37_17 : Bool), v37 = .bool x37_17 ∧ Aside0 (impl_free.j2 kq a1 x7_2 x8_2 x23_2 (rd l0 x23_2) l0 (l0.length : Int) x23_2 x37_17 = some (r1, r2, r3)) ∧ Aside0 (kq ≤ k2) ∧ Aside0 (Kd.R (Kd.int .i64) 3 wc w.heap.size (fun k_ => some k_ ≠ (u8 : Value).ownBlock) u7 x7_2) ∧ Aside0 (Kd.R (Kd.int .i64) 3 wc w.heap.size (fun k_ => some k_ ≠ (u7 : Value).ownBlock) u8 x8_2) ∧ Aside0 (Below w.heap.size w wc))
        case first =>
         have H := HC18.out
         clear HC18
         by_cases c19 : (rd l0 x23_2) = a1
         ·rw [if_pos c19] at H
          have c19b0 : ((rd l0 x23_2) == a1) = true := beq_iff_eq.mpr c19
          have c19b1 : ((rd l0 x23_2) != a1) = false := bne_eq_false_iff_eq.mpr c19
          clear c19
          (first | rw [c19b0] | (simp only [i64_w, i32_w]; rw [c19b0]) | skip)
          have H' := ax H
          clear H
          obtain ⟨Ao20, co20, eo20⟩ := Kd.R_slice HO_8.out
          subst eo20
          go_wp2
          go_meet
          case rel => exact ⟨_, (decide ((x8_2.length : Int) > 0)), xr, H', ⟨by have := HJ2.out; have := HK2.out; first | omega | exact Nat.le_refl _⟩, ⟨xR HO_7.out⟩, ⟨xR HO_8.out⟩, ⟨xb HB.out⟩⟩
         ·rw [if_neg c19] at H
          have c19b0 : ((rd l0 x23_2) == a1) = false := beq_eq_false_iff_ne.mpr c19
          have c19b1 : ((rd l0 x23_2) != a1) = true := bne_iff_ne.mpr c19
          (first | rw [c19b0] | (simp only [i64_w, i32_w]; rw [c19b0]) | skip)
          have H' := ax H
          clear H
          go_wp2
          go_meet
          case rel => exact ⟨_, (false), xr, H', ⟨by have := HJ2.out; have := HK2.out; first | omega | exact Nat.le_refl _⟩, ⟨xR HO_7.out⟩, ⟨xR HO_8.out⟩, ⟨xb HB.out⟩⟩
        case rest =>
         clear HC18
         (try clear c5); (try clear c7); (try clear c12); (try clear c12b0); (try clear c13); (try clear c13b0); (try clear c14); (try clear c14b0); (try clear c15); (try clear c15b0); (try clear c15b1); (try clear c16); (try clear c19); (try clear c19b0); (try clear c19b1); (try clear hx221_0); (try clear p221); (try clear q221)
         obtain ⟨kq, x37_17, rfl, HA, HJ17, HO_7, HO_8, HB⟩ := hcut
         cases kq with
         | zero => exact absurd HA.out (by simp [impl_free.j2])
         | succ kj17 =>
          have H := HA.out
          clear HA
          simp only [impl_free.j2] at H
          by_cases c21 : x37_17 = true
          ·subst c21
           rw [if_pos rfl] at H
           obtain ⟨ji22, hji22⟩ : ∃ j_ : Int, (wrap64 ((x8_2.length : Int) - 1)) = j_ := ⟨_, rfl⟩
           replace H : (if 0 ≤ (ji22) then (if (ji22) ≤ (x8_2.length : Int) then (impl_free.l0 kj17 a1 x7_2 (x8_2.take ((ji22) : Int).toNat) l0 (l0.length : Int) (wrap64 (x23_2 + 1))) else (none)) else (none)) = some (r1, r2, r3) := by first | (rw [hji22] at H; exact H) | (simp only [hji22] at H ⊢; exact H)
           have hji22w : (IntKind.i64.wrap ((x8_2.length : Int) - 1)) = ji22 := (i64_w _).trans hji22
           obtain ⟨c23, H⟩ := xp H
           have c23b0 := eq_true c23
           have c23b1 := decide_eq_true c23
           clear c23
           obtain ⟨c24, H⟩ := xp H
           have c24b0 := eq_true c24
           have c24b1 := decide_eq_true c24
           clear c24
           obtain ⟨y225, hy225⟩ : ∃ y_ : List Int, y_ = (x8_2.take ((ji22) : Int).toNat) := ⟨_, rfl⟩
           replace H : (impl_free.l0 kj17 a1 x7_2 y225 l0 (l0.length : Int) (wrap64 (x23_2 + 1))) = some (r1, r2, r3) := xv hy225 H
           have Ny225 := ax hy225
           clear hy225
           have H' := ax H
           clear H
           obtain ⟨Ao25, co25, eo25⟩ := Kd.R_slice HO_8.out
           subst eo25
           have q26 : ((ji22) : Int) ≤ ((x8_2.length : Int) : Int) := xd
           obtain ⟨i026, hi026, _, hsz26, _⟩ := info_parts info3
           have hcut26 := cut_to (P := Try.prog) 24 3 .i64 Try.underlying24 hi026 Ao25 x8_2.length co25 (ji22) (xd) q26 (Kd.R_reads' HO_8.out).2.1
           have hr26 := Kd.R_take (m := ((ji22) : Int).toNat) HO_8.out (by omega)
           have hy26 : y225.length = ((ji22) : Int).toNat := (by rw [Ny225.out, List.length_take]; omega)
           rw [← Ny225.out] at hr26
           rw [← hy26] at hr26 hcut26
           clear hy26 hi026 hsz26 HO_8
           have HO227 := ax hr26
           clear hr26
           replace q26 := eq_true q26
           go_wp2
           go_roundg kj17
           case measure => have := HJ2.out; have := HK2.out; have := HJ17.out; omega
           case rel => exact ⟨(x7_2), (y225), (wrap64 (x23_2 + 1)), xr, H', ⟨by have := HJ2.out; have := HK2.out; have := HJ17.out; omega⟩, ⟨xR HO_7.out⟩, ⟨xR HO227.out⟩, ⟨xb HB.out⟩⟩
          ·replace c21 := Bool.eq_false_iff.mpr c21
           subst c21
           rw [if_neg (show ¬ (false = true) by decide)] at H
           by_cases c27 : (rd l0 x23_2) = a1
           ·rw [if_pos c27] at H
            have c27b0 : ((rd l0 x23_2) == a1) = true := beq_iff_eq.mpr c27
            have c27b1 : ((rd l0 x23_2) != a1) = false := bne_eq_false_iff_eq.mpr c27
            clear c27
            obtain ⟨c28, H⟩ := xp H
            have LMc28 := ax c28
            clear c28
            obtain ⟨y228, hy228⟩ : ∃ y_ : List Int, y_ = (x7_2 ++ [x23_2]) := ⟨_, rfl⟩
            replace H : (impl_free.l0 kj17 a1 y228 x8_2 l0 (l0.length : Int) (wrap64 (x23_2 + 1))) = some (r1, r2, r3) := xv hy228 H
            have Ny228 := ax hy228
            clear hy228
            have H' := ax H
            clear H
            go_wp2_with (first | ((with_reducible refine gate_builtin (b := .append) (xs := #[.tmp 55, .tmp 57]) rfl ?_); (try (refine gate_guard (by rfl) ?_; dsimp only)); at_builtin; refine Kd.R_append (Kd.int .i64) (w0 := w) w.heap.size rfl (.tmp 55) (.tmp 57) 24 3 (.int .i64 0) 8 rfl Try.underlying24 info3 rfl (by decide) (by omega) u7 x7_2 x23_2 [.int .i64 x23_2] (fun k_ => some k_ ≠ (u8 : Value).ownBlock) (fun _ => False) rfl rfl ?aP (fun _ hk => hk.elim) ?aF ?aO ?aB ?aS ?aL ?_; (case aP => exact rfl); (case aB => exact (xb HB.out)); (case aF => exact (fun k_ hk => Kd.fresh' (Kd.R_lt (xR HO_8.out)) k_ hk)); (case aO => exact (xR HO_7.out)); (case aS => exact (below_size (xb HB.out))); (case aL => have := LMc28.out; omega); intro v229 w29 ho hb hg hat; rw [← Ny228.out] at ho; have n0_ := ax (Kd.R_after (ok := (fun _ => True)) (by (with_reducible repeat (first | apply Kd.R_alloc | apply Kd.R_drewN | apply Kd.R_drew)); exact Kd.R_mono HO_8.out (fun _ hk => ⟨trivial, by first | exact hk | simpa only [xw_own] using hk⟩)) hg hat); have n1_ := ax (hb); have n2_ := ax (ho); clear HO_8; clear HB; clear HO_7; have HO_8 := n0_; have HB := n1_; have HO230 := n2_; clear n0_ n1_ n2_; clear ho hb hg hat))
            go_roundg kj17
            case measure => have := HJ2.out; have := HK2.out; have := HJ17.out; omega
            case rel => exact ⟨(y228), (x8_2), (wrap64 (x23_2 + 1)), xr, H', ⟨by have := HJ2.out; have := HK2.out; have := HJ17.out; omega⟩, ⟨xR HO230.out⟩, ⟨by (with_reducible repeat (first | apply Kd.R_alloc | apply Kd.R_drewN | apply Kd.R_drew)); exact Kd.R_mono HO_8.out (fun _ hk => hk.2)⟩, ⟨xb HB.out⟩⟩
           ·rw [if_neg c27] at H
            have c27b0 : ((rd l0 x23_2) == a1) = false := beq_eq_false_iff_ne.mpr c27
            have c27b1 : ((rd l0 x23_2) != a1) = true := bne_iff_ne.mpr c27
            have H' := ax H
            clear H
            go_wp2
            go_roundg kj17
            case measure => have := HJ2.out; have := HK2.out; have := HJ17.out; omega
            case rel => exact ⟨(x7_2), (x8_2), (wrap64 (x23_2 + 1)), xr, H', ⟨by have := HJ2.out; have := HK2.out; have := HJ17.out; omega⟩, ⟨xR HO_7.out⟩, ⟨xR HO_8.out⟩, ⟨xb HB.out⟩⟩
      ·rw [if_neg c12] at H
       have c12b0 := decide_eq_false c12
       clear c12
       simp only [Option.some.injEq, Prod.mk.injEq] at H
       obtain ⟨rfl, rfl, rfl⟩ := H
       go_wp2
       go_ret3
       exact ⟨_, _, xe, xR HO_7.out, xR HO_8.out, xb HB.out⟩

/-! ### slices_Clone_int_int: function 26 -/
def slices_Clone_int_int.f (l0 : List Int) : Option (List Int) := (some (([] : List Int) : List Int)).bind fun y231 => (if y231.length + l0.length < 17592186044416 then (some (y231 ++ l0)) else (none))
theorem slices_Clone_int_int.calls (A0 : Option Addr) (c0 : Nat) (l0 : List Int) (r : List Int) (w : World) (hr0 : Kd.C (Kd.int .i64) w A0 l0.length l0) (hc0 : l0.length ≤ c0) (h : slices_Clone_int_int.f l0 = some r) :
  Calls Try.prog 26 #[.slice A0 l0.length c0] w fun e w' => ∃ v0_ : Value, e = .returned (v0_) ∧ Kd.R (Kd.int .i64) 3 w' w.heap.size (fun _ => True) v0_ r ∧ Below w.heap.size w w' := by
 cases hA : A0.isNone with
 | true =>
  have e0 : l0 = [] := by
   obtain ⟨h1, h2, h3⟩ := hr0
   cases l0 with
   | nil => rfl
   | cons x xs =>
    exfalso
    obtain ⟨ad, e, _⟩ := h3 (by simp)
    subst e
    simp at hA
  subst e0
  have er : r = [] := by simpa [slices_Clone_int_int.f] using h.symm
  subst er
  have he_ : ∀ W : World, (binOp .eql 24 (.slice A0 0 c0) (.slice none 0 0)).run Try.prog W = .ok (.bool true) W := fun W => by rw [Lib.run_eql_slice_nil W 24 3 A0 0 c0 0 0 Try.underlying24, hA]
  show Calls Try.prog 26 #[.slice A0 0 c0] w _
  clear h hr0 hA
  go_enter Try.func26, Try.ntmps26
  go_wp2
  go_ret
  exact ⟨_, rfl, Kd.R_nil _ _ _ _ _, Below.refl _ _⟩
 | false =>
 have he_ : ∀ W : World, (binOp .eql 24 (.slice A0 l0.length c0) (.slice none 0 0)).run Try.prog W = .ok (.bool false) W := fun W => by rw [Lib.run_eql_slice_nil W 24 3 A0 l0.length c0 0 0 Try.underlying24, hA]
 clear hA
 have HR0 := ax hr0
 have HC0 := ax hc0
 clear hr0 hc0
 have HB := ax (Below.refl w.heap.size w)
 have H : ((some (([] : List Int) : List Int)).bind fun y231 => (if y231.length + l0.length < 17592186044416 then (some (y231 ++ l0)) else (none))) = some r := h
 clear h
 obtain ⟨y231, Ny231, H⟩ := xg H
 obtain ⟨c2, H⟩ := xp H
 have LMc2 := ax c2
 clear c2
 obtain ⟨y234, hy234⟩ : ∃ y_ : List Int, y_ = (y231 ++ l0) := ⟨_, rfl⟩
 replace H : (some y234) = some r := xv hy234 H
 have Ny234 := ax hy234
 clear hy234
 obtain rfl := Option.some.inj H
 go_enter Try.func26, Try.ntmps26
 go_wp2_with (first | ((with_reducible refine gate_dst (N := 5) rfl ?_); refine Kd.R_lit (Kd.int .i64) _ 3 ?hg (N := 5) ?hd (xs := ([] : List Int)) (inner := []) (ok := fun _ => True) (okp := fun _ => True) ?hr ?hp (fun _ hk => hk) trivial (Below.refl _ _) (Nat.le_refl _) (by simp) ?_; (case hd => rfl); (case hg => rfl); (case hr => first | (go_simp; done) | (go_simp; rfl)); (case hp => exact (Reps.none _ _)); intro v232 w3 ho4 hb hg_ hnew_; clear hg_ hnew_; (first | rw [← Ny231.out] at ho4 | (simp only [Int.reduceToNat] at ho4; rw [← Ny231.out] at ho4)); have HO233 := ax (Kd.R_lower ho4 (below_size (xb HB.out))); replace HB := yB HB hb; clear hb ho4) | ((with_reducible refine gate_builtin (b := .append) (xs := #[.tmp 5, .tmp 6]) rfl ?_); at_builtin; refine Kd.R_append_rows (Kd.int .i64) (w0 := w) w.heap.size rfl (.tmp 5) (.tmp 6) 24 3 (.int .i64 0) 8 rfl Try.underlying24 info3 rfl (by decide) (by omega) v232 y231 l0 _ _ _ (fun _ => True) (fun _ => False) rfl rfl ?aO ?aR (fun _ _ h => h) (fun _ h => h.elim) ?aF ?aB ?aS ?aL ?_; (case aR => exact xc (Kd.C_below HR0.out HB.out)); (case aB => exact (xb HB.out)); (case aF => exact (fun _ _ => trivial)); (case aO => exact (by (with_reducible repeat (first | apply Kd.R_alloc | apply Kd.R_drewN | apply Kd.R_drew)); exact HO233.out)); (case aS => exact (below_size (xb HB.out))); (case aL => have := LMc2.out; omega); intro v235 w5 ho hb hg hat; rw [← Ny234.out] at ho; have n0_ := ax (hb); have n1_ := ax (ho); clear HB; clear HO233; have HB := n0_; have HO236 := n1_; clear n0_ n1_; clear ho hb hg hat))
 go_ret
 exact ⟨_, xe, by (with_reducible repeat (first | apply Kd.R_alloc | apply Kd.R_drewN | apply Kd.R_drew)); exact HO236.out, xb HB.out⟩

/-! ### impl_with: function 23 -/
def impl_with.f (l0 : List Int) (a1 : Int) (a2 : Int) : Option (List Int) := (slices_Clone_int_int.f l0).bind fun t237 => (if 0 ≤ a1 then (if a1 < (t237.length : Int) then (some (t237.set (a1 : Int).toNat a2)) else (none)) else (none))
theorem impl_with.calls (A0 : Option Addr) (c0 : Nat) (l0 : List Int) (a1 : Int) (a2 : Int) (r : List Int) (w : World) (hr0 : Kd.C (Kd.int .i64) w A0 l0.length l0) (hc0 : l0.length ≤ c0) (h : impl_with.f l0 a1 a2 = some r) :
  Calls Try.prog 23 #[.slice A0 l0.length c0, .int .i64 a1, .int .i64 a2] w fun e w' => ∃ v0_ : Value, e = .returned (v0_) ∧ Kd.R (Kd.int .i64) 3 w' w.heap.size (fun _ => True) v0_ r ∧ Below w.heap.size w w' := by
 have HR0 := ax hr0
 have HC0 := ax hc0
 clear hr0 hc0
 have HB := ax (Below.refl w.heap.size w)
 have H : ((slices_Clone_int_int.f l0).bind fun t237 => (if 0 ≤ a1 then (if a1 < (t237.length : Int) then (some (t237.set (a1 : Int).toNat a2)) else (none)) else (none))) = some r := h
 clear h
 obtain ⟨t237, A4, H⟩ := xI H
 obtain ⟨c5b0, H⟩ := xq H
 obtain ⟨c6b0, H⟩ := xq H
 obtain ⟨y240, hy240⟩ : ∃ y_ : List Int, y_ = (t237.set (a1 : Int).toNat a2) := ⟨_, rfl⟩
 replace H : (some y240) = some r := xv hy240 H
 have Ny240 := ax hy240
 clear hy240
 obtain rfl := Option.some.inj H
 go_enter Try.func23, Try.ntmps23
 go_wp2_with (first | ((with_reducible refine gate_callee (f := 26) rfl ?_); refine goesL_ (some 9) rfl rfl Try.func26 (by kernel_rfl) rfl #[.slice A0 l0.length c0] rfl xm ?_; (with_reducible refine (slices_Clone_int_int.calls _ _ l0 t237 _ ?side1 ?side2 A4.out).mono ?_); (case side1 => exact xc HR0.out); (case side2 => exact HC0.out); rintro e w8 ⟨v238, rfl, ho0, hb⟩; refine ⟨_, rfl, ?_⟩; have HO239 := ax (Kd.R_lower ho0 (below_size (xb HB.out))); replace HB := yB HB hb; (try clear hb); (try clear ho0); have p7 : 0 ≤ (a1 : Int) := xd; have q7 : (a1 : Int) < ((t237.length : Int) : Int) := xd; obtain ⟨go7, co7, eo7, gb7, gl7, cl7, HG7⟩ := Kd.R_form HO239.out (by omega); (first | cases eo7 | (injection eo7 with ea_ en_ ec_; (first | subst ea_ | (injection ea_ with ea_; subst ea_)); subst ec_; clear en_)); have GB7 := ax gb7; have GG7 := ax HG7; clear gb7 gl7 HG7; obtain ⟨hx7_0, hf7_0⟩ := Kd.R_celln 0 HO239.out (a1 : Int) p7 q7; replace p7 := eq_true p7; replace q7 := eq_true q7; obtain ⟨hy9_, hz9_⟩ := Kd.R_celln 0 HO239.out (a1 : Int) (xd) (xd); have HP9 := Kd.R_putg HO239.out (a1 : Int) a2) | ((with_reducible refine gate_store (t := 3) (p := 13) rfl ?_); refine store_event (t := 3) (p := 13) (v := ?vo_w10) (w1 := (w8.setCell ⟨go7, (a1 : Int).toNat, none⟩ (.int .i64 a2))) ?hg ?ho ?hn ?hr ?_; (case ho => rfl); (case hg => rfl); (case hn => rfl); (case hr => first | (go_simp; done) | (go_simp; rfl)); intro w10 hw; have hg : w8.grownBy w10 (some go7) := (by rw [hw]; exact HP9.2); have hp_ : Kd.R (Kd.int .i64) 3 w10 w.heap.size (fun _ => True) (.slice (some ⟨go7, 0, none⟩) t237.length co7) y240 := (by rw [hw, Ny240.out]; exact HP9.1); clear HP9; replace HO239 := ax (hp_); replace HB := ax ((by rw [hw]; exact below_set (HB.out) GB7.out : Below w.heap.size w w10)); clear hg hw hp_))
 go_ret
 exact ⟨_, xe, xR HO239.out, xb HB.out⟩

/-! ### impl_LowerWord: function 6 -/
def impl_LowerWord.f (k : Nat) (l0 : List Int) (a1 : Int) : Option (List Int × Bool) := (impl_free.f k l0 a1).bind fun bt241 => (if (bt241.1.length : Int) = 0 then (some (([] : List Int), false)) else (if 0 ≤ (wrap64 ((bt241.1.length : Int) - 1)) then (if (wrap64 ((bt241.1.length : Int) - 1)) < (bt241.1.length : Int) then ((impl_with.f l0 (rd bt241.1 (wrap64 ((bt241.1.length : Int) - 1))) (wrap64 (a1 + 1))).bind fun t249 => (some (t249, true))) else (none)) else (none)))
theorem impl_LowerWord.mono : ∀ a0 a1 k, LeO (impl_LowerWord.f k a0 a1) (impl_LowerWord.f (k + 1) a0 a1) := by
 intro a0 a1 k
 unfold impl_LowerWord.f
 repeat' with_reducible first | exact impl_free.mono _ _ _ | exact xl | refine LeO.ite ?_ ?_ | refine LeO.bind ?_ fun _ => ?_
theorem impl_LowerWord.calls (k : Nat) (A0 : Option Addr) (c0 : Nat) (l0 : List Int) (a1 : Int) (r1 : List Int) (r2 : Bool) (w : World) (hr0 : Kd.C (Kd.int .i64) w A0 l0.length l0) (hc0 : l0.length ≤ c0) (h : impl_LowerWord.f k l0 a1 = some (r1, r2)) :
  Calls Try.prog 6 #[.slice A0 l0.length c0, .int .i64 a1] w fun e w' => ∃ v0_ : Value, e = .returned (.tuple #[v0_, .bool r2]) ∧ Kd.R (Kd.int .i64) 3 w' w.heap.size (fun _ => True) v0_ r1 ∧ Below w.heap.size w w' := by
 have HR0 := ax hr0
 have HC0 := ax hc0
 clear hr0 hc0
 have HB := ax (Below.refl w.heap.size w)
 have H : ((impl_free.f k l0 a1).bind fun bt241 => (if (bt241.1.length : Int) = 0 then (some (([] : List Int), false)) else (if 0 ≤ (wrap64 ((bt241.1.length : Int) - 1)) then (if (wrap64 ((bt241.1.length : Int) - 1)) < (bt241.1.length : Int) then ((impl_with.f l0 (rd bt241.1 (wrap64 ((bt241.1.length : Int) - 1))) (wrap64 (a1 + 1))).bind fun t249 => (some (t249, true))) else (none)) else (none)))) = some (r1, r2) := h
 clear h
 obtain ⟨⟨t241, t242, t243⟩, A3, H⟩ := xI H
 dsimp only at H
 by_cases c4 : (t241.length : Int) = 0
 ·rw [if_pos c4] at H
  have c4b0 : ((t241.length : Int) == 0) = true := beq_iff_eq.mpr c4
  have c4b1 : ((t241.length : Int) != 0) = false := bne_eq_false_iff_eq.mpr c4
  clear c4
  simp only [Option.some.injEq, Prod.mk.injEq] at H
  obtain ⟨rfl, rfl⟩ := H
  go_enter Try.func6, Try.ntmps6
  go_wp2_with (first | ((with_reducible refine gate_callee (f := 22) rfl ?_); refine goesL_ (some 12) rfl rfl Try.func22 (by kernel_rfl) rfl #[.slice A0 l0.length c0, .int .i64 a1] rfl xm ?_; (with_reducible refine (impl_free.calls k _ _ l0 a1 t241 t242 t243 _ ?side1 ?side2 A3.out).mono ?_); (case side1 => exact xc HR0.out); (case side2 => exact HC0.out); rintro e w5 ⟨v244, v246, rfl, ho0, ho1, hb⟩; refine ⟨_, rfl, ?_⟩; have HO245 := ax (Kd.R_lower ho0 (below_size (xb HB.out))); have HO247 := ax (Kd.R_lower ho1 (below_size (xb HB.out))); replace HB := yB HB hb; (try clear hb); (try clear ho0); (try clear ho1); obtain ⟨Ao6, co6, eo6⟩ := Kd.R_slice HO245.out; subst eo6))
  go_ret2
  exact ⟨_, xe, by first | exact Kd.R_nil _ _ _ _ _ | exact Kd.N_nil _ _ _ _ _ | exact Kd.V_nil _ _ _ _ _ | exact Kd.Q_nil _ _ _ _ _ | exact Kd.S_nil _ _ _ _ _, xb HB.out⟩
 ·rw [if_neg c4] at H
  have c4b0 : ((t241.length : Int) == 0) = false := beq_eq_false_iff_ne.mpr c4
  have c4b1 : ((t241.length : Int) != 0) = true := bne_iff_ne.mpr c4
  have c4b2 : ¬ (t241 = []) := fun h_ => c4 (by rw [h_]; rfl)
  obtain ⟨ji7, hji7⟩ : ∃ j_ : Int, (wrap64 ((t241.length : Int) - 1)) = j_ := ⟨_, rfl⟩
  replace H : (if 0 ≤ (ji7) then (if (ji7) < (t241.length : Int) then ((impl_with.f l0 (rd t241 (ji7)) (wrap64 (a1 + 1))).bind fun t249 => (some (t249, true))) else (none)) else (none)) = some (r1, r2) := by first | (rw [hji7] at H; exact H) | (simp only [hji7] at H ⊢; exact H)
  (try rw [hji7] at A3)
  have hji7w : (IntKind.i64.wrap ((t241.length : Int) - 1)) = ji7 := (i64_w _).trans hji7
  obtain ⟨c8b0, H⟩ := xq H
  obtain ⟨c9b0, H⟩ := xq H
  obtain ⟨t249, A10, H⟩ := xI H
  simp only [Option.some.injEq, Prod.mk.injEq] at H
  obtain ⟨rfl, rfl⟩ := H
  go_enter Try.func6, Try.ntmps6
  go_wp2_with (first | ((with_reducible refine gate_callee (f := 22) rfl ?_); refine goesL_ (some 12) rfl rfl Try.func22 (by kernel_rfl) rfl #[.slice A0 l0.length c0, .int .i64 a1] rfl xm ?_; (with_reducible refine (impl_free.calls k _ _ l0 a1 t241 t242 t243 _ ?side1 ?side2 A3.out).mono ?_); (case side1 => exact xc HR0.out); (case side2 => exact HC0.out); rintro e w11 ⟨v244, v246, rfl, ho0, ho1, hb⟩; refine ⟨_, rfl, ?_⟩; have HO245 := ax (Kd.R_lower ho0 (below_size (xb HB.out))); have HO247 := ax (Kd.R_lower ho1 (below_size (xb HB.out))); replace HB := yB HB hb; (try clear hb); (try clear ho0); (try clear ho1); obtain ⟨Ao12, co12, eo12⟩ := Kd.R_slice HO245.out; subst eo12; have p248 : 0 ≤ ((ji7) : Int) := xd; have q248 : (ji7) < (t241.length : Int) := xd; obtain ⟨ad248, e248, hx248_0⟩ := Kd.at_int (Kd.R_reads' HO245.out).2.2 (ji7) p248 q248; cases e248; replace p248 := eq_true p248; replace q248 := eq_true q248) | ((with_reducible refine gate_callee (f := 23) rfl ?_); refine goesL_ (some 28) rfl rfl Try.func23 (by kernel_rfl) rfl #[.slice A0 l0.length c0, .int .i64 (rd t241 (ji7)), .int .i64 (wrap64 (a1 + 1))] rfl (by (try simp only [List.map_toArray, List.map_cons, List.map_nil]); first | done | (simp only [hji7]; rfl) | rfl | (simp only [List.length_drop, List.length_take]; rfl)) ?_; (with_reducible refine (impl_with.calls _ _ l0 (rd t241 (ji7)) (wrap64 (a1 + 1)) t249 _ ?side1 ?side2 A10.out).mono ?_); (case side1 => exact xz HR0.out HB.out); (case side2 => exact HC0.out); rintro e w13 ⟨v250, rfl, ho0, hb⟩; refine ⟨_, rfl, ?_⟩; have HO251 := ax (Kd.R_lower (Kd.R_new' (Kd.R_new' ho0 (Kd.R_lt (xR HO245.out))) (Kd.R_lt (xR HO247.out))) (below_size (xb HB.out))); replace HO245 := ax (Kd.R_elder' (xR HO245.out) (Kd.R_base ho0) hb); replace HO247 := ax (Kd.R_elder' (xR HO247.out) (Kd.R_base ho0) hb); replace HB := yB HB hb; (try clear hb); (try clear ho0)))
  go_ret2
  exact ⟨_, by first | rfl | (simp [errW_none, errW_some] <;> rfl) | (simp only [← hji7]; first | rfl | (simp [errW_none, errW_some] <;> rfl)) | (simp [*, errW_none, errW_some] <;> rfl), by (with_reducible repeat (first | apply Kd.R_alloc | apply Kd.R_drewN | apply Kd.R_drew)); exact Kd.R_mono HO251.out (fun _ hk => trivial), xb HB.out⟩

/-! ### spec_l26Fine: function 24 -/
def spec_l26Fine.f (k : Nat) (l0 : List Int) (a1 : Int) : Option (Bool) := (spec_IsWord.f k l0).bind fun t252 => (if t252 = true then ((spec_l1In.f a1 1 8).bind fun t253 => (some t253)) else (some false))
theorem spec_l26Fine.mono : ∀ a0 a1 k, LeO (spec_l26Fine.f k a0 a1) (spec_l26Fine.f (k + 1) a0 a1) := by
 intro a0 a1 k
 unfold spec_l26Fine.f
 repeat' with_reducible first | exact spec_IsWord.mono _ _ | exact xl | refine LeO.ite ?_ ?_ | refine LeO.bind ?_ fun _ => ?_
theorem spec_l26Fine.calls (k : Nat) (A0 : Option Addr) (c0 : Nat) (l0 : List Int) (a1 : Int) (r : Bool) (w : World) (hr0 : Kd.C (Kd.int .i64) w A0 l0.length l0) (hc0 : l0.length ≤ c0) (h : spec_l26Fine.f k l0 a1 = some r) :
  Calls Try.prog 24 #[.slice A0 l0.length c0, .int .i64 a1] w fun e w' => e = .returned (.bool r) ∧ Drawn0 w w' := by
 have HR0 := ax hr0
 have HC0 := ax hc0
 clear hr0 hc0
 have H : ((spec_IsWord.f k l0).bind fun t252 => (if t252 = true then ((spec_l1In.f a1 1 8).bind fun t253 => (some t253)) else (some false))) = some r := h
 clear h
 obtain ⟨t252, A3, H⟩ := xI H
 by_cases c4 : t252 = true
 ·subst c4
  rw [if_pos rfl] at H
  obtain ⟨t253, A5, H⟩ := xI H
  obtain rfl := Option.some.inj H
  go_enter Try.func24, Try.ntmps24
  go_wp2_with (first | ((with_reducible refine gate_callee (f := 31) rfl ?_); refine goesL_ (some 6) rfl rfl Try.func31 (by kernel_rfl) rfl #[.slice A0 l0.length c0] rfl xm ?_; (with_reducible refine (spec_IsWord.calls k _ _ l0 true _ ?side1 ?side2 A3.out).mono ?_); (case side1 => exact xc HR0.out); (case side2 => exact HC0.out); rintro e w' ⟨rfl, ⟨nd, rfl⟩⟩; refine ⟨_, rfl, ?_⟩) | (go_at_call 36; (with_reducible refine (spec_l1In.calls a1 1 8 t253 _ A5.out).mono ?_); rintro e w' ⟨rfl, ⟨nd, rfl⟩⟩))
  go_ret
  exact ⟨by first | rfl | (simp; done) | (simp [*]; done), by repeat (first | exact Drawn0.refl _ | apply Drawn0.step)⟩
 ·replace c4 := Bool.eq_false_iff.mpr c4
  subst c4
  rw [if_neg (show ¬ (false = true) by decide)] at H
  obtain rfl := Option.some.inj H
  go_enter Try.func24, Try.ntmps24
  go_wp2_with (first | ((with_reducible refine gate_callee (f := 31) rfl ?_); refine goesL_ (some 6) rfl rfl Try.func31 (by kernel_rfl) rfl #[.slice A0 l0.length c0] rfl xm ?_; (with_reducible refine (spec_IsWord.calls k _ _ l0 false _ ?side1 ?side2 A3.out).mono ?_); (case side1 => exact xc HR0.out); (case side2 => exact HC0.out); rintro e w' ⟨rfl, ⟨nd, rfl⟩⟩; refine ⟨_, rfl, ?_⟩))
  go_ret
  exact ⟨by first | rfl | (simp; done) | (simp [*]; done), by repeat (first | exact Drawn0.refl _ | apply Drawn0.step)⟩

end Go.Proofs.Ytnfcdaojglicfaa.PFnOperators
