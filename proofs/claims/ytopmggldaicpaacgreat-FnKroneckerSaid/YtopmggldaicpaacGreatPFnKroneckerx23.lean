import Derived.Test.YtopmggldaicpaacGreatPFnKroneckerx3
import Derived.Test.YtopmggldaicpaacGreatPFnKroneckerx22
namespace Go.Proofs.YtopmggldaicpaacGreat.PFnKronecker
open Go.RowKit Go.Proofs.YtopmggldaicpaacGreatW.PrintWords Go.Proofs.YtopmggldaicpaacGreatW.PrintLast Go.Proofs.YtopmggldaicpaacGreatW.PrintMore
set_option linter.unusedVariables false
set_option linter.unusedSimpArgs false
set_option maxHeartbeats 8000000
set_option maxRecDepth 100000
/-! ### spec_InverseOf: function 38 -/
mutual
def spec_InverseOf.j0 : Nat → List Int → Bool → Option (List Int × Bool)
 | 0, _, _ => none
 | k + 1, x0, x15 => if x15 = true then (some ((([] : List Int)), false)) else (if 0 ≤ (x0.length : Int) then (if ((x0.length : Int) : Int).toNat ≤ 35184372088832 then (spec_InverseOf.l0 k x0 (List.replicate ((x0.length : Int) : Int).toNat 0) 0) else (none)) else (none))
def spec_InverseOf.l0 : Nat → List Int → List Int → Int → Option (List Int × Bool)
 | 0, _, _, _ => none
 | k + 1, x0, x4, x5 => if x5 < (x0.length : Int) then (if 0 ≤ x5 then (if 0 ≤ (wrap64 ((rd x0 x5) - 1)) then (if (wrap64 ((rd x0 x5) - 1)) < (x4.length : Int) then (spec_InverseOf.l0 k x0 (x4.set ((wrap64 ((rd x0 x5) - 1)) : Int).toNat (wrap64 (x5 + 1))) (wrap64 (x5 + 1))) else (none)) else (none)) else (none)) else (some (x4, true))
end
def spec_InverseOf.f (k : Nat) (l0 : List Int) : Option (List Int × Bool) := (spec_IsWord.f k l0).bind fun t638 => (if t638 = true then ((spec_StandardizeWord.f k l0).bind fun t639 => ((spec_l2Same.f k t639 l0).bind fun t642 => (spec_InverseOf.j0 k l0 (!t642)))) else (spec_InverseOf.j0 k l0 true))
theorem spec_InverseOf.mono_l : ∀ k, (∀ y0 y1, LeO (spec_InverseOf.j0 k y0 y1) (spec_InverseOf.j0 (k + 1) y0 y1)) ∧ (∀ y0 y1 y2, LeO (spec_InverseOf.l0 k y0 y1 y2) (spec_InverseOf.l0 (k + 1) y0 y1 y2))
 | 0 => ⟨fun _ _ r h => by simp [spec_InverseOf.j0] at h, fun _ _ _ r h => by simp [spec_InverseOf.l0] at h⟩
 | k + 1 => by
  obtain ⟨ih0, ih1⟩ := spec_InverseOf.mono_l k
  refine ⟨?_, ?_⟩
  ·intro y0 y1
   unfold spec_InverseOf.j0
   repeat' with_reducible first | exact ih0 _ _ | exact ih1 _ _ _ | exact spec_IsWord.mono _ _ | exact spec_StandardizeWord.mono _ _ | exact spec_l2Same.mono _ _ _ | exact xl | refine LeO.ite ?_ ?_ | refine LeO.bind ?_ fun _ => ?_
  ·intro y0 y1 y2
   unfold spec_InverseOf.l0
   repeat' with_reducible first | exact ih0 _ _ | exact ih1 _ _ _ | exact spec_IsWord.mono _ _ | exact spec_StandardizeWord.mono _ _ | exact spec_l2Same.mono _ _ _ | exact xl | refine LeO.ite ?_ ?_ | refine LeO.bind ?_ fun _ => ?_
theorem spec_InverseOf.mono : ∀ a0 k, LeO (spec_InverseOf.f k a0) (spec_InverseOf.f (k + 1) a0) := by
 intro a0 k
 obtain ⟨ih0, ih1⟩ := spec_InverseOf.mono_l k
 unfold spec_InverseOf.f
 repeat' with_reducible first | exact ih0 _ _ | exact ih1 _ _ _ | exact spec_IsWord.mono _ _ | exact spec_StandardizeWord.mono _ _ | exact spec_l2Same.mono _ _ _ | exact xl | refine LeO.ite ?_ ?_ | refine LeO.bind ?_ fun _ => ?_
theorem spec_InverseOf.calls (k : Nat) (A0 : Option Addr) (c0 : Nat) (l0 : List Int) (r1 : List Int) (r2 : Bool) (w : World) (hr0 : Kd.C (Kd.int .i64) w A0 l0.length l0) (hc0 : l0.length ≤ c0) (h : spec_InverseOf.f k l0 = some (r1, r2)) :
  Calls Tryz.prog 38 #[.slice A0 l0.length c0] w fun e w' => ∃ v0_ : Value, e = .returned (.tuple #[v0_, .bool r2]) ∧ Kd.R (Kd.int .i64) 3 w' w.heap.size (fun _ => True) v0_ r1 ∧ Below w.heap.size w w' := by
 have HR0 := ax hr0
 have HC0 := ax hc0
 clear hr0 hc0
 have HB := ax (Below.refl w.heap.size w)
 have H : ((spec_IsWord.f k l0).bind fun t638 => (if t638 = true then ((spec_StandardizeWord.f k l0).bind fun t639 => ((spec_l2Same.f k t639 l0).bind fun t642 => (spec_InverseOf.j0 k l0 (!t642)))) else (spec_InverseOf.j0 k l0 true))) = some (r1, r2) := h
 clear h
 have HC2 := ax H
 clear H
 go_enter Tryz.func38, Tryz.ntmps38
 go_upto_region 1 with (fail)
 go_cut [15] (fun v15 wc => ∃ (kq : Nat) (x15_1 : Bool), v15 = .bool x15_1 ∧ Aside0 (spec_InverseOf.j0 kq l0 x15_1 = some (r1, r2)) ∧ Aside0 (kq ≤ k) ∧ Aside0 (Below w.heap.size w wc))
 case first =>
  have H := HC2.out
  clear HC2
  obtain ⟨t638, A3, H⟩ := xI H
  by_cases c4 : t638 = true
  ·subst c4
   rw [if_pos rfl] at H
   obtain ⟨t639, A5, H⟩ := xI H
   obtain ⟨t642, A6, H⟩ := xI H
   have H' := ax H
   clear H
   go_wp2_with (first | ((with_reducible refine gate_callee (f := 58) rfl ?_); refine goesL_ (some 7) rfl rfl Tryz.func58 (by kernel_rfl) rfl #[.slice A0 l0.length c0] rfl xm ?_; (with_reducible refine (spec_IsWord.calls k _ _ l0 true _ ?side1 ?side2 A3.out).mono ?_); (case side1 => exact xz HR0.out HB.out); (case side2 => exact HC0.out); rintro e w' ⟨rfl, ⟨nd, rfl⟩⟩; refine ⟨_, rfl, ?_⟩) | (go_at_call 49; (with_reducible refine (spec_StandardizeWord.calls k _ _ l0 t639 _ ?side1 ?side2 A5.out).mono ?_); (case side1 => exact xc (Kd.C_below HR0.out (xb HB.out))); (case side2 => exact HC0.out); rintro e w7 ⟨v640, rfl, ho0, hb⟩; have HO641 := ax (Kd.R_lower ho0 (below_size (xb HB.out))); replace HB := yB HB hb; (try clear hb); (try clear ho0); obtain ⟨Ao8, co8, eo8⟩ := Kd.R_slice HO641.out; subst eo8) | (go_at_call 59; (with_reducible refine (spec_l2Same.calls k _ _ t639 _ _ l0 t642 _ ?side1 ?side2 ?side3 ?side4 A6.out).mono ?_); (case side1 => exact xc (Kd.R_reads' HO641.out).2.2); (case side2 => exact (Kd.R_reads' HO641.out).2.1); (case side3 => exact xz HR0.out HB.out); (case side4 => exact HC0.out); rintro e w' ⟨rfl, ⟨nd, rfl⟩⟩))
   go_meet
   case rel => exact ⟨_, (!t642), xr, H', ⟨by first | omega | exact Nat.le_refl _⟩, ⟨xb HB.out⟩⟩
  ·replace c4 := Bool.eq_false_iff.mpr c4
   subst c4
   rw [if_neg (show ¬ (false = true) by decide)] at H
   have H' := ax H
   clear H
   go_wp2_with (first | ((with_reducible refine gate_callee (f := 58) rfl ?_); refine goesL_ (some 7) rfl rfl Tryz.func58 (by kernel_rfl) rfl #[.slice A0 l0.length c0] rfl xm ?_; (with_reducible refine (spec_IsWord.calls k _ _ l0 false _ ?side1 ?side2 A3.out).mono ?_); (case side1 => exact xz HR0.out HB.out); (case side2 => exact HC0.out); rintro e w' ⟨rfl, ⟨nd, rfl⟩⟩; refine ⟨_, rfl, ?_⟩))
   go_meet
   case rel => exact ⟨_, (true), xr, H', ⟨by first | omega | exact Nat.le_refl _⟩, ⟨xb HB.out⟩⟩
 case rest =>
  clear HC2
  (try clear c4)
  obtain ⟨kq, x15_1, rfl, HA, HJ1, HB⟩ := hcut
  cases kq with
  | zero => exact absurd HA.out (by simp [spec_InverseOf.j0])
  | succ kj1 =>
   have H := HA.out
   clear HA
   simp only [spec_InverseOf.j0] at H
   by_cases c9 : x15_1 = true
   ·subst c9
    rw [if_pos rfl] at H
    obtain ⟨y643, hy643⟩ : ∃ y_ : List Int, y_ = (([] : List Int)) := ⟨_, rfl⟩
    replace H : (some (y643, false)) = some (r1, r2) := xv hy643 H
    have Ny643 := ax hy643
    clear hy643
    simp only [Option.some.injEq, Prod.mk.injEq] at H
    obtain ⟨rfl, rfl⟩ := H
    go_wp2_with (first | ((with_reducible refine gate_dst (N := 16) rfl ?_); refine Kd.R_lit (Kd.int .i64) _ 3 ?hg (N := 16) ?hd (xs := ([] : List Int)) (inner := []) (ok := fun _ => True) (okp := fun _ => True) ?hr ?hp (fun _ hk => hk) trivial (Below.refl _ _) (Nat.le_refl _) (by simp) ?_; (case hd => rfl); (case hg => rfl); (case hr => first | (go_simp; done) | (go_simp; rfl)); (case hp => exact (Reps.none _ _)); intro v644 w10 ho11 hb hg_ hnew_; clear hg_ hnew_; (first | rw [← Ny643.out] at ho11 | (simp only [Int.reduceToNat] at ho11; rw [← Ny643.out] at ho11)); have HO645 := ax (Kd.R_lower ho11 (below_size (xb HB.out))); replace HB := yB HB hb; clear hb ho11))
    go_ret2
    exact ⟨_, xe, xR HO645.out, xb HB.out⟩
   ·replace c9 := Bool.eq_false_iff.mpr c9
    subst c9
    rw [if_neg (show ¬ (false = true) by decide)] at H
    obtain ⟨c12, H⟩ := xp H
    have c12b0 := eq_true c12
    have c12b1 := decide_eq_true c12
    clear c12
    obtain ⟨c13, H⟩ := xp H
    have c13b0 := eq_true c13
    have c13b1 := decide_eq_true c13
    clear c13
    obtain ⟨y646, hy646⟩ : ∃ y_ : List Int, y_ = (List.replicate ((l0.length : Int) : Int).toNat 0) := ⟨_, rfl⟩
    replace H : (spec_InverseOf.l0 kj1 l0 y646 0) = some (r1, r2) := xv hy646 H
    have Ny646 := ax hy646
    clear hy646
    have H' := ax H
    clear H
    go_wp2_with (first | ((with_reducible refine gate_dst (N := 19) rfl ?_); refine Kd.R_make (Kd.int .i64) _ 3 rfl (N := 19) rfl 24 _ _ rfl (l0.length : Int) rfl rfl Tryz.underlying24 (.int .i64 0) 8 info3 rfl (by decide) (by omega) 0 (ok := fun _ => True) (okp := fun _ => True) rfl (fun _ hk => hk) trivial (xd) (Nat.le_trans (Nat.mul_le_mul_right _ (xd : (l0.length : Int).toNat ≤ 35184372088832)) (by omega)) (Below.refl _ _) (Nat.le_refl _) ?_; intro v647 w14 ho15 hb hg_ hnew_; clear hg_ hnew_; (first | rw [← Ny646.out] at ho15 | (simp only [Int.reduceToNat] at ho15; rw [← Ny646.out] at ho15)); have HO648 := ax (Kd.R_lower ho15 (below_size (xb HB.out))); replace HB := yB HB hb; clear hb ho15))
    go_loopg [5] kj1 (fun kq v5 w' => ∃ (x4_2 : List Int) (x5_2 : Int), v5 = .int .i64 x5_2 ∧ Aside0 (spec_InverseOf.l0 kq l0 x4_2 x5_2 = some (r1, r2)) ∧ Aside0 (kq ≤ kj1) ∧ Aside0 (Kd.R (Kd.int .i64) 3 w' w.heap.size (fun _ => True) v647 x4_2) ∧ Aside0 (Below w.heap.size w w'))
    case atStart => exact ⟨(y646), (0), xr, H', ⟨Nat.le_refl _⟩, ⟨xR HO648.out⟩, ⟨xb HB.out⟩⟩
    case round =>
     clear H'
     (try clear c4); (try clear c9); (try clear c12); (try clear c12b0); (try clear c12b1); (try clear c13); (try clear c13b0); (try clear c13b1)
     obtain ⟨x4_2, x5_2, rfl, HA, HK2, HO_4, HB⟩ := hrel
     cases gk with
     | zero => exact absurd HA.out (by simp [spec_InverseOf.l0])
     | succ k2 =>
      have H := HA.out
      clear HA
      simp only [spec_InverseOf.l0] at H
      by_cases c16 : x5_2 < (l0.length : Int)
      ·rw [if_pos c16] at H
       have c16b0 := decide_eq_true c16
       clear c16
       obtain ⟨c17b0, H⟩ := xq H
       obtain ⟨ji18, hji18⟩ : ∃ j_ : Int, (wrap64 ((rd l0 x5_2) - 1)) = j_ := ⟨_, rfl⟩
       replace H : (if 0 ≤ (ji18) then (if (ji18) < (x4_2.length : Int) then (spec_InverseOf.l0 k2 l0 (x4_2.set ((ji18) : Int).toNat (wrap64 (x5_2 + 1))) (wrap64 (x5_2 + 1))) else (none)) else (none)) = some (r1, r2) := by first | (rw [hji18] at H; exact H) | (simp only [hji18] at H ⊢; exact H)
       have hji18w : (IntKind.i64.wrap ((rd l0 x5_2) - 1)) = ji18 := (i64_w _).trans hji18
       obtain ⟨c19b0, H⟩ := xq H
       obtain ⟨c20b0, H⟩ := xq H
       obtain ⟨y650, hy650⟩ : ∃ y_ : List Int, y_ = (x4_2.set ((ji18) : Int).toNat (wrap64 (x5_2 + 1))) := ⟨_, rfl⟩
       replace H : (spec_InverseOf.l0 k2 l0 y650 (wrap64 (x5_2 + 1))) = some (r1, r2) := xv hy650 H
       have Ny650 := ax hy650
       clear hy650
       have H' := ax H
       clear H
       have p649 : 0 ≤ (x5_2 : Int) := xd
       have q649 : x5_2 < (l0.length : Int) := xd
       obtain ⟨ad649, e649, hx649_0⟩ := Kd.at_int HR0.out x5_2 p649 q649
       cases e649
       (try replace hx649_0 := (HB.out.cell (World.block_lt_of_cell? w _ hx649_0)).trans hx649_0)
       replace p649 := eq_true p649
       replace q649 := eq_true q649
       have p21 : 0 ≤ ((ji18) : Int) := xd
       have q21 : ((ji18) : Int) < ((x4_2.length : Int) : Int) := xd
       obtain ⟨go21, co21, eo21, gb21, gl21, cl21, HG21⟩ := Kd.R_form HO_4.out (by omega)
       (first | cases eo21 | (injection eo21 with ea_ en_ ec_; (first | subst ea_ | (injection ea_ with ea_; subst ea_)); subst ec_; clear en_))
       have GB21 := ax gb21
       have GG21 := ax HG21
       clear gb21 gl21 HG21
       obtain ⟨hx21_0, hf21_0⟩ := Kd.R_celln 0 HO_4.out ((ji18) : Int) p21 q21
       replace p21 := eq_true p21
       replace q21 := eq_true q21
       have HP22 := Kd.R_putg HO_4.out ((ji18) : Int) (wrap64 (x5_2 + 1))
       go_wp2_with (first | ((with_reducible refine gate_store (t := 3) (p := 34) rfl ?_); refine store_event (t := 3) (p := 34) (v := ?vo_w23) (w1 := (wr.setCell ⟨go21, ((ji18) : Int).toNat, none⟩ (.int .i64 (wrap64 (x5_2 + 1))))) ?hg ?ho ?hn ?hr ?_; (case ho => rfl); (case hg => rfl); (case hn => rfl); (case hr => first | (go_simp; done) | (go_simp; rfl)); intro w23 hw; have hg : wr.grownBy w23 (some go21) := (by rw [hw]; exact HP22.2); have hp_ : Kd.R (Kd.int .i64) 3 w23 w.heap.size (fun _ => True) (.slice (some ⟨go21, 0, none⟩) x4_2.length co21) y650 := (by rw [hw, Ny650.out]; exact HP22.1); clear HP22; replace HO_4 := ax (hp_); replace HB := ax ((by rw [hw]; exact below_set (HB.out) GB21.out : Below w.heap.size w w23)); clear hg hw hp_))
       go_roundg k2
       case measure => have := HJ1.out; have := HK2.out; omega
       case rel => exact ⟨(y650), (wrap64 (x5_2 + 1)), xr, H', ⟨by have := HJ1.out; have := HK2.out; omega⟩, ⟨xR HO_4.out⟩, ⟨xb HB.out⟩⟩
      ·rw [if_neg c16] at H
       have c16b0 := decide_eq_false c16
       clear c16
       simp only [Option.some.injEq, Prod.mk.injEq] at H
       obtain ⟨rfl, rfl⟩ := H
       go_wp2
       go_ret2
       exact ⟨_, xe, xR HO_4.out, xb HB.out⟩

end Go.Proofs.YtopmggldaicpaacGreat.PFnKronecker
