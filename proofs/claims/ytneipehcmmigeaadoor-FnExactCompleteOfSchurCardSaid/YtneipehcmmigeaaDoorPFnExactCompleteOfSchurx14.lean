import Derived.Test.YtneipehcmmigeaaDoorPFnExactCompleteOfSchurx0
import Derived.Test.YtneipehcmmigeaaDoorPFnExactCompleteOfSchurx6
import Derived.Test.YtneipehcmmigeaaDoorPFnExactCompleteOfSchurx9
import Derived.Test.YtneipehcmmigeaaDoorPFnExactCompleteOfSchurx13
import Derived.Test.YtneipehcmmigeaaDoorPFnExactCompleteOfSchurx23
import Derived.Test.YtneipehcmmigeaaDoorPFnExactCompleteOfSchurx21
namespace Go.Proofs.YtneipehcmmigeaaDoor.PFnExactCompleteOfSchur
open Go.RowKit Go.Proofs.YtneipehcmmigeaaDoorW.PrintWords Go.Proofs.YtneipehcmmigeaaDoorW.PrintLast Go.Proofs.YtneipehcmmigeaaDoorW.PrintMore
attribute [local go_sem] max2_int min2_int max_two min_two max_three min_three max_four min_four
set_option linter.unusedVariables false
set_option linter.unusedSimpArgs false
/-! ### slices_DeleteFunc_int_int__impl_chooseColumns_1: function 157 -/
def slices_DeleteFunc_int_int__impl_chooseColumns_1.l0 : Nat → List Int → Int → Int → Option (List Int)
  | 0, _, _, _ => none
  | k + 1, x0, x5, x6 => if x6 < (x0.length : Int) then (if 0 ≤ x6 then ((impl_chooseColumns_1.f (rd x0 x6)).bind fun t391 => (if t391 = true then (slices_DeleteFunc_int_int__impl_chooseColumns_1.l0 k x0 x5 (wrap64 (x6 + 1))) else (if 0 ≤ x5 then (if x5 < (x0.length : Int) then (slices_DeleteFunc_int_int__impl_chooseColumns_1.l0 k (x0.set (x5 : Int).toNat (rd x0 x6)) (wrap64 (x5 + 1)) (wrap64 (x6 + 1))) else (none)) else (none)))) else (none)) else (if 0 ≤ x5 then (if x5 ≤ (x0.length : Int) then (some (x0.take (x5 : Int).toNat)) else (none)) else (none))
def slices_DeleteFunc_int_int__impl_chooseColumns_1.f (k : Nat) (l0 : List Int)  : Option (List Int) := (slices_IndexFunc_int_int__impl_chooseColumns_1.f k l0).bind fun t389 => (if t389 = (-1) then (some l0) else (slices_DeleteFunc_int_int__impl_chooseColumns_1.l0 k l0 t389 (wrap64 (t389 + 1))))
theorem slices_DeleteFunc_int_int__impl_chooseColumns_1.mono_l : ∀ k, (∀ y0 y1 y2, LeO (slices_DeleteFunc_int_int__impl_chooseColumns_1.l0 k y0 y1 y2) (slices_DeleteFunc_int_int__impl_chooseColumns_1.l0 (k + 1) y0 y1 y2))
  | 0 => fun _ _ _ r h => by simp [slices_DeleteFunc_int_int__impl_chooseColumns_1.l0] at h
  | k + 1 => by
    have ih0 := slices_DeleteFunc_int_int__impl_chooseColumns_1.mono_l k
    · intro y0 y1 y2
      unfold slices_DeleteFunc_int_int__impl_chooseColumns_1.l0
      repeat' first
      | (with_reducible exact ih0 _ _ _)
      | (with_reducible exact slices_IndexFunc_int_int__impl_chooseColumns_1.mono _ _)
      | (with_reducible exact LeO.refl _)
      | (with_reducible exact LeO.none _)
      | (with_reducible refine LeO.ite ?_ ?_)
      | (with_reducible refine LeO.bind ?_ (fun _ => ?_))
      | exact ih0 _ _ _
      | exact slices_IndexFunc_int_int__impl_chooseColumns_1.mono _ _
      | exact LeO.none _
      | refine LeO.ite ?_ ?_
      | refine LeO.bind ?_ (fun _ => ?_)
theorem slices_DeleteFunc_int_int__impl_chooseColumns_1.mono : ∀ a0 k, LeO (slices_DeleteFunc_int_int__impl_chooseColumns_1.f k a0) (slices_DeleteFunc_int_int__impl_chooseColumns_1.f (k + 1) a0) := by
  intro a0 k
  have ih0 := slices_DeleteFunc_int_int__impl_chooseColumns_1.mono_l k
  unfold slices_DeleteFunc_int_int__impl_chooseColumns_1.f
  repeat' first
      | (with_reducible exact ih0 _ _ _)
      | (with_reducible exact slices_IndexFunc_int_int__impl_chooseColumns_1.mono _ _)
      | (with_reducible exact LeO.refl _)
      | (with_reducible exact LeO.none _)
      | (with_reducible refine LeO.ite ?_ ?_)
      | (with_reducible refine LeO.bind ?_ (fun _ => ?_))
      | exact ih0 _ _ _
      | exact slices_IndexFunc_int_int__impl_chooseColumns_1.mono _ _
      | exact LeO.none _
      | refine LeO.ite ?_ ?_
      | refine LeO.bind ?_ (fun _ => ?_)
set_option maxHeartbeats 8000000 in
set_option maxRecDepth 100000 in
theorem slices_DeleteFunc_int_int__impl_chooseColumns_1.calls (k : Nat) (P0_ : Nat → Prop) (u9000_ : Value) (l0 : List Int)  (r : List Int) (w0 w : World) (hB : Below w0.heap.size w0 w) (ho0 : Kd.R (Kd.int .i64) 3 w w0.heap.size P0_ u9000_ l0) (h : slices_DeleteFunc_int_int__impl_chooseColumns_1.f k l0 = some r) :
    Calls Tryd.prog 46 #[u9000_, .func (.func 47) #[] #[]] w fun e w' => ∃ v0_ : Value, e = .returned (v0_) ∧ Kd.R (Kd.int .i64) 3 w' w0.heap.size (fun k_ => (P0_ k_ ∨ w.heap.size ≤ k_)) v0_ r ∧ Below w0.heap.size w0 w' ∧ Kept w w' (fun k_ => P0_ k_) := by
  have HO0 := Aside0.mk (show Kd.R (Kd.int .i64) 3 w w0.heap.size (fun k_ => (P0_ k_ ∨ w.heap.size ≤ k_)) u9000_ l0 from Kd.R_mono ho0 (fun k_ hk => (.inl hk)))
  have HK := Aside0.mk (Kept.refl w (fun k_ => P0_ k_))
  have HW0 := Aside0.mk hB.size
  have HB := Aside0.mk hB
  clear hB
  have H : ((slices_IndexFunc_int_int__impl_chooseColumns_1.f k l0).bind fun t389 => (if t389 = (-1) then (some l0) else (slices_DeleteFunc_int_int__impl_chooseColumns_1.l0 k l0 t389 (wrap64 (t389 + 1))))) = some r := h
  clear h
  replace H := Option.bind_eq_some_iff.mp H
  obtain ⟨t389, A30, H⟩ := H
  replace H : (if t389 = (-1) then (some l0) else (slices_DeleteFunc_int_int__impl_chooseColumns_1.l0 k l0 t389 (wrap64 (t389 + 1)))) = some r := H
  have A3 := Aside0.mk A30
  clear A30
  by_cases c4 : t389 = (-1)
  · rw [if_pos c4] at H
    have c4b0 : (t389 == (-1)) = true := beq_iff_eq.mpr c4
    have c4b1 : (t389 != (-1)) = false := bne_eq_false_iff_eq.mpr c4
    clear c4
    obtain rfl := Option.some.inj H
    obtain ⟨Ao5, co5, eo5⟩ := Kd.R_slice HO0.out
    subst eo5
    go_enter Tryd.func46, Tryd.ntmps46
    go_wp2_with (first | ((with_reducible refine gate_callee (f := 62) rfl ?_); refine goesL_ (some 10) rfl rfl Tryd.func62 (by kernel_rfl) rfl #[.slice Ao5 l0.length co5, .func (.func 47) #[] #[]] rfl xm ?_; (with_reducible refine (slices_IndexFunc_int_int__impl_chooseColumns_1.calls k _ _ l0  t389 _ ?side1 ?side2 A3.out).mono ?_); (case side1 => repeat (first | exact (Kd.R_reads' HO0.out).2.2 | (with_reducible refine Kd.C_alloc ?_ _) | (with_reducible refine Kd.C_drewN ?_ _) | (with_reducible refine Kd.C_drew ?_))); (case side2 => exact (Kd.R_reads' HO0.out).2.1); rintro e w' ⟨rfl, ⟨nd, rfl⟩⟩; refine ⟨_, rfl, ?_⟩))
    go_ret
    exact ⟨_, by first | rfl | (simp [errW_none, errW_some] <;> rfl) | (simp [*, errW_none, errW_some] <;> rfl), by (with_reducible repeat (first | apply Kd.R_alloc | apply Kd.R_drewN | apply Kd.R_drew)); first | exact HO0.out | exact Kd.R_mono HO0.out xi, by repeat (first | (with_reducible first | exact HB.out | apply below_alloc | apply pw_below_drewN | apply below_drew1) | exact HB.out), by repeat (first | (with_reducible first | exact HK.out | apply Kept.alloc | apply Kept.drewN | apply Kept.drew) | exact HK.out)⟩
  · rw [if_neg c4] at H
    have c4b0 : (t389 == (-1)) = false := beq_eq_false_iff_ne.mpr c4
    have c4b1 : (t389 != (-1)) = true := bne_iff_ne.mpr c4
    have H' := Aside0.mk H
    clear H
    obtain ⟨Ao6, co6, eo6⟩ := Kd.R_slice HO0.out
    subst eo6
    go_enter Tryd.func46, Tryd.ntmps46
    go_wp2_with (first | ((with_reducible refine gate_callee (f := 62) rfl ?_); refine goesL_ (some 10) rfl rfl Tryd.func62 (by kernel_rfl) rfl #[.slice Ao6 l0.length co6, .func (.func 47) #[] #[]] rfl xm ?_; (with_reducible refine (slices_IndexFunc_int_int__impl_chooseColumns_1.calls k _ _ l0  t389 _ ?side1 ?side2 A3.out).mono ?_); (case side1 => repeat (first | exact (Kd.R_reads' HO0.out).2.2 | (with_reducible refine Kd.C_alloc ?_ _) | (with_reducible refine Kd.C_drewN ?_ _) | (with_reducible refine Kd.C_drew ?_))); (case side2 => exact (Kd.R_reads' HO0.out).2.1); rintro e w' ⟨rfl, ⟨nd, rfl⟩⟩; refine ⟨_, rfl, ?_⟩))
    go_loopg [5, 6] k (fun kq v5 v6 w' => ∃ (x0_1 : List Int) (x5_1 : Int) (x6_1 : Int), v5 = .int .i64 x5_1 ∧ v6 = .int .i64 x6_1 ∧ Aside0 (slices_DeleteFunc_int_int__impl_chooseColumns_1.l0 kq x0_1 x5_1 x6_1 = some r) ∧ Aside0 (kq ≤ k) ∧ Aside0 (Kd.R (Kd.int .i64) 3 w' w0.heap.size (fun k_ => (P0_ k_ ∨ w.heap.size ≤ k_)) (.slice Ao6 l0.length co6) x0_1) ∧ Aside0 (Kept w w' (fun k_ => P0_ k_)) ∧ Aside0 (Below w0.heap.size w0 w'))
    case atStart => exact ⟨(l0), (t389), (wrap64 (t389 + 1)), (by first | rfl | (simp; done) | (simp [*]; done)), (by first | rfl | (simp; done) | (simp [*]; done)), H', ⟨Nat.le_refl _⟩, ⟨by (with_reducible repeat (first | apply Kd.R_alloc | apply Kd.R_drewN | apply Kd.R_drew)); first | exact HO0.out | exact Kd.R_mono HO0.out xi⟩, ⟨by repeat (first | (with_reducible first | exact HK.out | apply Kept.alloc | apply Kept.drewN | apply Kept.drew) | exact HK.out)⟩, ⟨by repeat (first | (with_reducible first | exact HB.out | apply below_alloc | apply pw_below_drewN | apply below_drew1) | exact HB.out)⟩⟩
    case round =>
      clear H'
      try clear p2
      try clear c4
      try clear c4b0
      try clear c4b1
      try clear c6
      try clear p6
      obtain ⟨x0_1, x5_1, x6_1, rfl, rfl, HA, HK1, HO_0, HK, HB⟩ := hrel
      have hl0_1 := (Kd.R_reads' HO_0.out).1
      rw [hl0_1] at HO_0
      (try simp only [hl0_1])
      cases gk with
      | zero => exact absurd HA.out (by simp [slices_DeleteFunc_int_int__impl_chooseColumns_1.l0])
      | succ k1 =>
        have H := HA.out
        clear HA
        simp only [slices_DeleteFunc_int_int__impl_chooseColumns_1.l0] at H
        by_cases c7 : x6_1 < (x0_1.length : Int)
        · rw [if_pos c7] at H
          have c7b0 : decide (x6_1 < (x0_1.length : Int)) = true := decide_eq_true c7
          have c7b0x := c7b0
          (try simp only [hl0_1] at c7b0x)
          clear c7
          by_cases c8 : 0 ≤ x6_1
          · rw [if_pos c8] at H
            have c8b0 : decide (0 ≤ x6_1) = true := decide_eq_true c8
            clear c8
            replace H := Option.bind_eq_some_iff.mp H
            obtain ⟨t391, A90, H⟩ := H
            replace H : (if t391 = true then (slices_DeleteFunc_int_int__impl_chooseColumns_1.l0 k1 x0_1 x5_1 (wrap64 (x6_1 + 1))) else (if 0 ≤ x5_1 then (if x5_1 < (x0_1.length : Int) then (slices_DeleteFunc_int_int__impl_chooseColumns_1.l0 k1 (x0_1.set (x5_1 : Int).toNat (rd x0_1 x6_1)) (wrap64 (x5_1 + 1)) (wrap64 (x6_1 + 1))) else (none)) else (none))) = some r := H
            have A9 := Aside0.mk A90
            clear A90
            by_cases c10 : t391 = true
            · subst c10
              have H1 : (slices_DeleteFunc_int_int__impl_chooseColumns_1.l0 k1 x0_1 x5_1 (wrap64 (x6_1 + 1))) = some r := by rw [if_pos rfl] at H; exact H
              clear H
              have H := H1
              clear H1
              have H' := Aside0.mk H
              clear H
              have p390 : 0 ≤ (x6_1 : Int) := of_decide_eq_true (by first | (with_reducible assumption) | assumption)
              have q390 : x6_1 < (x0_1.length : Int) := of_decide_eq_true (by first | (with_reducible assumption) | assumption)
              obtain ⟨ad390, e390, hx390_0⟩ := Kd.at_int (Kd.R_reads' HO_0.out).2.2 x6_1 p390 q390
              cases e390
              replace p390 := eq_true p390
              replace q390 := eq_true q390
              go_wp2_with (first | (go_at_call 47; (with_reducible refine (impl_chooseColumns_1.calls (rd x0_1 x6_1) true _ A9.out).mono ?_); rintro e w' ⟨rfl, ⟨nd, rfl⟩⟩))
              (try simp only [← hl0_1])
              go_roundg k1
              case measure => have := HK1.out; omega
              case rel => exact ⟨(x0_1), (x5_1), (wrap64 (x6_1 + 1)), (by first | rfl | (simp; done) | (simp [*]; done)), (by first | rfl | (simp; done) | (simp [*]; done)), H', ⟨by have := HK1.out; omega⟩, ⟨by (try simp only [hl0_1]); (with_reducible repeat (first | apply Kd.R_alloc | apply Kd.R_drewN | apply Kd.R_drew)); first | exact HO_0.out | exact Kd.R_mono HO_0.out xi⟩, ⟨by repeat (first | (with_reducible first | exact HK.out | apply Kept.alloc | apply Kept.drewN | apply Kept.drew) | exact HK.out)⟩, ⟨by repeat (first | (with_reducible first | exact HB.out | apply below_alloc | apply pw_below_drewN | apply below_drew1) | exact HB.out)⟩⟩
            · replace c10 := Bool.eq_false_iff.mpr c10
              subst c10
              have H1 : (if 0 ≤ x5_1 then (if x5_1 < (x0_1.length : Int) then (slices_DeleteFunc_int_int__impl_chooseColumns_1.l0 k1 (x0_1.set (x5_1 : Int).toNat (rd x0_1 x6_1)) (wrap64 (x5_1 + 1)) (wrap64 (x6_1 + 1))) else (none)) else (none)) = some r := by rw [if_neg (show ¬ (false = true) by decide)] at H; exact H
              clear H
              have H := H1
              clear H1
              by_cases c11 : 0 ≤ x5_1
              · rw [if_pos c11] at H
                have c11b0 : decide (0 ≤ x5_1) = true := decide_eq_true c11
                clear c11
                by_cases c12 : x5_1 < (x0_1.length : Int)
                · rw [if_pos c12] at H
                  have c12b0 : decide (x5_1 < (x0_1.length : Int)) = true := decide_eq_true c12
                  have c12b0x := c12b0
                  (try simp only [hl0_1] at c12b0x)
                  clear c12
                  obtain ⟨y392, hy392⟩ : ∃ y_ : List Int, y_ = (x0_1.set (x5_1 : Int).toNat (rd x0_1 x6_1)) := ⟨_, rfl⟩
                  replace H : (slices_DeleteFunc_int_int__impl_chooseColumns_1.l0 k1 y392 (wrap64 (x5_1 + 1)) (wrap64 (x6_1 + 1))) = some r := by first | (rw [hy392]; with_reducible exact H) | (have H2_ := (Option.bind_some _ _).symm.trans H; rw [hy392]; with_reducible exact H2_) | (have H2_ := (Option.bind_some _ _).symm.trans H; with_reducible exact H2_) | with_reducible exact H | (rw [hy392]; exact H) | exact H
                  have Ny392 := Aside0.mk hy392
                  clear hy392
                  have H' := Aside0.mk H
                  clear H
                  have p390 : 0 ≤ (x6_1 : Int) := of_decide_eq_true (by first | (with_reducible assumption) | assumption)
                  have q390 : x6_1 < (x0_1.length : Int) := of_decide_eq_true (by first | (with_reducible assumption) | assumption)
                  obtain ⟨ad390, e390, hx390_0⟩ := Kd.at_int (Kd.R_reads' HO_0.out).2.2 x6_1 p390 q390
                  cases e390
                  replace p390 := eq_true p390
                  replace q390 := eq_true q390
                  go_wp2_with (first | (go_at_call 47; (with_reducible refine (impl_chooseColumns_1.calls (rd x0_1 x6_1) false _ A9.out).mono ?_); rintro e w' ⟨rfl, ⟨nd, rfl⟩⟩; (try (rw [drewN_self wr]; generalize hq_ : World.drewN wr _ = wr; have n0_ : Aside0 (Kd.R (Kd.int .i64) 3 wr w0.heap.size (fun k_ => (P0_ k_ ∨ w.heap.size ≤ k_)) (.slice (some ad390) x0_1.length co6) x0_1) := ⟨by rw [← hq_]; exact (xR HO_0.out)⟩; have n1_ : Aside0 (Kept w wr (fun k_ => P0_ k_)) := ⟨by rw [← hq_]; exact (by repeat (first | (with_reducible first | exact HK.out | apply Kept.alloc | apply Kept.drewN | apply Kept.drew) | exact HK.out))⟩; have n2_ : Aside0 (Below w0.heap.size w0 wr) := ⟨by rw [← hq_]; exact (xb HB.out)⟩; clear HO_0 HK HB hq_; have HO_0 := n0_; have HK := n1_; have HB := n2_; clear n0_ n1_ n2_)); have p13 : 0 ≤ (x5_1 : Int) := of_decide_eq_true (by first | (with_reducible assumption) | assumption); have q13 : (x5_1 : Int) < ((x0_1.length : Int) : Int) := of_decide_eq_true (by first | (with_reducible assumption) | assumption); obtain ⟨go13, co13, eo13, gb13, gl13, cl13, HG13⟩ := Kd.R_form HO_0.out (by omega); (first | cases eo13 | (injection eo13 with ea_ en_ ec_; (first | subst ea_ | (injection ea_ with ea_; subst ea_)); subst ec_; clear en_)); have GB13 := Aside0.mk gb13; have GG13 := Aside0.mk HG13; clear gb13 gl13 HG13; have HMgo13 := Aside0.mk (show (P0_ go13 ∨ w.heap.size ≤ go13) from (HO_0.out.1 _ rfl)); (first | simp only [add_plain] at hx390_0 | skip); obtain ⟨hx13_0, hf13_0⟩ := Kd.R_celln 0 HO_0.out (x5_1 : Int) p13 q13; replace p13 := eq_true p13; replace q13 := eq_true q13; obtain ⟨hy14_, hz14_⟩ := Kd.R_celln 0 HO_0.out (x5_1 : Int) (of_decide_eq_true (by first | (with_reducible assumption) | assumption)) (of_decide_eq_true (by first | (with_reducible assumption) | assumption)); have HP14 := Kd.R_putg HO_0.out (x5_1 : Int) (rd x0_1 x6_1)) | ((with_reducible refine gate_store (t := 3) (p := 33) rfl ?_); refine store_event (t := 3) (p := 33) (v := ?vo_w15) (w1 := (wr.setCell ⟨go13, (x5_1 : Int).toNat, none⟩ (.int .i64 (rd x0_1 x6_1)))) ?hg ?ho ?hn ?hr ?_; (case ho => rfl); (case hg => rfl); (case hn => rfl); (case hr => first | (go_simp; done) | (go_simp; rfl)); intro w15 hw; have hg : wr.grownBy w15 (some go13) := (by rw [hw]; exact HP14.2); have hp_ : Kd.R (Kd.int .i64) 3 w15 w0.heap.size (fun k_ => (P0_ k_ ∨ w.heap.size ≤ k_)) (.slice (some ⟨go13, 0, none⟩) x0_1.length co6) y392 := (by rw [hw, Ny392.out]; exact HP14.1); clear HP14; have n0_ := Aside0.mk (hp_); have n1_ := Aside0.mk ((by rw [hw]; exact below_set (HB.out) GB13.out : Below w0.heap.size w0 w15)); have n2_ := Aside0.mk (Kept.of_grown (S := (fun k_ => P0_ k_)) hg (by repeat (first | (with_reducible first | exact HK.out | apply Kept.alloc | apply Kept.drewN | apply Kept.drew) | exact HK.out)) (fun k_ e_ => (HO_0.out.1 k_ e_))); clear HO_0; clear HB; clear HK; have HO_0 := n0_; have HB := n1_; have HK := n2_; clear n0_ n1_ n2_; clear hg hw hp_))
                  (try simp only [← hl0_1])
                  go_roundg k1
                  case measure => have := HK1.out; omega
                  case rel => exact ⟨(y392), (wrap64 (x5_1 + 1)), (wrap64 (x6_1 + 1)), (by first | rfl | (simp; done) | (simp [*]; done)), (by first | rfl | (simp; done) | (simp [*]; done)), H', ⟨by have := HK1.out; omega⟩, ⟨by (try simp only [hl0_1]); (with_reducible repeat (first | apply Kd.R_alloc | apply Kd.R_drewN | apply Kd.R_drew)); first | exact HO_0.out | exact Kd.R_mono HO_0.out xi⟩, ⟨by repeat (first | (with_reducible first | exact HK.out | apply Kept.alloc | apply Kept.drewN | apply Kept.drew) | exact HK.out)⟩, ⟨by repeat (first | (with_reducible first | exact HB.out | apply below_alloc | apply pw_below_drewN | apply below_drew1) | exact HB.out)⟩⟩
                · rw [if_neg c12] at H
                  exact absurd H (by simp)
              · rw [if_neg c11] at H
                exact absurd H (by simp)
          · rw [if_neg c8] at H
            exact absurd H (by simp)
        · rw [if_neg c7] at H
          have c7b0 : decide (x6_1 < (x0_1.length : Int)) = false := decide_eq_false c7
          have c7b0x := c7b0
          (try simp only [hl0_1] at c7b0x)
          clear c7
          by_cases c16 : 0 ≤ x5_1
          · rw [if_pos c16] at H
            have c16b0 := eq_true c16
            have c16b1 : decide (0 ≤ x5_1) = true := decide_eq_true c16
            clear c16
            by_cases c17 : x5_1 ≤ (x0_1.length : Int)
            · rw [if_pos c17] at H
              have c17b0 := eq_true c17
              have c17b1 : decide (x5_1 ≤ (x0_1.length : Int)) = true := decide_eq_true c17
              have c17b1x := c17b1
              (try simp only [hl0_1] at c17b1x)
              clear c17
              obtain ⟨y393, hy393⟩ : ∃ y_ : List Int, y_ = (x0_1.drop (x5_1 : Int).toNat) := ⟨_, rfl⟩
              replace H : (some (x0_1.take (x5_1 : Int).toNat)) = some r := by first | (rw [hy393]; with_reducible exact H) | (have H2_ := (Option.bind_some _ _).symm.trans H; rw [hy393]; with_reducible exact H2_) | (have H2_ := (Option.bind_some _ _).symm.trans H; with_reducible exact H2_) | with_reducible exact H | (rw [hy393]; exact H) | exact H
              have Ny393 := Aside0.mk hy393
              clear hy393
              have c18b0 := eq_true (of_decide_eq_true (by first | (with_reducible assumption) | assumption) : x5_1 ≤ (x0_1.length : Int))
              obtain ⟨y397, hy397⟩ : ∃ y_ : List Int, y_ = (x0_1.take (x5_1 : Int).toNat) := ⟨_, rfl⟩
              replace H : (some y397) = some r := by first | (rw [hy397]; with_reducible exact H) | (have H2_ := (Option.bind_some _ _).symm.trans H; rw [hy397]; with_reducible exact H2_) | (have H2_ := (Option.bind_some _ _).symm.trans H; with_reducible exact H2_) | with_reducible exact H | (rw [hy397]; exact H) | exact H
              have Ny397 := Aside0.mk hy397
              clear hy397
              obtain rfl := Option.some.inj H
              have q19 : (x5_1 : Int) ≤ ((x0_1.length : Int) : Int) := of_decide_eq_true (by first | (with_reducible assumption) | assumption)
              obtain ⟨i019, hi019, _, hsz19, _⟩ := info_parts info3
              have hroom19 : x0_1.length ≤ co6 := (Kd.R_reads' HO_0.out).2.1
              have hC19 : Kd.C (Kd.int .i64) _ Ao6 x0_1.length x0_1 := (Kd.R_reads' HO_0.out).2.2
              have q019 : (0 : Int) ≤ (x5_1 : Int) := of_decide_eq_true (by first | (with_reducible assumption) | assumption)
              have hcut19 := cut_from (P := Tryd.prog) 22 3 .i64 Tryd.underlying22 hi019 1 hsz19 Ao6 x0_1.length co6 x5_1 q019 q19
              have hr19 := Kd.C_drop (m := (x5_1 : Int).toNat) (c := co6) hC19 (by omega) hroom19
              obtain ⟨A19, hA19⟩ : ∃ A1, A1 = (if co6 = (x5_1 : Int).toNat then Ao6 else (Ao6 : Option Addr).map (·.add ((x5_1 : Int).toNat * 1))) := ⟨_, rfl⟩
              obtain ⟨c19, hc19⟩ : ∃ c1, c1 = co6 - (x5_1 : Int).toNat := ⟨_, rfl⟩
              have hy19 : y393.length = x0_1.length - (x5_1 : Int).toNat := (by rw [Ny393.out, List.length_drop] <;> omega)
              rw [show (x0_1).drop (x5_1 : Int).toNat = y393 from Ny393.out.symm] at hr19
              replace hr19 : Kd.C (Kd.int .i64) _ A19 y393.length y393 := (by rw [hA19]; exact hr19)
              rw [← hy19, ← hA19, ← hc19] at hcut19
              have HR396 := Aside0.mk hr19
              have HC396 := Aside0.mk (show y393.length ≤ c19 from by rw [hy19, hc19]; exact Nat.sub_le_sub_right hroom19 _)
              clear hr19 hC19 hroom19 hi019 hsz19 hc19
              have KY19 := Aside0.mk hy19
              have KA19 := Aside0.mk hA19
              clear hy19 hA19
              have KL19 := Aside0.mk (show (x5_1 : Int).toNat ≤ x0_1.length from by omega)
              replace q19 := eq_true q19
              have q20 : (x5_1 : Int) ≤ ((x0_1.length : Int) : Int) := of_decide_eq_true (by first | (with_reducible assumption) | assumption)
              obtain ⟨i020, hi020, _, hsz20, _⟩ := info_parts info3
              have hcut20 := cut_to (P := Tryd.prog) 22 3 .i64 Tryd.underlying22 hi020 Ao6 x0_1.length co6 x5_1 (of_decide_eq_true (by first | (with_reducible assumption) | assumption)) q20 (Kd.R_reads' HO_0.out).2.1
              have hr20 := Kd.R_take (m := (x5_1 : Int).toNat) HO_0.out (by omega)
              have hy20 : y397.length = (x5_1 : Int).toNat := (by rw [Ny397.out, List.length_take]; omega)
              rw [← Ny397.out] at hr20
              rw [← hy20] at hr20 hcut20
              have HY_ := Aside0.mk hy20
              clear hy20 hi020 hsz20
              have HO399 := Aside0.mk hr20
              clear hr20
              replace q20 := eq_true q20
              go_wp2_with (first | ((with_reducible refine gate_builtin (b := .clear) (xs := #[.tmp 38]) rfl ?_); refine clear1 (w0 := w0) (base := w0.heap.size) (ok := fun k_ => (P0_ k_ ∨ w.heap.size ≤ k_)) (c' := c19) rfl (.tmp 38) rfl (m := (x5_1 : Int).toNat) KL19.out KA19.out KY19.out ?hs ?hN ?hB ?hb ?_; (case hs => first | rfl | (go_simp; done)); (case hN => (with_reducible repeat (first | apply Kd.R_alloc | apply Kd.R_drewN | apply Kd.R_drew)); exact HO_0.out); (case hB => exact (by repeat (first | (with_reducible first | exact HB.out | apply below_alloc | apply pw_below_drewN | apply below_drew1) | exact HB.out))); (case hb => exact below_size (by repeat (first | (with_reducible first | exact HB.out | apply below_alloc | apply pw_below_drewN | apply below_drew1) | exact HB.out))); intro w9 ys_ ho_ hl_ ht_ hg_ hb_; have n0_ := Aside0.mk (show Kd.R (Kd.int .i64) 3 w9 w0.heap.size (fun k_ => (P0_ k_ ∨ w.heap.size ≤ k_)) (.slice Ao6 y397.length co6) y397 from by have h_ := Kd.R_take (m := (x5_1 : Int).toNat) ho_ (by rw [hl_]; exact KL19.out); rw [ht_] at h_; rw [HY_.out, Ny397.out]; exact h_); have n1_ := Aside0.mk hb_; have n2_ := Aside0.mk (Kept.of_grown (S := (fun k_ => P0_ k_)) hg_ (by repeat (first | (with_reducible first | exact HK.out | apply Kept.alloc | apply Kept.drewN | apply Kept.drew) | exact HK.out)) (fun k_ e_ => HO_0.out.1 k_ e_)); clear HO399 HB HK; have HO399 := n0_; have HB := n1_; have HK := n2_; clear n0_ n1_ n2_ ho_ hl_ ht_ hg_ hb_))
              go_ret
              exact ⟨_, by first | rfl | (simp [errW_none, errW_some] <;> rfl) | (simp [*, errW_none, errW_some] <;> rfl), by (with_reducible repeat (first | apply Kd.R_alloc | apply Kd.R_drewN | apply Kd.R_drew)); first | exact HO399.out | exact Kd.R_mono HO399.out xi, by repeat (first | (with_reducible first | exact HB.out | apply below_alloc | apply pw_below_drewN | apply below_drew1) | exact HB.out), by repeat (first | (with_reducible first | exact HK.out | apply Kept.alloc | apply Kept.drewN | apply Kept.drew) | exact HK.out)⟩
            · rw [if_neg c17] at H
              exact absurd H (by simp)
          · rw [if_neg c16] at H
            exact absurd H (by simp)

/-! ### impl_chooseColumns: function 25 -/
mutual
def impl_chooseColumns.l0 : Nat → List Int → List Int → List Int → Int → Mt → Int → Int → Int → Option Mt
  | 0, _, _, _, _, _, _, _, _ => none
  | k + 1, x0, x1, x2, x3, x4, x10, x35, x36 => if x36 < x35 then (if 0 ≤ x10 then (if x10 < (x0.length : Int) then (if (wrap64 ((wrap64 ((rd x0 x10) - x10)) + x36)) < 0 then (impl_chooseColumns.j1 k x0 x1 x2 x3 x4 x10 x36 (wrap64 ((wrap64 ((rd x0 x10) - x10)) + x36)) x35 x36 true) else ((slices_Contains_int_int.f k x1 x36).bind fun t399 => (impl_chooseColumns.j1 k x0 x1 x2 x3 x4 x10 x36 (wrap64 ((wrap64 ((rd x0 x10) - x10)) + x36)) x35 x36 t399))) else (none)) else (none)) else (some x4)
def impl_chooseColumns.j1 : Nat → List Int → List Int → List Int → Int → Mt → Int → Int → Int → Int → Int → Bool → Option Mt
  | 0, _, _, _, _, _, _, _, _, _, _, _ => none
  | k + 1, x0, x1, x2, x3, x4, x10, x12, x13, x35, x36, x53 => if x53 = true then (impl_chooseColumns.l0 k x0 x1 x2 x3 x4 x10 x35 (wrap64 (x36 + 1))) else (impl_chooseColumns.l1 k x0 x1 x2 x3 x4 x10 x12 x13 x3 x35 x36 x1 (x1.length : Int) 0)
def impl_chooseColumns.l1 : Nat → List Int → List Int → List Int → Int → Mt → Int → Int → Int → Int → Int → Int → List Int → Int → Int → Option Mt
  | 0, _, _, _, _, _, _, _, _, _, _, _, _, _, _ => none
  | k + 1, x0, x1, x2, x3, x4, x10, x12, x13, x14, x35, x36, x55, x56, x57 => if x57 < x56 then (if 0 ≤ x57 then (if x57 < (x55.length : Int) then (if (rd x55 x57) > x12 then (impl_chooseColumns.l1 k x0 x1 x2 x3 x4 x10 x12 x13 (wrap64 (-x14)) x35 x36 x55 x56 (wrap64 (x57 + 1))) else (impl_chooseColumns.l1 k x0 x1 x2 x3 x4 x10 x12 x13 x14 x35 x36 x55 x56 (wrap64 (x57 + 1)))) else (none)) else (none)) else ((slices_Clone_int_int.f x1).bind fun t401 => (if t401.length < 17592186044416 then ((slices_Clone_int_int.f x2).bind fun t407 => (if t407.length < 17592186044416 then ((impl_chooseColumns.f k x0 (t401 ++ [x12]) (t407 ++ [x13]) x14 x4).bind fun t413 => (impl_chooseColumns.l0 k x0 x1 x2 x3 t413 x10 x35 (wrap64 (x36 + 1)))) else (none))) else (none)))
def impl_chooseColumns.f : Nat → List Int → List Int → List Int → Int → Mt → Option Mt
  | 0, _, _, _, _, _ => none
  | k + 1, l0, l1, l2, a3, l4 => if (l1.length : Int) = (l0.length : Int) then ((slices_Clone_int_int.f l2).bind fun t389 => ((slices_DeleteFunc_int_int__impl_chooseColumns_1.f k t389).bind fun t392 => ((slices_Sort_int_int.f k t392).bind fun t395 => ((slices_Reverse_int_int.f k t395).bind fun t396 => ((adding.f t396 a3 l4).bind fun t397 => (some t397)))))) else (impl_chooseColumns.l0 k l0 l1 l2 a3 l4 (l1.length : Int) (l0.length : Int) 0)
end
theorem impl_chooseColumns.mono_l : ∀ k, (∀ y0 y1 y2 y3 y4, LeO (impl_chooseColumns.f k y0 y1 y2 y3 y4) (impl_chooseColumns.f (k + 1) y0 y1 y2 y3 y4)) ∧ (∀ y0 y1 y2 y3 y4 y5 y6 y7, LeO (impl_chooseColumns.l0 k y0 y1 y2 y3 y4 y5 y6 y7) (impl_chooseColumns.l0 (k + 1) y0 y1 y2 y3 y4 y5 y6 y7)) ∧ (∀ y0 y1 y2 y3 y4 y5 y6 y7 y8 y9 y10, LeO (impl_chooseColumns.j1 k y0 y1 y2 y3 y4 y5 y6 y7 y8 y9 y10) (impl_chooseColumns.j1 (k + 1) y0 y1 y2 y3 y4 y5 y6 y7 y8 y9 y10)) ∧ (∀ y0 y1 y2 y3 y4 y5 y6 y7 y8 y9 y10 y11 y12 y13, LeO (impl_chooseColumns.l1 k y0 y1 y2 y3 y4 y5 y6 y7 y8 y9 y10 y11 y12 y13) (impl_chooseColumns.l1 (k + 1) y0 y1 y2 y3 y4 y5 y6 y7 y8 y9 y10 y11 y12 y13))
  | 0 => ⟨fun _ _ _ _ _ r h => by simp [impl_chooseColumns.f] at h, fun _ _ _ _ _ _ _ _ r h => by simp [impl_chooseColumns.l0] at h, fun _ _ _ _ _ _ _ _ _ _ _ r h => by simp [impl_chooseColumns.j1] at h, fun _ _ _ _ _ _ _ _ _ _ _ _ _ _ r h => by simp [impl_chooseColumns.l1] at h⟩
  | k + 1 => by
    obtain ⟨ih0, ih1, ih2, ih3⟩ := impl_chooseColumns.mono_l k
    refine ⟨?_, ?_, ?_, ?_⟩
    · intro y0 y1 y2 y3 y4
      unfold impl_chooseColumns.f
      repeat' first
      | (with_reducible exact ih0 _ _ _ _ _)
      | (with_reducible exact ih1 _ _ _ _ _ _ _ _)
      | (with_reducible exact ih2 _ _ _ _ _ _ _ _ _ _ _)
      | (with_reducible exact ih3 _ _ _ _ _ _ _ _ _ _ _ _ _ _)
      | (with_reducible exact slices_Contains_int_int.mono _ _ _)
      | (with_reducible exact slices_DeleteFunc_int_int__impl_chooseColumns_1.mono _ _)
      | (with_reducible exact slices_Reverse_int_int.mono _ _)
      | (with_reducible exact slices_Sort_int_int.mono _ _)
      | (with_reducible exact LeO.refl _)
      | (with_reducible exact LeO.none _)
      | (with_reducible refine LeO.ite ?_ ?_)
      | (with_reducible refine LeO.bind ?_ (fun _ => ?_))
      | exact ih0 _ _ _ _ _
      | exact ih1 _ _ _ _ _ _ _ _
      | exact ih2 _ _ _ _ _ _ _ _ _ _ _
      | exact ih3 _ _ _ _ _ _ _ _ _ _ _ _ _ _
      | exact slices_Contains_int_int.mono _ _ _
      | exact slices_DeleteFunc_int_int__impl_chooseColumns_1.mono _ _
      | exact slices_Reverse_int_int.mono _ _
      | exact slices_Sort_int_int.mono _ _
      | exact LeO.none _
      | refine LeO.ite ?_ ?_
      | refine LeO.bind ?_ (fun _ => ?_)
    · intro y0 y1 y2 y3 y4 y5 y6 y7
      unfold impl_chooseColumns.l0
      repeat' first
      | (with_reducible exact ih0 _ _ _ _ _)
      | (with_reducible exact ih1 _ _ _ _ _ _ _ _)
      | (with_reducible exact ih2 _ _ _ _ _ _ _ _ _ _ _)
      | (with_reducible exact ih3 _ _ _ _ _ _ _ _ _ _ _ _ _ _)
      | (with_reducible exact slices_Contains_int_int.mono _ _ _)
      | (with_reducible exact slices_DeleteFunc_int_int__impl_chooseColumns_1.mono _ _)
      | (with_reducible exact slices_Reverse_int_int.mono _ _)
      | (with_reducible exact slices_Sort_int_int.mono _ _)
      | (with_reducible exact LeO.refl _)
      | (with_reducible exact LeO.none _)
      | (with_reducible refine LeO.ite ?_ ?_)
      | (with_reducible refine LeO.bind ?_ (fun _ => ?_))
      | exact ih0 _ _ _ _ _
      | exact ih1 _ _ _ _ _ _ _ _
      | exact ih2 _ _ _ _ _ _ _ _ _ _ _
      | exact ih3 _ _ _ _ _ _ _ _ _ _ _ _ _ _
      | exact slices_Contains_int_int.mono _ _ _
      | exact slices_DeleteFunc_int_int__impl_chooseColumns_1.mono _ _
      | exact slices_Reverse_int_int.mono _ _
      | exact slices_Sort_int_int.mono _ _
      | exact LeO.none _
      | refine LeO.ite ?_ ?_
      | refine LeO.bind ?_ (fun _ => ?_)
    · intro y0 y1 y2 y3 y4 y5 y6 y7 y8 y9 y10
      unfold impl_chooseColumns.j1
      repeat' first
      | (with_reducible exact ih0 _ _ _ _ _)
      | (with_reducible exact ih1 _ _ _ _ _ _ _ _)
      | (with_reducible exact ih2 _ _ _ _ _ _ _ _ _ _ _)
      | (with_reducible exact ih3 _ _ _ _ _ _ _ _ _ _ _ _ _ _)
      | (with_reducible exact slices_Contains_int_int.mono _ _ _)
      | (with_reducible exact slices_DeleteFunc_int_int__impl_chooseColumns_1.mono _ _)
      | (with_reducible exact slices_Reverse_int_int.mono _ _)
      | (with_reducible exact slices_Sort_int_int.mono _ _)
      | (with_reducible exact LeO.refl _)
      | (with_reducible exact LeO.none _)
      | (with_reducible refine LeO.ite ?_ ?_)
      | (with_reducible refine LeO.bind ?_ (fun _ => ?_))
      | exact ih0 _ _ _ _ _
      | exact ih1 _ _ _ _ _ _ _ _
      | exact ih2 _ _ _ _ _ _ _ _ _ _ _
      | exact ih3 _ _ _ _ _ _ _ _ _ _ _ _ _ _
      | exact slices_Contains_int_int.mono _ _ _
      | exact slices_DeleteFunc_int_int__impl_chooseColumns_1.mono _ _
      | exact slices_Reverse_int_int.mono _ _
      | exact slices_Sort_int_int.mono _ _
      | exact LeO.none _
      | refine LeO.ite ?_ ?_
      | refine LeO.bind ?_ (fun _ => ?_)
    · intro y0 y1 y2 y3 y4 y5 y6 y7 y8 y9 y10 y11 y12 y13
      unfold impl_chooseColumns.l1
      repeat' first
      | (with_reducible exact ih0 _ _ _ _ _)
      | (with_reducible exact ih1 _ _ _ _ _ _ _ _)
      | (with_reducible exact ih2 _ _ _ _ _ _ _ _ _ _ _)
      | (with_reducible exact ih3 _ _ _ _ _ _ _ _ _ _ _ _ _ _)
      | (with_reducible exact slices_Contains_int_int.mono _ _ _)
      | (with_reducible exact slices_DeleteFunc_int_int__impl_chooseColumns_1.mono _ _)
      | (with_reducible exact slices_Reverse_int_int.mono _ _)
      | (with_reducible exact slices_Sort_int_int.mono _ _)
      | (with_reducible exact LeO.refl _)
      | (with_reducible exact LeO.none _)
      | (with_reducible refine LeO.ite ?_ ?_)
      | (with_reducible refine LeO.bind ?_ (fun _ => ?_))
      | exact ih0 _ _ _ _ _
      | exact ih1 _ _ _ _ _ _ _ _
      | exact ih2 _ _ _ _ _ _ _ _ _ _ _
      | exact ih3 _ _ _ _ _ _ _ _ _ _ _ _ _ _
      | exact slices_Contains_int_int.mono _ _ _
      | exact slices_DeleteFunc_int_int__impl_chooseColumns_1.mono _ _
      | exact slices_Reverse_int_int.mono _ _
      | exact slices_Sort_int_int.mono _ _
      | exact LeO.none _
      | refine LeO.ite ?_ ?_
      | refine LeO.bind ?_ (fun _ => ?_)
theorem impl_chooseColumns.mono : ∀ a0 a1 a2 a3 a4 k, LeO (impl_chooseColumns.f k a0 a1 a2 a3 a4) (impl_chooseColumns.f (k + 1) a0 a1 a2 a3 a4) := by
  intro a0 a1 a2 a3 a4 k
  obtain ⟨ih0, ih1, ih2, ih3⟩ := impl_chooseColumns.mono_l k
  exact ih0 a0 a1 a2 a3 a4
set_option maxHeartbeats 8000000 in
set_option maxRecDepth 100000 in
theorem impl_chooseColumns.calls (k : Nat) : ∀ (A0 : Option Addr) (c0 : Nat) (l0 : List Int) (A1 : Option Addr) (c1 : Nat) (l1 : List Int) (A2 : Option Addr) (c2 : Nat) (l2 : List Int) (a3 : Int) (P4_ : Nat → Prop) (b cb : Nat) (l4 r : Mt) (w0 w : World) (hB : Below w0.heap.size w0 w) (hr0 : ∀ W_, Kept w W_ (fun k_ => P4_ k_) → Kd.C (Kd.int .i64) W_ A0 l0.length l0) (hc0 : l0.length ≤ c0) (hr1 : ∀ W_, Kept w W_ (fun k_ => P4_ k_) → Kd.C (Kd.int .i64) W_ A1 l1.length l1) (hc1 : l1.length ≤ c1) (hr2 : ∀ W_, Kept w W_ (fun k_ => P4_ k_) → Kd.C (Kd.int .i64) W_ A2 l2.length l2) (hc2 : l2.length ≤ c2) (hcb : ∀ W_, Kept w W_ (fun k_ => P4_ k_) → Cb cb b W_) (ho4 : Iv.R b w w0.heap.size P4_ l4) (h : impl_chooseColumns.f k l0 l1 l2 a3 l4 = some r),
    Calls Tryd.prog 25 #[.slice A0 l0.length c0, .slice A1 l1.length c1, .slice A2 l2.length c2, .int .i64 a3, (.func (.func 26) #[] #[.pointer (some ⟨cb, 0, none⟩)])] w fun e w' => e = .returned (.tuple #[]) ∧ Iv.R b w' w0.heap.size (fun k_ => (P4_ k_ ∨ w.heap.size ≤ k_)) r ∧ Below w0.heap.size w0 w' ∧ Kept w w' (fun k_ => P4_ k_) := by
  induction k using Nat.strongRecOn with
  | _ k ih =>
  intro A0 c0 l0 A1 c1 l1 A2 c2 l2 a3 P4_ b cb l4 r w0 w hB hr0 hc0 hr1 hc1 hr2 hc2 hcb ho4 h
  cases k with
  | zero => exact absurd h (by simp [impl_chooseColumns.f])
  | succ k =>
  simp only [impl_chooseColumns.f] at h
  have HR0 := Aside0.mk hr0
  have HC0 := Aside0.mk hc0
  clear hr0 hc0
  have HR1 := Aside0.mk hr1
  have HC1 := Aside0.mk hc1
  clear hr1 hc1
  have HR2 := Aside0.mk hr2
  have HC2 := Aside0.mk hc2
  clear hr2 hc2
  have HCB := Aside0.mk hcb
  clear hcb
  have HO4 := Aside0.mk (show Iv.R b w w0.heap.size (fun k_ => (P4_ k_ ∨ w.heap.size ≤ k_)) l4 from Iv.R_mono ho4 (fun k_ hk => (.inl hk)))
  have HK := Aside0.mk (Kept.refl w (fun k_ => P4_ k_))
  have HW0 := Aside0.mk hB.size
  have HB := Aside0.mk hB
  clear hB
  have H : (if (l1.length : Int) = (l0.length : Int) then ((slices_Clone_int_int.f l2).bind fun t389 => ((slices_DeleteFunc_int_int__impl_chooseColumns_1.f k t389).bind fun t392 => ((slices_Sort_int_int.f k t392).bind fun t395 => ((slices_Reverse_int_int.f k t395).bind fun t396 => ((adding.f t396 a3 l4).bind fun t397 => (some t397)))))) else (impl_chooseColumns.l0 k l0 l1 l2 a3 l4 (l1.length : Int) (l0.length : Int) 0)) = some r := h
  clear h
  by_cases c6 : (l1.length : Int) = (l0.length : Int)
  · rw [if_pos c6] at H
    have c6b0 : ((l1.length : Int) == (l0.length : Int)) = true := beq_iff_eq.mpr c6
    have c6b1 : ((l1.length : Int) != (l0.length : Int)) = false := bne_eq_false_iff_eq.mpr c6
    have c6b2 : (l1.length == l0.length) = true := by first | simpa using c6 | (simp at c6 ⊢; omega)
    clear c6
    replace H := Option.bind_eq_some_iff.mp H
    obtain ⟨t389, A70, H⟩ := H
    replace H : ((slices_DeleteFunc_int_int__impl_chooseColumns_1.f k t389).bind fun t392 => ((slices_Sort_int_int.f k t392).bind fun t395 => ((slices_Reverse_int_int.f k t395).bind fun t396 => ((adding.f t396 a3 l4).bind fun t397 => (some t397))))) = some r := H
    have A7 := Aside0.mk A70
    clear A70
    replace H := Option.bind_eq_some_iff.mp H
    obtain ⟨t392, A80, H⟩ := H
    replace H : ((slices_Sort_int_int.f k t392).bind fun t395 => ((slices_Reverse_int_int.f k t395).bind fun t396 => ((adding.f t396 a3 l4).bind fun t397 => (some t397)))) = some r := H
    have A8 := Aside0.mk A80
    clear A80
    replace H := Option.bind_eq_some_iff.mp H
    obtain ⟨t395, A90, H⟩ := H
    replace H : ((slices_Reverse_int_int.f k t395).bind fun t396 => ((adding.f t396 a3 l4).bind fun t397 => (some t397))) = some r := H
    have A9 := Aside0.mk A90
    clear A90
    replace H := Option.bind_eq_some_iff.mp H
    obtain ⟨t396, A100, H⟩ := H
    replace H : ((adding.f t396 a3 l4).bind fun t397 => (some t397)) = some r := H
    have A10 := Aside0.mk A100
    clear A100
    replace H := Option.bind_eq_some_iff.mp H
    obtain ⟨t397, A110, H⟩ := H
    replace H : (some t397) = some r := H
    have A11 := Aside0.mk A110
    clear A110
    obtain rfl := Option.some.inj H
    go_enter Tryd.func25, Tryd.ntmps25
    go_wp2_with (first | ((with_reducible refine gate_callee (f := 36) rfl ?_); refine goesL_ (some 24) rfl rfl Tryd.func36 (by kernel_rfl) rfl #[.slice A2 l2.length c2] rfl xm ?_; (with_reducible refine (slices_Clone_int_int.calls _ _ l2 t389 _ ?side1 ?side2 A7.out).mono ?_); (case side1 => exact Kd.C_kept_now HR2.out (by repeat (first | (with_reducible first | exact HK.out | apply Kept.alloc | apply Kept.drewN | apply Kept.drew) | exact HK.out))); (case side2 => exact HC2.out); rintro e w12 ⟨v390, rfl, ho0, hb⟩; refine ⟨_, rfl, ?_⟩; have n0_ := Aside0.mk (Iv.R_elder' (Iv.xI HO4.out) (Kd.R_base ho0) hb); have n1_ := Aside0.mk (Kd.R_lower (Kd.R_new' (Kd.R_newM (M := fun k_ => (P4_ k_ ∨ w.heap.size ≤ k_)) ho0 (by first | exact HK.out.1 | exact (show Kept w _ (fun k_ => P4_ k_) from by repeat (first | (with_reducible first | exact HK.out | apply Kept.alloc | apply Kept.drewN | apply Kept.drew) | exact HK.out)).1) (fun k_ h_ => .inr h_)) (Iv.R_lt (Iv.xI HO4.out))) (below_size (xb HB.out))); have n2_ := Aside0.mk (Kept.below (S := (fun k_ => P4_ k_)) (by repeat (first | (with_reducible first | exact HK.out | apply Kept.alloc | apply Kept.drewN | apply Kept.drew) | exact HK.out)) hb); have n3_ := Aside0.mk (below_step (xb HB.out) hb); clear HO4; clear HK; clear HB; have HO4 := n0_; have HO391 := n1_; have HK := n2_; have HB := n3_; clear n0_ n1_ n2_ n3_; (try clear hb); (try clear hb2); (try clear hk); (try clear hi); (try clear ho0); obtain ⟨Ao13, co13, eo13⟩ := Kd.R_slice HO391.out; subst eo13) | ((with_reducible refine gate_callee (f := 46) rfl ?_); refine goesL_ (some 25) rfl rfl Tryd.func46 (by kernel_rfl) rfl #[.slice Ao13 t389.length co13, .func (.func 47) #[] #[]] rfl xm ?_; (with_reducible refine (slices_DeleteFunc_int_int__impl_chooseColumns_1.calls k (fun k_ => some k_ = (.slice Ao13 t389.length co13 : Value).ownBlock) (.slice Ao13 t389.length co13) t389  t392 w0 _ ?side1 ?side2 A8.out).mono ?_); (case side1 => repeat (first | (with_reducible first | exact HB.out | apply below_alloc | apply pw_below_drewN | apply below_drew1) | exact HB.out)); (case side2 => exact Kd.R_tight rfl HO391.out); rintro e w14 ⟨v393, rfl, ho0, hb, hkp⟩; refine ⟨_, rfl, ?_⟩; have n0_ := Aside0.mk (Iv.R_mono (ok' := fun k_ => (P4_ k_ ∨ w.heap.size ≤ k_) ∧ some k_ ≠ (v393 : Value).ownBlock) (Iv.R_keptB (HO4.out) hkp (fun k_ hk_ hs_ => (hk_.2) hs_)) (fun k_ hk_ => ⟨hk_.1.1, fun e_ => Or.elim (ho0.1 k_ e_.symm) (fun hs_ => hk_.2.1 hs_) (fun hn_ => Nat.not_le.2 hk_.2.2 hn_)⟩)); have n1_ := Aside0.mk (Kd.R_mono (ok' := fun k_ => (P4_ k_ ∨ w.heap.size ≤ k_) ∧ some k_ ≠ (stV b : Value).ownBlock) ho0 (fun k_ hk_ => ⟨Or.elim hk_ (fun hs_ => (HO391.out.1 k_ (hs_).symm).1.1) (fun hn_ => (.inr (Nat.le_trans (by first | exact HK.out.1 | exact (show Kept w _ (fun k_ => P4_ k_) from by repeat (first | (with_reducible first | exact HK.out | apply Kept.alloc | apply Kept.drewN | apply Kept.drew) | exact HK.out)).1) hn_))), Or.elim hk_ (fun hs_ => fun e_ => (((HO4.out).1 k_ e_.symm).2) hs_) (fun hn_ => (Kd.fresh' (Iv.R_lt (Iv.xI HO4.out)) k_ hn_))⟩)); have n2_ := Aside0.mk (Kept.then_ (S := (fun k_ => P4_ k_)) (by repeat (first | (with_reducible first | exact HK.out | apply Kept.alloc | apply Kept.drewN | apply Kept.drew) | exact HK.out)) hkp (fun k_ hs_ => (fun e_ => (HO391.out.1 k_ e_.symm).1.1) hs_)); have n3_ := Aside0.mk (hb); clear HO4; clear HK; clear HB; clear HO391; have HO4 := n0_; have HO394 := n1_; have HK := n2_; have HB := n3_; clear n0_ n1_ n2_ n3_; (try clear hb); (try clear hkp); (try clear ho0); obtain ⟨Ao15, co15, eo15⟩ := Kd.R_slice HO394.out; subst eo15) | ((with_reducible refine gate_callee (f := 48) rfl ?_); refine goesL_ (some 27) rfl rfl Tryd.func48 (by kernel_rfl) rfl #[.slice Ao15 t392.length co15] rfl xm ?_; (with_reducible refine (slices_Sort_int_int.calls k (fun k_ => some k_ = (.slice Ao15 t392.length co15 : Value).ownBlock) (.slice Ao15 t392.length co15) t392 t395 w0 _ ?side1 ?side2 A9.out).mono ?_); (case side1 => repeat (first | (with_reducible first | exact HB.out | apply below_alloc | apply pw_below_drewN | apply below_drew1) | exact HB.out)); (case side2 => exact Kd.R_tight rfl HO394.out); rintro e w16 ⟨rfl, hy0, hb, hkp⟩; refine ⟨_, rfl, ?_⟩; have n0_ := Aside0.mk (Iv.R_mono (ok' := fun k_ => (P4_ k_ ∨ w.heap.size ≤ k_) ∧ some k_ ≠ (.slice Ao15 t392.length co15 : Value).ownBlock) (Iv.R_keptB (HO4.out) hkp (fun k_ hk_ hs_ => (hk_.2) hs_)) (fun k_ hk_ => ⟨hk_.1.1, hk_.1.2⟩)); have n1_ := Aside0.mk (Kd.R_reok rfl hy0 (fun k_ e_ => HO394.out.1 k_ e_)); have n2_ := Aside0.mk (Kept.then_ (S := (fun k_ => P4_ k_)) (by repeat (first | (with_reducible first | exact HK.out | apply Kept.alloc | apply Kept.drewN | apply Kept.drew) | exact HK.out)) hkp (fun k_ hs_ => (fun e_ => (HO394.out.1 k_ e_.symm).1) hs_)); have n3_ := Aside0.mk (hb); clear HO4; clear HO394; clear HK; clear HB; have HO4 := n0_; have HO394 := n1_; have HK := n2_; have HB := n3_; clear n0_ n1_ n2_ n3_; (try clear hb); (try clear hkp); (try clear hy0)) | ((with_reducible refine gate_callee (f := 49) rfl ?_); refine goesL_ (some 29) rfl rfl Tryd.func49 (by kernel_rfl) rfl #[.slice Ao15 t392.length co15] rfl xm ?_; (with_reducible refine (slices_Reverse_int_int.calls k (fun k_ => some k_ = (.slice Ao15 t392.length co15 : Value).ownBlock) (.slice Ao15 t392.length co15) t395 t396 w0 _ ?side1 ?side2 A10.out).mono ?_); (case side1 => repeat (first | (with_reducible first | exact HB.out | apply below_alloc | apply pw_below_drewN | apply below_drew1) | exact HB.out)); (case side2 => exact Kd.R_tight rfl HO394.out); rintro e w17 ⟨rfl, hy0, hb, hkp⟩; refine ⟨_, rfl, ?_⟩; have n0_ := Aside0.mk (Iv.R_mono (ok' := fun k_ => (P4_ k_ ∨ w.heap.size ≤ k_) ∧ some k_ ≠ (.slice Ao15 t392.length co15 : Value).ownBlock) (Iv.R_keptB (HO4.out) hkp (fun k_ hk_ hs_ => (hk_.2) hs_)) (fun k_ hk_ => ⟨hk_.1.1, hk_.1.2⟩)); have n1_ := Aside0.mk (Kd.R_reok rfl hy0 (fun k_ e_ => HO394.out.1 k_ e_)); have n2_ := Aside0.mk (Kept.then_ (S := (fun k_ => P4_ k_)) (by repeat (first | (with_reducible first | exact HK.out | apply Kept.alloc | apply Kept.drewN | apply Kept.drew) | exact HK.out)) hkp (fun k_ hs_ => (fun e_ => (HO394.out.1 k_ e_.symm).1) hs_)); have n3_ := Aside0.mk (hb); clear HO4; clear HO394; clear HK; clear HB; have HO4 := n0_; have HO394 := n1_; have HK := n2_; have HB := n3_; clear n0_ n1_ n2_ n3_; (try clear hb); (try clear hkp); (try clear hy0)) | (go_at_call 26; (first | rw [(Kd.R_reads' HO394.out).1] | skip); (with_reducible refine (adding.calls _ _ t396 a3 (fun k_ => some k_ = (stV b : Value).ownBlock) b cb l4 t397 w0 _ ?side1 ?side2 ?side3 ?side5 ?side4 A11.out).mono ?_); (case side1 => repeat (first | (with_reducible first | exact HB.out | apply below_alloc | apply pw_below_drewN | apply below_drew1) | exact HB.out)); (case side2 => exact fun W_ hk_ => by have h_ := Kd.C_kept_own (HO394.out) (fun k_ hk_ hs_ => (hk_.2) hs_) W_ hk_; rwa [(Kd.R_reads' HO394.out).1] at h_); (case side3 => rw [show t396.length = t392.length from (Kd.R_reads' HO394.out).1.symm]; exact (Kd.R_reads' HO394.out).2.1); (case side4 => exact Iv.R_tight HO4.out); (case side5 => exact fun W_ hk_ => HCB.out W_ ((show Kept w _ (fun k_ => P4_ k_) from by repeat (first | (with_reducible first | exact HK.out | apply Kept.alloc | apply Kept.drewN | apply Kept.drew) | exact HK.out)).then_ hk_ (fun k_ hs_ => (fun e_ => (HO4.out.1 k_ e_.symm).1) hs_))); rintro e w19 ⟨rfl, hy0, hb, hkp⟩; have n0_ := Aside0.mk (Iv.R_reok hy0 (fun k_ e_ => HO4.out.1 k_ e_)); have n1_ := Aside0.mk (Kd.R_mono (ok' := fun k_ => (P4_ k_ ∨ w.heap.size ≤ k_) ∧ some k_ ≠ (stV b : Value).ownBlock) (Kd.R_keptB (HO394.out) hkp (fun k_ hk_ hs_ => (hk_.2) hs_)) (fun k_ hk_ => ⟨hk_.1.1, hk_.1.2⟩)); have n2_ := Aside0.mk (Kept.then_ (S := (fun k_ => P4_ k_)) (by repeat (first | (with_reducible first | exact HK.out | apply Kept.alloc | apply Kept.drewN | apply Kept.drew) | exact HK.out)) hkp (fun k_ hs_ => (fun e_ => (HO4.out.1 k_ e_.symm).1) hs_)); have n3_ := Aside0.mk (hb); clear HO4; clear HO394; clear HK; clear HB; have HO4 := n0_; have HO394 := n1_; have HK := n2_; have HB := n3_; clear n0_ n1_ n2_ n3_; (try clear hb); (try clear hkp); (try clear hy0)))
    first | go_end0 | ((try simp only [Exit.inBlock, Exit.then]); refine bodyPost_ret (results_none rfl _ _ _) rfl ?_)
    exact ⟨by first | rfl | (simp [errW_none, errW_some] <;> rfl) | (simp [*, errW_none, errW_some] <;> rfl), by (with_reducible repeat (first | apply Iv.R_alloc | apply Iv.R_drewN | apply Iv.R_drew)); exact Iv.R_mono HO4.out (fun _ hk => hk.1), by repeat (first | (with_reducible first | exact HB.out | apply below_alloc | apply pw_below_drewN | apply below_drew1) | exact HB.out), by repeat (first | (with_reducible first | exact HK.out | apply Kept.alloc | apply Kept.drewN | apply Kept.drew) | exact HK.out)⟩
  · rw [if_neg c6] at H
    have c6b0 : ((l1.length : Int) == (l0.length : Int)) = false := beq_eq_false_iff_ne.mpr c6
    have c6b1 : ((l1.length : Int) != (l0.length : Int)) = true := bne_iff_ne.mpr c6
    have c6b2 : (l1.length == l0.length) = false := by first | simpa using c6 | (simp at c6 ⊢; omega)
    have H' := Aside0.mk H
    clear H
    go_enter Tryd.func25, Tryd.ntmps25
    go_wp2
    go_loopg [36] k (fun kq v36 w' => ∃ (x4_1 : Mt) (x36_1 : Int), v36 = .int .i64 x36_1 ∧ Aside0 (impl_chooseColumns.l0 kq l0 l1 l2 a3 x4_1 (l1.length : Int) (l0.length : Int) x36_1 = some r) ∧ Aside0 (kq ≤ k) ∧ Aside0 (Iv.R b w' w0.heap.size (fun k_ => (P4_ k_ ∨ w.heap.size ≤ k_)) x4_1) ∧ Aside0 (Kept w w' (fun k_ => P4_ k_)) ∧ Aside0 (Below w0.heap.size w0 w'))
    case atStart => exact ⟨(l4), (0), (by first | rfl | (simp; done) | (simp [*]; done)), H', ⟨Nat.le_refl _⟩, ⟨by (with_reducible repeat (first | apply Iv.R_alloc | apply Iv.R_drewN | apply Iv.R_drew)); first | exact HO4.out | exact Iv.R_mono HO4.out xi⟩, ⟨by repeat (first | (with_reducible first | exact HK.out | apply Kept.alloc | apply Kept.drewN | apply Kept.drew) | exact HK.out)⟩, ⟨by repeat (first | (with_reducible first | exact HB.out | apply below_alloc | apply pw_below_drewN | apply below_drew1) | exact HB.out)⟩⟩
    case round =>
      clear H'
      try clear c1
      try clear c2
      try clear p2
      try clear c3
      try clear c4
      try clear c6
      try clear c6b0
      try clear c6b1
      try clear c6b2
      try clear c10
      obtain ⟨x4_1, x36_1, rfl, HA, HK1, HO_4, HK, HB⟩ := hrel
      cases gk with
      | zero => exact absurd HA.out (by simp [impl_chooseColumns.l0])
      | succ k1 =>
        have H := HA.out
        clear HA
        simp only [impl_chooseColumns.l0] at H
        by_cases c20 : x36_1 < (l0.length : Int)
        · rw [if_pos c20] at H
          have c20b0 : decide (x36_1 < (l0.length : Int)) = true := decide_eq_true c20
          clear c20
          by_cases c21 : 0 ≤ (l1.length : Int)
          · rw [if_pos c21] at H
            have c21b0 : decide (0 ≤ (l1.length : Int)) = true := decide_eq_true c21
            have c21b1 : decide (0 ≤ l1.length) = true := decide_eq_true (by omega)
            clear c21
            by_cases c22 : (l1.length : Int) < (l0.length : Int)
            · rw [if_pos c22] at H
              have c22b0 : decide ((l1.length : Int) < (l0.length : Int)) = true := decide_eq_true c22
              have c22b1 : decide (l1.length < l0.length) = true := decide_eq_true (Int.ofNat_lt.mp c22)
              clear c22
              have HC23 := Aside0.mk H
              clear H
              have p398 : 0 ≤ ((l1.length : Int) : Int) := of_decide_eq_true (by first | (with_reducible assumption) | assumption)
              have q398 : (l1.length : Int) < (l0.length : Int) := of_decide_eq_true (by first | (with_reducible assumption) | assumption)
              obtain ⟨ad398, e398, hx398_0⟩ := Kd.at_int (Kd.C_kept_now HR0.out HK.out) (l1.length : Int) p398 q398
              cases e398
              (try simp only [Go.IntWalk.toNatUp] at hx398_0)
              replace p398 := eq_true p398
              replace q398 := eq_true q398
              go_upto_region 10 with (fail)
              go_cut [53] (fun v53 wc => ∃ (kq : Nat) (x53_22 : Bool), v53 = .bool x53_22 ∧ Aside0 (impl_chooseColumns.j1 kq l0 l1 l2 a3 x4_1 (l1.length : Int) x36_1 (wrap64 ((wrap64 ((rd l0 (l1.length : Int)) - (l1.length : Int))) + x36_1)) (l0.length : Int) x36_1 x53_22 = some r) ∧ Aside0 (kq ≤ k1) ∧ Aside0 (Iv.R b wc w0.heap.size (fun k_ => (P4_ k_ ∨ w.heap.size ≤ k_)) x4_1) ∧ Aside0 (Kept w wc (fun k_ => P4_ k_)) ∧ Aside0 (Below w0.heap.size w0 wc))
              case first =>
                have H := HC23.out
                clear HC23
                by_cases c24 : (wrap64 ((wrap64 ((rd l0 (l1.length : Int)) - (l1.length : Int))) + x36_1)) < 0
                · rw [if_pos c24] at H
                  have c24b0 : decide ((wrap64 ((wrap64 ((rd l0 (l1.length : Int)) - (l1.length : Int))) + x36_1)) < 0) = true := decide_eq_true c24
                  clear c24
                  (first | rw [c24b0] | (simp only [i64_w, i32_w]; rw [c24b0]) | skip)
                  have H' := Aside0.mk H
                  clear H
                  go_wp2
                  go_meet
                  case rel => exact ⟨_, (true), (by first | rfl | (simp; done) | (simp [*]; done)), H', ⟨by have := HK1.out; first | omega | exact Nat.le_refl _⟩, ⟨by (with_reducible repeat (first | apply Iv.R_alloc | apply Iv.R_drewN | apply Iv.R_drew)); first | exact HO_4.out | exact Iv.R_mono HO_4.out xi⟩, ⟨by repeat (first | (with_reducible first | exact HK.out | apply Kept.alloc | apply Kept.drewN | apply Kept.drew) | exact HK.out)⟩, ⟨by repeat (first | (with_reducible first | exact HB.out | apply below_alloc | apply pw_below_drewN | apply below_drew1) | exact HB.out)⟩⟩
                · rw [if_neg c24] at H
                  have c24b0 : decide ((wrap64 ((wrap64 ((rd l0 (l1.length : Int)) - (l1.length : Int))) + x36_1)) < 0) = false := decide_eq_false c24
                  clear c24
                  (first | rw [c24b0] | (simp only [i64_w, i32_w]; rw [c24b0]) | skip)
                  replace H := Option.bind_eq_some_iff.mp H
                  obtain ⟨t399, A250, H⟩ := H
                  replace H : (impl_chooseColumns.j1 k1 l0 l1 l2 a3 x4_1 (l1.length : Int) x36_1 (wrap64 ((wrap64 ((rd l0 (l1.length : Int)) - (l1.length : Int))) + x36_1)) (l0.length : Int) x36_1 t399) = some r := H
                  have A25 := Aside0.mk A250
                  clear A250
                  have H' := Aside0.mk H
                  clear H
                  go_wp2_with (first | (go_at_call 50; (with_reducible refine (slices_Contains_int_int.calls k1 _ _ l1 x36_1 t399 _ ?side1 ?side2 A25.out).mono ?_); (case side1 => exact Kd.C_kept_now HR1.out (by repeat (first | (with_reducible first | exact HK.out | apply Kept.alloc | apply Kept.drewN | apply Kept.drew) | exact HK.out))); (case side2 => exact HC1.out); rintro e w' ⟨rfl, ⟨nd, rfl⟩⟩))
                  go_meet
                  case rel => exact ⟨_, (t399), (by first | rfl | (simp; done) | (simp [*]; done)), H', ⟨by have := HK1.out; first | omega | exact Nat.le_refl _⟩, ⟨by (with_reducible repeat (first | apply Iv.R_alloc | apply Iv.R_drewN | apply Iv.R_drew)); first | exact HO_4.out | exact Iv.R_mono HO_4.out xi⟩, ⟨by repeat (first | (with_reducible first | exact HK.out | apply Kept.alloc | apply Kept.drewN | apply Kept.drew) | exact HK.out)⟩, ⟨by repeat (first | (with_reducible first | exact HB.out | apply below_alloc | apply pw_below_drewN | apply below_drew1) | exact HB.out)⟩⟩
              case rest =>
                clear HC23
                try clear c1
                try clear c2
                try clear p2
                try clear c3
                try clear p3
                try clear q3
                try clear hx3
                try clear c4
                try clear c6
                try clear c6b0
                try clear c6b1
                try clear c6b2
                try clear p6
                try clear c10
                try clear c20
                try clear c20b0
                try clear c21
                try clear c21b0
                try clear c21b1
                try clear c22
                try clear c22b0
                try clear c22b1
                try clear c24
                try clear c24b0
                try clear c25
                try clear hx398_0
                try clear p2
                try clear p398
                try clear q398
                obtain ⟨kq, x53_22, rfl, HA, HJ22, HO_4, HK, HB⟩ := hcut
                cases kq with
                | zero => exact absurd HA.out (by simp [impl_chooseColumns.j1])
                | succ kj22 =>
                  have H := HA.out
                  clear HA
                  simp only [impl_chooseColumns.j1] at H
                  by_cases c26 : x53_22 = true
                  · subst c26
                    have H1 : (impl_chooseColumns.l0 kj22 l0 l1 l2 a3 x4_1 (l1.length : Int) (l0.length : Int) (wrap64 (x36_1 + 1))) = some r := by rw [if_pos rfl] at H; exact H
                    clear H
                    have H := H1
                    clear H1
                    have H' := Aside0.mk H
                    clear H
                    go_wp2
                    go_roundg kj22
                    case measure => have := HK1.out; have := HJ22.out; omega
                    case rel => exact ⟨(x4_1), (wrap64 (x36_1 + 1)), (by first | rfl | (simp; done) | (simp [*]; done)), H', ⟨by have := HK1.out; have := HJ22.out; omega⟩, ⟨by (with_reducible repeat (first | apply Iv.R_alloc | apply Iv.R_drewN | apply Iv.R_drew)); first | exact HO_4.out | exact Iv.R_mono HO_4.out xi⟩, ⟨by repeat (first | (with_reducible first | exact HK.out | apply Kept.alloc | apply Kept.drewN | apply Kept.drew) | exact HK.out)⟩, ⟨by repeat (first | (with_reducible first | exact HB.out | apply below_alloc | apply pw_below_drewN | apply below_drew1) | exact HB.out)⟩⟩
                  · replace c26 := Bool.eq_false_iff.mpr c26
                    subst c26
                    have H1 : (impl_chooseColumns.l1 kj22 l0 l1 l2 a3 x4_1 (l1.length : Int) x36_1 (wrap64 ((wrap64 ((rd l0 (l1.length : Int)) - (l1.length : Int))) + x36_1)) a3 (l0.length : Int) x36_1 l1 (l1.length : Int) 0) = some r := by rw [if_neg (show ¬ (false = true) by decide)] at H; exact H
                    clear H
                    have H := H1
                    clear H1
                    have H' := Aside0.mk H
                    clear H
                    go_wp2
                    go_loopg [14, 57] kj22 (fun kq v14 v57 w' => ∃ (x14_3 : Int) (x57_3 : Int), v14 = .int .i64 x14_3 ∧ v57 = .int .i64 x57_3 ∧ Aside0 (impl_chooseColumns.l1 kq l0 l1 l2 a3 x4_1 (l1.length : Int) x36_1 (wrap64 ((wrap64 ((rd l0 (l1.length : Int)) - (l1.length : Int))) + x36_1)) x14_3 (l0.length : Int) x36_1 l1 (l1.length : Int) x57_3 = some r) ∧ Aside0 (kq ≤ kj22) ∧ Aside0 (Iv.R b w' w0.heap.size (fun k_ => (P4_ k_ ∨ w.heap.size ≤ k_)) x4_1) ∧ Aside0 (Kept w w' (fun k_ => P4_ k_)) ∧ Aside0 (Below w0.heap.size w0 w'))
                    case atStart => exact ⟨(a3), (0), (by first | rfl | (simp; done) | (simp [*]; done)), (by first | rfl | (simp; done) | (simp [*]; done)), H', ⟨Nat.le_refl _⟩, ⟨by (with_reducible repeat (first | apply Iv.R_alloc | apply Iv.R_drewN | apply Iv.R_drew)); first | exact HO_4.out | exact Iv.R_mono HO_4.out xi⟩, ⟨by repeat (first | (with_reducible first | exact HK.out | apply Kept.alloc | apply Kept.drewN | apply Kept.drew) | exact HK.out)⟩, ⟨by repeat (first | (with_reducible first | exact HB.out | apply below_alloc | apply pw_below_drewN | apply below_drew1) | exact HB.out)⟩⟩
                    case round =>
                      clear H'
                      try clear c1
                      try clear c2
                      try clear p2
                      try clear c3
                      try clear p3
                      try clear q3
                      try clear hx3
                      try clear c4
                      try clear c6
                      try clear c6b0
                      try clear c6b1
                      try clear c6b2
                      try clear p6
                      try clear c10
                      try clear c20
                      try clear c20b0
                      try clear c21
                      try clear c21b0
                      try clear c21b1
                      try clear c22
                      try clear c22b0
                      try clear c22b1
                      try clear c24
                      try clear c24b0
                      try clear c25
                      try clear c26
                      try clear hx398_0
                      try clear p2
                      try clear p3
                      try clear p398
                      try clear p6
                      try clear q3
                      try clear q398
                      obtain ⟨x14_3, x57_3, rfl, rfl, HA, HK3, HO_4, HK, HB⟩ := hrel
                      cases gk with
                      | zero => exact absurd HA.out (by simp [impl_chooseColumns.l1])
                      | succ k3 =>
                        have H := HA.out
                        clear HA
                        simp only [impl_chooseColumns.l1] at H
                        by_cases c27 : x57_3 < (l1.length : Int)
                        · rw [if_pos c27] at H
                          have c27b0 : decide (x57_3 < (l1.length : Int)) = true := decide_eq_true c27
                          clear c27
                          by_cases c28 : 0 ≤ x57_3
                          · rw [if_pos c28] at H
                            have c28b0 : decide (0 ≤ x57_3) = true := decide_eq_true c28
                            clear c28
                            by_cases c29 : x57_3 < (l1.length : Int)
                            · rw [if_pos c29] at H
                              have c29b0 : decide (x57_3 < (l1.length : Int)) = true := decide_eq_true c29
                              clear c29
                              by_cases c30 : (rd l1 x57_3) > x36_1
                              · rw [if_pos c30] at H
                                have c30b0 : decide (x36_1 < (rd l1 x57_3)) = true := decide_eq_true c30
                                clear c30
                                have H' := Aside0.mk H
                                clear H
                                have p400 : 0 ≤ (x57_3 : Int) := of_decide_eq_true (by first | (with_reducible assumption) | assumption)
                                have q400 : x57_3 < (l1.length : Int) := of_decide_eq_true (by first | (with_reducible assumption) | assumption)
                                obtain ⟨ad400, e400, hx400_0⟩ := Kd.at_int (Kd.C_kept_now HR1.out HK.out) x57_3 p400 q400
                                cases e400
                                replace p400 := eq_true p400
                                replace q400 := eq_true q400
                                go_wp2
                                go_roundg k3
                                case measure => have := HK1.out; have := HJ22.out; have := HK3.out; omega
                                case rel => exact ⟨(wrap64 (-x14_3)), (wrap64 (x57_3 + 1)), (by first | rfl | (simp; done) | (simp [*]; done)), (by first | rfl | (simp; done) | (simp [*]; done)), H', ⟨by have := HK1.out; have := HJ22.out; have := HK3.out; omega⟩, ⟨by (with_reducible repeat (first | apply Iv.R_alloc | apply Iv.R_drewN | apply Iv.R_drew)); first | exact HO_4.out | exact Iv.R_mono HO_4.out xi⟩, ⟨by repeat (first | (with_reducible first | exact HK.out | apply Kept.alloc | apply Kept.drewN | apply Kept.drew) | exact HK.out)⟩, ⟨by repeat (first | (with_reducible first | exact HB.out | apply below_alloc | apply pw_below_drewN | apply below_drew1) | exact HB.out)⟩⟩
                              · rw [if_neg c30] at H
                                have c30b0 : decide (x36_1 < (rd l1 x57_3)) = false := decide_eq_false c30
                                clear c30
                                have H' := Aside0.mk H
                                clear H
                                have p400 : 0 ≤ (x57_3 : Int) := of_decide_eq_true (by first | (with_reducible assumption) | assumption)
                                have q400 : x57_3 < (l1.length : Int) := of_decide_eq_true (by first | (with_reducible assumption) | assumption)
                                obtain ⟨ad400, e400, hx400_0⟩ := Kd.at_int (Kd.C_kept_now HR1.out HK.out) x57_3 p400 q400
                                cases e400
                                replace p400 := eq_true p400
                                replace q400 := eq_true q400
                                go_wp2
                                go_roundg k3
                                case measure => have := HK1.out; have := HJ22.out; have := HK3.out; omega
                                case rel => exact ⟨(x14_3), (wrap64 (x57_3 + 1)), (by first | rfl | (simp; done) | (simp [*]; done)), (by first | rfl | (simp; done) | (simp [*]; done)), H', ⟨by have := HK1.out; have := HJ22.out; have := HK3.out; omega⟩, ⟨by (with_reducible repeat (first | apply Iv.R_alloc | apply Iv.R_drewN | apply Iv.R_drew)); first | exact HO_4.out | exact Iv.R_mono HO_4.out xi⟩, ⟨by repeat (first | (with_reducible first | exact HK.out | apply Kept.alloc | apply Kept.drewN | apply Kept.drew) | exact HK.out)⟩, ⟨by repeat (first | (with_reducible first | exact HB.out | apply below_alloc | apply pw_below_drewN | apply below_drew1) | exact HB.out)⟩⟩
                            · rw [if_neg c29] at H
                              exact absurd H (by simp)
                          · rw [if_neg c28] at H
                            exact absurd H (by simp)
                        · rw [if_neg c27] at H
                          have c27b0 : decide (x57_3 < (l1.length : Int)) = false := decide_eq_false c27
                          clear c27
                          replace H := Option.bind_eq_some_iff.mp H
                          obtain ⟨t401, A310, H⟩ := H
                          replace H : (if t401.length < 17592186044416 then ((slices_Clone_int_int.f l2).bind fun t407 => (if t407.length < 17592186044416 then ((impl_chooseColumns.f k3 l0 (t401 ++ [x36_1]) (t407 ++ [(wrap64 ((wrap64 ((rd l0 (l1.length : Int)) - (l1.length : Int))) + x36_1))]) x14_3 x4_1).bind fun t413 => (impl_chooseColumns.l0 k3 l0 l1 l2 a3 t413 (l1.length : Int) (l0.length : Int) (wrap64 (x36_1 + 1)))) else (none))) else (none)) = some r := H
                          have A31 := Aside0.mk A310
                          clear A310
                          by_cases c32 : t401.length < 17592186044416
                          · rw [if_pos c32] at H
                            have LMc32 := Aside0.mk c32
                            clear c32
                            obtain ⟨y404, hy404⟩ : ∃ y_ : List Int, y_ = (t401 ++ [x36_1]) := ⟨_, rfl⟩
                            replace H : ((slices_Clone_int_int.f l2).bind fun t407 => (if t407.length < 17592186044416 then ((impl_chooseColumns.f k3 l0 y404 (t407 ++ [(wrap64 ((wrap64 ((rd l0 (l1.length : Int)) - (l1.length : Int))) + x36_1))]) x14_3 x4_1).bind fun t413 => (impl_chooseColumns.l0 k3 l0 l1 l2 a3 t413 (l1.length : Int) (l0.length : Int) (wrap64 (x36_1 + 1)))) else (none))) = some r := by first | (rw [hy404]; with_reducible exact H) | (have H2_ := (Option.bind_some _ _).symm.trans H; rw [hy404]; with_reducible exact H2_) | (have H2_ := (Option.bind_some _ _).symm.trans H; with_reducible exact H2_) | with_reducible exact H | (rw [hy404]; exact H) | exact H
                            have Ny404 := Aside0.mk hy404
                            clear hy404
                            replace H := Option.bind_eq_some_iff.mp H
                            obtain ⟨t407, A330, H⟩ := H
                            replace H : (if t407.length < 17592186044416 then ((impl_chooseColumns.f k3 l0 y404 (t407 ++ [(wrap64 ((wrap64 ((rd l0 (l1.length : Int)) - (l1.length : Int))) + x36_1))]) x14_3 x4_1).bind fun t413 => (impl_chooseColumns.l0 k3 l0 l1 l2 a3 t413 (l1.length : Int) (l0.length : Int) (wrap64 (x36_1 + 1)))) else (none)) = some r := H
                            have A33 := Aside0.mk A330
                            clear A330
                            by_cases c34 : t407.length < 17592186044416
                            · rw [if_pos c34] at H
                              have LMc34 := Aside0.mk c34
                              clear c34
                              obtain ⟨y410, hy410⟩ : ∃ y_ : List Int, y_ = (t407 ++ [(wrap64 ((wrap64 ((rd l0 (l1.length : Int)) - (l1.length : Int))) + x36_1))]) := ⟨_, rfl⟩
                              replace H : ((impl_chooseColumns.f k3 l0 y404 y410 x14_3 x4_1).bind fun t413 => (impl_chooseColumns.l0 k3 l0 l1 l2 a3 t413 (l1.length : Int) (l0.length : Int) (wrap64 (x36_1 + 1)))) = some r := by first | (rw [hy410]; with_reducible exact H) | (have H2_ := (Option.bind_some _ _).symm.trans H; rw [hy410]; with_reducible exact H2_) | (have H2_ := (Option.bind_some _ _).symm.trans H; with_reducible exact H2_) | with_reducible exact H | (rw [hy410]; exact H) | exact H
                              have Ny410 := Aside0.mk hy410
                              clear hy410
                              replace H := Option.bind_eq_some_iff.mp H
                              obtain ⟨t413, A350, H⟩ := H
                              replace H : (impl_chooseColumns.l0 k3 l0 l1 l2 a3 t413 (l1.length : Int) (l0.length : Int) (wrap64 (x36_1 + 1))) = some r := H
                              have A35 := Aside0.mk A350
                              clear A350
                              have H' := Aside0.mk H
                              clear H
                              go_wp2_with (first | ((with_reducible refine gate_callee (f := 36) rfl ?_); refine goesL_ (some 69) rfl rfl Tryd.func36 (by kernel_rfl) rfl #[.slice A1 l1.length c1] rfl xm ?_; (with_reducible refine (slices_Clone_int_int.calls _ _ l1 t401 _ ?side1 ?side2 A31.out).mono ?_); (case side1 => exact Kd.C_kept_now HR1.out (by repeat (first | (with_reducible first | exact HK.out | apply Kept.alloc | apply Kept.drewN | apply Kept.drew) | exact HK.out))); (case side2 => exact HC1.out); rintro e w36 ⟨v402, rfl, ho0, hb⟩; refine ⟨_, rfl, ?_⟩; have n0_ := Aside0.mk (Iv.R_elder' (Iv.xI HO_4.out) (Kd.R_base ho0) hb); have n1_ := Aside0.mk (Kd.R_lower (Kd.R_new' (Kd.R_newM (M := fun k_ => (P4_ k_ ∨ w.heap.size ≤ k_)) ho0 (by first | exact HK.out.1 | exact (show Kept w _ (fun k_ => P4_ k_) from by repeat (first | (with_reducible first | exact HK.out | apply Kept.alloc | apply Kept.drewN | apply Kept.drew) | exact HK.out)).1) (fun k_ h_ => .inr h_)) (Iv.R_lt (Iv.xI HO_4.out))) (below_size (xb HB.out))); have n2_ := Aside0.mk (Kept.below (S := (fun k_ => P4_ k_)) (by repeat (first | (with_reducible first | exact HK.out | apply Kept.alloc | apply Kept.drewN | apply Kept.drew) | exact HK.out)) hb); have n3_ := Aside0.mk (below_step (xb HB.out) hb); clear HO_4; clear HK; clear HB; have HO_4 := n0_; have HO403 := n1_; have HK := n2_; have HB := n3_; clear n0_ n1_ n2_ n3_; (try clear hb); (try clear hb2); (try clear hk); (try clear hi); (try clear ho0)) | ((with_reducible refine gate_builtin (b := .append) (xs := #[.tmp 69, .tmp 71]) rfl ?_); at_builtin; refine Kd.R_append (Kd.int .i64) (w0 := w0) w0.heap.size rfl (.tmp 69) (.tmp 71) 22 3 (.int .i64 0) 8 rfl Tryd.underlying22 info3 rfl (by decide) (by omega) v402 t401 x36_1 [.int .i64 x36_1] (fun k_ => (P4_ k_ ∨ w.heap.size ≤ k_) ∧ some k_ ≠ (stV b : Value).ownBlock) (fun _ => False) rfl rfl ?aP (fun _ hk => hk.elim) ?aF ?aO ?aB ?aS ?aL ?_; (case aP => exact rfl); (case aB => exact (xb HB.out)); (case aF => exact (fun k_ hk => ⟨(.inr (Nat.le_trans (by first | exact HK.out.1 | exact (show Kept w _ (fun k_ => P4_ k_) from by repeat (first | (with_reducible first | exact HK.out | apply Kept.alloc | apply Kept.drewN | apply Kept.drew) | exact HK.out)).1) hk)), Kd.fresh' (Iv.R_lt (Iv.xI HO_4.out)) k_ hk⟩)); (case aO => exact (by (with_reducible repeat (first | apply Kd.R_alloc | apply Kd.R_drewN | apply Kd.R_drew)); exact Kd.R_mono HO403.out (by first | exact (fun _ hk => ⟨hk.1.1, hk.2⟩) | exact xi))); (case aS => exact (below_size (xb HB.out))); (case aL => have := LMc32.out; omega); intro v405 w37 ho hb hg hat; rw [← Ny404.out] at ho; have n0_ := Aside0.mk (Iv.R_after (ok := (fun k_ => (P4_ k_ ∨ w.heap.size ≤ k_))) (Iv.xI HO_4.out) hg hat); have n1_ := Aside0.mk (hb); have n2_ := Aside0.mk (Kept.of_grown (S := (fun k_ => P4_ k_)) hg (by repeat (first | (with_reducible first | exact HK.out | apply Kept.alloc | apply Kept.drewN | apply Kept.drew) | exact HK.out)) (fun k_ e_ => (HO403.out.1 k_ e_).1.1)); have n3_ := Aside0.mk (ho); clear HO_4; clear HB; clear HK; clear HO403; have HO_4 := n0_; have HB := n1_; have HK := n2_; have HO406 := n3_; clear n0_ n1_ n2_ n3_; clear ho hb hg hat) | ((with_reducible refine gate_callee (f := 36) rfl ?_); refine goesL_ (some 74) rfl rfl Tryd.func36 (by kernel_rfl) rfl #[.slice A2 l2.length c2] rfl xm ?_; (with_reducible refine (slices_Clone_int_int.calls _ _ l2 t407 _ ?side1 ?side2 A33.out).mono ?_); (case side1 => exact Kd.C_kept_now HR2.out (by repeat (first | (with_reducible first | exact HK.out | apply Kept.alloc | apply Kept.drewN | apply Kept.drew) | exact HK.out))); (case side2 => exact HC2.out); rintro e w38 ⟨v408, rfl, ho0, hb⟩; refine ⟨_, rfl, ?_⟩; have n0_ := Aside0.mk (Iv.R_elder' (Iv.xI HO_4.out) (Kd.R_base ho0) hb); have n1_ := Aside0.mk (Kd.R_elder' (xR HO406.out) (Kd.R_base ho0) hb); have n2_ := Aside0.mk (Kd.R_lower (Kd.R_new' (Kd.R_new' (Kd.R_newM (M := fun k_ => (P4_ k_ ∨ w.heap.size ≤ k_)) ho0 (by first | exact HK.out.1 | exact (show Kept w _ (fun k_ => P4_ k_) from by repeat (first | (with_reducible first | exact HK.out | apply Kept.alloc | apply Kept.drewN | apply Kept.drew) | exact HK.out)).1) (fun k_ h_ => .inr h_)) (Iv.R_lt (Iv.xI HO_4.out))) (Kd.R_lt (xR HO406.out))) (below_size (xb HB.out))); have n3_ := Aside0.mk (Kept.below (S := (fun k_ => P4_ k_)) (by repeat (first | (with_reducible first | exact HK.out | apply Kept.alloc | apply Kept.drewN | apply Kept.drew) | exact HK.out)) hb); have n4_ := Aside0.mk (below_step (xb HB.out) hb); clear HO_4; clear HO406; clear HK; clear HB; have HO_4 := n0_; have HO406 := n1_; have HO409 := n2_; have HK := n3_; have HB := n4_; clear n0_ n1_ n2_ n3_ n4_; (try clear hb); (try clear hb2); (try clear hk); (try clear hi); (try clear ho0)) | ((with_reducible refine gate_builtin (b := .append) (xs := #[.tmp 74, .tmp 76]) rfl ?_); at_builtin; refine Kd.R_append (Kd.int .i64) (w0 := w0) w0.heap.size rfl (.tmp 74) (.tmp 76) 22 3 (.int .i64 0) 8 rfl Tryd.underlying22 info3 rfl (by decide) (by omega) v408 t407 (wrap64 ((wrap64 ((rd l0 (l1.length : Int)) - (l1.length : Int))) + x36_1)) [.int .i64 (wrap64 ((wrap64 ((rd l0 (l1.length : Int)) - (l1.length : Int))) + x36_1))] (fun k_ => (P4_ k_ ∨ w.heap.size ≤ k_) ∧ some k_ ≠ (stV b : Value).ownBlock ∧ some k_ ≠ (v405 : Value).ownBlock) (fun _ => False) rfl rfl ?aP (fun _ hk => hk.elim) ?aF ?aO ?aB ?aS ?aL ?_; (case aP => exact rfl); (case aB => exact (xb HB.out)); (case aF => exact (fun k_ hk => ⟨(.inr (Nat.le_trans (by first | exact HK.out.1 | exact (show Kept w _ (fun k_ => P4_ k_) from by repeat (first | (with_reducible first | exact HK.out | apply Kept.alloc | apply Kept.drewN | apply Kept.drew) | exact HK.out)).1) hk)), Kd.fresh' (Iv.R_lt (Iv.xI HO_4.out)) k_ hk, Kd.fresh' (Kd.R_lt (xR HO406.out)) k_ hk⟩)); (case aO => exact (by (with_reducible repeat (first | apply Kd.R_alloc | apply Kd.R_drewN | apply Kd.R_drew)); exact Kd.R_mono HO409.out (by first | exact (fun _ hk => ⟨hk.1.1.1, ⟨hk.1.2, hk.2⟩⟩) | exact xi))); (case aS => exact (below_size (xb HB.out))); (case aL => have := LMc34.out; omega); intro v411 w39 ho hb hg hat; rw [← Ny410.out] at ho; have n0_ := Aside0.mk (Iv.R_after (ok := (fun k_ => (P4_ k_ ∨ w.heap.size ≤ k_) ∧ some k_ ≠ (v405 : Value).ownBlock)) (Iv.xI HO_4.out) hg hat); have n1_ := Aside0.mk (Kd.R_after (ok := (fun k_ => (P4_ k_ ∨ w.heap.size ≤ k_) ∧ some k_ ≠ (stV b : Value).ownBlock)) (xR HO406.out) hg hat); have n2_ := Aside0.mk (hb); have n3_ := Aside0.mk (Kept.of_grown (S := (fun k_ => P4_ k_)) hg (by repeat (first | (with_reducible first | exact HK.out | apply Kept.alloc | apply Kept.drewN | apply Kept.drew) | exact HK.out)) (fun k_ e_ => (HO409.out.1 k_ e_).1.1.1)); have n4_ := Aside0.mk (ho); clear HO_4; clear HO406; clear HB; clear HK; clear HO409; have HO_4 := n0_; have HO406 := n1_; have HB := n2_; have HK := n3_; have HO412 := n4_; clear n0_ n1_ n2_ n3_ n4_; clear ho hb hg hat; obtain ⟨Ao40, co40, eo40⟩ := Kd.R_slice HO406.out; subst eo40; obtain ⟨Ao41, co41, eo41⟩ := Kd.R_slice HO412.out; subst eo41) | ((with_reducible refine gate_callee (f := 25) rfl ?_); refine goesL_ (some 80) rfl rfl Tryd.func25 (by kernel_rfl) rfl #[.slice (some ad398) l0.length c0, .slice Ao40 y404.length co40, .slice Ao41 y410.length co41, .int .i64 x14_3, (.func (.func 26) #[] #[.pointer (some ⟨cb, 0, none⟩)])] rfl xm ?_; (with_reducible refine (ih k3 (by have := HK1.out; have := HJ22.out; have := HK3.out; omega) _ _ l0 _ _ y404 _ _ y410 x14_3 (fun k_ => some k_ = (stV b : Value).ownBlock) b cb x4_1 t413 w0 _ ?side1 ?side2 ?side3 ?side4 ?side5 ?side6 ?side7 ?side9 ?side8 A35.out).mono ?_); (case side1 => repeat (first | (with_reducible first | exact HB.out | apply below_alloc | apply pw_below_drewN | apply below_drew1) | exact HB.out)); (case side2 => exact Kd.C_kept_call HR0.out (by repeat (first | (with_reducible first | exact HK.out | apply Kept.alloc | apply Kept.drewN | apply Kept.drew) | exact HK.out)) (fun k_ hs_ => (fun e_ => (HO_4.out.1 k_ e_.symm).1.1) hs_)); (case side3 => exact HC0.out); (case side4 => exact Kd.C_kept_own (HO406.out) (fun k_ hk_ hs_ => (hk_.1.2) hs_)); (case side5 => exact (Kd.R_reads' HO406.out).2.1); (case side6 => exact Kd.C_kept_own (HO412.out) (fun k_ hk_ hs_ => (hk_.2.1) hs_)); (case side7 => exact (Kd.R_reads' HO412.out).2.1); (case side8 => exact Iv.R_tight HO_4.out); (case side9 => exact fun W_ hk_ => HCB.out W_ ((show Kept w _ (fun k_ => P4_ k_) from by repeat (first | (with_reducible first | exact HK.out | apply Kept.alloc | apply Kept.drewN | apply Kept.drew) | exact HK.out)).then_ hk_ (fun k_ hs_ => (fun e_ => (HO_4.out.1 k_ e_.symm).1.1) hs_))); rintro e w43 ⟨rfl, hy0, hb, hkp⟩; refine ⟨_, rfl, ?_⟩; have n0_ := Aside0.mk (Iv.R_reok hy0 (fun k_ e_ => HO_4.out.1 k_ e_)); have n1_ := Aside0.mk (Kd.R_mono (ok' := fun k_ => (P4_ k_ ∨ w.heap.size ≤ k_) ∧ some k_ ≠ (stV b : Value).ownBlock ∧ some k_ ≠ (.slice Ao41 y410.length co41 : Value).ownBlock) (Kd.R_keptB (HO406.out) hkp (fun k_ hk_ hs_ => (hk_.1.2) hs_)) (fun k_ hk_ => ⟨hk_.1.1.1, hk_.1.1.2, hk_.1.2⟩)); have n2_ := Aside0.mk (Kd.R_mono (ok' := fun k_ => (P4_ k_ ∨ w.heap.size ≤ k_) ∧ some k_ ≠ (stV b : Value).ownBlock ∧ some k_ ≠ (.slice Ao40 y404.length co40 : Value).ownBlock) (Kd.R_keptB (HO412.out) hkp (fun k_ hk_ hs_ => (hk_.2.1) hs_)) (fun k_ hk_ => ⟨hk_.1.1, hk_.1.2.1, hk_.1.2.2⟩)); have n3_ := Aside0.mk (Kept.then_ (S := (fun k_ => P4_ k_)) (by repeat (first | (with_reducible first | exact HK.out | apply Kept.alloc | apply Kept.drewN | apply Kept.drew) | exact HK.out)) hkp (fun k_ hs_ => (fun e_ => (HO_4.out.1 k_ e_.symm).1.1) hs_)); have n4_ := Aside0.mk (hb); clear HO_4; clear HO406; clear HO412; clear HK; clear HB; have HO_4 := n0_; have HO406 := n1_; have HO412 := n2_; have HK := n3_; have HB := n4_; clear n0_ n1_ n2_ n3_ n4_; (try clear hb); (try clear hkp); (try clear hy0)))
                              go_roundg k3
                              case measure => have := HK1.out; have := HJ22.out; have := HK3.out; omega
                              case rel => exact ⟨(t413), (wrap64 (x36_1 + 1)), (by first | rfl | (simp; done) | (simp [*]; done)), H', ⟨by have := HK1.out; have := HJ22.out; have := HK3.out; omega⟩, ⟨by (with_reducible repeat (first | apply Iv.R_alloc | apply Iv.R_drewN | apply Iv.R_drew)); exact Iv.R_mono HO_4.out (fun _ hk => hk.1.1)⟩, ⟨by repeat (first | (with_reducible first | exact HK.out | apply Kept.alloc | apply Kept.drewN | apply Kept.drew) | exact HK.out)⟩, ⟨by repeat (first | (with_reducible first | exact HB.out | apply below_alloc | apply pw_below_drewN | apply below_drew1) | exact HB.out)⟩⟩
                            · rw [if_neg c34] at H
                              exact absurd H (by simp)
                          · rw [if_neg c32] at H
                            exact absurd H (by simp)
            · rw [if_neg c22] at H
              exact absurd H (by simp)
          · rw [if_neg c21] at H
            exact absurd H (by simp)
        · rw [if_neg c20] at H
          have c20b0 : decide (x36_1 < (l0.length : Int)) = false := decide_eq_false c20
          clear c20
          obtain rfl := Option.some.inj H
          go_wp2
          first | go_end0 | ((try simp only [Exit.inBlock, Exit.then]); refine bodyPost_ret (results_none rfl _ _ _) rfl ?_)
          exact ⟨by first | rfl | (simp [errW_none, errW_some] <;> rfl) | (simp [*, errW_none, errW_some] <;> rfl), by (with_reducible repeat (first | apply Iv.R_alloc | apply Iv.R_drewN | apply Iv.R_drew)); first | exact HO_4.out | exact Iv.R_mono HO_4.out xi, by repeat (first | (with_reducible first | exact HB.out | apply below_alloc | apply pw_below_drewN | apply below_drew1) | exact HB.out), by repeat (first | (with_reducible first | exact HK.out | apply Kept.alloc | apply Kept.drewN | apply Kept.drew) | exact HK.out)⟩


end Go.Proofs.YtneipehcmmigeaaDoor.PFnExactCompleteOfSchur
