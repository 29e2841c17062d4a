-- Written by a program of this session (wip/print/xprint.py).
import Derived.Test.YtnmndjpkfcnaoaaPFnExactReverseOfHooksx0
import Derived.Test.YtnmndjpkfcnaoaaPFnExactReverseOfHooksx6
import Derived.Test.YtnmndjpkfcnaoaaPFnExactReverseOfHooksx7
namespace Go.Proofs.Ytnmndjpkfcnaoaa.PFnExactReverseOfHooks
open Go.RowKit Go.Proofs.YtnmndjpkfcnaoaaW.PrintWords Go.Proofs.YtnmndjpkfcnaoaaW.PrintLast Go.Proofs.YtnmndjpkfcnaoaaW.PrintMore
attribute [local go_sem] max2_int min2_int max_two min_two max_three min_three max_four min_four   -- for this text's walks alone
set_option linter.unusedVariables false
set_option linter.unusedSimpArgs false

def impl_raise.st (x1 : List (List Int)) (r c : Int) : List (List Int) := x1.set r.toNat ((rd_L1 x1 r).set c.toNat (wrap64 ((rd (rd_L1 x1 r) c) + 1)))
def impl_raise.up (k : Nat) (l0 : List Int) (y : List (List Int)) (r c x : Int) : Option Bool := (impl_column.f k l0 c).bind fun m => (if wrap64 (r + 1) < m then (if 0 ≤ wrap64 (r + 1) then (if wrap64 (r + 1) < (y.length : Int) ∧ c < ((rd_L1 y (wrap64 (r + 1))).length : Int) then (if (rd (rd_L1 y (wrap64 (r + 1))) c) = x then some true else some false) else none) else none) else some false)
theorem impl_raise.mono_up : ∀ k y0 y1 y2 y3 y4, LeO (impl_raise.up k y0 y1 y2 y3 y4) (impl_raise.up (k + 1) y0 y1 y2 y3 y4) := fun _ _ _ _ _ _ => LeO.bind (impl_column.mono _ _ _) (fun _ => LeO.refl _)
def impl_raise.l0 : Nat → List Int → List (List Int) → Int → Int → Int → Option (List (List Int))
  | 0, _, _, _, _, _ => none
  | k + 1, l0, x1, r, c, e => if (0 ≤ r ∧ r < (x1.length : Int)) ∧ (0 ≤ c ∧ c < ((rd_L1 x1 r).length : Int)) then ((impl_raise.up k l0 (impl_raise.st x1 r c) r c (rd (rd_L1 x1 r) c)).bind fun b => (if b = true then impl_raise.l0 k l0 (impl_raise.st x1 r c) (wrap64 (r + 1)) c e else (if c > e then impl_raise.l0 k l0 (impl_raise.st x1 r c) r (wrap64 (c - 1)) e else some (impl_raise.st x1 r c)))) else none
def impl_raise.f (k : Nat) (l0 : List Int) (l1 : List (List Int)) (a2 a3 : Int) : Option (List (List Int)) := if 0 ≤ a2 ∧ a2 < (l0.length : Int) then impl_raise.l0 k l0 l1 a2 (wrap64 ((rd l0 a2) - 1)) a3 else none
theorem impl_raise.mono_l : ∀ k, (∀ y0 y1 y2 y3 y4, LeO (impl_raise.l0 k y0 y1 y2 y3 y4) (impl_raise.l0 (k + 1) y0 y1 y2 y3 y4))
  | 0 => fun _ _ _ _ _ r h => by simp [impl_raise.l0] at h
  | k + 1 => by
    have ih0 := impl_raise.mono_l k
    intro y0 y1 y2 y3 y4
    unfold impl_raise.l0
    repeat' first
      | exact ih0 _ _ _ _ _
      | exact impl_raise.mono_up _ _ _ _ _ _
      | exact LeO.refl _
      | exact LeO.none _
      | refine LeO.ite ?_ ?_
      | refine LeO.bind ?_ (fun _ => ?_)
theorem impl_raise.mono : ∀ a0 a1 a2 a3 k, LeO (impl_raise.f k a0 a1 a2 a3) (impl_raise.f (k + 1) a0 a1 a2 a3) := by
  intro a0 a1 a2 a3 k
  unfold impl_raise.f
  exact LeO.ite (impl_raise.mono_l k _ _ _ _ _) (LeO.refl _)
set_option maxHeartbeats 8000000 in
set_option maxRecDepth 100000 in
theorem impl_raise.calls (k : Nat) (A0 : Option Addr) (c0 : Nat) (l0 : List Int) (u : Value) (l1 : List (List Int)) (a2 a3 : Int) (rr : List (List Int)) (w0 w : World) (hB : Below w0.heap.size w0 w) (hr0 : Kd.C (Kd.int .i64) w0 A0 l0.length l0) (hc0 : l0.length ≤ c0) (ho1 : Kd.S (Kd.slice 3 (Kd.int .i64)) 22 w w0.heap.size (fun _ => True) u l1) (h : impl_raise.f k l0 l1 a2 a3 = some rr) :
    Calls Try.prog 27 #[.slice A0 l0.length c0, u, .int .i64 a2, .int .i64 a3] w fun e w' => e = .returned (.tuple #[]) ∧ Kd.S (Kd.slice 3 (Kd.int .i64)) 22 w' w0.heap.size (fun _ => True) u rr ∧ Below w0.heap.size w0 w' := by
  unfold impl_raise.f at h
  by_cases ha : 0 ≤ a2 ∧ a2 < (l0.length : Int)
  · rw [if_pos ha] at h
    obtain ⟨ha0, ha1⟩ := ha
    obtain ⟨A1, c1, e1⟩ := Kd.S_slice ho1
    obtain ⟨n1, hn1⟩ : ∃ n_ : Nat, n_ = l1.length := ⟨_, rfl⟩
    rw [← hn1] at e1
    subst e1
    clear hn1
    have HB := Aside0.mk hB
    have HR0 := Aside0.mk hr0
    have HC0 := Aside0.mk hc0
    have HO1 := Aside0.mk ho1
    have H' := Aside0.mk h
    have hrw := Kd.C_below hr0 hB
    obtain ⟨ap, ep, hxp⟩ := Kd.at_int hrw a2 ha0 ha1
    subst ep
    clear hB hr0 hc0 ho1 h hrw
    have pa := eq_true ha0
    have qa := eq_true ha1
    clear ha0 ha1
    go_enter Try.func27, Try.ntmps27
    try go_wp2
    refine start_ (n := 8) (S := fun w' => w'.cell? (ap.add a2.toNat) = some (.int .i64 (rd l0 a2))) (ds := []) #[false, false, false, false, false, false, false, false] (by kernel_rfl) rfl rfl hxp (fun hHeld => ?_)
    have n0_ := Aside0.mk (below_drew1 HB.out)
    have n1_ := Aside0.mk (Kd.S_drew HO1.out)
    clear HB HO1 hxp
    generalize w.drew = wd at n0_ n1_ hHeld ⊢
    have HB := n0_
    have HO1 := n1_
    clear n0_ n1_
    refine pure_ (i := 0) (N := some 11) (v := ?_) (a' := ?_) #[true, false, false, false, false, false, false, false] rfl rfl (by kernel_rfl) (fun _ _ _ h => h) (Or.inl ⟨by rfl, ?_⟩) ?_ ?_
    rotate_left
    · intro w'
      go_simp
      with_reducible rfl
    rotate_left
    · simp only [Act.put, List.setIfInBounds_toArray, List.set_cons_zero, List.set_cons_succ, i64_w, i32_w]
      rfl
    refine pure_ (i := 1) (N := some 12) (v := ?_) (a' := ?_) #[true, true, false, false, false, false, false, false] rfl rfl (by kernel_rfl) (fun _ _ _ h => h) (Or.inl ⟨by rfl, ?_⟩) ?_ ?_
    rotate_left
    · intro w'
      go_simp
      with_reducible rfl
    rotate_left
    · simp only [Act.put, List.setIfInBounds_toArray, List.set_cons_zero, List.set_cons_succ, i64_w, i32_w]
      rfl
    refine pure_ (i := 2) (N := some 13) (v := ?_) (a' := ?_) #[true, true, true, false, false, false, false, false] rfl rfl (by kernel_rfl) (fun _ _ _ h => h) (Or.inl ⟨by rfl, ?_⟩) ?_ ?_
    rotate_left
    · intro w'
      go_simp
      with_reducible rfl
    rotate_left
    · simp only [Act.put, List.setIfInBounds_toArray, List.set_cons_zero, List.set_cons_succ, i64_w, i32_w]
      rfl
    refine pure_ (i := 3) (N := some 14) (v := ?_) (a' := ?_) #[true, true, true, true, false, false, false, false] rfl rfl (by kernel_rfl) (fun _ _ _ h => h) (Or.inl ⟨by rfl, ?_⟩) ?_ ?_
    rotate_left
    · intro w'
      go_simp
      with_reducible rfl
    rotate_left
    · simp only [Act.put, List.setIfInBounds_toArray, List.set_cons_zero, List.set_cons_succ, i64_w, i32_w]
      rfl
    refine take_ (i := 4) (N := some 15) (v := ?_) (a' := ?_) #[true, true, true, true, true, false, false, false] rfl rfl (by kernel_rfl) (fun _ _ _ h => h) (Or.inl ⟨by rfl, ?_⟩) hHeld ?_ ?_
    rotate_left
    · intro w' s0
      go_simp
      with_reducible rfl
    rotate_left
    · simp only [Act.put, List.setIfInBounds_toArray, List.set_cons_zero, List.set_cons_succ, i64_w, i32_w]
      rfl
    refine pure_ (i := 5) (N := some 16) (v := ?_) (a' := ?_) #[true, true, true, true, true, true, false, false] rfl rfl (by kernel_rfl) (fun _ _ _ h => h) (Or.inl ⟨by rfl, ?_⟩) ?_ ?_
    rotate_left
    · intro w'
      go_simp
      with_reducible rfl
    rotate_left
    · simp only [Act.put, List.setIfInBounds_toArray, List.set_cons_zero, List.set_cons_succ, i64_w, i32_w]
      rfl
    refine pure_ (i := 6) (N := some 8) (v := ?_) (a' := ?_) #[true, true, true, true, true, true, true, false] rfl rfl (by kernel_rfl) (fun _ _ _ h => h) (Or.inl ⟨by rfl, ?_⟩) ?_ ?_
    rotate_left
    · intro w'
      go_simp
      with_reducible rfl
    rotate_left
    · simp only [Act.put, List.setIfInBounds_toArray, List.set_cons_zero, List.set_cons_succ, i64_w, i32_w]
      rfl
    refine pure_ (i := 7) (N := some 9) (v := ?_) (a' := ?_) #[true, true, true, true, true, true, true, true] rfl rfl (by kernel_rfl) (fun _ _ _ h => h) (Or.inl ⟨by rfl, ?_⟩) ?_ ?_
    rotate_left
    · intro w'
      go_simp
      with_reducible rfl
    rotate_left
    · simp only [Act.put, List.setIfInBounds_toArray, List.set_cons_zero, List.set_cons_succ, i64_w, i32_w]
      rfl
    refine done_ (by kernel_rfl) ?_
    clear hHeld
    go_wp2
    go_loopg [8, 9] k (fun kq v8 v9 w' => ∃ (x1 : List (List Int)) (r c : Int), v8 = .int .i64 r ∧ v9 = .int .i64 c ∧ Aside0 (impl_raise.l0 kq l0 x1 r c a3 = some rr) ∧ Aside0 (kq ≤ k) ∧ Aside0 (Kd.S (Kd.slice 3 (Kd.int .i64)) 22 w' w0.heap.size (fun _ => True) (.slice A1 n1 c1) x1) ∧ Aside0 (Below w0.heap.size w0 w'))
    case atStart => exact ⟨l1, a2, wrap64 ((rd l0 a2) - 1), (by first | rfl | (simp; done) | (simp [*]; done)), (by first | rfl | (simp; done) | (simp [*]; done)), H', ⟨Nat.le_refl _⟩, HO1, HB⟩
    case round =>
      clear H' HO1 HB pa qa
      (try clear hxp)
      obtain ⟨x1, r, c, rfl, rfl, HA, HK1, HO_1, HB⟩ := hrel
      cases gk with
      | zero => exact absurd HA.out (by simp [impl_raise.l0])
      | succ k1 =>
        have H := HA.out
        clear HA
        simp only [impl_raise.l0] at H
        by_cases hc : (0 ≤ r ∧ r < (x1.length : Int)) ∧ (0 ≤ c ∧ c < ((rd_L1 x1 r).length : Int))
        · rw [if_pos hc] at H
          obtain ⟨⟨hr0, hr1⟩, hc0, hc1⟩ := hc
          obtain ⟨b, Ab, H⟩ := Option.bind_eq_some_iff.mp H
          obtain ⟨g1, cg, eg, _, _, _⟩ := Kd.S_form HO_1.out (by omega)
          injection eg with ea_ en_ ec_
          subst ea_
          subst ec_
          obtain ⟨oki, ce, hcl, hM, hcc, hfr, hoki, hH⟩ := Kd.S_elem HO_1.out ([] : List Int) r hr0 (by omega)
          obtain ⟨ve, rfl, ge⟩ := hM
          have hx5 := hcc 0 _ rfl
          rw [show (Kd.slice 3 (Kd.int .i64)).sz = 1 from rfl, Nat.mul_one, Nat.add_zero] at hx5
          have ge' : Kd.R (Kd.int .i64) 3 wr w0.heap.size oki ve (rd_L1 x1 r) := ge
          obtain ⟨gi, ci, ei, _, _, _⟩ := Kd.R_form ge' (by omega)
          subst ei
          obtain ⟨hx6, hf6⟩ := Kd.R_celln 0 ge' c hc0 hc1
          have hy6 : wr.cell? ⟨gi, c.toNat, none⟩ = some (.int .i64 (rd (rd_L1 x1 r) c)) := hx6
          have HP14 := Kd.R_putg ge' c (wrap64 ((rd (rd_L1 x1 r) c) + 1))
          have HH := Aside0.mk hH
          have GE := Aside0.mk ge'
          have EN := Aside0.mk en_
          have p5 := eq_true hr0
          have q5 : (r < (n1 : Int)) = True := eq_true (by omega)
          have p6 := eq_true hc0
          have q6 := eq_true hc1
          have HRC := Aside0.mk (show 0 ≤ r ∧ r < (n1 : Int) ∧ 0 ≤ c from ⟨hr0, by omega, hc0⟩)
          clear hH ge ge' hoki hcc hfr hcl hx6 en_ hr0 hr1 hc0 hc1
          obtain ⟨y, hy⟩ : ∃ y_ : List (List Int), y_ = impl_raise.st x1 r c := ⟨_, rfl⟩
          obtain ⟨xv, hxv⟩ : ∃ x_ : Int, x_ = rd (rd_L1 x1 r) c := ⟨_, rfl⟩
          rw [← hy, ← hxv] at Ab
          rw [← hy] at H
          have AB := Aside0.mk Ab
          have HZ := Aside0.mk H
          have Y := Aside0.mk hy
          rw [← hxv] at hy6
          rw [← hxv] at HP14
          have XV := Aside0.mk hxv
          clear Ab H hy hxv
          go_upto_region 3 with (first | ((with_reducible refine gate_store (t := 3) (p := 32) rfl ?_); refine store_event (t := 3) (p := 32) (v := ?vo_1) (w1 := (wr.setCell ⟨gi, c.toNat, none⟩ (.int .i64 (wrap64 (xv + 1))))) ?hg ?ho ?hn ?hr ?_; (case ho => rfl); (case hg => rfl); (case hn => rfl); (case hr => first | (go_simp; done) | (go_simp; rfl)); intro w15 hw; have n0_ : Aside0 (Kd.S (Kd.slice 3 (Kd.int .i64)) 22 w15 w0.heap.size (fun _ => True) (.slice (some ⟨g1, 0, none⟩) n1 c1) y) := ⟨by rw [Y.out]; unfold impl_raise.st; rw [← XV.out]; exact Kd.H_back (Kd.H_grown HH.out (row := some gi) (by rw [hw]; exact HP14.2) (fun k_ e_ => GE.out.1 k_ e_)) (x' := (rd_L1 x1 r).set c.toNat (wrap64 (xv + 1))) (show (Kd.slice 3 (Kd.int .i64)).M w15 w0.heap.size oki _ [_] from ⟨_, rfl, by rw [hw]; exact HP14.1⟩) (fun _ h_ => h_)⟩; have n1_ : Aside0 (Below w0.heap.size w0 w15) := ⟨by rw [hw]; exact below_set HB.out (Kd.R_base GE.out gi rfl)⟩; clear hw HP14 HH GE HO_1 HB; have HO_1 := n0_; have HB := n1_; clear n0_ n1_))
          clear p5 q5 hx5 hy6 hf6
          have A := AB.out
          unfold impl_raise.up at A
          obtain ⟨m, Am, A⟩ := Option.bind_eq_some_iff.mp A
          have AM := Aside0.mk Am
          clear Am
          have d6 := eq_true HRC.out.2.2
          by_cases d1 : wrap64 (r + 1) < m
          · rw [if_pos d1] at A
            have d1b : decide (wrap64 (r + 1) < m) = true := decide_eq_true d1
            by_cases d2 : 0 ≤ wrap64 (r + 1)
            · rw [if_pos d2] at A
              by_cases d4 : wrap64 (r + 1) < (y.length : Int) ∧ c < ((rd_L1 y (wrap64 (r + 1))).length : Int)
              · rw [if_pos d4] at A
                obtain ⟨d4a, d4b⟩ := d4
                have hyl : y.length = n1 := by have h2 := (Kd.S_slice HO_1.out); obtain ⟨_, _, h3⟩ := h2; injection h3 with _ h4 _; exact h4.symm
                obtain ⟨oki2, ce2, hcl2, hM2, hcc2, _, _, _⟩ := Kd.S_elem HO_1.out ([] : List Int) (wrap64 (r + 1)) d2 (by omega)
                obtain ⟨ve2, rfl, ge2⟩ := hM2
                have hx7 := hcc2 0 _ rfl
                rw [show (Kd.slice 3 (Kd.int .i64)).sz = 1 from rfl, Nat.mul_one, Nat.add_zero] at hx7
                have ge3 : Kd.R (Kd.int .i64) 3 w15 w0.heap.size oki2 ve2 (rd_L1 y (wrap64 (r + 1))) := ge2
                obtain ⟨gi2, ci2, ei2, _, _, _⟩ := Kd.R_form ge3 (by have := HRC.out; omega)
                subst ei2
                obtain ⟨hx8, _⟩ := Kd.R_celln 0 ge3 c HRC.out.2.2 d4b
                have hy8 : w15.cell? ⟨gi2, c.toNat, none⟩ = some (.int .i64 (rd (rd_L1 y (wrap64 (r + 1))) c)) := hx8
                have t1 : (wrap64 (r + 1) < (n1 : Int)) = True := eq_true (by omega)
                have t2 := eq_true d2
                have t3 := eq_true d4b
                clear hcc2 hcl2 ge2 ge3 hx8 d4a d4b hyl
                by_cases d5 : (rd (rd_L1 y (wrap64 (r + 1))) c) = xv
                · rw [if_pos d5] at A
                  have d5b : ((rd (rd_L1 y (wrap64 (r + 1))) c) == xv) = true := beq_iff_eq.mpr d5
                  obtain rfl := Option.some.inj A
                  have H := HZ.out
                  rw [if_pos rfl] at H
                  have H' := Aside0.mk H
                  clear H HZ d5
                  go_wp2_with (first | ((with_reducible refine gate_callee (f := 26) rfl ?_); refine goesL_ (some 38) rfl rfl Try.func26 (by kernel_rfl) rfl #[.slice (some ap) l0.length c0, .int .i64 c] rfl xm ?_; (with_reducible refine (impl_column.calls k1 _ _ l0 c m _ ?side1 ?side2 AM.out).mono ?_); (case side1 => exact Kd.C_below HR0.out HB.out); (case side2 => exact HC0.out); rintro e w' ⟨rfl, ⟨nd, rfl⟩⟩; refine ⟨_, rfl, ?_⟩))
                  go_roundg k1
                  case measure => have := HK1.out; omega
                  case rel => exact ⟨y, wrap64 (r + 1), c, (by first | rfl | (simp; done) | (simp [*]; done)), (by first | rfl | (simp; done) | (simp [*]; done)), H', ⟨by have := HK1.out; omega⟩, (by first | exact HO_1 | exact ⟨Kd.S_drewN HO_1.out _⟩), (by first | exact HB | exact ⟨pw_below_drewN HB.out _⟩)⟩
                · rw [if_neg d5] at A
                  have d5b : ((rd (rd_L1 y (wrap64 (r + 1))) c) == xv) = false := beq_eq_false_iff_ne.mpr d5
                  clear d5
                  obtain rfl := Option.some.inj A
                  have H := HZ.out
                  rw [if_neg Bool.false_ne_true] at H
                  by_cases e9 : c > a3
                  · rw [if_pos e9] at H
                    have e9b : decide (a3 < c) = true := decide_eq_true e9
                    have H' := Aside0.mk H
                    clear H HZ
                    go_wp2_with (first | ((with_reducible refine gate_callee (f := 26) rfl ?_); refine goesL_ (some 38) rfl rfl Try.func26 (by kernel_rfl) rfl #[.slice (some ap) l0.length c0, .int .i64 c] rfl xm ?_; (with_reducible refine (impl_column.calls k1 _ _ l0 c m _ ?side1 ?side2 AM.out).mono ?_); (case side1 => exact Kd.C_below HR0.out HB.out); (case side2 => exact HC0.out); rintro e w' ⟨rfl, ⟨nd, rfl⟩⟩; refine ⟨_, rfl, ?_⟩))
                    go_roundg k1
                    case measure => have := HK1.out; omega
                    case rel => exact ⟨y, r, wrap64 (c - 1), (by first | rfl | (simp; done) | (simp [*]; done)), (by first | rfl | (simp; done) | (simp [*]; done)), H', ⟨by have := HK1.out; omega⟩, (by first | exact HO_1 | exact ⟨Kd.S_drewN HO_1.out _⟩), (by first | exact HB | exact ⟨pw_below_drewN HB.out _⟩)⟩
                  · rw [if_neg e9] at H
                    have e9b : decide (a3 < c) = false := decide_eq_false e9
                    clear HZ
                    obtain rfl := Option.some.inj H
                    go_wp2_with (first | ((with_reducible refine gate_callee (f := 26) rfl ?_); refine goesL_ (some 38) rfl rfl Try.func26 (by kernel_rfl) rfl #[.slice (some ap) l0.length c0, .int .i64 c] rfl xm ?_; (with_reducible refine (impl_column.calls k1 _ _ l0 c m _ ?side1 ?side2 AM.out).mono ?_); (case side1 => exact Kd.C_below HR0.out HB.out); (case side2 => exact HC0.out); rintro e w' ⟨rfl, ⟨nd, rfl⟩⟩; refine ⟨_, rfl, ?_⟩))
                    refine bodyPost_ret (results_none rfl _ _ _) rfl ?_
                    exact ⟨rfl, by first | exact HO_1.out | exact Kd.S_drewN HO_1.out _, by first | exact HB.out | exact pw_below_drewN HB.out _⟩
              · rw [if_neg d4] at A; cases A
            · rw [if_neg d2] at A; cases A
          · rw [if_neg d1] at A
            have d1b : decide (wrap64 (r + 1) < m) = false := decide_eq_false d1
            obtain rfl := Option.some.inj A
            have H := HZ.out
            rw [if_neg Bool.false_ne_true] at H
            by_cases e9 : c > a3
            · rw [if_pos e9] at H
              have e9b : decide (a3 < c) = true := decide_eq_true e9
              have H' := Aside0.mk H
              clear H HZ
              go_wp2_with (first | ((with_reducible refine gate_callee (f := 26) rfl ?_); refine goesL_ (some 38) rfl rfl Try.func26 (by kernel_rfl) rfl #[.slice (some ap) l0.length c0, .int .i64 c] rfl xm ?_; (with_reducible refine (impl_column.calls k1 _ _ l0 c m _ ?side1 ?side2 AM.out).mono ?_); (case side1 => exact Kd.C_below HR0.out HB.out); (case side2 => exact HC0.out); rintro e w' ⟨rfl, ⟨nd, rfl⟩⟩; refine ⟨_, rfl, ?_⟩))
              go_roundg k1
              case measure => have := HK1.out; omega
              case rel => exact ⟨y, r, wrap64 (c - 1), (by first | rfl | (simp; done) | (simp [*]; done)), (by first | rfl | (simp; done) | (simp [*]; done)), H', ⟨by have := HK1.out; omega⟩, (by first | exact HO_1 | exact ⟨Kd.S_drewN HO_1.out _⟩), (by first | exact HB | exact ⟨pw_below_drewN HB.out _⟩)⟩
            · rw [if_neg e9] at H
              have e9b : decide (a3 < c) = false := decide_eq_false e9
              clear HZ
              obtain rfl := Option.some.inj H
              go_wp2_with (first | ((with_reducible refine gate_callee (f := 26) rfl ?_); refine goesL_ (some 38) rfl rfl Try.func26 (by kernel_rfl) rfl #[.slice (some ap) l0.length c0, .int .i64 c] rfl xm ?_; (with_reducible refine (impl_column.calls k1 _ _ l0 c m _ ?side1 ?side2 AM.out).mono ?_); (case side1 => exact Kd.C_below HR0.out HB.out); (case side2 => exact HC0.out); rintro e w' ⟨rfl, ⟨nd, rfl⟩⟩; refine ⟨_, rfl, ?_⟩))
              refine bodyPost_ret (results_none rfl _ _ _) rfl ?_
              exact ⟨rfl, by first | exact HO_1.out | exact Kd.S_drewN HO_1.out _, by first | exact HB.out | exact pw_below_drewN HB.out _⟩
        · rw [if_neg hc] at H; cases H
  · rw [if_neg ha] at h; cases h


/-! ### impl_ReverseOfHooks: function 9 -/
mutual
def impl_ReverseOfHooks.j0 : Nat → List Int → List (List Int) → Bool → Option ((List (List Int)) × Bool)
  | 0, _, _, _ => none
  | k + 1, x0, x1, x18 => if x18 = true then (some (([] : List (List Int)), false)) else ((impl_zeros.f k x0).bind fun t206 => ((impl_at.f x0 0).bind fun t209 => (impl_ReverseOfHooks.l0 k x0 x1 t206 (wrap64 (t209 - 1)))))
def impl_ReverseOfHooks.l0 : Nat → List Int → List (List Int) → List (List Int) → Int → Option ((List (List Int)) × Bool)
  | 0, _, _, _, _ => none
  | k + 1, x0, x1, x7, x8 => if x8 ≥ 0 then ((impl_column.f k x0 x8).bind fun t211 => (impl_ReverseOfHooks.l1 k x0 x1 x7 x8 t211 0)) else ((impl_IsFilling.f k x0 x7).bind fun t210 => (if t210 = true then (some (x7, true)) else (some (([] : List (List Int)), false))))
def impl_ReverseOfHooks.l1 : Nat → List Int → List (List Int) → List (List Int) → Int → Int → Int → Option ((List (List Int)) × Bool)
  | 0, _, _, _, _, _, _ => none
  | k + 1, x0, x1, x7, x8, x30, x31 => if x31 < x30 then (if 0 ≤ x31 then (if x31 < (x1.length : Int) then (if 0 ≤ x8 then (if x8 < ((rd_L1 x1 x31).length : Int) then (impl_ReverseOfHooks.l2 k x0 x1 x7 x8 x31 x30 x31 (rd (rd_L1 x1 x31) x8) 0) else (none)) else (none)) else (none)) else (none)) else (impl_ReverseOfHooks.l0 k x0 x1 x7 (wrap64 (x8 - 1)))
def impl_ReverseOfHooks.l2 : Nat → List Int → List (List Int) → List (List Int) → Int → Int → Int → Int → Int → Int → Option ((List (List Int)) × Bool)
  | 0, _, _, _, _, _, _, _, _, _ => none
  | k + 1, x0, x1, x7, x8, x9, x30, x31, x40, x41 => if x41 < x40 then ((impl_raise.f k x0 x7 x9 x8).bind fun t214 => (impl_ReverseOfHooks.l2 k x0 x1 t214 x8 x9 x30 x31 x40 (wrap64 (x41 + 1)))) else (impl_ReverseOfHooks.l1 k x0 x1 x7 x8 x30 (wrap64 (x31 + 1)))
end
def impl_ReverseOfHooks.f (k : Nat) (l0 : List Int) (l1 : List (List Int)) : Option ((List (List Int)) × Bool) := (impl_HookWeight.f k l0 l1).bind fun t205 => (if t205 < 0 then (impl_ReverseOfHooks.j0 k l0 l1 true) else (impl_ReverseOfHooks.j0 k l0 l1 (decide (t205 > 20))))
theorem impl_ReverseOfHooks.mono_l : ∀ k, (∀ y0 y1 y2, LeO (impl_ReverseOfHooks.j0 k y0 y1 y2) (impl_ReverseOfHooks.j0 (k + 1) y0 y1 y2)) ∧ (∀ y0 y1 y2 y3, LeO (impl_ReverseOfHooks.l0 k y0 y1 y2 y3) (impl_ReverseOfHooks.l0 (k + 1) y0 y1 y2 y3)) ∧ (∀ y0 y1 y2 y3 y4 y5, LeO (impl_ReverseOfHooks.l1 k y0 y1 y2 y3 y4 y5) (impl_ReverseOfHooks.l1 (k + 1) y0 y1 y2 y3 y4 y5)) ∧ (∀ y0 y1 y2 y3 y4 y5 y6 y7 y8, LeO (impl_ReverseOfHooks.l2 k y0 y1 y2 y3 y4 y5 y6 y7 y8) (impl_ReverseOfHooks.l2 (k + 1) y0 y1 y2 y3 y4 y5 y6 y7 y8))
  | 0 => ⟨fun _ _ _ r h => by simp [impl_ReverseOfHooks.j0] at h, fun _ _ _ _ r h => by simp [impl_ReverseOfHooks.l0] at h, fun _ _ _ _ _ _ r h => by simp [impl_ReverseOfHooks.l1] at h, fun _ _ _ _ _ _ _ _ _ r h => by simp [impl_ReverseOfHooks.l2] at h⟩
  | k + 1 => by
    obtain ⟨ih0, ih1, ih2, ih3⟩ := impl_ReverseOfHooks.mono_l k
    refine ⟨?_, ?_, ?_, ?_⟩
    · intro y0 y1 y2
      unfold impl_ReverseOfHooks.j0
      repeat' first
      | (with_reducible exact ih0 _ _ _)
      | (with_reducible exact ih1 _ _ _ _)
      | (with_reducible exact ih2 _ _ _ _ _ _)
      | (with_reducible exact ih3 _ _ _ _ _ _ _ _ _)
      | (with_reducible exact impl_HookWeight.mono _ _ _)
      | (with_reducible exact impl_IsFilling.mono _ _ _)
      | (with_reducible exact impl_column.mono _ _ _)
      | (with_reducible exact impl_raise.mono _ _ _ _ _)
      | (with_reducible exact impl_zeros.mono _ _)
      | (with_reducible exact LeO.refl _)
      | (with_reducible exact LeO.none _)
      | (with_reducible refine LeO.ite ?_ ?_)
      | (with_reducible refine LeO.bind ?_ (fun _ => ?_))
      | exact ih0 _ _ _
      | exact ih1 _ _ _ _
      | exact ih2 _ _ _ _ _ _
      | exact ih3 _ _ _ _ _ _ _ _ _
      | exact impl_HookWeight.mono _ _ _
      | exact impl_IsFilling.mono _ _ _
      | exact impl_column.mono _ _ _
      | exact impl_raise.mono _ _ _ _ _
      | exact impl_zeros.mono _ _
      | exact LeO.none _
      | refine LeO.ite ?_ ?_
      | refine LeO.bind ?_ (fun _ => ?_)
    · intro y0 y1 y2 y3
      unfold impl_ReverseOfHooks.l0
      repeat' first
      | (with_reducible exact ih0 _ _ _)
      | (with_reducible exact ih1 _ _ _ _)
      | (with_reducible exact ih2 _ _ _ _ _ _)
      | (with_reducible exact ih3 _ _ _ _ _ _ _ _ _)
      | (with_reducible exact impl_HookWeight.mono _ _ _)
      | (with_reducible exact impl_IsFilling.mono _ _ _)
      | (with_reducible exact impl_column.mono _ _ _)
      | (with_reducible exact impl_raise.mono _ _ _ _ _)
      | (with_reducible exact impl_zeros.mono _ _)
      | (with_reducible exact LeO.refl _)
      | (with_reducible exact LeO.none _)
      | (with_reducible refine LeO.ite ?_ ?_)
      | (with_reducible refine LeO.bind ?_ (fun _ => ?_))
      | exact ih0 _ _ _
      | exact ih1 _ _ _ _
      | exact ih2 _ _ _ _ _ _
      | exact ih3 _ _ _ _ _ _ _ _ _
      | exact impl_HookWeight.mono _ _ _
      | exact impl_IsFilling.mono _ _ _
      | exact impl_column.mono _ _ _
      | exact impl_raise.mono _ _ _ _ _
      | exact impl_zeros.mono _ _
      | exact LeO.none _
      | refine LeO.ite ?_ ?_
      | refine LeO.bind ?_ (fun _ => ?_)
    · intro y0 y1 y2 y3 y4 y5
      unfold impl_ReverseOfHooks.l1
      repeat' first
      | (with_reducible exact ih0 _ _ _)
      | (with_reducible exact ih1 _ _ _ _)
      | (with_reducible exact ih2 _ _ _ _ _ _)
      | (with_reducible exact ih3 _ _ _ _ _ _ _ _ _)
      | (with_reducible exact impl_HookWeight.mono _ _ _)
      | (with_reducible exact impl_IsFilling.mono _ _ _)
      | (with_reducible exact impl_column.mono _ _ _)
      | (with_reducible exact impl_raise.mono _ _ _ _ _)
      | (with_reducible exact impl_zeros.mono _ _)
      | (with_reducible exact LeO.refl _)
      | (with_reducible exact LeO.none _)
      | (with_reducible refine LeO.ite ?_ ?_)
      | (with_reducible refine LeO.bind ?_ (fun _ => ?_))
      | exact ih0 _ _ _
      | exact ih1 _ _ _ _
      | exact ih2 _ _ _ _ _ _
      | exact ih3 _ _ _ _ _ _ _ _ _
      | exact impl_HookWeight.mono _ _ _
      | exact impl_IsFilling.mono _ _ _
      | exact impl_column.mono _ _ _
      | exact impl_raise.mono _ _ _ _ _
      | exact impl_zeros.mono _ _
      | exact LeO.none _
      | refine LeO.ite ?_ ?_
      | refine LeO.bind ?_ (fun _ => ?_)
    · intro y0 y1 y2 y3 y4 y5 y6 y7 y8
      unfold impl_ReverseOfHooks.l2
      repeat' first
      | (with_reducible exact ih0 _ _ _)
      | (with_reducible exact ih1 _ _ _ _)
      | (with_reducible exact ih2 _ _ _ _ _ _)
      | (with_reducible exact ih3 _ _ _ _ _ _ _ _ _)
      | (with_reducible exact impl_HookWeight.mono _ _ _)
      | (with_reducible exact impl_IsFilling.mono _ _ _)
      | (with_reducible exact impl_column.mono _ _ _)
      | (with_reducible exact impl_raise.mono _ _ _ _ _)
      | (with_reducible exact impl_zeros.mono _ _)
      | (with_reducible exact LeO.refl _)
      | (with_reducible exact LeO.none _)
      | (with_reducible refine LeO.ite ?_ ?_)
      | (with_reducible refine LeO.bind ?_ (fun _ => ?_))
      | exact ih0 _ _ _
      | exact ih1 _ _ _ _
      | exact ih2 _ _ _ _ _ _
      | exact ih3 _ _ _ _ _ _ _ _ _
      | exact impl_HookWeight.mono _ _ _
      | exact impl_IsFilling.mono _ _ _
      | exact impl_column.mono _ _ _
      | exact impl_raise.mono _ _ _ _ _
      | exact impl_zeros.mono _ _
      | exact LeO.none _
      | refine LeO.ite ?_ ?_
      | refine LeO.bind ?_ (fun _ => ?_)
theorem impl_ReverseOfHooks.mono : ∀ a0 a1 k, LeO (impl_ReverseOfHooks.f k a0 a1) (impl_ReverseOfHooks.f (k + 1) a0 a1) := by
  intro a0 a1 k
  obtain ⟨ih0, ih1, ih2, ih3⟩ := impl_ReverseOfHooks.mono_l k
  unfold impl_ReverseOfHooks.f
  repeat' first
      | (with_reducible exact ih0 _ _ _)
      | (with_reducible exact ih1 _ _ _ _)
      | (with_reducible exact ih2 _ _ _ _ _ _)
      | (with_reducible exact ih3 _ _ _ _ _ _ _ _ _)
      | (with_reducible exact impl_HookWeight.mono _ _ _)
      | (with_reducible exact impl_IsFilling.mono _ _ _)
      | (with_reducible exact impl_column.mono _ _ _)
      | (with_reducible exact impl_raise.mono _ _ _ _ _)
      | (with_reducible exact impl_zeros.mono _ _)
      | (with_reducible exact LeO.refl _)
      | (with_reducible exact LeO.none _)
      | (with_reducible refine LeO.ite ?_ ?_)
      | (with_reducible refine LeO.bind ?_ (fun _ => ?_))
      | exact ih0 _ _ _
      | exact ih1 _ _ _ _
      | exact ih2 _ _ _ _ _ _
      | exact ih3 _ _ _ _ _ _ _ _ _
      | exact impl_HookWeight.mono _ _ _
      | exact impl_IsFilling.mono _ _ _
      | exact impl_column.mono _ _ _
      | exact impl_raise.mono _ _ _ _ _
      | exact impl_zeros.mono _ _
      | exact LeO.none _
      | refine LeO.ite ?_ ?_
      | refine LeO.bind ?_ (fun _ => ?_)
set_option maxHeartbeats 8000000 in
set_option maxRecDepth 100000 in
theorem impl_ReverseOfHooks.calls (k : Nat) (A0 : Option Addr) (c0 : Nat) (l0 : List Int) (A1 : Option Addr) (c1 : Nat) (l1 : List (List Int)) (r1 : List (List Int)) (r2 : Bool) (w : World) (hr0 : Kd.C (Kd.int .i64) w A0 l0.length l0) (hc0 : l0.length ≤ c0) (hr1 : Kd.C (Kd.slice 3 (Kd.int .i64)) w A1 l1.length l1) (hc1 : l1.length ≤ c1) (h : impl_ReverseOfHooks.f k l0 l1 = some (r1, r2)) :
    Calls Try.prog 9 #[.slice A0 l0.length c0, .slice A1 l1.length c1] w fun e w' => ∃ v0_ : Value, e = .returned (.tuple #[v0_, .bool r2]) ∧ Kd.S (Kd.slice 3 (Kd.int .i64)) 22 w' w.heap.size (fun _ => True) v0_ r1 ∧ Below w.heap.size w w' := by
  have HR0 := Aside0.mk hr0
  have HC0 := Aside0.mk hc0
  clear hr0 hc0
  have HR1 := Aside0.mk hr1
  have HC1 := Aside0.mk hc1
  clear hr1 hc1
  have HB := Aside0.mk (Below.refl w.heap.size w)
  have H : ((impl_HookWeight.f k l0 l1).bind fun t205 => (if t205 < 0 then (impl_ReverseOfHooks.j0 k l0 l1 true) else (impl_ReverseOfHooks.j0 k l0 l1 (decide (t205 > 20))))) = some (r1, r2) := h
  clear h
  replace H := Option.bind_eq_some_iff.mp H
  obtain ⟨t205, A30, H⟩ := H
  replace H : (if t205 < 0 then (impl_ReverseOfHooks.j0 k l0 l1 true) else (impl_ReverseOfHooks.j0 k l0 l1 (decide (t205 > 20)))) = some (r1, r2) := H
  have A3 := Aside0.mk A30
  clear A30
  have HC4 := Aside0.mk H
  clear H
  go_enter Try.func9, Try.ntmps9
  go_upto_region 2 with (first | ((with_reducible refine gate_callee (f := 23) rfl ?_); refine goesL_ (some 12) rfl rfl Try.func23 (by kernel_rfl) rfl #[.slice A0 l0.length c0, .slice A1 l1.length c1] rfl xm ?_; (with_reducible refine (impl_HookWeight.calls k _ _ l0 _ _ l1 t205 _ ?side1 ?side2 ?side3 ?side4 A3.out).mono ?_); (case side1 => exact xc HR0.out); (case side2 => exact HC0.out); (case side3 => exact xc HR1.out); (case side4 => exact HC1.out); rintro e w' ⟨rfl, ⟨nd, rfl⟩⟩; refine ⟨_, rfl, ?_⟩))
  (try simp only [Act.put, List.setIfInBounds_toArray, List.set_cons_zero, List.set_cons_succ])
  go_cut [18] (fun v18 wc => ∃ (kq : Nat) (x18_3 : Bool), v18 = .bool x18_3 ∧ Aside0 (impl_ReverseOfHooks.j0 kq l0 l1 x18_3 = some (r1, r2)) ∧ Aside0 (kq ≤ k) ∧ Aside0 (Below w.heap.size w wc))
  case first =>
    have H := HC4.out
    clear HC4
    by_cases c5 : t205 < 0
    · rw [if_pos c5] at H
      have c5b0 : decide (t205 < 0) = true := decide_eq_true c5
      clear c5
      (first | rw [c5b0] | (simp only [i64_w, i32_w]; rw [c5b0]) | skip)
      have H' := Aside0.mk H
      clear H
      go_wp2
      go_meet
      case rel => exact ⟨_, (true), (by first | rfl | (simp; done) | (simp [*]; done)), H', ⟨by first | omega | exact Nat.le_refl _⟩, ⟨by repeat (first | (with_reducible first | exact HB.out | apply below_alloc | apply pw_below_drewN | apply below_drew1) | exact HB.out)⟩⟩
    · rw [if_neg c5] at H
      have c5b0 : decide (t205 < 0) = false := decide_eq_false c5
      clear c5
      (first | rw [c5b0] | (simp only [i64_w, i32_w]; rw [c5b0]) | skip)
      have H' := Aside0.mk H
      clear H
      go_wp2
      go_meet
      case rel => exact ⟨_, (decide (t205 > 20)), (by first | rfl | (simp; done) | (simp [*]; done)), H', ⟨by first | omega | exact Nat.le_refl _⟩, ⟨by repeat (first | (with_reducible first | exact HB.out | apply below_alloc | apply pw_below_drewN | apply below_drew1) | exact HB.out)⟩⟩
  case rest =>
    clear HC4
    try clear c1
    try clear c2
    try clear p2
    try clear c5
    try clear c5b0
    obtain ⟨kq, x18_3, rfl, HA, HJ3, HB⟩ := hcut
    cases kq with
    | zero => exact absurd HA.out (by simp [impl_ReverseOfHooks.j0])
    | succ kj3 =>
      have H := HA.out
      clear HA
      simp only [impl_ReverseOfHooks.j0] at H
      by_cases c6 : x18_3 = true
      · subst c6
        have H1 : (some (([] : List (List Int)), false)) = some (r1, r2) := by rw [if_pos rfl] at H; exact H
        clear H
        have H := H1
        clear H1
        simp only [Option.some.injEq, Prod.mk.injEq] at H
        obtain ⟨rfl, rfl⟩ := H
        go_wp2
        go_ret2
        exact ⟨_, by first | rfl | (simp [errW_none, errW_some] <;> rfl) | (simp [*, errW_none, errW_some] <;> rfl), by first | exact Kd.S_nil _ _ _ _ _ | exact Kd.N_nil _ _ _ _ _ | exact Kd.V_nil _ _ _ _ _ | exact Kd.Q_nil _ _ _ _ _ | exact Kd.R_nil _ _ _ _ _, by repeat (first | (with_reducible first | exact HB.out | apply below_alloc | apply pw_below_drewN | apply below_drew1) | exact HB.out)⟩
      · replace c6 := Bool.eq_false_iff.mpr c6
        subst c6
        have H1 : ((impl_zeros.f kj3 l0).bind fun t206 => ((impl_at.f l0 0).bind fun t209 => (impl_ReverseOfHooks.l0 kj3 l0 l1 t206 (wrap64 (t209 - 1))))) = some (r1, r2) := by rw [if_neg (show ¬ (false = true) by decide)] at H; exact H
        clear H
        have H := H1
        clear H1
        replace H := Option.bind_eq_some_iff.mp H
        obtain ⟨t206, A70, H⟩ := H
        replace H : ((impl_at.f l0 0).bind fun t209 => (impl_ReverseOfHooks.l0 kj3 l0 l1 t206 (wrap64 (t209 - 1)))) = some (r1, r2) := H
        have A7 := Aside0.mk A70
        clear A70
        replace H := Option.bind_eq_some_iff.mp H
        obtain ⟨t209, A80, H⟩ := H
        replace H : (impl_ReverseOfHooks.l0 kj3 l0 l1 t206 (wrap64 (t209 - 1))) = some (r1, r2) := H
        have A8 := Aside0.mk A80
        clear A80
        have H' := Aside0.mk H
        clear H
        go_wp2_with (first | ((with_reducible refine gate_callee (f := 24) rfl ?_); refine goesL_ (some 20) rfl rfl Try.func24 (by kernel_rfl) rfl #[.slice A0 l0.length c0] rfl xm ?_; (with_reducible refine (impl_zeros.calls kj3 _ _ l0 t206 _ ?side1 ?side2 A7.out).mono ?_); (case side1 => first | exact xc (Kd.C_below HR0.out HB.out) | exact xc HR0.out); (case side2 => exact HC0.out); rintro e w9 ⟨v207, rfl, ho0, hb⟩; refine ⟨_, rfl, ?_⟩; have n0_ := Aside0.mk (Kd.S_lower ho0 (below_size (xb HB.out))); have n1_ := Aside0.mk (below_step (xb HB.out) hb); clear HB; have HO208 := n0_; have HB := n1_; clear n0_ n1_; (try clear hb); (try clear hb2); (try clear hk); (try clear hi); (try clear ho0)) | ((with_reducible refine gate_callee (f := 25) rfl ?_); refine goesL_ (some 22) rfl rfl Try.func25 (by kernel_rfl) rfl #[.slice A0 l0.length c0, .int .i64 0] rfl xm ?_; (with_reducible refine (impl_at.calls _ _ l0 0 t209 _ ?side1 ?side2 A8.out).mono ?_); (case side1 => first | exact xc (Kd.C_below HR0.out HB.out) | exact xc HR0.out); (case side2 => exact HC0.out); rintro e w' ⟨rfl, ⟨nd, rfl⟩⟩; refine ⟨_, rfl, ?_⟩))
        go_loopg [8] kj3 (fun kq v8 w' => ∃ (x7_2 : List (List Int)) (x8_2 : Int), v8 = .int .i64 x8_2 ∧ Aside0 (impl_ReverseOfHooks.l0 kq l0 l1 x7_2 x8_2 = some (r1, r2)) ∧ Aside0 (kq ≤ kj3) ∧ Aside0 (Kd.S (Kd.slice 3 (Kd.int .i64)) 22 w' w.heap.size (fun _ => True) v207 x7_2) ∧ Aside0 (Below w.heap.size w w'))
        case atStart => exact ⟨(t206), (wrap64 (t209 - 1)), (by first | rfl | (simp; done) | (simp [*]; done)), H', ⟨Nat.le_refl _⟩, ⟨by (with_reducible repeat (first | apply Kd.S_alloc | apply Kd.S_drewN | apply Kd.S_drew)); first | exact HO208.out | exact Kd.S_mono HO208.out xi⟩, ⟨by repeat (first | (with_reducible first | exact HB.out | apply below_alloc | apply pw_below_drewN | apply below_drew1) | exact HB.out)⟩⟩
        case round =>
          clear H'
          try clear c1
          try clear c2
          try clear p2
          try clear c5
          try clear c5b0
          try clear c6
          try clear p6
          try clear c9
          try clear p2
          obtain ⟨x7_2, x8_2, rfl, HA, HK2, HO_7, HB⟩ := hrel
          cases gk with
          | zero => exact absurd HA.out (by simp [impl_ReverseOfHooks.l0])
          | succ k2 =>
            have H := HA.out
            clear HA
            simp only [impl_ReverseOfHooks.l0] at H
            by_cases c10 : x8_2 ≥ 0
            · rw [if_pos c10] at H
              have c10b0 : decide (0 ≤ x8_2) = true := decide_eq_true c10
              clear c10
              replace H := Option.bind_eq_some_iff.mp H
              obtain ⟨t211, A110, H⟩ := H
              replace H : (impl_ReverseOfHooks.l1 k2 l0 l1 x7_2 x8_2 t211 0) = some (r1, r2) := H
              have A11 := Aside0.mk A110
              clear A110
              have H' := Aside0.mk H
              clear H
              go_wp2_with (first | ((with_reducible refine gate_callee (f := 26) rfl ?_); refine goesL_ (some 30) rfl rfl Try.func26 (by kernel_rfl) rfl #[.slice A0 l0.length c0, .int .i64 x8_2] rfl xm ?_; (with_reducible refine (impl_column.calls k2 _ _ l0 x8_2 t211 _ ?side1 ?side2 A11.out).mono ?_); (case side1 => first | exact xc (Kd.C_below HR0.out HB.out) | exact xc HR0.out); (case side2 => exact HC0.out); rintro e w' ⟨rfl, ⟨nd, rfl⟩⟩; refine ⟨_, rfl, ?_⟩))
              go_loopg [31] k2 (fun kq v31 w' => ∃ (x7_3 : List (List Int)) (x31_3 : Int), v31 = .int .i64 x31_3 ∧ Aside0 (impl_ReverseOfHooks.l1 kq l0 l1 x7_3 x8_2 t211 x31_3 = some (r1, r2)) ∧ Aside0 (kq ≤ k2) ∧ Aside0 (Kd.S (Kd.slice 3 (Kd.int .i64)) 22 w' w.heap.size (fun _ => True) v207 x7_3) ∧ Aside0 (Below w.heap.size w w'))
              case atStart => exact ⟨(x7_2), (0), (by first | rfl | (simp; done) | (simp [*]; done)), H', ⟨Nat.le_refl _⟩, ⟨by (with_reducible repeat (first | apply Kd.S_alloc | apply Kd.S_drewN | apply Kd.S_drew)); first | exact HO_7.out | exact Kd.S_mono HO_7.out xi⟩, ⟨by repeat (first | (with_reducible first | exact HB.out | apply below_alloc | apply pw_below_drewN | apply below_drew1) | exact HB.out)⟩⟩
              case round =>
                clear H'
                try clear c1
                try clear c2
                try clear p2
                try clear c5
                try clear c5b0
                try clear c6
                try clear p6
                try clear c9
                try clear c10
                try clear c10b0
                try clear p2
                try clear p6
                obtain ⟨x7_3, x31_3, rfl, HA, HK3, HO_7, HB⟩ := hrel
                cases gk with
                | zero => exact absurd HA.out (by simp [impl_ReverseOfHooks.l1])
                | succ k3 =>
                  have H := HA.out
                  clear HA
                  simp only [impl_ReverseOfHooks.l1] at H
                  by_cases c12 : x31_3 < t211
                  · rw [if_pos c12] at H
                    have c12b0 : decide (x31_3 < t211) = true := decide_eq_true c12
                    clear c12
                    by_cases c13 : 0 ≤ x31_3
                    · rw [if_pos c13] at H
                      have c13b0 : decide (0 ≤ x31_3) = true := decide_eq_true c13
                      clear c13
                      by_cases c14 : x31_3 < (l1.length : Int)
                      · rw [if_pos c14] at H
                        have c14b0 : decide (x31_3 < (l1.length : Int)) = true := decide_eq_true c14
                        clear c14
                        by_cases c15 : 0 ≤ x8_2
                        · rw [if_pos c15] at H
                          have c15b0 : decide (0 ≤ x8_2) = true := decide_eq_true c15
                          clear c15
                          by_cases c16 : x8_2 < ((rd_L1 l1 x31_3).length : Int)
                          · rw [if_pos c16] at H
                            have c16b0 : decide (x8_2 < ((rd_L1 l1 x31_3).length : Int)) = true := decide_eq_true c16
                            clear c16
                            have H' := Aside0.mk H
                            clear H
                            have p212 : 0 ≤ (x31_3 : Int) := of_decide_eq_true (by first | (with_reducible assumption) | assumption)
                            have q212 : x31_3 < (l1.length : Int) := of_decide_eq_true (by first | (with_reducible assumption) | assumption)
                            obtain ⟨ad212, A212_0, c212_0, e212, hx212_0, hl212_0, hi212_0⟩ := at_L1 HR1.out x31_3 p212 q212
                            cases e212
                            (try replace hx212_0 := (HB.out.cell (World.block_lt_of_cell? w _ hx212_0)).trans hx212_0)
                            have HR212_0 := Aside0.mk hi212_0
                            have HC212_0 := Aside0.mk hl212_0
                            clear hi212_0 hl212_0
                            replace p212 := eq_true p212
                            replace q212 := eq_true q212
                            have p213 : 0 ≤ (x8_2 : Int) := of_decide_eq_true (by first | (with_reducible assumption) | assumption)
                            have q213 : x8_2 < ((rd_L1 l1 x31_3).length : Int) := of_decide_eq_true (by first | (with_reducible assumption) | assumption)
                            obtain ⟨ad213, e213, hx213_0⟩ := Kd.at_int HR212_0.out x8_2 p213 q213
                            cases e213
                            (try replace hx213_0 := (HB.out.cell (World.block_lt_of_cell? w _ hx213_0)).trans hx213_0)
                            replace p213 := eq_true p213
                            replace q213 := eq_true q213
                            go_wp2
                            go_loopg [41] k3 (fun kq v41 w' => ∃ (x7_4 : List (List Int)) (x41_4 : Int), v41 = .int .i64 x41_4 ∧ Aside0 (impl_ReverseOfHooks.l2 kq l0 l1 x7_4 x8_2 x31_3 t211 x31_3 (rd (rd_L1 l1 x31_3) x8_2) x41_4 = some (r1, r2)) ∧ Aside0 (kq ≤ k3) ∧ Aside0 (Kd.S (Kd.slice 3 (Kd.int .i64)) 22 w' w.heap.size (fun _ => True) v207 x7_4) ∧ Aside0 (Below w.heap.size w w'))
                            case atStart => exact ⟨(x7_3), (0), (by first | rfl | (simp; done) | (simp [*]; done)), H', ⟨Nat.le_refl _⟩, ⟨by (with_reducible repeat (first | apply Kd.S_alloc | apply Kd.S_drewN | apply Kd.S_drew)); first | exact HO_7.out | exact Kd.S_mono HO_7.out xi⟩, ⟨by repeat (first | (with_reducible first | exact HB.out | apply below_alloc | apply pw_below_drewN | apply below_drew1) | exact HB.out)⟩⟩
                            case round =>
                              clear H'
                              try clear c1
                              try clear c2
                              try clear p2
                              try clear q2
                              try clear hx2
                              try clear c5
                              try clear c5b0
                              try clear c6
                              try clear p6
                              try clear c9
                              try clear c10
                              try clear c10b0
                              try clear c12
                              try clear c12b0
                              try clear c13
                              try clear c13b0
                              try clear c14
                              try clear c14b0
                              try clear c15
                              try clear c15b0
                              try clear c16
                              try clear c16b0
                              try clear hx212_0
                              try clear hx213_0
                              try clear p2
                              try clear p212
                              try clear p213
                              try clear p6
                              try clear q212
                              try clear q213
                              obtain ⟨x7_4, x41_4, rfl, HA, HK4, HO_7, HB⟩ := hrel
                              cases gk with
                              | zero => exact absurd HA.out (by simp [impl_ReverseOfHooks.l2])
                              | succ k4 =>
                                have H := HA.out
                                clear HA
                                simp only [impl_ReverseOfHooks.l2] at H
                                by_cases c17 : x41_4 < (rd (rd_L1 l1 x31_3) x8_2)
                                · rw [if_pos c17] at H
                                  have c17b0 : decide (x41_4 < (rd (rd_L1 l1 x31_3) x8_2)) = true := decide_eq_true c17
                                  clear c17
                                  replace H := Option.bind_eq_some_iff.mp H
                                  obtain ⟨t214, A180, H⟩ := H
                                  replace H : (impl_ReverseOfHooks.l2 k4 l0 l1 t214 x8_2 x31_3 t211 x31_3 (rd (rd_L1 l1 x31_3) x8_2) (wrap64 (x41_4 + 1))) = some (r1, r2) := H
                                  have A18 := Aside0.mk A180
                                  clear A180
                                  have H' := Aside0.mk H
                                  clear H
                                  obtain ⟨Ao19, co19, eo19⟩ := Kd.S_slice HO_7.out
                                  subst eo19
                                  go_wp2_with (first | ((with_reducible refine gate_callee (f := 27) rfl ?_); refine goesL_ (some 47) rfl rfl Try.func27 (by kernel_rfl) rfl #[.slice A0 l0.length c0, .slice Ao19 x7_4.length co19, .int .i64 x31_3, .int .i64 x8_2] rfl xm ?_; (with_reducible refine (impl_raise.calls k4 _ _ l0 (.slice Ao19 x7_4.length co19) x7_4 x31_3 x8_2 t214 w _ ?side1 ?side2 ?side3 ?side4 A18.out).mono ?_); (case side1 => repeat (first | (with_reducible first | exact HB.out | apply below_alloc | apply pw_below_drewN | apply below_drew1) | exact HB.out)); (case side2 => exact HR0.out); (case side3 => exact HC0.out); (case side4 => first | exact HO_7.out | ((with_reducible repeat (first | apply Kd.S_alloc | apply Kd.S_drewN | apply Kd.S_drew)); exact HO_7.out)); rintro e w20 ⟨rfl, hy0, hb⟩; refine ⟨_, rfl, ?_⟩; have n0_ := Aside0.mk (hy0); have n1_ := Aside0.mk (hb); clear HO_7; clear HB; have HO_7 := n0_; have HB := n1_; clear n0_ n1_; (try clear hb); (try clear hkp); (try clear hy0)))
                                  go_roundg k4
                                  case measure => have := HJ3.out; have := HK2.out; have := HK3.out; have := HK4.out; omega
                                  case rel => exact ⟨(t214), (wrap64 (x41_4 + 1)), (by first | rfl | (simp; done) | (simp [*]; done)), H', ⟨by have := HJ3.out; have := HK2.out; have := HK3.out; have := HK4.out; omega⟩, ⟨by (with_reducible repeat (first | apply Kd.S_alloc | apply Kd.S_drewN | apply Kd.S_drew)); first | exact HO_7.out | exact Kd.S_mono HO_7.out xi⟩, ⟨by repeat (first | (with_reducible first | exact HB.out | apply below_alloc | apply pw_below_drewN | apply below_drew1) | exact HB.out)⟩⟩
                                · rw [if_neg c17] at H
                                  have c17b0 : decide (x41_4 < (rd (rd_L1 l1 x31_3) x8_2)) = false := decide_eq_false c17
                                  clear c17
                                  have H' := Aside0.mk H
                                  clear H
                                  go_wp2
                                  go_roundg k4
                                  case measure => have := HJ3.out; have := HK2.out; have := HK3.out; have := HK4.out; omega
                                  case rel => exact ⟨(x7_4), (wrap64 (x31_3 + 1)), (by first | rfl | (simp; done) | (simp [*]; done)), H', ⟨by have := HJ3.out; have := HK2.out; have := HK3.out; have := HK4.out; omega⟩, ⟨by (with_reducible repeat (first | apply Kd.S_alloc | apply Kd.S_drewN | apply Kd.S_drew)); first | exact HO_7.out | exact Kd.S_mono HO_7.out xi⟩, ⟨by repeat (first | (with_reducible first | exact HB.out | apply below_alloc | apply pw_below_drewN | apply below_drew1) | exact HB.out)⟩⟩
                          · rw [if_neg c16] at H
                            exact absurd H (by simp)
                        · rw [if_neg c15] at H
                          exact absurd H (by simp)
                      · rw [if_neg c14] at H
                        exact absurd H (by simp)
                    · rw [if_neg c13] at H
                      exact absurd H (by simp)
                  · rw [if_neg c12] at H
                    have c12b0 : decide (x31_3 < t211) = false := decide_eq_false c12
                    clear c12
                    have H' := Aside0.mk H
                    clear H
                    go_wp2
                    go_roundg k3
                    case measure => have := HJ3.out; have := HK2.out; have := HK3.out; omega
                    case rel => exact ⟨(x7_3), (wrap64 (x8_2 - 1)), (by first | rfl | (simp; done) | (simp [*]; done)), H', ⟨by have := HJ3.out; have := HK2.out; have := HK3.out; omega⟩, ⟨by (with_reducible repeat (first | apply Kd.S_alloc | apply Kd.S_drewN | apply Kd.S_drew)); first | exact HO_7.out | exact Kd.S_mono HO_7.out xi⟩, ⟨by repeat (first | (with_reducible first | exact HB.out | apply below_alloc | apply pw_below_drewN | apply below_drew1) | exact HB.out)⟩⟩
            · rw [if_neg c10] at H
              have c10b0 : decide (0 ≤ x8_2) = false := decide_eq_false c10
              clear c10
              replace H := Option.bind_eq_some_iff.mp H
              obtain ⟨t210, A210, H⟩ := H
              replace H : (if t210 = true then (some (x7_2, true)) else (some (([] : List (List Int)), false))) = some (r1, r2) := H
              have A21 := Aside0.mk A210
              clear A210
              by_cases c22 : t210 = true
              · subst c22
                have H1 : (some (x7_2, true)) = some (r1, r2) := by rw [if_pos rfl] at H; exact H
                clear H
                have H := H1
                clear H1
                simp only [Option.some.injEq, Prod.mk.injEq] at H
                obtain ⟨rfl, rfl⟩ := H
                obtain ⟨Ao23, co23, eo23⟩ := Kd.S_slice HO_7.out
                subst eo23
                go_wp2_with (first | ((with_reducible refine gate_callee (f := 28) rfl ?_); refine goesL_ (some 52) rfl rfl Try.func28 (by kernel_rfl) rfl #[.slice A0 l0.length c0, .slice Ao23 x7_2.length co23] rfl xm ?_; (with_reducible refine (impl_IsFilling.calls k2 _ _ l0 _ _ x7_2 true _ ?side1 ?side2 ?side3 ?side4 A21.out).mono ?_); (case side1 => first | exact xc (Kd.C_below HR0.out HB.out) | exact xc HR0.out); (case side2 => exact HC0.out); (case side3 => repeat (first | exact (Kd.S_reads' HO_7.out).2.2 | (with_reducible refine Kd.C_alloc ?_ _) | (with_reducible refine Kd.C_drewN ?_ _) | (with_reducible refine Kd.C_drew ?_))); (case side4 => exact (Kd.S_reads' HO_7.out).2.1); rintro e w' ⟨rfl, ⟨nd, rfl⟩⟩; refine ⟨_, rfl, ?_⟩))
                go_ret2
                exact ⟨_, by first | rfl | (simp [errW_none, errW_some] <;> rfl) | (simp [*, errW_none, errW_some] <;> rfl), by (with_reducible repeat (first | apply Kd.S_alloc | apply Kd.S_drewN | apply Kd.S_drew)); first | exact HO_7.out | exact Kd.S_mono HO_7.out xi, by repeat (first | (with_reducible first | exact HB.out | apply below_alloc | apply pw_below_drewN | apply below_drew1) | exact HB.out)⟩
              · replace c22 := Bool.eq_false_iff.mpr c22
                subst c22
                have H1 : (some (([] : List (List Int)), false)) = some (r1, r2) := by rw [if_neg (show ¬ (false = true) by decide)] at H; exact H
                clear H
                have H := H1
                clear H1
                simp only [Option.some.injEq, Prod.mk.injEq] at H
                obtain ⟨rfl, rfl⟩ := H
                obtain ⟨Ao24, co24, eo24⟩ := Kd.S_slice HO_7.out
                subst eo24
                go_wp2_with (first | ((with_reducible refine gate_callee (f := 28) rfl ?_); refine goesL_ (some 52) rfl rfl Try.func28 (by kernel_rfl) rfl #[.slice A0 l0.length c0, .slice Ao24 x7_2.length co24] rfl xm ?_; (with_reducible refine (impl_IsFilling.calls k2 _ _ l0 _ _ x7_2 false _ ?side1 ?side2 ?side3 ?side4 A21.out).mono ?_); (case side1 => first | exact xc (Kd.C_below HR0.out HB.out) | exact xc HR0.out); (case side2 => exact HC0.out); (case side3 => repeat (first | exact (Kd.S_reads' HO_7.out).2.2 | (with_reducible refine Kd.C_alloc ?_ _) | (with_reducible refine Kd.C_drewN ?_ _) | (with_reducible refine Kd.C_drew ?_))); (case side4 => exact (Kd.S_reads' HO_7.out).2.1); rintro e w' ⟨rfl, ⟨nd, rfl⟩⟩; refine ⟨_, rfl, ?_⟩))
                go_ret2
                exact ⟨_, by first | rfl | (simp [errW_none, errW_some] <;> rfl) | (simp [*, errW_none, errW_some] <;> rfl), by first | exact Kd.S_nil _ _ _ _ _ | exact Kd.N_nil _ _ _ _ _ | exact Kd.V_nil _ _ _ _ _ | exact Kd.Q_nil _ _ _ _ _ | exact Kd.R_nil _ _ _ _ _, by repeat (first | (with_reducible first | exact HB.out | apply below_alloc | apply pw_below_drewN | apply below_drew1) | exact HB.out)⟩

/-! ### laws_eqIntS: function 11 -/
def laws_eqIntS.l0 : Nat → List Int → List Int → Int → Option (Bool)
  | 0, _, _, _ => none
  | k + 1, x0, x1, x5 => if x5 < (x0.length : Int) then (if 0 ≤ x5 then (if x5 < (x1.length : Int) then (if (rd x0 x5) = (rd x1 x5) then (laws_eqIntS.l0 k x0 x1 (wrap64 (x5 + 1))) else (some false)) else (none)) else (none)) else (some true)
def laws_eqIntS.f (k : Nat) (l0 : List Int) (l1 : List Int) : Option (Bool) := if (l0.length : Int) = (l1.length : Int) then (laws_eqIntS.l0 k l0 l1 0) else (some false)
theorem laws_eqIntS.mono_l : ∀ k, (∀ y0 y1 y2, LeO (laws_eqIntS.l0 k y0 y1 y2) (laws_eqIntS.l0 (k + 1) y0 y1 y2))
  | 0 => fun _ _ _ r h => by simp [laws_eqIntS.l0] at h
  | k + 1 => by
    have ih0 := laws_eqIntS.mono_l k
    · intro y0 y1 y2
      unfold laws_eqIntS.l0
      repeat' first
      | (with_reducible exact ih0 _ _ _)
      | (with_reducible exact LeO.refl _)
      | (with_reducible exact LeO.none _)
      | (with_reducible refine LeO.ite ?_ ?_)
      | (with_reducible refine LeO.bind ?_ (fun _ => ?_))
      | exact ih0 _ _ _
      | exact LeO.none _
      | refine LeO.ite ?_ ?_
      | refine LeO.bind ?_ (fun _ => ?_)
theorem laws_eqIntS.mono : ∀ a0 a1 k, LeO (laws_eqIntS.f k a0 a1) (laws_eqIntS.f (k + 1) a0 a1) := by
  intro a0 a1 k
  have ih0 := laws_eqIntS.mono_l k
  unfold laws_eqIntS.f
  repeat' first
      | (with_reducible exact ih0 _ _ _)
      | (with_reducible exact LeO.refl _)
      | (with_reducible exact LeO.none _)
      | (with_reducible refine LeO.ite ?_ ?_)
      | (with_reducible refine LeO.bind ?_ (fun _ => ?_))
      | exact ih0 _ _ _
      | exact LeO.none _
      | refine LeO.ite ?_ ?_
      | refine LeO.bind ?_ (fun _ => ?_)
set_option maxHeartbeats 8000000 in
set_option maxRecDepth 100000 in
theorem laws_eqIntS.calls (k : Nat) (A0 : Option Addr) (c0 : Nat) (l0 : List Int) (A1 : Option Addr) (c1 : Nat) (l1 : List Int) (r : Bool) (w : World) (hr0 : Kd.C (Kd.int .i64) w A0 l0.length l0) (hc0 : l0.length ≤ c0) (hr1 : Kd.C (Kd.int .i64) w A1 l1.length l1) (hc1 : l1.length ≤ c1) (h : laws_eqIntS.f k l0 l1 = some r) :
    Calls Try.prog 11 #[.slice A0 l0.length c0, .slice A1 l1.length c1] w fun e w' => e = .returned (.bool r) ∧ Drawn0 w w' := by
  have HR0 := Aside0.mk hr0
  have HC0 := Aside0.mk hc0
  clear hr0 hc0
  have HR1 := Aside0.mk hr1
  have HC1 := Aside0.mk hc1
  clear hr1 hc1
  have H : (if (l0.length : Int) = (l1.length : Int) then (laws_eqIntS.l0 k l0 l1 0) else (some false)) = some r := h
  clear h
  by_cases c3 : (l0.length : Int) = (l1.length : Int)
  · rw [if_pos c3] at H
    have c3b0 : ((l0.length : Int) == (l1.length : Int)) = true := beq_iff_eq.mpr c3
    have c3b1 : ((l0.length : Int) != (l1.length : Int)) = false := bne_eq_false_iff_eq.mpr c3
    have c3b2 : (l0.length == l1.length) = true := by first | simpa using c3 | (simp at c3 ⊢; omega)
    clear c3
    have H' := Aside0.mk H
    clear H
    go_enter Try.func11, Try.ntmps11
    go_wp2
    repeat (go_quiet (fail); try go_wp2)
    go_loopg [5] k (fun kq v5 w' => ∃ (x5_1 : Int), v5 = .int .i64 x5_1 ∧ Aside0 (laws_eqIntS.l0 kq l0 l1 x5_1 = some r) ∧ Aside0 (kq ≤ k) ∧ Drawn0 w w')
    case atStart => exact ⟨(0), (by first | rfl | (simp; done) | (simp [*]; done)), H', ⟨Nat.le_refl _⟩, by repeat (first | exact Drawn0.refl _ | apply Drawn0.step)⟩
    case round =>
      clear H'
      try clear c1
      try clear p2
      try clear c3
      try clear c3b0
      try clear c3b1
      try clear c3b2
      obtain ⟨x5_1, rfl, HA, HK1, ⟨m1, rfl⟩⟩ := hrel
      cases gk with
      | zero => exact absurd HA.out (by simp [laws_eqIntS.l0])
      | succ k1 =>
        have H := HA.out
        clear HA
        simp only [laws_eqIntS.l0] at H
        by_cases c4 : x5_1 < (l0.length : Int)
        · rw [if_pos c4] at H
          have c4b0 : decide (x5_1 < (l0.length : Int)) = true := decide_eq_true c4
          clear c4
          by_cases c5 : 0 ≤ x5_1
          · rw [if_pos c5] at H
            have c5b0 : decide (0 ≤ x5_1) = true := decide_eq_true c5
            clear c5
            by_cases c6 : x5_1 < (l1.length : Int)
            · rw [if_pos c6] at H
              have c6b0 : decide (x5_1 < (l1.length : Int)) = true := decide_eq_true c6
              clear c6
              by_cases c7 : (rd l0 x5_1) = (rd l1 x5_1)
              · rw [if_pos c7] at H
                have c7b0 : ((rd l0 x5_1) == (rd l1 x5_1)) = true := beq_iff_eq.mpr c7
                have c7b1 : ((rd l0 x5_1) != (rd l1 x5_1)) = false := bne_eq_false_iff_eq.mpr c7
                clear c7
                have H' := Aside0.mk H
                clear H
                have p215 : 0 ≤ (x5_1 : Int) := of_decide_eq_true (by first | (with_reducible assumption) | assumption)
                have q215 : x5_1 < (l0.length : Int) := of_decide_eq_true (by first | (with_reducible assumption) | assumption)
                obtain ⟨ad215, e215, hx215_0⟩ := Kd.at_int HR0.out x5_1 p215 q215
                cases e215
                replace p215 := eq_true p215
                replace q215 := eq_true q215
                have p216 : 0 ≤ (x5_1 : Int) := of_decide_eq_true (by first | (with_reducible assumption) | assumption)
                have q216 : x5_1 < (l1.length : Int) := of_decide_eq_true (by first | (with_reducible assumption) | assumption)
                obtain ⟨ad216, e216, hx216_0⟩ := Kd.at_int HR1.out x5_1 p216 q216
                cases e216
                replace p216 := eq_true p216
                replace q216 := eq_true q216
                go_wp2
                repeat (go_quiet (fail); try go_wp2)
                go_roundg k1
                case measure => have := HK1.out; omega
                case rel => exact ⟨(wrap64 (x5_1 + 1)), (by first | rfl | (simp; done) | (simp [*]; done)), H', ⟨by have := HK1.out; omega⟩, by repeat (first | exact Drawn0.refl _ | apply Drawn0.step)⟩
              · rw [if_neg c7] at H
                have c7b0 : ((rd l0 x5_1) == (rd l1 x5_1)) = false := beq_eq_false_iff_ne.mpr c7
                have c7b1 : ((rd l0 x5_1) != (rd l1 x5_1)) = true := bne_iff_ne.mpr c7
                obtain rfl := Option.some.inj H
                have p215 : 0 ≤ (x5_1 : Int) := of_decide_eq_true (by first | (with_reducible assumption) | assumption)
                have q215 : x5_1 < (l0.length : Int) := of_decide_eq_true (by first | (with_reducible assumption) | assumption)
                obtain ⟨ad215, e215, hx215_0⟩ := Kd.at_int HR0.out x5_1 p215 q215
                cases e215
                replace p215 := eq_true p215
                replace q215 := eq_true q215
                have p216 : 0 ≤ (x5_1 : Int) := of_decide_eq_true (by first | (with_reducible assumption) | assumption)
                have q216 : x5_1 < (l1.length : Int) := of_decide_eq_true (by first | (with_reducible assumption) | assumption)
                obtain ⟨ad216, e216, hx216_0⟩ := Kd.at_int HR1.out x5_1 p216 q216
                cases e216
                replace p216 := eq_true p216
                replace q216 := eq_true q216
                go_wp2
                repeat (go_quiet (fail); try go_wp2)
                go_ret
                exact ⟨by first | rfl | (simp; done) | (simp [*]; done), by repeat (first | exact Drawn0.refl _ | apply Drawn0.step)⟩
            · rw [if_neg c6] at H
              exact absurd H (by simp)
          · rw [if_neg c5] at H
            exact absurd H (by simp)
        · rw [if_neg c4] at H
          have c4b0 : decide (x5_1 < (l0.length : Int)) = false := decide_eq_false c4
          clear c4
          obtain rfl := Option.some.inj H
          go_wp2
          repeat (go_quiet (fail); try go_wp2)
          go_ret
          exact ⟨by first | rfl | (simp; done) | (simp [*]; done), by repeat (first | exact Drawn0.refl _ | apply Drawn0.step)⟩
  · rw [if_neg c3] at H
    have c3b0 : ((l0.length : Int) == (l1.length : Int)) = false := beq_eq_false_iff_ne.mpr c3
    have c3b1 : ((l0.length : Int) != (l1.length : Int)) = true := bne_iff_ne.mpr c3
    have c3b2 : (l0.length == l1.length) = false := by first | simpa using c3 | (simp at c3 ⊢; omega)
    obtain rfl := Option.some.inj H
    go_enter Try.func11, Try.ntmps11
    go_wp2
    repeat (go_quiet (fail); try go_wp2)
    go_ret
    exact ⟨by first | rfl | (simp; done) | (simp [*]; done), by repeat (first | exact Drawn0.refl _ | apply Drawn0.step)⟩

end Go.Proofs.Ytnmndjpkfcnaoaa.PFnExactReverseOfHooks
