-- Written by a program of this session (wip/print/xprint.py).
import Derived.Test.YtneipehcmmigeaaDoorPFnExactCountWalksx0
import Derived.Test.YtneipehcmmigeaaDoorPFnExactCountWalksx4
namespace Go.Proofs.YtneipehcmmigeaaDoor.PFnExactCountWalks
open Go.RowKit Go.Proofs.YtneipehcmmigeaaDoorW.PrintWords Go.Proofs.YtneipehcmmigeaaDoorW.PrintLast Go.Proofs.YtneipehcmmigeaaDoorW.PrintMore
attribute [local go_sem] max2_int min2_int max_two min_two max_three min_three max_four min_four   -- for this text's walks alone
set_option linter.unusedVariables false
set_option linter.unusedSimpArgs false

/-! ### spec_l28Put: function 56 -/
def spec_l28Put.put (l0 : List S33) (l1 : List Int) (a2 x : Int) : Option (List S33) := if 0 ≤ x ∧ x ≤ (l0.length : Int) ∧ l0.length ≤ 1000000000 ∧ l1.length ≤ 1000000000 then some ((l0.take x.toNat ++ [(⟨l1, a2⟩ : S33)]) ++ l0.drop x.toNat) else none
def spec_l28Put.fin (k : Nat) (l0 : List S33) (l1 : List Int) (a2 x : Int) : Option (List S33) := if x > 0 then (if 0 ≤ wrap64 (x - 1) then (if wrap64 (x - 1) < (l0.length : Int) then ((spec_l2Same.f k (rd_T33 l0 (wrap64 (x - 1))).f0 l1).bind fun s => (if s = true then some (l0.set (wrap64 (x - 1)).toNat (⟨(rd_T33 l0 (wrap64 (x - 1))).f0, wrap64 ((rd_T33 l0 (wrap64 (x - 1))).f1 + a2)⟩ : S33)) else spec_l28Put.put l0 l1 a2 x)) else none) else none) else spec_l28Put.put l0 l1 a2 x
def spec_l28Put.l0 : Nat → List S33 → List Int → Int → Int → Option (List S33)
  | 0, _, _, _, _ => none
  | k + 1, l0, l1, a2, x => if x > 0 then (if 0 ≤ wrap64 (x - 1) then (if wrap64 (x - 1) < (l0.length : Int) then ((spec_l12Before.f k (rd_T33 l0 (wrap64 (x - 1))).f0 l1).bind fun b => (if b = true then spec_l28Put.l0 k l0 l1 a2 (wrap64 (x - 1)) else spec_l28Put.fin k l0 l1 a2 x)) else none) else none) else spec_l28Put.fin k l0 l1 a2 x
def spec_l28Put.f (k : Nat) (l0 : List S33) (l1 : List Int) (a2 : Int) : Option (List S33) := spec_l28Put.l0 k l0 l1 a2 (l0.length : Int)
theorem spec_l28Put.mono_fin : ∀ k y0 y1 y2 y3, LeO (spec_l28Put.fin k y0 y1 y2 y3) (spec_l28Put.fin (k + 1) y0 y1 y2 y3) := by
  intro k y0 y1 y2 y3
  unfold spec_l28Put.fin
  repeat' first
    | (with_reducible exact spec_l2Same.mono _ _ _)
    | (with_reducible exact LeO.refl _)
    | (with_reducible exact LeO.none _)
    | (with_reducible refine LeO.ite ?_ ?_)
    | (with_reducible refine LeO.bind ?_ (fun _ => ?_))
theorem spec_l28Put.mono_l : ∀ k, (∀ y0 y1 y2 y3, LeO (spec_l28Put.l0 k y0 y1 y2 y3) (spec_l28Put.l0 (k + 1) y0 y1 y2 y3))
  | 0 => fun _ _ _ _ r h => by simp [spec_l28Put.l0] at h
  | k + 1 => by
    have ih0 := spec_l28Put.mono_l k
    intro y0 y1 y2 y3
    unfold spec_l28Put.l0
    repeat' first
      | (with_reducible exact ih0 _ _ _ _)
      | (with_reducible exact spec_l28Put.mono_fin _ _ _ _ _)
      | (with_reducible exact spec_l12Before.mono _ _ _)
      | (with_reducible exact LeO.refl _)
      | (with_reducible exact LeO.none _)
      | (with_reducible refine LeO.ite ?_ ?_)
      | (with_reducible refine LeO.bind ?_ (fun _ => ?_))
theorem spec_l28Put.mono : ∀ a0 a1 a2 k, LeO (spec_l28Put.f k a0 a1 a2) (spec_l28Put.f (k + 1) a0 a1 a2) := fun a0 a1 a2 k => spec_l28Put.mono_l k a0 a1 a2 _
section
variable {P : Program} {ops : Array Oper} {rest : List Oper} {o : Oper} {a : Act} {Q : Exit → Act → World → Prop} {α : Type} {d : Kd α} {e n c base m : Nat} {ok : Nat → Prop} {W : World} {A : Option Addr} {xs : List α}
/-- What is read of a row of one's own, and what its elements lead to: not the row's own block. -/
theorem N_rowsR (h : Kd.N d e W base ok (.slice A n c) xs) : ReadsRow (fun x cs => Kd.FK d W (fun k => ok k ∧ some k ≠ (Value.slice A n c).ownBlock) x cs) d.sz W A xs.length xs := by
  obtain ⟨hn, hnc, hl, hm, hc⟩ := Kd.N_reads' h
  refine ⟨rfl, hm, fun hp => ?_⟩
  obtain ⟨ad, rfl, _⟩ := hc hp
  refine ⟨ad, rfl, fun j p hj => ?_⟩
  obtain ⟨hjl, hjp⟩ := List.getElem?_eq_some_iff.1 hj
  obtain ⟨c', hcl, hf, hcc⟩ := Kd.N_get h p (j : Int) (by omega) (by omega)
  simp only [Int.toNat_natCast] at hf hcc
  rw [List.getD_eq_getElem?_getD, hj] at hf
  exact ⟨c', hcl, hf, hcc⟩
theorem rows_drop {Rr : α → List Value → Prop} {sz : Nat} (h : ReadsRow Rr sz W A xs.length xs) (hm : m ≤ xs.length) (hc : xs.length ≤ c) : ReadsRow Rr sz W (if c = m then A else A.map (·.add (m * sz))) (xs.length - m) (xs.drop m) := by
  have hl : (xs.drop m).length = xs.length - m := List.length_drop
  refine ⟨hl, by have := h.2.1; omega, fun hp => ?_⟩
  obtain ⟨ad, rfl, hcell⟩ := h.2.2 (by omega)
  rw [if_neg (by omega)]
  refine ⟨ad.add (m * sz), rfl, fun j p hj => ?_⟩
  rw [List.getElem?_drop] at hj
  obtain ⟨cs, h1, h2, h3⟩ := hcell (m + j) p hj
  refine ⟨cs, h1, h2, fun i u hu => ?_⟩
  rw [add_add, show m * sz + (j * sz + i) = (m + j) * sz + i by rw [Nat.add_mul]; omega]
  exact h3 i u hu
theorem own_cut (A : Option Addr) (n m c : Nat) : (Value.slice A n c).ownBlock = (Value.slice A m c).ownBlock := by cases A <;> rfl
theorem N_append_rowsR (d : Kd α) {w0 W : World} (base : Nat) (hgd : o.guard = none) (s x : Operand) (t e : TypeId) (z : Value) (bytes : Nat)
    (ho : o.op = .call { callee := .builtin .append, args := #[s, x], argTypes := #[t, t] })
    (ht : P.underlying t = some (.slice e)) (hinfo : (P.info? e).map (fun i => (i.zero, i.size, i.bytes)) = some (some z, d.sz, bytes)) (hz : z.cells.size = d.sz) (hs0 : 0 < d.sz) (hb0 : 0 < bytes)
    (v : Value) (xs ys : List α) (A : Option Addr) (m c : Nat) (ok okp : Nat → Prop) (hs : a.eval s = v) (hx : a.eval x = .slice A m c)
    (HO : Kd.N d e W base ok v xs) (HR : ReadsRow (fun x cs => Kd.FK d W okp x cs) d.sz W A m ys) (hokp : ∀ k, okp k → ok k ∧ some k ≠ v.ownBlock) (hfresh : ∀ k, W.heap.size ≤ k → ok k)
    (HB : Below base w0 W) (hbase : base ≤ W.heap.size) (hl : (xs.length + m) * bytes ≤ 140737488355328)
    (h : ∀ v1 w1, Kd.N d e w1 base ok v1 (xs ++ ys) → Below base w0 w1 → W.grownBy w1 v.ownBlock → (v1.ownBlock = v.ownBlock ∨ ∃ b, v1.ownBlock = some b ∧ W.heap.size ≤ b) → wpList P ops Q rest (a.put o.dst v1) w1) :
    wpList P ops Q (o :: rest) a W := by
  obtain ⟨h0, rows, hlr, hR, hf⟩ := HO
  obtain ⟨news, hnl, hnr, hnf⟩ := Kd.reads_raw HR (fun y c hk => ⟨d.K_len (Kd.FK_now hk), d.K_one (Kd.FK_now hk)⟩)
  refine Kd.R_append_rows (Kd.raw d.sz) base hgd s x t e z bytes ho ht hinfo hz hs0 hb0 v rows news A m c (fun _ => True) (fun _ => False) hs hx (Kd.raw_any hR) hnr (fun _ _ hk => hk) (fun _ hk => hk.elim) (fun _ _ => trivial) HB hbase (by rw [hlr]; exact hl) ?_
  intro v1 w1 hr hb hg hat
  exact h v1 w1 (Kd.N_appended h0 hlr hf hnl hnf hokp hfresh hr hg hat) hb hg hat
theorem N_append_rows_step {Kc : Act → World → Prop} (d : Kd α) {w0 W : World} (base : Nat) (hw : Region.wanted o (yielded ops a.tmps) = true) (s x : Operand) (t e : TypeId) (z : Value) (bytes : Nat)
    (ho : o.op = .call { callee := .builtin .append, args := #[s, x], argTypes := #[t, t] })
    (ht : P.underlying t = some (.slice e)) (hinfo : (P.info? e).map (fun i => (i.zero, i.size, i.bytes)) = some (some z, d.sz, bytes)) (hz : z.cells.size = d.sz) (hs0 : 0 < d.sz) (hb0 : 0 < bytes)
    (v : Value) (xs ys : List α) (A : Option Addr) (m c : Nat) (ok okp : Nat → Prop) (hs : a.eval s = v) (hx : a.eval x = .slice A m c)
    (HO : Kd.N d e W base ok v xs) (HR : ReadsRow (fun x cs => Kd.FK d W okp x cs) d.sz W A m ys) (hokp : ∀ k, okp k → ok k ∧ some k ≠ v.ownBlock) (hfresh : ∀ k, W.heap.size ≤ k → ok k)
    (HB : Below base w0 W) (hbase : base ≤ W.heap.size) (hl : (xs.length + m) * bytes ≤ 140737488355328)
    (h : ∀ v1 w1, Kd.N d e w1 base ok v1 (xs ++ ys) → Below base w0 w1 → W.grownBy w1 v.ownBlock → (v1.ownBlock = v.ownBlock ∨ ∃ b, v1.ownBlock = some b ∧ W.heap.size ≤ b) → Kc (a.put o.dst v1) w1) :
    if Region.wanted o (yielded ops a.tmps) = true then Oper.wp P o a W Kc Q else Kc (a.put o.dst undef) W := by
  obtain ⟨h0, rows, hlr, hR, hf⟩ := HO
  obtain ⟨news, hnl, hnr, hnf⟩ := Kd.reads_raw HR (fun y c hk => ⟨d.K_len (Kd.FK_now hk), d.K_one (Kd.FK_now hk)⟩)
  refine Kd.R_append_rows_step (Kd.raw d.sz) base hw s x t e z bytes ho ht hinfo hz hs0 hb0 v rows news A m c (fun _ => True) (fun _ => False) hs hx (Kd.raw_any hR) hnr (fun _ _ hk => hk) (fun _ hk => hk.elim) (fun _ _ => trivial) HB hbase (by rw [hlr]; exact hl) ?_
  intro v1 w1 hr hb hg hat
  exact h v1 w1 (Kd.N_appended h0 hlr hf hnl hnf hokp hfresh hr hg hat) hb hg hat
end
def spec_l28Put.T8 : Bool × List (List Nat × List Nat) := (true, [([], []), ([], []), ([0, 1], [0, 1]), ([], []), ([], []), ([3, 4], [3, 4]), ([], []), ([5, 6], [5, 6]), ([7], [7]), ([2, 8, 5], [2, 8]), ([], []), ([9, 10, 9], [9, 10]), ([11, 11, 0, 1, 2, 3, 4, 5, 6, 7, 8, 9, 10, 11], [11])])
def spec_l28Put.B8 : List Nat := [0, 0, 3, 0, 0, 24, 0, 120, 248, 511, 0, 2047, 4095]
theorem spec_l28Put.tab8 : rtab .any (opsOf Tryd.f56 8) = spec_l28Put.T8 := by kernel_rfl
theorem spec_l28Put.bits8 : waitsOk spec_l28Put.T8.2 spec_l28Put.B8 = true := by kernel_rfl
theorem k33_setF {W : World} {ok : Nat → Prop} {x : S33} {A : Option Addr} {c : Nat} (h : Kd.FK k33 W ok x [.slice A x.f0.length c, .int .i64 x.f1]) (f : Int) : Kd.FK k33 W ok (⟨x.f0, f⟩ : S33) [.slice A x.f0.length c, .int .i64 f] := fun W' hW => by
  obtain ⟨A0, c0, he, l0, g0⟩ := k33_open (h W' hW)
  simp only [List.cons.injEq, Value.slice.injEq, and_true, true_and] at he
  obtain ⟨rfl, rfl⟩ := he
  exact k33_mk W' ⟨x.f0, f⟩ l0 g0
set_option maxHeartbeats 8000000 in
set_option maxRecDepth 100000 in
theorem spec_l28Put.calls (k : Nat) (ok : Nat → Prop) (A0 : Option Addr) (c0 : Nat) (l0 : List S33) (A1 : Option Addr) (c1 : Nat) (l1 : List Int) (a2 : Int) (r : List S33) (w0 w : World) (hB : Below w0.heap.size w0 w) (ho0 : Kd.N k33 33 w w0.heap.size ok (.slice A0 l0.length c0) l0) (hr1 : Kd.C (Kd.int .i64) w A1 l1.length l1) (hc1 : l1.length ≤ c1) (hfresh : ∀ j, w.heap.size ≤ j → ok j) (h : spec_l28Put.f k l0 l1 a2 = some r) :
    Calls Tryd.prog 56 #[.slice A0 l0.length c0, .slice A1 l1.length c1, .int .i64 a2] w fun e w' => ∃ v0_ : Value, e = .returned v0_ ∧ Kd.N k33 33 w' w0.heap.size ok v0_ r ∧ Below w0.heap.size w0 w' := by
  have HO := Aside0.mk ho0
  have HR1 := Aside0.mk hr1
  have HC1 := Aside0.mk hc1
  have HB := Aside0.mk hB
  have HF := Aside0.mk hfresh
  clear hB ho0 hr1 hc1 hfresh
  have H : (spec_l28Put.l0 k l0 l1 a2 (l0.length : Int)) = some r := h
  clear h
  have H' := Aside0.mk H
  clear H
  go_enter Tryd.func56, Tryd.ntmps56
  go_wp2
  go_loopg [7] k (fun kq v7 w' => ∃ (x7_1 : Int), v7 = .int .i64 x7_1 ∧ Aside0 (spec_l28Put.l0 kq l0 l1 a2 x7_1 = some r) ∧ Aside0 (kq ≤ k) ∧ Drawn0 w w')
  case atStart => exact ⟨(l0.length : Int), (by first | rfl | (simp; done)), H', ⟨Nat.le_refl _⟩, by repeat (first | exact Drawn0.refl _ | apply Drawn0.step)⟩
  case round =>
    clear H'
    obtain ⟨x7_1, rfl, HA, HK1, ⟨m1, rfl⟩⟩ := hrel
    cases gk with
    | zero => exact absurd HA.out (by simp [spec_l28Put.l0])
    | succ k1 =>
      have H := HA.out
      clear HA
      simp only [spec_l28Put.l0] at H
      have n0_ := Aside0.mk (Kd.N_drewN HO.out m1)
      have n1_ := Aside0.mk (Kd.C_drewN HR1.out m1)
      have n2_ := Aside0.mk (pw_below_drewN HB.out m1)
      have n3_ : Aside0 (∀ j, (w.drewN m1).heap.size ≤ j → ok j) := ⟨HF.out⟩
      clear HO HR1 HB HF
      generalize hW : w.drewN m1 = W at n0_ n1_ n2_ n3_ ⊢
      have HW := Aside0.mk hW
      clear hW
      have HO := n0_
      have HR1 := n1_
      have HB := n2_
      have HF := n3_
      clear n0_ n1_ n2_ n3_
      by_cases c2 : x7_1 > 0
      · rw [if_pos c2] at H
        have c2b0 : decide (x7_1 > 0) = true := decide_eq_true c2
        by_cases c3 : 0 ≤ wrap64 (x7_1 - 1)
        · rw [if_pos c3] at H
          by_cases c4 : wrap64 (x7_1 - 1) < (l0.length : Int)
          · rw [if_pos c4] at H
            obtain ⟨t5, A5, H⟩ := Option.bind_eq_some_iff.mp H
            replace A5 := Aside0.mk A5
            obtain ⟨g5, cap5, e5, gb5, gl5, cl5, HG5⟩ := Kd.N_form HO.out (by omega)
            injection e5 with ea_ en_ ec_
            subst ea_
            subst ec_
            clear en_ HG5 gl5 cl5
            obtain ⟨ce5, hcl5, hM5, hcc5, hfr5⟩ := Kd.N_elem HO.out z33 (wrap64 (x7_1 - 1)) c3 c4
            obtain ⟨A5_0, c5_0, rfl, hl5, hi5⟩ := k33_open (Kd.FK_now hM5)
            have hx5_0 : W.cell? ⟨g5, (wrap64 (x7_1 - 1)).toNat * 2, none⟩ = some (.slice A5_0 (rd_T33 l0 (wrap64 (x7_1 - 1))).f0.length c5_0) := hcc5 0 _ rfl
            have hx5_1 : W.cell? ⟨g5, (wrap64 (x7_1 - 1)).toNat * 2 + 1, none⟩ = some (.int .i64 (rd_T33 l0 (wrap64 (x7_1 - 1))).f1) := hcc5 1 _ rfl
            have HI5 := Aside0.mk (show Kd.C (Kd.int .i64) W A5_0 (rd_T33 l0 (wrap64 (x7_1 - 1))).f0.length (rd_T33 l0 (wrap64 (x7_1 - 1))).f0 from hi5)
            have HL5 := Aside0.mk (show (rd_T33 l0 (wrap64 (x7_1 - 1))).f0.length ≤ c5_0 from hl5)
            have HM5 := Aside0.mk hM5
            have HCC5 := Aside0.mk hcc5
            have HCL5 := Aside0.mk hcl5
            have GB5 := Aside0.mk gb5
            clear hi5 hl5 hM5 hcc5 hfr5 hcl5 gb5
            have p5 := eq_true c3
            have q5 := eq_true c4
            cases t5 with
            | true =>
              rw [if_pos rfl] at H
              have H' := Aside0.mk H
              clear H
              go_wp2_with (first | (go_at_call 70; refine (spec_l12Before.calls k1 _ _ (rd_T33 l0 (wrap64 (x7_1 - 1))).f0 _ _ l1 true _ HI5.out HL5.out HR1.out HC1.out A5.out).mono ?_; rintro e w' ⟨rfl, ⟨nd, rfl⟩⟩))
              go_roundg k1
              case measure => have := HK1.out; omega
              case rel => exact ⟨wrap64 (x7_1 - 1), rfl, H', ⟨by have := HK1.out; omega⟩, ⟨⟨m1 + nd, by rw [← HW.out, World.drewN_drewN]⟩⟩⟩
            | false =>
              rw [if_neg Bool.false_ne_true] at H
              simp only [spec_l28Put.fin] at H
              rw [if_pos c2, if_pos c3, if_pos c4] at H
              obtain ⟨t6, A6, H⟩ := Option.bind_eq_some_iff.mp H
              replace A6 := Aside0.mk A6
              cases t6 with
              | true =>
                rw [if_pos rfl] at H
                have hr := Option.some.inj H
                subst hr
                go_wp2_with (first | (go_at_call 70; refine (spec_l12Before.calls k1 _ _ (rd_T33 l0 (wrap64 (x7_1 - 1))).f0 _ _ l1 false _ HI5.out HL5.out HR1.out HC1.out A5.out).mono ?_; rintro e w' ⟨rfl, ⟨nd, rfl⟩⟩) | (go_at_call 14; refine (spec_l2Same.calls k1 _ _ (rd_T33 l0 (wrap64 (x7_1 - 1))).f0 _ _ l1 true _ (xc HI5.out) HL5.out (xc HR1.out) HC1.out A6.out).mono ?_; rintro e w' ⟨rfl, ⟨nd2, rfl⟩⟩) | ((with_reducible refine gate_store (t := 3) (p := 49) rfl ?_); have HO2 := Aside0.mk (Kd.N_drewN HO.out (nd + nd2)); have HB2 := Aside0.mk (pw_below_drewN HB.out (nd + nd2)); obtain ⟨ce6, hcl6, hM6, hcc6, hfr6⟩ := Kd.N_elem HO2.out z33 (wrap64 (x7_1 - 1)) c3 c4; obtain ⟨A6_0, c6_0, rfl, _, _⟩ := k33_open (Kd.FK_now hM6); have HM6 := Aside0.mk (k33_setF hM6 (wrap64 ((rd_T33 l0 (wrap64 (x7_1 - 1))).f1 + a2))); have HCC6 := Aside0.mk hcc6; clear hM6 hcc6 hfr6 hcl6; refine Kd.N_store (P := Tryd.prog) k33 (w0 := w0) (W := W.drewN (nd + nd2)) w0.heap.size rfl rfl 3 (.tmp 49) (.tmp 47) rfl 33 (g := g5) (n := l0.length) (cap := c0) (o' := (wrap64 (x7_1 - 1)).toNat * 2 + 1) (wrap64 (x7_1 - 1)) 1 l0 (⟨(rd_T33 l0 (wrap64 (x7_1 - 1))).f0, wrap64 ((rd_T33 l0 (wrap64 (x7_1 - 1))).f1 + a2)⟩ : S33) (.int .i64 (wrap64 ((rd_T33 l0 (wrap64 (x7_1 - 1))).f1 + a2))) [.int .i64 (wrap64 ((rd_T33 l0 (wrap64 (x7_1 - 1))).f1 + a2))] _ ok (fun k => ok k ∧ k ≠ g5) ?haddr_4 ?hoff_4 ?hx_4 ?hu_4 ?ht_4 ?h1_4 HO2.out c3 c4 ?hcl_4 HCC6.out ?hj_4 HM6.out (fun _ hk => hk) HB2.out ?_; (case haddr_4 => rfl); (case hoff_4 => rfl); (case hx_4 => first | rfl | (simp; done) | (go_simp; done)); (case hu_4 => rfl); (case ht_4 => kernel_rfl); (case h1_4 => simp [Value.oneCell']); (case hcl_4 => rfl); (case hj_4 => exact Nat.le_refl 2); intro w3 ho hb hg; have HO3 := Aside0.mk ho; have HB3 := Aside0.mk hb; clear ho hb hg))
                go_ret
                exact ⟨_, rfl, HO3.out, HB3.out⟩
              | false =>
                rw [if_neg Bool.false_ne_true] at H
                simp only [spec_l28Put.put] at H
                by_cases c8 : 0 ≤ x7_1 ∧ x7_1 ≤ (l0.length : Int) ∧ l0.length ≤ 1000000000 ∧ l1.length ≤ 1000000000
                · rw [if_pos c8] at H
                  have hr := Option.some.inj H
                  subst hr
                  obtain ⟨h8a, h8b, h8c, h8d⟩ := c8
                  have hlc := (Kd.N_reads' HO.out).2.1
                  obtain ⟨i0, hi0, _, hsz0, _⟩ := info_parts info33
                  have hcf := cut_from (P := Tryd.prog) 29 33 .i64 Tryd.underlying29 hi0 2 hsz0 (some ⟨g5, 0, none⟩) l0.length c0 x7_1 h8a h8b
                  obtain ⟨Ax, hAx⟩ : ∃ A_, A_ = (if c0 = x7_1.toNat then (some ⟨g5, 0, none⟩) else Option.map (fun a : Addr => a.add (x7_1.toNat * 2)) (some (⟨g5, 0, none⟩ : Addr))) := ⟨_, rfl⟩
                  have HAx := Aside0.mk hAx
                  simp only [show ∀ A_ : Option Addr, A_.map (·.add (x7_1.toNat * 2)) = Option.map (fun a : Addr => a.add (x7_1.toNat * 2)) A_ from fun _ => rfl, ← hAx] at hcf
                  clear hAx
                  have hct := cut_to (P := Tryd.prog) 29 33 .i64 Tryd.underlying29 hi0 (some ⟨g5, 0, none⟩) l0.length c0 x7_1 h8a h8b hlc
                  have hxn : x7_1.toNat ≤ l0.length := by omega
                  have HX := Aside0.mk (show x7_1.toNat ≤ l0.length ∧ l0.length ≤ 1000000000 ∧ l1.length ≤ 1000000000 ∧ l0.length ≤ c0 from ⟨hxn, h8c, h8d, hlc⟩)
                  clear hi0 hsz0 h8c h8d hlc hxn H
                  go_upto_region 8 with (first | (go_at_call 70; refine (spec_l12Before.calls k1 _ _ (rd_T33 l0 (wrap64 (x7_1 - 1))).f0 _ _ l1 false _ HI5.out HL5.out HR1.out HC1.out A5.out).mono ?_; rintro e w' ⟨rfl, ⟨nd, rfl⟩⟩) | (go_at_call 14; refine (spec_l2Same.calls k1 _ _ (rd_T33 l0 (wrap64 (x7_1 - 1))).f0 _ _ l1 false _ (xc HI5.out) HL5.out (xc HR1.out) HC1.out A6.out).mono ?_; rintro e w' ⟨rfl, ⟨nd2, rfl⟩⟩) | ((with_reducible refine gate_dst (N := 51) rfl ?_); have HO2 := Aside0.mk (Kd.N_drewN HO.out (nd + nd2)); have HR2 := Aside0.mk (Kd.C_drewN HR1.out (nd + nd2)); have HB2 := Aside0.mk (pw_below_drewN HB.out (nd + nd2)); have HF2 : Aside0 (∀ j, (W.drewN (nd + nd2)).heap.size ≤ j → ok j) := ⟨HF.out⟩; refine Kd.N_lit (P := Tryd.prog) k33 (w0 := W.drewN (nd + nd2)) (W := W.drewN (nd + nd2)) (W.drewN (nd + nd2)).heap.size 33 ?hg_7 (N' := 51) ?hd_7 (xs := ([] : List S33)) (inner := []) (ok := fun j => ok j ∧ some j ≠ (Value.slice (some ⟨g5, 0, none⟩) l0.length c0).ownBlock) (okp := fun _ => False) ?hr_7 ?hp_7 (fun _ hk => hk.elim) ⟨HF2.out _ (Nat.le_refl _), fun he => Nat.lt_irrefl _ (Kd.N_lt HO2.out _ he.symm)⟩ (Below.refl _ _) (Nat.le_refl _) (by simp) ?_; (case hd_7 => rfl); (case hg_7 => rfl); (case hr_7 => first | (go_simp; done) | (go_simp; rfl)); (case hp_7 => exact (Reps.none _ _)); intro v51 w5 ho hb hg hat; have HL := Aside0.mk ho; have HB5 := Aside0.mk hb; clear ho hb hg hat) | ((with_reducible refine gate_builtin (b := .append) (xs := #[.tmp 51, .tmp 54]) rfl ?_); at_builtin; refine N_append_rowsR (P := Tryd.prog) k33 (w0 := W.drewN (nd + nd2)) (W := w5) (W.drewN (nd + nd2)).heap.size rfl (.tmp 51) (.tmp 54) 29 33 (.agg #[.slice none 0 0, .int .i64 0]) 32 rfl Tryd.underlying29 info33 rfl (by decide) (by omega) v51 [] (l0.drop x7_1.toNat) Ax (l0.length - x7_1.toNat) (c0 - x7_1.toNat) (fun j => ok j ∧ some j ≠ (Value.slice (some ⟨g5, 0, none⟩) l0.length c0).ownBlock) (fun j => (ok j ∧ some j ≠ (Value.slice (some ⟨g5, 0, none⟩) l0.length c0).ownBlock) ∧ j < (W.drewN (nd + nd2)).heap.size) ?hs_8 ?hx_8 HL.out ?hR_8 ?hokp_8 ?hfr_8 HB5.out ?hbs_8 ?hl_8 ?_; (case hs_8 => rfl); (case hx_8 => first | rfl | (simp; done) | (go_simp; done)); (case hR_8 => rw [HAx.out]; exact rows_drop (c := c0) (N_rowsR (Kd.N_below (Kd.N_bound HO2.out) HB5.out) |>.imp_ (Below.refl _ _) (fun _ _ hp => Kd.FK_mono hp (fun k hk => ⟨⟨hk.1.1, hk.2⟩, hk.1.2⟩))) HX.out.1 HX.out.2.2.2); (case hokp_8 => exact fun k hk => ⟨hk.1, fun he => Nat.lt_irrefl _ (Nat.lt_of_lt_of_le hk.2 (Kd.N_base HL.out _ he.symm))⟩); (case hfr_8 => exact fun k hk => ⟨HF2.out k (Nat.le_trans (below_size HB5.out) hk), fun he => Nat.lt_irrefl _ (Nat.lt_of_lt_of_le (Kd.N_lt HO2.out _ he.symm) (Nat.le_trans (below_size HB5.out) hk))⟩); (case hbs_8 => exact below_size HB5.out); (case hl_8 => have := HX.out; simp only [List.length_nil]; omega); intro v55 w6 ho hb hg hat; rw [List.nil_append] at ho; obtain ⟨A6, c6, e6⟩ := Kd.N_slice ho; subst e6; have HREST := Aside0.mk (Kd.N_bound ho); have HB6 := Aside0.mk hb; clear ho hb hg hat HL HB5))
                  have n0_ := Aside0.mk (Kd.N_drew HREST.out)
                  have n1_ := Aside0.mk (below_drew1 HB6.out)
                  clear HREST HB6
                  have HREST := n0_
                  have HB6 := n1_
                  clear n0_ n1_
                  have HSZ : Aside0 (w6.heap.size = w6.drew.heap.size) := ⟨rfl⟩
                  refine start_ (n := 13) (S := fun _ => True) (ds := []) #[false, false, false, false, false, false, false, false, false, false, false, false, false] (by kernel_rfl) rfl rfl trivial (fun _ => ?_)
                  refine with_tabW spec_l28Put.tab8 spec_l28Put.bits8 (fun HT_ HW_ => ?_)
                  generalize w6.drew = w6d at HREST HB6 HSZ ⊢
                  refine pure_ (i := 0) (N := some 56) (v := ?_) (a' := ?_) #[true, false, false, false, false, false, false, false, false, false, false, false, false] rfl rfl (any_of HT_.out (by kernel_rfl)) (fun _ _ _ h => h) (Or.inl ⟨by rfl, ?_⟩) ?_ ?_
                  rotate_left
                  · intro w'
                    go_simp
                    with_reducible rfl
                  rotate_left
                  · simp only [Act.put, List.setIfInBounds_toArray, List.set_cons_zero, List.set_cons_succ, i64_w, i32_w]
                    rfl
                  refine pure_ (i := 1) (N := some 57) (v := ?_) (a' := ?_) #[true, true, false, false, false, false, false, false, false, false, false, false, false] rfl rfl (any_of HT_.out (by kernel_rfl)) (fun _ _ _ h => h) (Or.inl ⟨by rfl, ?_⟩) ?_ ?_
                  rotate_left
                  · intro w'
                    go_simp
                    with_reducible rfl
                  rotate_left
                  · simp only [Act.put, List.setIfInBounds_toArray, List.set_cons_zero, List.set_cons_succ, i64_w, i32_w]
                    rfl
                  refine pure_ (i := 2) (N := some 58) (v := ?_) (a' := ?_) #[true, true, true, false, false, false, false, false, false, false, false, false, false] rfl rfl (any_of HT_.out (by kernel_rfl)) (fun _ _ _ h => h) (Or.inl ⟨by rfl, ?_⟩) ?_ ?_
                  rotate_left
                  · intro w'
                    go_simp
                    with_reducible rfl
                  rotate_left
                  · simp only [Act.put, List.setIfInBounds_toArray, List.set_cons_zero, List.set_cons_succ, i64_w, i32_w]
                    rfl
                  refine pure_ (i := 4) (N := some 60) (v := ?_) (a' := ?_) #[true, true, true, false, true, false, false, false, false, false, false, false, false] rfl rfl (any_of HT_.out (by kernel_rfl)) (fun _ _ _ h => h) (Or.inl ⟨by rfl, ?_⟩) ?_ ?_
                  rotate_left
                  · intro w'
                    go_simp
                    with_reducible rfl
                  rotate_left
                  · simp only [Act.put, List.setIfInBounds_toArray, List.set_cons_zero, List.set_cons_succ, i64_w, i32_w]
                    rfl
                  refine pure_ (i := 6) (N := some 62) (v := ?_) (a' := ?_) #[true, true, true, false, true, false, true, false, false, false, false, false, false] rfl rfl (any_of HT_.out (by kernel_rfl)) (fun _ _ _ h => h) (Or.inl ⟨by rfl, ?_⟩) ?_ ?_
                  rotate_left
                  · intro w'
                    go_simp
                    with_reducible rfl
                  rotate_left
                  · simp only [Act.put, List.setIfInBounds_toArray, List.set_cons_zero, List.set_cons_succ, i64_w, i32_w]
                    rfl
                  refine pure_ (i := 10) (N := some 66) (v := ?_) (a' := ?_) #[true, true, true, false, true, false, true, false, false, false, true, false, false] rfl rfl (any_of HT_.out (by kernel_rfl)) (fun _ _ _ h => h) (Or.inl ⟨by rfl, ?_⟩) ?_ ?_
                  rotate_left
                  · intro w'
                    go_simp
                    with_reducible rfl
                  rotate_left
                  · simp only [Act.put, List.setIfInBounds_toArray, List.set_cons_zero, List.set_cons_succ, i64_w, i32_w]
                    rfl
                  refine one_ (i := 3) (N := some 59) #[true, true, true, true, true, false, true, false, false, false, true, false, false] rfl rfl (one_of HT_.out (by kernel_rfl)) (by decide) (fun K hK => ?_)
                  refine Kd.R_lit_step (P := Tryd.prog) (W := w6d) (Kd.int .i64) (w0 := W.drewN (nd + nd2)) (W.drewN (nd + nd2)).heap.size 3 ?hg_9 (N := 59) ?hd_9 (xs := ([] : List Int)) (inner := []) (ok := fun _ => True) (okp := fun _ => True) ?hr_9 ?hp_9 (fun _ hk => hk) trivial HB6.out (below_size HB6.out) (by simp) ?_
                  (case hd_9 => rfl)
                  (case hg_9 => rfl)
                  (case hr_9 => first | (go_simp; done) | (go_simp; rfl))
                  (case hp_9 => exact (Reps.none _ _))
                  intro v59 w7 ho hb hg hat
                  have HQ := Aside0.mk ho
                  have HB7 := Aside0.mk hb
                  have HAT := Aside0.mk hat
                  have n0_ := Aside0.mk (Kd.N_grown HREST.out hg (fun _ _ => by simp))
                  clear HREST
                  have HREST := n0_
                  clear n0_ ho hb hg hat
                  refine hK.out _ _ trivial (fun _ => ?_)
                  clear hK K
                  refine norm_ (a' := ?_) ?_ ?_
                  rotate_left
                  · show Act.put _ (some 59) _ = _
                    simp only [Act.put, List.setIfInBounds_toArray, List.set_cons_zero, List.set_cons_succ, i64_w, i32_w]
                    rfl
                  refine one_ (i := 5) (N := some 61) #[true, true, true, true, true, true, true, false, false, false, true, false, false] rfl rfl (one_of HT_.out (by kernel_rfl)) (by decide) (fun K hK => ?_)
                  refine Kd.R_append_rows_step (P := Tryd.prog) (Kd.int .i64) (w0 := W.drewN (nd + nd2)) (W := w7) (W.drewN (nd + nd2)).heap.size (by rfl) (.tmp 59) (.tmp 60) 22 3 (.int .i64 0) 8 rfl Tryd.underlying22 info3 rfl (by decide) (by omega) v59 [] l1 A1 l1.length c1 (fun _ => True) (fun _ => False) ?hs_10 ?hx_10 HQ.out ?hR_10 (fun _ _ h => h) (fun _ h => h.elim) (fun _ _ => trivial) HB7.out ?hbs_10 ?hl_10 ?_
                  (case hs_10 => rfl)
                  (case hx_10 => first | rfl | (simp; done) | (go_simp; done))
                  (case hR_10 => exact Kd.C_below HR2.out HB7.out)
                  (case hbs_10 => exact below_size HB7.out)
                  (case hl_10 => have := HX.out; simp only [List.length_nil]; omega)
                  intro v61 w8 ho hb hg hat
                  rw [List.nil_append] at ho
                  obtain ⟨A8, c8, e8⟩ := Kd.R_slice ho
                  subst e8
                  have HQ2 := Aside0.mk ho
                  have HB8 := Aside0.mk hb
                  have n0_ := Aside0.mk (Kd.N_grown HREST.out hg (fun k hk he => by obtain ⟨b, hb1, hb2⟩ := HAT.out; rw [hb1] at he; injection he with he; have := hk.2; have := HSZ.out; omega))
                  clear HREST
                  have HREST := n0_
                  clear n0_ ho hb hg hat HQ HAT
                  refine hK.out _ _ trivial (fun _ => ?_)
                  clear hK K
                  refine norm_ (a' := ?_) ?_ ?_
                  rotate_left
                  · show Act.put _ (some 61) _ = _
                    simp only [Act.put, List.setIfInBounds_toArray, List.set_cons_zero, List.set_cons_succ, i64_w, i32_w]
                    rfl
                  refine pure_ (i := 7) (N := some 63) (v := ?_) (a' := ?_) #[true, true, true, true, true, true, true, true, false, false, true, false, false] rfl rfl (any_of HT_.out (by kernel_rfl)) (fun _ _ _ h => h) (Or.inl ⟨by rfl, ?_⟩) ?_ ?_
                  rotate_left
                  · intro w'
                    go_simp
                    with_reducible rfl
                  rotate_left
                  · simp only [Act.put, List.setIfInBounds_toArray, List.set_cons_zero, List.set_cons_succ, i64_w, i32_w]
                    rfl
                  refine one_ (i := 8) (N := some 64) #[true, true, true, true, true, true, true, true, true, false, true, false, false] rfl rfl (one_of HT_.out (by kernel_rfl)) (by decide) (fun K hK => ?_)
                  refine value_ (w1 := ?_) (v := ?_) (by rfl) rfl ?_ ?_
                  rotate_left 2
                  · go_simp
                    constructor
                    · rfl
                    · rfl
                  refine hK.out _ _ trivial (fun _ => ?_)
                  clear hK K
                  refine norm_ (a' := ?_) ?_ ?_
                  rotate_left
                  · show Act.put _ (some 64) _ = _
                    simp only [Act.put, List.setIfInBounds_toArray, List.set_cons_zero, List.set_cons_succ, i64_w, i32_w]
                    rfl
                  refine one_ (i := 9) (N := some 65) #[true, true, true, true, true, true, true, true, true, true, true, false, false] rfl rfl (one_of HT_.out (by kernel_rfl)) (by decide) (fun K hK => ?_)
                  refine Kd.N_append_step (P := Tryd.prog) k33 (w0 := w0) (W := w8) w0.heap.size (by rfl) (.tmp 58) (.tmp 64) 29 33 (.agg #[.slice none 0 0, .int .i64 0]) 32 rfl Tryd.underlying29 info33 rfl (by decide) (by omega) (.slice (some ⟨g5, 0, none⟩) x7_1.toNat c0) (l0.take x7_1.toNat) (⟨l1, a2⟩ : S33) [.slice A8 l1.length c8, .int .i64 a2] ok (fun j => some j = (Value.slice A8 l1.length c8).ownBlock) ?hs_11 ?hx_11 ?hp_11 ?hokp_11 ?hfr_11 ?HO ?HB ?hbs_11 ?hl_11 ?_
                  (case hs_11 => rfl)
                  (case hx_11 => first | rfl | (simp; done) | (go_simp; done))
                  (case hp_11 => exact fun W' hW => k33_mk W' (⟨l1, a2⟩ : S33) (Kd.R_reads' HQ2.out).2.1 (Kd.R_F (Kd.R_tight rfl HQ2.out) W' hW))
                  (case hokp_11 => exact fun k hk => ⟨HF2.out k (Kd.R_base HQ2.out k hk.symm), fun he => Nat.lt_irrefl _ (Nat.lt_of_lt_of_le (Kd.N_lt (Kd.N_take HO2.out HX.out.1) k he.symm) (Kd.R_base HQ2.out k hk.symm))⟩)
                  (case hfr_11 => exact fun k hk => HF2.out k (Nat.le_trans (below_size HB8.out) hk))
                  (case HO => exact Kd.N_take (Kd.N_below HO2.out HB8.out) HX.out.1)
                  (case HB => exact below_step HB2.out HB8.out)
                  (case hbs_11 => exact below_size (below_step HB2.out HB8.out))
                  (case hl_11 => have := HX.out; rw [List.length_take]; omega)
                  intro v65 w9 ho hb hg hat
                  have HN := Aside0.mk ho
                  have HB9 := Aside0.mk hb
                  have HG9 := Aside0.mk hg.size
                  have HAT9 := Aside0.mk hat
                  have n0_ := Aside0.mk (Kd.N_grown (Kd.N_bound HREST.out) hg (fun k hk he => hk.1.1.2 (he.trans (own_cut (some ⟨g5, 0, none⟩) _ _ _))))
                  clear HREST
                  have HREST := n0_
                  clear n0_ ho hb hg hat
                  refine hK.out _ _ trivial (fun _ => ?_)
                  clear hK K
                  refine norm_ (a' := ?_) ?_ ?_
                  rotate_left
                  · show Act.put _ (some 65) _ = _
                    simp only [Act.put, List.setIfInBounds_toArray, List.set_cons_zero, List.set_cons_succ, i64_w, i32_w]
                    rfl
                  refine one_ (i := 11) (N := some 67) #[true, true, true, true, true, true, true, true, true, true, true, true, false] rfl rfl (one_of HT_.out (by kernel_rfl)) (by decide) (fun K hK => ?_)
                  refine N_append_rows_step (P := Tryd.prog) k33 (w0 := w0) (W := w9) w0.heap.size (by rfl) (.tmp 65) (.tmp 66) 29 33 (.agg #[.slice none 0 0, .int .i64 0]) 32 rfl Tryd.underlying29 info33 rfl (by decide) (by omega) v65 (l0.take x7_1.toNat ++ [(⟨l1, a2⟩ : S33)]) (l0.drop x7_1.toNat) A6 (l0.drop x7_1.toNat).length c6 ok _ ?hs_12 ?hx_12 HN.out (N_rowsR HREST.out) ?hokp_12 ?hfr_12 HB9.out ?hbs_12 ?hl_12 ?_
                  (case hs_12 => rfl)
                  (case hx_12 => first | rfl | (simp; done) | (go_simp; done))
                  (case hokp_12 => exact fun k hk => ⟨hk.1.1.1.1, fun he => by rcases HAT9.out with h9 | ⟨b, h9, h9b⟩; exact hk.1.1.1.2 (he.trans (h9.trans (own_cut (some ⟨g5, 0, none⟩) _ _ _))); rw [h9] at he; injection he with he; have := hk.1.2; omega⟩)
                  (case hfr_12 => exact fun k hk => HF2.out k (Nat.le_trans (below_size HB8.out) (Nat.le_trans HG9.out hk)))
                  (case hbs_12 => exact below_size HB9.out)
                  (case hl_12 => have := HX.out; rw [List.length_append, List.length_take, List.length_drop]; simp only [List.length_cons, List.length_nil]; omega)
                  intro v67 w10 ho hb hg hat
                  have HE := Aside0.mk ho
                  have HB10 := Aside0.mk hb
                  clear ho hb hg hat
                  refine hK.out _ _ trivial (fun _ => ?_)
                  clear hK K
                  refine norm_ (a' := ?_) ?_ ?_
                  rotate_left
                  · show Act.put _ (some 67) _ = _
                    simp only [Act.put, List.setIfInBounds_toArray, List.set_cons_zero, List.set_cons_succ, i64_w, i32_w]
                    rfl
                  refine pure_ (i := 12) (N := some 6) (v := ?_) (a' := ?_) #[true, true, true, true, true, true, true, true, true, true, true, true, true] rfl rfl (any_of HT_.out (by kernel_rfl)) (fun _ _ _ h => h) (Or.inl ⟨by rfl, ?_⟩) ?_ ?_
                  rotate_left
                  · intro w'
                    go_simp
                    with_reducible rfl
                  rotate_left
                  · simp only [Act.put, List.setIfInBounds_toArray, List.set_cons_zero, List.set_cons_succ, i64_w, i32_w]
                    rfl
                  refine done_ (done_of HT_.out (by kernel_rfl)) ?_
                  try go_wp2
                  go_ret
                  exact ⟨_, rfl, by first | exact HE.out | (have h9 := HE.out; rw [List.append_assoc] at h9; exact h9), HB10.out⟩
                · rw [if_neg c8] at H; cases H
          · rw [if_neg c4] at H; cases H
        · rw [if_neg c3] at H; cases H
      · rw [if_neg c2] at H
        simp only [spec_l28Put.fin] at H
        rw [if_neg c2] at H
        have c2b0 : decide (x7_1 > 0) = false := decide_eq_false c2
        simp only [spec_l28Put.put] at H
        by_cases c8 : 0 ≤ x7_1 ∧ x7_1 ≤ (l0.length : Int) ∧ l0.length ≤ 1000000000 ∧ l1.length ≤ 1000000000
        · rw [if_pos c8] at H
          have hr := Option.some.inj H
          subst hr
          obtain ⟨h8a, h8b, h8c, h8d⟩ := c8
          have hlc := (Kd.N_reads' HO.out).2.1
          obtain ⟨i0, hi0, _, hsz0, _⟩ := info_parts info33
          have hcf := cut_from (P := Tryd.prog) 29 33 .i64 Tryd.underlying29 hi0 2 hsz0 (A0) l0.length c0 x7_1 h8a h8b
          obtain ⟨Ax, hAx⟩ : ∃ A_, A_ = (if c0 = x7_1.toNat then (A0) else Option.map (fun a : Addr => a.add (x7_1.toNat * 2)) A0) := ⟨_, rfl⟩
          have HAx := Aside0.mk hAx
          simp only [show ∀ A_ : Option Addr, A_.map (·.add (x7_1.toNat * 2)) = Option.map (fun a : Addr => a.add (x7_1.toNat * 2)) A_ from fun _ => rfl, ← hAx] at hcf
          clear hAx
          have hct := cut_to (P := Tryd.prog) 29 33 .i64 Tryd.underlying29 hi0 (A0) l0.length c0 x7_1 h8a h8b hlc
          have hxn : x7_1.toNat ≤ l0.length := by omega
          have HX := Aside0.mk (show x7_1.toNat ≤ l0.length ∧ l0.length ≤ 1000000000 ∧ l1.length ≤ 1000000000 ∧ l0.length ≤ c0 from ⟨hxn, h8c, h8d, hlc⟩)
          clear hi0 hsz0 h8c h8d hlc hxn H
          go_upto_region 8 with (first | ((with_reducible refine gate_dst (N := 51) rfl ?_); have HO2 := HO; have HR2 := HR1; have HB2 := HB; have HF2 := HF; refine Kd.N_lit (P := Tryd.prog) k33 (w0 := W) (W := W) (W).heap.size 33 ?hg_13 (N' := 51) ?hd_13 (xs := ([] : List S33)) (inner := []) (ok := fun j => ok j ∧ some j ≠ (Value.slice A0 l0.length c0).ownBlock) (okp := fun _ => False) ?hr_13 ?hp_13 (fun _ hk => hk.elim) ⟨HF2.out _ (Nat.le_refl _), fun he => Nat.lt_irrefl _ (Kd.N_lt HO2.out _ he.symm)⟩ (Below.refl _ _) (Nat.le_refl _) (by simp) ?_; (case hd_13 => rfl); (case hg_13 => rfl); (case hr_13 => first | (go_simp; done) | (go_simp; rfl)); (case hp_13 => exact (Reps.none _ _)); intro v51 w5 ho hb hg hat; have HL := Aside0.mk ho; have HB5 := Aside0.mk hb; clear ho hb hg hat) | ((with_reducible refine gate_builtin (b := .append) (xs := #[.tmp 51, .tmp 54]) rfl ?_); at_builtin; refine N_append_rowsR (P := Tryd.prog) k33 (w0 := W) (W := w5) (W).heap.size rfl (.tmp 51) (.tmp 54) 29 33 (.agg #[.slice none 0 0, .int .i64 0]) 32 rfl Tryd.underlying29 info33 rfl (by decide) (by omega) v51 [] (l0.drop x7_1.toNat) Ax (l0.length - x7_1.toNat) (c0 - x7_1.toNat) (fun j => ok j ∧ some j ≠ (Value.slice A0 l0.length c0).ownBlock) (fun j => (ok j ∧ some j ≠ (Value.slice A0 l0.length c0).ownBlock) ∧ j < (W).heap.size) ?hs_14 ?hx_14 HL.out ?hR_14 ?hokp_14 ?hfr_14 HB5.out ?hbs_14 ?hl_14 ?_; (case hs_14 => rfl); (case hx_14 => first | rfl | (simp; done) | (go_simp; done)); (case hR_14 => rw [HAx.out]; exact rows_drop (c := c0) (N_rowsR (Kd.N_below (Kd.N_bound HO2.out) HB5.out) |>.imp_ (Below.refl _ _) (fun _ _ hp => Kd.FK_mono hp (fun k hk => ⟨⟨hk.1.1, hk.2⟩, hk.1.2⟩))) HX.out.1 HX.out.2.2.2); (case hokp_14 => exact fun k hk => ⟨hk.1, fun he => Nat.lt_irrefl _ (Nat.lt_of_lt_of_le hk.2 (Kd.N_base HL.out _ he.symm))⟩); (case hfr_14 => exact fun k hk => ⟨HF2.out k (Nat.le_trans (below_size HB5.out) hk), fun he => Nat.lt_irrefl _ (Nat.lt_of_lt_of_le (Kd.N_lt HO2.out _ he.symm) (Nat.le_trans (below_size HB5.out) hk))⟩); (case hbs_14 => exact below_size HB5.out); (case hl_14 => have := HX.out; simp only [List.length_nil]; omega); intro v55 w6 ho hb hg hat; rw [List.nil_append] at ho; obtain ⟨A6, c6, e6⟩ := Kd.N_slice ho; subst e6; have HREST := Aside0.mk (Kd.N_bound ho); have HB6 := Aside0.mk hb; clear ho hb hg hat HL HB5))
          have n0_ := Aside0.mk (Kd.N_drew HREST.out)
          have n1_ := Aside0.mk (below_drew1 HB6.out)
          clear HREST HB6
          have HREST := n0_
          have HB6 := n1_
          clear n0_ n1_
          have HSZ : Aside0 (w6.heap.size = w6.drew.heap.size) := ⟨rfl⟩
          refine start_ (n := 13) (S := fun _ => True) (ds := []) #[false, false, false, false, false, false, false, false, false, false, false, false, false] (by kernel_rfl) rfl rfl trivial (fun _ => ?_)
          refine with_tabW spec_l28Put.tab8 spec_l28Put.bits8 (fun HT_ HW_ => ?_)
          generalize w6.drew = w6d at HREST HB6 HSZ ⊢
          refine pure_ (i := 0) (N := some 56) (v := ?_) (a' := ?_) #[true, false, false, false, false, false, false, false, false, false, false, false, false] rfl rfl (any_of HT_.out (by kernel_rfl)) (fun _ _ _ h => h) (Or.inl ⟨by rfl, ?_⟩) ?_ ?_
          rotate_left
          · intro w'
            go_simp
            with_reducible rfl
          rotate_left
          · simp only [Act.put, List.setIfInBounds_toArray, List.set_cons_zero, List.set_cons_succ, i64_w, i32_w]
            rfl
          refine pure_ (i := 1) (N := some 57) (v := ?_) (a' := ?_) #[true, true, false, false, false, false, false, false, false, false, false, false, false] rfl rfl (any_of HT_.out (by kernel_rfl)) (fun _ _ _ h => h) (Or.inl ⟨by rfl, ?_⟩) ?_ ?_
          rotate_left
          · intro w'
            go_simp
            with_reducible rfl
          rotate_left
          · simp only [Act.put, List.setIfInBounds_toArray, List.set_cons_zero, List.set_cons_succ, i64_w, i32_w]
            rfl
          refine pure_ (i := 2) (N := some 58) (v := ?_) (a' := ?_) #[true, true, true, false, false, false, false, false, false, false, false, false, false] rfl rfl (any_of HT_.out (by kernel_rfl)) (fun _ _ _ h => h) (Or.inl ⟨by rfl, ?_⟩) ?_ ?_
          rotate_left
          · intro w'
            go_simp
            with_reducible rfl
          rotate_left
          · simp only [Act.put, List.setIfInBounds_toArray, List.set_cons_zero, List.set_cons_succ, i64_w, i32_w]
            rfl
          refine pure_ (i := 4) (N := some 60) (v := ?_) (a' := ?_) #[true, true, true, false, true, false, false, false, false, false, false, false, false] rfl rfl (any_of HT_.out (by kernel_rfl)) (fun _ _ _ h => h) (Or.inl ⟨by rfl, ?_⟩) ?_ ?_
          rotate_left
          · intro w'
            go_simp
            with_reducible rfl
          rotate_left
          · simp only [Act.put, List.setIfInBounds_toArray, List.set_cons_zero, List.set_cons_succ, i64_w, i32_w]
            rfl
          refine pure_ (i := 6) (N := some 62) (v := ?_) (a' := ?_) #[true, true, true, false, true, false, true, false, false, false, false, false, false] rfl rfl (any_of HT_.out (by kernel_rfl)) (fun _ _ _ h => h) (Or.inl ⟨by rfl, ?_⟩) ?_ ?_
          rotate_left
          · intro w'
            go_simp
            with_reducible rfl
          rotate_left
          · simp only [Act.put, List.setIfInBounds_toArray, List.set_cons_zero, List.set_cons_succ, i64_w, i32_w]
            rfl
          refine pure_ (i := 10) (N := some 66) (v := ?_) (a' := ?_) #[true, true, true, false, true, false, true, false, false, false, true, false, false] rfl rfl (any_of HT_.out (by kernel_rfl)) (fun _ _ _ h => h) (Or.inl ⟨by rfl, ?_⟩) ?_ ?_
          rotate_left
          · intro w'
            go_simp
            with_reducible rfl
          rotate_left
          · simp only [Act.put, List.setIfInBounds_toArray, List.set_cons_zero, List.set_cons_succ, i64_w, i32_w]
            rfl
          refine one_ (i := 3) (N := some 59) #[true, true, true, true, true, false, true, false, false, false, true, false, false] rfl rfl (one_of HT_.out (by kernel_rfl)) (by decide) (fun K hK => ?_)
          refine Kd.R_lit_step (P := Tryd.prog) (W := w6d) (Kd.int .i64) (w0 := W) (W).heap.size 3 ?hg_15 (N := 59) ?hd_15 (xs := ([] : List Int)) (inner := []) (ok := fun _ => True) (okp := fun _ => True) ?hr_15 ?hp_15 (fun _ hk => hk) trivial HB6.out (below_size HB6.out) (by simp) ?_
          (case hd_15 => rfl)
          (case hg_15 => rfl)
          (case hr_15 => first | (go_simp; done) | (go_simp; rfl))
          (case hp_15 => exact (Reps.none _ _))
          intro v59 w7 ho hb hg hat
          have HQ := Aside0.mk ho
          have HB7 := Aside0.mk hb
          have HAT := Aside0.mk hat
          have n0_ := Aside0.mk (Kd.N_grown HREST.out hg (fun _ _ => by simp))
          clear HREST
          have HREST := n0_
          clear n0_ ho hb hg hat
          refine hK.out _ _ trivial (fun _ => ?_)
          clear hK K
          refine norm_ (a' := ?_) ?_ ?_
          rotate_left
          · show Act.put _ (some 59) _ = _
            simp only [Act.put, List.setIfInBounds_toArray, List.set_cons_zero, List.set_cons_succ, i64_w, i32_w]
            rfl
          refine one_ (i := 5) (N := some 61) #[true, true, true, true, true, true, true, false, false, false, true, false, false] rfl rfl (one_of HT_.out (by kernel_rfl)) (by decide) (fun K hK => ?_)
          refine Kd.R_append_rows_step (P := Tryd.prog) (Kd.int .i64) (w0 := W) (W := w7) (W).heap.size (by rfl) (.tmp 59) (.tmp 60) 22 3 (.int .i64 0) 8 rfl Tryd.underlying22 info3 rfl (by decide) (by omega) v59 [] l1 A1 l1.length c1 (fun _ => True) (fun _ => False) ?hs_16 ?hx_16 HQ.out ?hR_16 (fun _ _ h => h) (fun _ h => h.elim) (fun _ _ => trivial) HB7.out ?hbs_16 ?hl_16 ?_
          (case hs_16 => rfl)
          (case hx_16 => first | rfl | (simp; done) | (go_simp; done))
          (case hR_16 => exact Kd.C_below HR2.out HB7.out)
          (case hbs_16 => exact below_size HB7.out)
          (case hl_16 => have := HX.out; simp only [List.length_nil]; omega)
          intro v61 w8 ho hb hg hat
          rw [List.nil_append] at ho
          obtain ⟨A8, c8, e8⟩ := Kd.R_slice ho
          subst e8
          have HQ2 := Aside0.mk ho
          have HB8 := Aside0.mk hb
          have n0_ := Aside0.mk (Kd.N_grown HREST.out hg (fun k hk he => by obtain ⟨b, hb1, hb2⟩ := HAT.out; rw [hb1] at he; injection he with he; have := hk.2; have := HSZ.out; omega))
          clear HREST
          have HREST := n0_
          clear n0_ ho hb hg hat HQ HAT
          refine hK.out _ _ trivial (fun _ => ?_)
          clear hK K
          refine norm_ (a' := ?_) ?_ ?_
          rotate_left
          · show Act.put _ (some 61) _ = _
            simp only [Act.put, List.setIfInBounds_toArray, List.set_cons_zero, List.set_cons_succ, i64_w, i32_w]
            rfl
          refine pure_ (i := 7) (N := some 63) (v := ?_) (a' := ?_) #[true, true, true, true, true, true, true, true, false, false, true, false, false] rfl rfl (any_of HT_.out (by kernel_rfl)) (fun _ _ _ h => h) (Or.inl ⟨by rfl, ?_⟩) ?_ ?_
          rotate_left
          · intro w'
            go_simp
            with_reducible rfl
          rotate_left
          · simp only [Act.put, List.setIfInBounds_toArray, List.set_cons_zero, List.set_cons_succ, i64_w, i32_w]
            rfl
          refine one_ (i := 8) (N := some 64) #[true, true, true, true, true, true, true, true, true, false, true, false, false] rfl rfl (one_of HT_.out (by kernel_rfl)) (by decide) (fun K hK => ?_)
          refine value_ (w1 := ?_) (v := ?_) (by rfl) rfl ?_ ?_
          rotate_left 2
          · go_simp
            constructor
            · rfl
            · rfl
          refine hK.out _ _ trivial (fun _ => ?_)
          clear hK K
          refine norm_ (a' := ?_) ?_ ?_
          rotate_left
          · show Act.put _ (some 64) _ = _
            simp only [Act.put, List.setIfInBounds_toArray, List.set_cons_zero, List.set_cons_succ, i64_w, i32_w]
            rfl
          refine one_ (i := 9) (N := some 65) #[true, true, true, true, true, true, true, true, true, true, true, false, false] rfl rfl (one_of HT_.out (by kernel_rfl)) (by decide) (fun K hK => ?_)
          refine Kd.N_append_step (P := Tryd.prog) k33 (w0 := w0) (W := w8) w0.heap.size (by rfl) (.tmp 58) (.tmp 64) 29 33 (.agg #[.slice none 0 0, .int .i64 0]) 32 rfl Tryd.underlying29 info33 rfl (by decide) (by omega) (.slice (A0) x7_1.toNat c0) (l0.take x7_1.toNat) (⟨l1, a2⟩ : S33) [.slice A8 l1.length c8, .int .i64 a2] ok (fun j => some j = (Value.slice A8 l1.length c8).ownBlock) ?hs_17 ?hx_17 ?hp_17 ?hokp_17 ?hfr_17 ?HO ?HB ?hbs_17 ?hl_17 ?_
          (case hs_17 => rfl)
          (case hx_17 => first | rfl | (simp; done) | (go_simp; done))
          (case hp_17 => exact fun W' hW => k33_mk W' (⟨l1, a2⟩ : S33) (Kd.R_reads' HQ2.out).2.1 (Kd.R_F (Kd.R_tight rfl HQ2.out) W' hW))
          (case hokp_17 => exact fun k hk => ⟨HF2.out k (Kd.R_base HQ2.out k hk.symm), fun he => Nat.lt_irrefl _ (Nat.lt_of_lt_of_le (Kd.N_lt (Kd.N_take HO2.out HX.out.1) k he.symm) (Kd.R_base HQ2.out k hk.symm))⟩)
          (case hfr_17 => exact fun k hk => HF2.out k (Nat.le_trans (below_size HB8.out) hk))
          (case HO => exact Kd.N_take (Kd.N_below HO2.out HB8.out) HX.out.1)
          (case HB => exact below_step HB2.out HB8.out)
          (case hbs_17 => exact below_size (below_step HB2.out HB8.out))
          (case hl_17 => have := HX.out; rw [List.length_take]; omega)
          intro v65 w9 ho hb hg hat
          have HN := Aside0.mk ho
          have HB9 := Aside0.mk hb
          have HG9 := Aside0.mk hg.size
          have HAT9 := Aside0.mk hat
          have n0_ := Aside0.mk (Kd.N_grown (Kd.N_bound HREST.out) hg (fun k hk he => hk.1.1.2 (he.trans (own_cut (A0) _ _ _))))
          clear HREST
          have HREST := n0_
          clear n0_ ho hb hg hat
          refine hK.out _ _ trivial (fun _ => ?_)
          clear hK K
          refine norm_ (a' := ?_) ?_ ?_
          rotate_left
          · show Act.put _ (some 65) _ = _
            simp only [Act.put, List.setIfInBounds_toArray, List.set_cons_zero, List.set_cons_succ, i64_w, i32_w]
            rfl
          refine one_ (i := 11) (N := some 67) #[true, true, true, true, true, true, true, true, true, true, true, true, false] rfl rfl (one_of HT_.out (by kernel_rfl)) (by decide) (fun K hK => ?_)
          refine N_append_rows_step (P := Tryd.prog) k33 (w0 := w0) (W := w9) w0.heap.size (by rfl) (.tmp 65) (.tmp 66) 29 33 (.agg #[.slice none 0 0, .int .i64 0]) 32 rfl Tryd.underlying29 info33 rfl (by decide) (by omega) v65 (l0.take x7_1.toNat ++ [(⟨l1, a2⟩ : S33)]) (l0.drop x7_1.toNat) A6 (l0.drop x7_1.toNat).length c6 ok _ ?hs_18 ?hx_18 HN.out (N_rowsR HREST.out) ?hokp_18 ?hfr_18 HB9.out ?hbs_18 ?hl_18 ?_
          (case hs_18 => rfl)
          (case hx_18 => first | rfl | (simp; done) | (go_simp; done))
          (case hokp_18 => exact fun k hk => ⟨hk.1.1.1.1, fun he => by rcases HAT9.out with h9 | ⟨b, h9, h9b⟩; exact hk.1.1.1.2 (he.trans (h9.trans (own_cut (A0) _ _ _))); rw [h9] at he; injection he with he; have := hk.1.2; omega⟩)
          (case hfr_18 => exact fun k hk => HF2.out k (Nat.le_trans (below_size HB8.out) (Nat.le_trans HG9.out hk)))
          (case hbs_18 => exact below_size HB9.out)
          (case hl_18 => have := HX.out; rw [List.length_append, List.length_take, List.length_drop]; simp only [List.length_cons, List.length_nil]; omega)
          intro v67 w10 ho hb hg hat
          have HE := Aside0.mk ho
          have HB10 := Aside0.mk hb
          clear ho hb hg hat
          refine hK.out _ _ trivial (fun _ => ?_)
          clear hK K
          refine norm_ (a' := ?_) ?_ ?_
          rotate_left
          · show Act.put _ (some 67) _ = _
            simp only [Act.put, List.setIfInBounds_toArray, List.set_cons_zero, List.set_cons_succ, i64_w, i32_w]
            rfl
          refine pure_ (i := 12) (N := some 6) (v := ?_) (a' := ?_) #[true, true, true, true, true, true, true, true, true, true, true, true, true] rfl rfl (any_of HT_.out (by kernel_rfl)) (fun _ _ _ h => h) (Or.inl ⟨by rfl, ?_⟩) ?_ ?_
          rotate_left
          · intro w'
            go_simp
            with_reducible rfl
          rotate_left
          · simp only [Act.put, List.setIfInBounds_toArray, List.set_cons_zero, List.set_cons_succ, i64_w, i32_w]
            rfl
          refine done_ (done_of HT_.out (by kernel_rfl)) ?_
          try go_wp2
          go_ret
          exact ⟨_, rfl, by first | exact HE.out | (have h9 := HE.out; rw [List.append_assoc] at h9; exact h9), HB10.out⟩
        · rw [if_neg c8] at H; cases H


end Go.Proofs.YtneipehcmmigeaaDoor.PFnExactCountWalks
