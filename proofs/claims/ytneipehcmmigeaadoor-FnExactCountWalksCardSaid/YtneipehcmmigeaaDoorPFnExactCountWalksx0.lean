-- Written by a program of this session (wip/print/xprint.py).
import Derived.Test.YtneipehcmmigeaaDoorProg
import Derived.Below
import Derived.Deep.Draws
import Derived.Deep.AppendLies
import Derived.Maps.AppendAt
import Derived.OwnWalk
import Derived.Laws.BytesArg
import Derived.Laws.MakeOwn
import Derived.Laws.OwnMore
import Derived.Deep.OwnRows
import Derived.Tactics
import Derived.Lib.ConvBytes
import Derived.Laws.Slices
import Derived.WalkKit
import Derived.KernelRfl
import Derived.RowKit3
import Derived.Deep.LoopGhost
import Derived.Deep.QuietTactic
import Derived.BigQuiet
import Derived.WideLaws
import Derived.Deep.DeepCutAuto
import Derived.Deep.CutBlock
import Derived.Deep.RegionHeld3
import Derived.Laws.Rows
import Derived.Lib.AppendStr
import Derived.ArgAppend
import Derived.Laws.IdiomCopy
import Derived.OrdersHeld
import Derived.Laws.BitsLemmas
import Derived.RowKit
import Derived.WalkSpells
import Derived.Lib.SliceRun
import Derived.Test.YtneipehcmmigeaaDoorVFnExactCountWalks
namespace Go.Proofs.YtneipehcmmigeaaDoor.PFnExactCountWalks
open Go.RowKit Go.Proofs.YtneipehcmmigeaaDoorW.PrintWords Go.Proofs.YtneipehcmmigeaaDoorW.PrintLast Go.Proofs.YtneipehcmmigeaaDoorW.PrintMore
attribute [local go_sem] max2_int min2_int max_two min_two max_three min_three max_four min_four   -- for this text's walks alone
set_option linter.unusedVariables false
set_option linter.unusedSimpArgs false



def errW : Option Int → Value
  | none => .nilIface
  | some c => .iface 0 (.int .i64 c)
theorem errW_none : errW none = .nilIface := rfl
theorem errW_some (c : Int) : errW (some c) = .iface 0 (.int .i64 c) := rfl

theorem xw_own (A : Option Addr) (n c : Nat) : (Value.slice A n c).ownBlock = A.map (fun a => a.block) := by cases A <;> rfl
/-- What is told of a row's block, told less. -/
theorem xi {p q : Nat → Prop} (h : ∀ k, p k → q k := by intro k_ hk_; first | exact hk_ | (simp only [xw_own] at hk_ ⊢; exact hk_) | (first | simp only [xw_own, and_assoc] at hk_ ⊢ | skip); (repeat' apply And.intro) <;> first | exact hk_.1 | exact hk_ | exact hk_.2.1 | exact hk_.2 | exact hk_.2.2.1 | exact hk_.2.2 | exact hk_.2.2.2.1 | exact hk_.2.2.2 | exact hk_.2.2.2.2.1 | exact hk_.2.2.2.2 | exact hk_.2.2.2.2.2.1 | exact hk_.2.2.2.2.2 | exact hk_.2.2.2.2.2.2.1 | exact hk_.2.2.2.2.2.2 | exact hk_.2.2.2.2.2.2.2.1 | exact hk_.2.2.2.2.2.2.2 | exact hk_.2.2.2.2.2.2.2.2.1 | exact hk_.2.2.2.2.2.2.2.2) : ∀ k, p k → q k := h
/-- A fact, carried over to the world of here. -/
theorem xR {p q : Prop} (h : p) (f : p → q := by intro h_; (with_reducible repeat (first | apply Kd.R_alloc | apply Kd.R_drewN | apply Kd.R_drew)); first | exact h_ | exact Kd.R_mono h_ xi) : q := f h
/-- A fact, carried over to the world of here. -/
theorem xS {p q : Prop} (h : p) (f : p → q := by intro h_; (with_reducible repeat (first | apply Kd.S_alloc | apply Kd.S_drewN | apply Kd.S_drew)); first | exact h_ | exact Kd.S_mono h_ xi) : q := f h
/-- A fact, carried over to the world of here. -/
theorem xN {p q : Prop} (h : p) (f : p → q := by intro h_; (with_reducible repeat (first | apply Kd.N_alloc | apply Kd.N_drewN | apply Kd.N_drew)); first | exact h_ | exact Kd.N_mono h_ xi) : q := f h
/-- A fact, carried over to the world of here. -/
theorem xQ {p q : Prop} (h : p) (f : p → q := by intro h_; (with_reducible repeat (first | apply Kd.Q_alloc | apply Kd.Q_drewN | apply Kd.Q_drew)); first | exact h_ | exact Kd.Q_mono h_ xi) : q := f h
/-- A fact, carried over to the world of here. -/
theorem xV {p q : Prop} (h : p) (f : p → q := by intro h_; (with_reducible repeat (first | apply Kd.V_alloc | apply Kd.V_drewN | apply Kd.V_drew)); first | exact h_ | exact Kd.V_mono h_ xi) : q := f h
theorem xb {p q : Prop} (h : p) (f : p → q := by intro h_; repeat (first | (with_reducible first | exact h_ | apply below_alloc | apply pw_below_drewN | apply below_drew1) | exact h_)) : q := f h
theorem xm {p : Prop} (h : p := by (try simp only [List.map_toArray, List.map_cons, List.map_nil]); first | done | rfl | (simp only [List.length_drop, List.length_take]; rfl)) : p := h
theorem xc {p q : Prop} (h : p) (f : p → q := by intro h_; repeat (first | exact h_ | (with_reducible refine Kd.C_alloc ?_ _) | (with_reducible refine Kd.C_drewN ?_ _) | (with_reducible refine Kd.C_drew ?_))) : q := f h
theorem xsame {o : Option Value} {A B : Option Addr} {n m c d : Nat} (h : o = some (.slice A n c)) (h' : o = some (.slice B m d)) : A = B ∧ c = d := by
  rw [h] at h'
  injection h' with h'
  injection h' with h1 _ h3
  exact ⟨h1, h3⟩
theorem xne {α : Type} {d : Kd α} {e : Nat} {W : World} {base : Nat} {ok : Nat → Prop} {v : Value} {xs : List α} (u : Value) (h : Kd.R d e W base ok v xs) (hu : ∀ k, u.ownBlock = some k → some k ≠ v.ownBlock) (hE : d.E = [] := by rfl) : Kd.R d e W base (fun k => ok k ∧ some k ≠ u.ownBlock) v xs := Kd.R_mono (Kd.R_tight2 hE h) (fun k hk => ⟨hk.2, fun e_ => hu k e_.symm hk.1⟩)
theorem info3 : (Tryd.prog.info? 3).map (fun i => (i.zero, i.size, i.bytes)) = some (some (.int .i64 0), 1, 8) := by kernel_rfl
theorem info22 : (Tryd.prog.info? 22).map (fun i => (i.zero, i.size, i.bytes)) = some (some (.slice none 0 0), 1, 24) := by kernel_rfl
theorem info33 : (Tryd.prog.info? 33).map (fun i => (i.zero, i.size, i.bytes)) = some (some (.agg #[(.slice none 0 0), (.int .i64 0)]), 2, 32) := by kernel_rfl
/-! ### copy into a row of whole numbers that is one's own. -/
def xcp (d s : List Int) : List Int := s.take d.length ++ d.drop s.length
theorem xcp_length (d s : List Int) : (xcp d s).length = d.length := by simp [xcp]; omega
theorem Kd.R_putN {e base g n cap : Nat} {ok : Nat → Prop} : ∀ (vs : List Int) (o : Nat) (W : World) (xs : List Int), (Kd.int .i64).R e W base ok (.slice (some ⟨g, 0, none⟩) n cap) xs → o + vs.length ≤ n →
    (Kd.int .i64).R e (W.setCells g o (vs.map (Value.int .i64))) base ok (.slice (some ⟨g, 0, none⟩) n cap) (xs.take o ++ vs ++ xs.drop (o + vs.length)) ∧ W.grownBy (W.setCells g o (vs.map (Value.int .i64))) (some g)
  | [], o, W, xs, h, _ => by simpa [World.setCells] using ⟨h, World.grownBy.refl W (some g)⟩
  | v :: vs, o, W, xs, h, hl => by
    have hn := (Kd.R_reads' h).1
    have h1 := Kd.R_putg h (o : Int) v
    rw [Int.toNat_natCast] at h1
    have ih := Kd.R_putN vs (o + 1) _ _ h1.1 (by simp at hl; omega)
    have e : (xs.set o v).take (o + 1) ++ vs ++ (xs.set o v).drop (o + 1 + vs.length) = xs.take o ++ (v :: vs) ++ xs.drop (o + (v :: vs).length) := by
      simp only [List.length_cons] at hl
      rw [List.take_succ_eq_append_getElem (by simp; omega), List.take_set, List.getElem_set_self, List.drop_set, if_pos (by omega), List.set_eq_of_length_le (by simp; omega), show o + 1 + vs.length = o + (v :: vs).length by simp; omega]
      simp
    rw [e] at ih
    exact ⟨ih.1, World.grownBy.trans h1.2 ih.2⟩
theorem copy_event {P : Program} {ops : Array Oper} {rest : List Oper} {o : Oper} {a : Act} {Q : Exit → Act → World → Prop} {W w0 : World} (hgd : o.guard = none) (ta tb : Operand) (T e : TypeId) (ho : o.op = .call { callee := .builtin .copy, args := #[ta, tb], argTypes := #[T, T] })
    (hu : P.underlying T = some (.slice e)) (hsz : (P.info? e).map (·.size) = some 1) {xs ys : List Int} {vd : Value} {A : Option Addr} {c base : Nat} {ok : Nat → Prop} (hd : a.eval ta = vd) (hs : a.eval tb = .slice A ys.length c)
    (hR : (Kd.int .i64).R e W base ok vd xs) (hC : (Kd.int .i64).C W A ys.length ys) (HB : Below base w0 W) (hB : base ≤ W.heap.size)
    (h : ∀ w', (Kd.int .i64).R e w' base ok vd (xcp xs ys) → W.grownBy w' vd.ownBlock → Below base w0 w' → wpList P ops Q rest (a.put o.dst (goInt ((Nat.min ys.length xs.length : Nat) : Int))) w') : wpList P ops Q (o :: rest) a W := by
  by_cases h0 : 0 < xs.length ∧ 0 < ys.length
  · obtain ⟨g, cap, rfl, hbg, hgl, cells, hcells⟩ := Kd.R_form hR h0.1
    obtain ⟨ad, rfl, _⟩ := Kd.at_int hC 0 (by omega) (by omega)
    have hp := Kd.R_putN (ys.take xs.length) 0 W xs hR (by simp; omega)
    have hlen : ((ys.take xs.length).map (Value.int .i64)).length = Nat.min ys.length xs.length := by simp [Nat.min_comm]
    have hrun := run_copy_cells (P := P) W T T o.type e g 0 xs.length cap ad ys.length c ((ys.take xs.length).map (Value.int .i64)) hu hsz hlen (by
      intro j v hj
      rw [List.getElem?_map, List.getElem?_take] at hj
      split at hj
      · rename_i hjl
        by_cases hy : j < ys.length
        · obtain ⟨ad', e', hx⟩ := Kd.at_int hC (j : Int) (by omega) (by omega)
          injection e' with e'
          subst e'
          rw [List.getElem?_eq_getElem hy] at hj
          simp only [Option.map_some, Option.some.injEq] at hj
          rw [← hj]
          have hr : rd ys (j : Int) = ys[j] := by simp [rd, List.getD_eq_getElem?_getD, hy]
          rw [hr, Int.toNat_natCast] at hx
          exact hx
        · rw [List.getElem?_eq_none (by omega)] at hj; simp at hj
      · simp at hj) (by
      intro j hj
      rw [hlen] at hj
      have hj2 : j < xs.length := Nat.lt_of_lt_of_le hj (Nat.min_le_right _ _)
      have := (Kd.R_celln 0 hR (j : Int) (by omega) (by omega)).1
      rw [Int.toNat_natCast] at this
      rw [Nat.zero_add, this]; rfl) (by
      intro j hj
      rw [hlen] at hj
      have hj2 : j < xs.length := Nat.lt_of_lt_of_le hj (Nat.min_le_right _ _)
      have := (Kd.R_celln 0 hR (j : Int) (by omega) (by omega)).2
      rw [Int.toNat_natCast] at this
      rw [Nat.zero_add, this]) (by
      intro v hv
      obtain ⟨x, _, rfl⟩ := List.mem_map.1 hv
      rfl)
    rw [hlen] at hrun
    obtain ⟨w2, hw2⟩ : ∃ w2, w2 = W.setCells g 0 ((ys.take xs.length).map (Value.int .i64)) := ⟨_, rfl⟩
    rw [← hw2] at hrun hp
    obtain ⟨nn, hnn⟩ : ∃ nn : Int, nn = ((Nat.min ys.length xs.length : Nat) : Int) := ⟨_, rfl⟩
    rw [← hnn] at hrun h
    have h2 := h w2 (by
      have e1 : xs.take 0 ++ ys.take xs.length ++ xs.drop (0 + (ys.take xs.length).length) = xcp xs ys := by
        simp only [List.take_zero, List.nil_append, xcp, Nat.zero_add, List.length_take]
        congr 1
        by_cases hle : ys.length ≤ xs.length
        · rw [Nat.min_eq_right hle]
        · rw [Nat.min_eq_left (by omega), List.drop_length, List.drop_of_length_le (by omega)]
      rw [← e1]
      exact hp.1) hp.2 (HB.grown hp.2 hB (fun k hk => by
        have : g = k := Option.some.inj hk
        omega))
    refine wpList_plain hgd fun K hK => ?_
    unfold Oper.wp
    simp only [execOp, ho, resolve, invoke, builtin]
    simp [hd, hs, hrun, Result.andThen]
    exact hK _ _ h2
  · have hx : xcp xs ys = xs := by
      by_cases h1 : xs = []
      · subst h1; simp [xcp]
      · have : ys = [] := by
          rcases Nat.eq_zero_or_pos ys.length with hz | hz
          · exact List.eq_nil_of_length_eq_zero hz
          · exact absurd ⟨List.length_pos_iff.2 h1, hz⟩ h0
        subst this; simp [xcp]
    have hn : Nat.min ys.length xs.length = 0 := by
      have : ys.length = 0 ∨ xs.length = 0 := by omega
      rcases this with h | h <;> simp [h]
    obtain ⟨A', n', c', hv, _⟩ : ∃ A' n' c', vd = .slice A' n' c' ∧ n' = xs.length := by
      obtain ⟨A', c', he, _⟩ := Kd.R_reads hR
      exact ⟨A', xs.length, c', he, rfl⟩
    subst hv
    rename_i hnl
    subst hnl
    have hrun := run_copy_none (P := P) W T T o.type e A' A xs.length c' ys.length c hu hsz hn
    have h2 := h W (by rw [hx]; exact hR) (World.grownBy.refl W _) HB
    rw [hn] at h2
    refine wpList_plain hgd fun K hK => ?_
    unfold Oper.wp
    simp only [execOp, ho, resolve, invoke, builtin]
    simp [hd, hs, hrun, Result.andThen]
    exact hK _ _ h2

/-! ### Two rows of rows, of which one was made later: told apart in depth. -/
def dmI (N k : Nat) : Nat := if N ≤ k then k + 1 else k
def dmO (N k : Nat) : Nat := if N ≤ k then k else k + 1
theorem dmNo {N k : Nat} (h1 : k ≠ dmI N k) (h2 : k ≠ dmO N k) : False := by
  unfold dmI at h1
  unfold dmO at h2
  split at h1 <;> simp_all
theorem dmI_of {N k : Nat} (h : N ≤ k) : k ≠ dmI N k := by unfold dmI; rw [if_pos h]; omega
theorem dmO_of {N k : Nat} (h : k < N) : k ≠ dmO N k := by unfold dmO; rw [if_neg (by omega)]; omega
theorem dmI_fresh {N b k : Nat} (h : b ≠ dmI N b) (hk : b < k) : k ≠ dmI N k := by
  unfold dmI at h ⊢
  split at h
  · rw [if_pos (by omega)]; omega
  · exact absurd rfl h
section
variable {α β : Type} {d : Kd α} {e base N : Nat} {ok : Nat → Prop} {W w1 : World} {u v : Value} {xs : List α}
theorem Kd.deep0 (h : Kd.S d e w1 W.heap.size ok v xs) : ∃ N, Kd.S d e w1 W.heap.size (fun k => k ≠ dmI N k) v xs ∧ N = W.heap.size :=
  ⟨_, Kd.S_mono (Kd.S_bound h) (fun _ hk => dmI_of hk.2.1), rfl⟩
theorem Kd.deep1 (h : Kd.S d e w1 W.heap.size ok v xs) : ∃ N, Kd.S d e w1 W.heap.size (fun k => ok k ∧ k ≠ dmI N k) v xs ∧ N = W.heap.size :=
  ⟨_, Kd.S_mono (Kd.S_bound h) (fun _ hk => ⟨hk.1, dmI_of hk.2.1⟩), rfl⟩
theorem Kd.S_elderD (h : Kd.S d e W base ok u xs) (hN : N = W.heap.size) (hbase : ∀ k, v.ownBlock = some k → W.heap.size ≤ k) (hb : Below W.heap.size W w1) : Kd.S d e w1 base (fun k => (ok k ∧ some k ≠ v.ownBlock) ∧ k ≠ dmO N k) u xs :=
  Kd.S_mono (Kd.S_elder' (Kd.S_bound h) hbase hb) (fun _ hk => ⟨⟨hk.1.1, hk.2⟩, dmO_of (by rw [hN]; exact hk.1.2.2.1)⟩)
theorem Kd.V_elderD (h : Kd.V d e W base ok u xs) (hN : N = W.heap.size) (hbase : ∀ k, v.ownBlock = some k → W.heap.size ≤ k) (hb : Below W.heap.size W w1) : Kd.V d e w1 base (fun k => (ok k ∧ some k ≠ v.ownBlock) ∧ k ≠ dmO N k) u xs :=
  Kd.V_mono (Kd.V_elder' (Kd.V_mono (Kd.V_bound h) (ok' := fun k => ok k ∧ k ≠ dmO N k) (fun _ hk => ⟨hk.1, dmO_of (by rw [hN]; exact hk.2)⟩)) hbase hb) (fun _ hk => ⟨⟨hk.1.1, hk.2⟩, hk.1.2⟩)
theorem Kd.N_elderD (h : Kd.N d e W base ok u xs) (hN : N = W.heap.size) (hbase : ∀ k, v.ownBlock = some k → W.heap.size ≤ k) (hb : Below W.heap.size W w1) : Kd.N d e w1 base (fun k => (ok k ∧ some k ≠ v.ownBlock) ∧ k ≠ dmO N k) u xs :=
  Kd.N_mono (Kd.N_elder' (Kd.N_mono (Kd.N_bound h) (ok' := fun k => ok k ∧ k ≠ dmO N k) (fun _ hk => ⟨hk.1, dmO_of (by rw [hN]; exact hk.2)⟩)) hbase hb) (fun _ hk => ⟨⟨hk.1.1, hk.2⟩, hk.1.2⟩)
theorem Kd.S_oldD (h : Kd.S d e W base ok u xs) (hN : N = W.heap.size) (hb : Below W.heap.size W w1) : Kd.S d e w1 base (fun k => (ok k ∧ k ≠ dmO N k) ∧ k < W.heap.size) u xs := Kd.S_mono (Kd.S_old h hb) (fun _ hk => ⟨⟨hk.1, dmO_of (by rw [hN]; exact hk.2)⟩, hk.2⟩)
theorem Kd.N_oldD (h : Kd.N d e W base ok u xs) (hN : N = W.heap.size) (hb : Below W.heap.size W w1) : Kd.N d e w1 base (fun k => (ok k ∧ k ≠ dmO N k) ∧ k < W.heap.size) u xs := Kd.N_mono (Kd.N_old h hb) (fun _ hk => ⟨⟨hk.1, dmO_of (by rw [hN]; exact hk.2)⟩, hk.2⟩)
theorem Kd.V_oldD (h : Kd.V d e W base ok u xs) (hN : N = W.heap.size) (hb : Below W.heap.size W w1) : Kd.V d e w1 base (fun k => (ok k ∧ k ≠ dmO N k) ∧ k < W.heap.size) u xs := Kd.V_mono (Kd.V_old h hb) (fun _ hk => ⟨⟨hk.1, dmO_of (by rw [hN]; exact hk.2)⟩, hk.2⟩)
end

/-! ### Rows of rows, each of which may end ahead of its block's end (kind 'qslice'). -/
def Kd.qslice {α : Type} (e : Nat) (d : Kd α) : Kd (List α) where
  sz := 1
  E := e :: d.E
  K := fun w xs cs => ∃ A c, cs = [.slice A xs.length c] ∧ xs.length ≤ c ∧ d.C w A xs.length xs
  M := fun w base ok xs cs => ∃ v, cs = [v] ∧ d.Q e w base ok v xs
  K_len := by
    rintro w x cs ⟨A, c, rfl, _⟩
    rfl
  K_one := by
    rintro w x cs ⟨A, c, rfl, _⟩ u hu
    rw [List.mem_singleton.1 hu]
    rfl
  K_below := by
    rintro w w1 x cs hb ⟨A, c, rfl, hl, hr⟩
    exact ⟨A, c, rfl, hl, Kd.C_below hr hb⟩
  K_of_M := by
    rintro w base ok x cs ⟨v, rfl, h⟩
    obtain ⟨A, c, rfl, hl⟩ := Kd.Q_slice h
    exact ⟨A, c, rfl, hl, (Kd.Q_reads' h).2.2⟩
  M_mono := by
    rintro w base ok ok' x cs hok ⟨v, rfl, h⟩
    exact ⟨v, rfl, Kd.Q_mono h hok⟩
  M_bound := by
    rintro w base ok x cs ⟨v, rfl, h⟩
    exact ⟨v, rfl, Kd.Q_bound h⟩
  M_move := by
    rintro w w1 base ok x cs hm ⟨v, rfl, h⟩
    exact ⟨v, rfl, Kd.Q_move h hm⟩
  M_lower := by
    rintro w base base' ok x cs hb ⟨v, rfl, h⟩
    exact ⟨v, rfl, Kd.Q_lower h hb⟩
theorem Kd.M_rowq {α : Type} {d : Kd α} {e base : Nat} {ok : Nat → Prop} {w : World} {v : Value} {xs : List α} (h : d.Q e w base ok v xs) : (Kd.qslice e d).M w base ok xs [v] := ⟨v, rfl, h⟩

-- the values' own types
def rd_L1 (xs : List (List Int)) (i : Int) : (List Int) := xs.getD i.toNat ([] : List Int)
theorem at_L1 {w : World} {A : Option Addr} {n : Nat} {xs : List (List Int)} (h : Kd.C (Kd.slice 3 (Kd.int .i64)) w A n xs) (i : Int) (h0 : 0 ≤ i) (h1 : i < n) : ∃ ad A0 c0, A = some ad ∧ w.cell? (ad.add i.toNat) = some (.slice A0 (rd_L1 xs i).length c0) ∧ (rd_L1 xs i).length ≤ c0 ∧ (Kd.int .i64).C w A0 (rd_L1 xs i).length (rd_L1 xs i) := by
  obtain ⟨ad, c, e, _, hK, hc0⟩ := Kd.C_get h ([] : List Int) i h0 h1
  have hc : ∀ j u, c[j]? = some u → w.cell? (ad.add (i.toNat * 1 + j)) = some u := hc0
  obtain ⟨A0, c0, rfl, l0, g0⟩ := hK
  exact ⟨ad, A0, c0, e, by have hq := hc 0 _ rfl; rwa [Nat.mul_one, Nat.add_zero] at hq, l0, g0⟩

/-! #### struct type 33 -/
structure S33 where
  f0 : (List Int)
  f1 : Int
def z33 : S33 := ⟨([] : List Int), (0 : Int)⟩
def k33 : Kd S33 := Kd.iso (Kd.pair (Kd.slice 3 (Kd.int .i64)) (Kd.int .i64)) (fun x : S33 => (x.f0, x.f1))
theorem k33_open {w : World} {x : S33} {cs : List Value} (h : k33.K w x cs) : ∃ A0 c0, cs = [.slice A0 x.f0.length c0, .int .i64 x.f1] ∧ x.f0.length ≤ c0 ∧ (Kd.int .i64).C w A0 x.f0.length x.f0 := by
  obtain ⟨_, _, rfl, ⟨A0, c0, rfl, l0, g0⟩, rfl⟩ := h
  exact ⟨A0, c0, rfl, l0, g0⟩
theorem k33_openM {w : World} {base : Nat} {ok : Nat → Prop} {x : S33} {cs : List Value} (h : k33.M w base ok x cs) : ∃ v0, cs = [v0, .int .i64 x.f1] ∧ (Kd.int .i64).R 3 w base ok v0 x.f0 := by
  obtain ⟨_, _, rfl, ⟨v0, rfl, g0⟩, rfl⟩ := h
  exact ⟨v0, rfl, g0⟩
theorem k33_mk (w : World) (x : S33) {A0 : Option Addr} {c0 : Nat} (l0 : x.f0.length ≤ c0) (g0 : (Kd.int .i64).C w A0 x.f0.length x.f0) : k33.K w x [.slice A0 x.f0.length c0, .int .i64 x.f1] := ⟨[.slice A0 x.f0.length c0], [.int .i64 x.f1], rfl, ⟨A0, c0, rfl, l0, g0⟩, rfl⟩
theorem k33_mkM (w : World) (base : Nat) (ok : Nat → Prop) (x : S33) {v0 : Value} (g0 : (Kd.int .i64).R 3 w base ok v0 x.f0) : k33.M w base ok x [v0, .int .i64 x.f1] := ⟨[v0], [.int .i64 x.f1], rfl, ⟨v0, rfl, g0⟩, rfl⟩
theorem k33_openF {W : World} {ok : Nat → Prop} {x : S33} {cs : List Value} (h : Kd.FK k33 W ok x cs) : ∃ A0 c0, cs = [.slice A0 x.f0.length c0, .int .i64 x.f1] ∧ x.f0.length ≤ c0 ∧ Kd.F (Kd.int .i64) W ok A0 x.f0.length x.f0 := by
  obtain ⟨A0, c0, rfl, l0, _⟩ := k33_open (Kd.FK_now h)
  exact ⟨A0, c0, rfl, l0, (fun W' hW => by obtain ⟨A0_, c0_, he, l0_, g0_⟩ := k33_open (h W' hW); injection (Option.some.inj (show some (Value.slice A0 x.f0.length c0) = some (Value.slice A0_ x.f0.length c0_) from congrArg (fun l => l[0]?) he)) with ha_ _ _; rw [ha_]; exact g0_)⟩
theorem k33_mkF (W : World) (ok : Nat → Prop) (x : S33) {A0 : Option Addr} {c0 : Nat} (l0 : x.f0.length ≤ c0) (g0 : Kd.F (Kd.int .i64) W ok A0 x.f0.length x.f0) : Kd.FK k33 W ok x [.slice A0 x.f0.length c0, .int .i64 x.f1] := fun W2 hW => k33_mk W2 x l0 (g0 W2 hW)
def rd_T33 (xs : List S33) (i : Int) : S33 := xs.getD i.toNat z33
theorem at_T33 {w : World} {A : Option Addr} {n : Nat} {xs : List S33} (h : Kd.C k33 w A n xs) (i : Int) (h0 : 0 ≤ i) (h1 : i < n) : ∃ ad A0 c0, A = some ad ∧ w.cell? (ad.add (i.toNat * 2)) = some (.slice A0 (rd_T33 xs i).f0.length c0) ∧ w.cell? ⟨(ad.add (i.toNat * 2)).block, (ad.add (i.toNat * 2)).off + 1, none⟩ = some (.int .i64 (rd_T33 xs i).f1) ∧ (rd_T33 xs i).f0.length ≤ c0 ∧ (Kd.int .i64).C w A0 (rd_T33 xs i).f0.length (rd_T33 xs i).f0 := by
  obtain ⟨ad, c, e, _, hK, hc0⟩ := Kd.C_get h z33 i h0 h1
  have hc : ∀ j u, c[j]? = some u → w.cell? (ad.add (i.toNat * 2 + j)) = some u := hc0
  obtain ⟨A0, c0, rfl, l0, g0⟩ := k33_open hK
  exact ⟨ad, A0, c0, e, hc 0 _ rfl, by rw [← add_field _ _ 1 (by omega)]; exact hc 1 _ rfl, l0, g0⟩

end Go.Proofs.YtneipehcmmigeaaDoor.PFnExactCountWalks
