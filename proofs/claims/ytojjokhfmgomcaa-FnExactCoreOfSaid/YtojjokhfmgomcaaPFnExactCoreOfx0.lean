-- Written by a program of this session (wip/print/xprint.py).
import Derived.Test.YtojjokhfmgomcaaProg
import Derived.Below
import Derived.Deep.Draws
import Derived.Deep.AppendLies
import Derived.Maps.AppendAt
import Derived.OwnWalk
import Derived.Laws.BytesArg
import Derived.Laws.MakeOwn
import Derived.Laws.OwnMore
import Derived.Deep.OwnRows
import Derived.Tactics
import Derived.Lib.ConvBytes
import Derived.Laws.Slices
import Derived.WalkKit
import Derived.KernelRfl
import Derived.RowKit3
import Derived.Deep.LoopGhost
import Derived.Deep.QuietTactic
import Derived.BigQuiet
import Derived.WideLaws
import Derived.Deep.DeepCutAuto
import Derived.Deep.CutBlock
import Derived.Deep.RegionHeld3
import Derived.Laws.Rows
import Derived.Lib.AppendStr
import Derived.ArgAppend
import Derived.Laws.IdiomCopy
import Derived.OrdersHeld
import Derived.Laws.BitsLemmas
import Derived.RowKit
import Derived.WalkSpells
import Derived.Lib.SliceRun
import Derived.Test.YtojjokhfmgomcaaVFnExactCoreOf
namespace Go.Proofs.Ytojjokhfmgomcaa.PFnExactCoreOf
open Go.RowKit Go.Proofs.YtojjokhfmgomcaaW.PrintWords Go.Proofs.YtojjokhfmgomcaaW.PrintLast Go.Proofs.YtojjokhfmgomcaaW.PrintMore
attribute [local go_sem] max2_int min2_int max_two min_two max_three min_three max_four min_four   -- for this text's walks alone
set_option linter.unusedVariables false
set_option linter.unusedSimpArgs false



def errW : Option Int → Value
  | none => .nilIface
  | some c => .iface 0 (.int .i64 c)
theorem errW_none : errW none = .nilIface := rfl
theorem errW_some (c : Int) : errW (some c) = .iface 0 (.int .i64 c) := rfl

theorem xw_own (A : Option Addr) (n c : Nat) : (Value.slice A n c).ownBlock = A.map (fun a => a.block) := by cases A <;> rfl
/-- What is told of a row's block, told less. -/
theorem xi {p q : Nat → Prop} (h : ∀ k, p k → q k := by intro k_ hk_; first | exact hk_ | (simp only [xw_own] at hk_ ⊢; exact hk_) | (first | simp only [xw_own, and_assoc] at hk_ ⊢ | skip); (repeat' apply And.intro) <;> first | exact hk_.1 | exact hk_ | exact hk_.2.1 | exact hk_.2 | exact hk_.2.2.1 | exact hk_.2.2 | exact hk_.2.2.2.1 | exact hk_.2.2.2 | exact hk_.2.2.2.2.1 | exact hk_.2.2.2.2 | exact hk_.2.2.2.2.2.1 | exact hk_.2.2.2.2.2 | exact hk_.2.2.2.2.2.2.1 | exact hk_.2.2.2.2.2.2 | exact hk_.2.2.2.2.2.2.2.1 | exact hk_.2.2.2.2.2.2.2 | exact hk_.2.2.2.2.2.2.2.2.1 | exact hk_.2.2.2.2.2.2.2.2) : ∀ k, p k → q k := h
/-- A fact, carried over to the world of here. -/
theorem xR {p q : Prop} (h : p) (f : p → q := by intro h_; (with_reducible repeat (first | apply Kd.R_alloc | apply Kd.R_drewN | apply Kd.R_drew)); first | exact h_ | exact Kd.R_mono h_ xi) : q := f h
/-- A fact, carried over to the world of here. -/
theorem xS {p q : Prop} (h : p) (f : p → q := by intro h_; (with_reducible repeat (first | apply Kd.S_alloc | apply Kd.S_drewN | apply Kd.S_drew)); first | exact h_ | exact Kd.S_mono h_ xi) : q := f h
/-- A fact, carried over to the world of here. -/
theorem xN {p q : Prop} (h : p) (f : p → q := by intro h_; (with_reducible repeat (first | apply Kd.N_alloc | apply Kd.N_drewN | apply Kd.N_drew)); first | exact h_ | exact Kd.N_mono h_ xi) : q := f h
/-- A fact, carried over to the world of here. -/
theorem xQ {p q : Prop} (h : p) (f : p → q := by intro h_; (with_reducible repeat (first | apply Kd.Q_alloc | apply Kd.Q_drewN | apply Kd.Q_drew)); first | exact h_ | exact Kd.Q_mono h_ xi) : q := f h
/-- A fact, carried over to the world of here. -/
theorem xV {p q : Prop} (h : p) (f : p → q := by intro h_; (with_reducible repeat (first | apply Kd.Vo_alloc | apply Kd.Vo_drewN | apply Kd.Vo_drew)); first | exact h_ | exact Kd.Vo_mono h_ xi) : q := f h
theorem xb {p q : Prop} (h : p) (f : p → q := by intro h_; repeat (first | (with_reducible first | exact h_ | apply below_alloc | apply pw_below_drewN | apply below_drew1) | exact h_)) : q := f h
theorem xm {p : Prop} (h : p := by (try simp only [List.map_toArray, List.map_cons, List.map_nil]); first | done | rfl | (simp only [List.length_drop, List.length_take]; rfl)) : p := h
theorem xc {p q : Prop} (h : p) (f : p → q := by intro h_; repeat (first | exact h_ | (with_reducible refine Kd.C_alloc ?_ _) | (with_reducible refine Kd.C_drewN ?_ _) | (with_reducible refine Kd.C_drew ?_))) : q := f h
theorem xsame {o : Option Value} {A B : Option Addr} {n m c d : Nat} (h : o = some (.slice A n c)) (h' : o = some (.slice B m d)) : A = B ∧ c = d := by
  rw [h] at h'
  injection h' with h'
  injection h' with h1 _ h3
  exact ⟨h1, h3⟩
theorem info3 : (Try.prog.info? 3).map (fun i => (i.zero, i.size, i.bytes)) = some (some (.int .i64 0), 1, 8) := by kernel_rfl
theorem info22 : (Try.prog.info? 22).map (fun i => (i.zero, i.size, i.bytes)) = some (some (.slice none 0 0), 1, 24) := by kernel_rfl
theorem info40 : (Try.prog.info? 40).map (fun i => (i.zero, i.size, i.bytes)) = some (some (.agg #[(.slice none 0 0), (.slice none 0 0)]), 2, 48) := by kernel_rfl
/-! ### Rows of rows, each of which is a row of its own (kind 'oslice'), and what is told of such a row when it is shared (form 'Vo'). -/
def Kd.oslice {α : Type} (e : Nat) (d : Kd α) : Kd (List α) where
  sz := 1
  E := e :: d.E
  K := fun w xs cs => ∃ v, cs = [v] ∧ d.R e w 0 (fun _ => True) v xs
  M := fun w base ok xs cs => ∃ v, cs = [v] ∧ d.R e w base ok v xs
  K_len := by
    rintro w x cs ⟨v, rfl, _⟩
    rfl
  K_one := by
    rintro w x cs ⟨v, rfl, h⟩ u hu
    rw [List.mem_singleton.1 hu]
    exact (Kd.R_val h).2
  K_below := by
    rintro w w1 x cs hb ⟨v, rfl, h⟩
    exact ⟨v, rfl, Kd.R_below h hb⟩
  K_of_M := by
    rintro w base ok x cs ⟨v, rfl, h⟩
    exact ⟨v, rfl, Kd.R_mono (Kd.R_lower h (Nat.zero_le _)) (fun _ _ => trivial)⟩
  M_mono := by
    rintro w base ok ok' x cs hok ⟨v, rfl, h⟩
    exact ⟨v, rfl, Kd.R_mono h hok⟩
  M_bound := by
    rintro w base ok x cs ⟨v, rfl, h⟩
    exact ⟨v, rfl, Kd.R_bound h⟩
  M_move := by
    rintro w w1 base ok x cs hm ⟨v, rfl, h⟩
    exact ⟨v, rfl, Kd.R_move h hm⟩
  M_lower := by
    rintro w base base' ok x cs hb ⟨v, rfl, h⟩
    exact ⟨v, rfl, Kd.R_lower h hb⟩
section
variable {α : Type} {d : Kd α} {e base base' b n c cc g N' : Nat} {ok ok' okv S : Nat → Prop} {w w1 W W1 : World} {A : Option Addr} {u v v1 : Value} {xs : List α} {cs : List Value}
theorem Kd.oslice_K (h : (Kd.oslice e d).K w xs cs) : ∃ A c, cs = [.slice A xs.length c] ∧ xs.length ≤ c ∧ d.C w A xs.length xs := by
  obtain ⟨v, rfl, h⟩ := h
  obtain ⟨A, c, rfl, hl, hr⟩ := Kd.R_reads h
  exact ⟨A, c, rfl, hl, hr⟩
theorem Kd.FKo_mk (h : d.R e W b ok v xs) : Kd.FK (Kd.oslice e d) W ok xs [v] := fun W' hW =>
  ⟨v, rfl, Kd.R_mono (Kd.R_lower (Kd.R_step h hW) (Nat.zero_le _)) (fun _ _ => trivial)⟩
theorem Kd.FKo_R (h : Kd.FK (Kd.oslice e d) W ok xs [v]) : d.R e W 0 (fun _ => True) v xs := by
  obtain ⟨v', hv, h⟩ := Kd.FK_now h
  obtain rfl : v = v' := by simpa using hv
  exact h
theorem Kd.FKo_block (h : Kd.FK (Kd.oslice e d) W ok xs [v]) (k : Nat) (hk : v.ownBlock = some k) : ok k := by
  by_cases ho : ok k
  · exact ho
  · exfalso
    have hlt := Kd.R_lt (Kd.FKo_R h) k hk
    have hW : ∀ j, ok j → j < W.heap.size → ({ W with heap := W.heap.setIfInBounds k (.cells #[] (e + 1) (0, 0)) } : World).heap[j]? = W.heap[j]? := fun j hj _ => by
      have : k ≠ j := fun he => ho (he ▸ hj)
      simp [this]
    obtain ⟨v', hv, h2⟩ := h _ hW
    obtain rfl : v = v' := by simpa using hv
    obtain ⟨cells, hc⟩ := Kd.R_typed h2 k hk
    simp [hlt] at hc
theorem Kd.FKo_open (h : Kd.FK (Kd.oslice e d) W ok xs cs) : ∃ A c, cs = [.slice A xs.length c] ∧ xs.length ≤ c ∧ Kd.FK (Kd.oslice e d) W ok xs [.slice A xs.length c] := by
  obtain ⟨A, c, rfl, hl, _⟩ := Kd.oslice_K (Kd.FK_now h)
  exact ⟨A, c, rfl, hl, h⟩
theorem Kd.FKo_slice_mk (_ : xs.length ≤ c) (hf : Kd.FK (Kd.oslice e d) W ok xs [.slice A xs.length c]) : Kd.FK (Kd.oslice e d) W ok xs [.slice A xs.length c] := hf
theorem Kd.FKo_F (h : Kd.FK (Kd.oslice e d) W ok xs [.slice A xs.length c]) : Kd.F d W ok A xs.length xs := fun W' hW => by
  obtain ⟨A', c', he, _, hr⟩ := Kd.oslice_K (h W' hW)
  simp only [List.cons.injEq, Value.slice.injEq, and_true] at he
  rw [he.1]; exact hr
/-- A row that is read here and may be shared; it is one of its own. -/
def Kd.Vo {α : Type} (d : Kd α) (e : Nat) (W : World) (base : Nat) (ok : Nat → Prop) (v : Value) (xs : List α) : Prop := Kd.V d e W base ok v xs ∧ Kd.FK (Kd.oslice e d) W ok xs [v]
theorem Kd.Vo_mk (hl : xs.length ≤ c) (hf : Kd.FK (Kd.oslice e d) W ok xs [.slice A xs.length c]) : Kd.Vo d e W base ok (.slice A xs.length c) xs := ⟨Kd.V_mk hl (Kd.FKo_F hf), hf⟩
theorem Kd.R_Vo (h : d.R e W base ok v xs) : Kd.Vo d e W base' ok v xs := ⟨Kd.R_V h, Kd.FKo_mk h⟩
theorem Kd.Vo_nil (d : Kd α) (e : Nat) (W : World) (base : Nat) (ok : Nat → Prop) : Kd.Vo d e W base ok (.slice none 0 0) [] := Kd.R_Vo (Kd.R_nil d e W 0 ok)
theorem Kd.Vo_slice (h : Kd.Vo d e W base ok v xs) : ∃ A c, v = .slice A xs.length c := Kd.V_slice h.1
theorem Kd.Vo_reads' (h : Kd.Vo d e W base ok (.slice A n c) xs) : n = xs.length ∧ n ≤ c ∧ d.C W A xs.length xs := Kd.V_reads' h.1
theorem Kd.Vo_F (h : Kd.Vo d e W base ok (.slice A n c) xs) : Kd.F d W ok A n xs := Kd.V_F h.1
theorem Kd.Vo_FK (h : Kd.Vo d e W base ok v xs) : Kd.FK (Kd.oslice e d) W ok xs [v] := h.2
theorem Kd.Vo_mono (h : Kd.Vo d e W base ok v xs) (hok : ∀ k, ok k → ok' k) : Kd.Vo d e W base ok' v xs := ⟨Kd.V_mono h.1 hok, Kd.FK_mono h.2 hok⟩
theorem Kd.Vo_bound (h : Kd.Vo d e W base ok v xs) : Kd.Vo d e W base (fun k => ok k ∧ k < W.heap.size) v xs := ⟨Kd.V_bound h.1, Kd.FK_bound h.2⟩
theorem Kd.Vo_lower (h : Kd.Vo d e W base ok v xs) (_ : base' ≤ base) : Kd.Vo d e W base' ok v xs := ⟨Kd.V_lower h.1 ‹_›, h.2⟩
theorem Kd.Vo_step (h : Kd.Vo d e W base ok v xs) (hm : ∀ k, ok k → k < W.heap.size → w1.heap[k]? = W.heap[k]?) : Kd.Vo d e w1 base ok v xs := ⟨Kd.V_step h.1 hm, Kd.FK_step h.2 hm⟩
theorem Kd.Vo_below (h : Kd.Vo d e W base ok v xs) (hb : Below W.heap.size W w1) : Kd.Vo d e w1 base ok v xs := Kd.Vo_step h (fun k _ hk => hb.block k hk)
theorem Kd.Vo_alloc (h : Kd.Vo d e W base ok v xs) (o : Obj) : Kd.Vo d e (W.alloc o) base ok v xs := Kd.Vo_below h (below_alloc (Below.refl _ _) o)
theorem Kd.Vo_drew (h : Kd.Vo d e W base ok v xs) : Kd.Vo d e W.drew base ok v xs := Kd.Vo_below h (below_drew (Below.refl _ _))
theorem Kd.Vo_drewN (h : Kd.Vo d e W base ok v xs) (m : Nat) : Kd.Vo d e (W.drewN m) base ok v xs := Kd.Vo_below h (pw_below_drewN (Below.refl _ _) m)
theorem Kd.Vo_grown (h : Kd.Vo d e W base ok v xs) {row : Option Nat} (hg : W.grownBy w1 row) (hok : ∀ k, ok k → some k ≠ row) : Kd.Vo d e w1 base ok v xs := Kd.Vo_step h (fun k ho hk => hg.block k hk (hok k ho))
theorem Kd.Vo_far (h : Kd.Vo d e W base ok v xs) {p : Addr} (hok : ∀ k, ok k → k ≠ p.block) (u : Value) : Kd.Vo d e (W.setCell p u) base ok v xs := Kd.Vo_step h (fun k ho _ => Below.heap_setCell W p u k (hok k ho))
theorem Kd.Vo_keep (h : Kd.Vo d e W base ok v xs) (hk : KeepBut W w1 g none) (hok : ∀ k, ok k → k ≠ g) : Kd.Vo d e w1 base ok v xs := Kd.Vo_step h (fun k ho hlt => hk.2 k hlt (hok k ho) (by simp))
theorem Kd.Vo_kept (h : Kd.Vo d e W base ok v xs) (hk : Kept W w1 S) (hok : ∀ k, ok k → ¬ S k) : Kd.Vo d e w1 base ok v xs := Kd.Vo_step h (fun k ho hlt => hk.2 k hlt (hok k ho))
theorem Kd.Vo_after (h : Kd.Vo d e W base (fun k => ok k ∧ some k ≠ u.ownBlock) v xs) (hg : W.grownBy w1 u.ownBlock) (hat : v1.ownBlock = u.ownBlock ∨ ∃ b, v1.ownBlock = some b ∧ W.heap.size ≤ b) : Kd.Vo d e w1 base (fun k => ok k ∧ some k ≠ v1.ownBlock) v xs := by
  refine Kd.Vo_mono (Kd.Vo_step (Kd.Vo_bound h) (fun k hk hlt => hg.block k hlt hk.1.2)) (fun k hk => ⟨hk.1.1, ?_⟩)
  rcases hat with hat | ⟨b, hb, hle⟩
  · rw [hat]; exact hk.1.2
  · rw [hb]
    intro he
    injection he with he
    have := hk.2
    omega
theorem Kd.Vo_afterv (h : Kd.Vo d e W base (fun k => ok k ∧ some k ≠ v.ownBlock) u xs) (hg : W.grownBy w1 v.ownBlock) (hat : v1.ownBlock = v.ownBlock ∨ ∃ b, v1.ownBlock = some b ∧ W.heap.size ≤ b) : Kd.Vo d e w1 base (fun k => ok k ∧ some k ≠ v1.ownBlock) u xs := Kd.Vo_after h hg hat
theorem Kd.Vo_apart_nil (h : Kd.Vo d e W base ok v xs) : Kd.Vo d e W base (fun k => ok k ∧ some k ≠ (Value.slice none 0 0).ownBlock) v xs := Kd.Vo_mono h (fun k hk => ⟨hk, by simp [Value.ownBlock]⟩)
theorem Kd.Vo_elder' (h : Kd.Vo d e W base ok v xs) (hbase : ∀ k, u.ownBlock = some k → W.heap.size ≤ k) (hb : Below W.heap.size W w1) : Kd.Vo d e w1 base (fun k => ok k ∧ some k ≠ u.ownBlock) v xs :=
  Kd.Vo_mono (Kd.Vo_below (Kd.Vo_bound h) hb) (fun k hk => ⟨hk.1, fun he => by have := hbase k he.symm; have := hk.2; omega⟩)
theorem Kd.Vo_elderB (h : Kd.Vo d e W base ok v xs) (a : Nat) (ha : W.heap.size ≤ a) : Kd.Vo d e W base (fun k => ok k ∧ k ≠ a) v xs := Kd.Vo_mono (Kd.Vo_bound h) (fun k hk => ⟨hk.1, by have := hk.2; omega⟩)
theorem Kd.Vo_old (h : Kd.Vo d e W base ok v xs) (hb : Below W.heap.size W w1) : Kd.Vo d e w1 base (fun k => ok k ∧ k < W.heap.size) v xs := Kd.Vo_below (Kd.Vo_bound h) hb
/-- Handed on for good: it is the holder's own. -/
theorem Kd.Vo_R (hE : d.E = []) (hM : ∀ w ok x cs, d.M w 0 ok x cs → d.M w base ok x cs) (h : Kd.Vo d e W base' ok v xs) (hb : ∀ k, ok k → base ≤ k) : d.R e W base ok v xs :=
  Kd.R_reok hE (Kd.R_raise hM (Kd.FKo_R h.2) (fun k hk => hb k (Kd.FKo_block h.2 k hk))) (fun k hk => Kd.FKo_block h.2 k hk)
end

-- the values' own types
def rd_L1 (xs : List (List Int)) (i : Int) : (List Int) := xs.getD i.toNat ([] : List Int)
theorem at_L1 {w : World} {A : Option Addr} {n : Nat} {xs : List (List Int)} (h : Kd.C (Kd.oslice 3 (Kd.int .i64)) w A n xs) (i : Int) (h0 : 0 ≤ i) (h1 : i < n) : ∃ ad A0 c0, A = some ad ∧ w.cell? (ad.add i.toNat) = some (.slice A0 (rd_L1 xs i).length c0) ∧ (rd_L1 xs i).length ≤ c0 ∧ (Kd.int .i64).C w A0 (rd_L1 xs i).length (rd_L1 xs i) := by
  obtain ⟨ad, c, e, _, hK, hc0⟩ := Kd.C_get h ([] : List Int) i h0 h1
  have hc : ∀ j u, c[j]? = some u → w.cell? (ad.add (i.toNat * 1 + j)) = some u := hc0
  obtain ⟨A0, c0, rfl, l0, g0⟩ := Kd.oslice_K hK
  exact ⟨ad, A0, c0, e, by have hq := hc 0 _ rfl; rwa [Nat.mul_one, Nat.add_zero] at hq, l0, g0⟩

/-! #### struct type 40 -/
structure S40 where
  f0 : (List Int)
  f1 : (List Int)
def z40 : S40 := ⟨([] : List Int), ([] : List Int)⟩
def k40 : Kd S40 := Kd.iso (Kd.pair (Kd.oslice 3 (Kd.int .i64)) (Kd.oslice 3 (Kd.int .i64))) (fun x : S40 => (x.f0, x.f1))
theorem k40_open {w : World} {x : S40} {cs : List Value} (h : k40.K w x cs) : ∃ A0 c0 A1 c1, cs = [.slice A0 x.f0.length c0, .slice A1 x.f1.length c1] ∧ x.f0.length ≤ c0 ∧ (Kd.int .i64).C w A0 x.f0.length x.f0 ∧ x.f1.length ≤ c1 ∧ (Kd.int .i64).C w A1 x.f1.length x.f1 := by
  obtain ⟨_, _, rfl, q0, q1⟩ := h
  obtain ⟨A0, c0, rfl, l0, g0⟩ := Kd.oslice_K q0
  obtain ⟨A1, c1, rfl, l1, g1⟩ := Kd.oslice_K q1
  exact ⟨A0, c0, A1, c1, rfl, l0, g0, l1, g1⟩
theorem k40_openM {w : World} {base : Nat} {ok : Nat → Prop} {x : S40} {cs : List Value} (h : k40.M w base ok x cs) : ∃ v0 v1, cs = [v0, v1] ∧ (Kd.int .i64).R 3 w base ok v0 x.f0 ∧ (Kd.int .i64).R 3 w base ok v1 x.f1 := by
  obtain ⟨_, _, rfl, ⟨v0, rfl, g0⟩, ⟨v1, rfl, g1⟩⟩ := h
  exact ⟨v0, v1, rfl, g0, g1⟩
theorem k40_mkM (w : World) (base : Nat) (ok : Nat → Prop) (x : S40) {v0 : Value} (g0 : (Kd.int .i64).R 3 w base ok v0 x.f0) {v1 : Value} (g1 : (Kd.int .i64).R 3 w base ok v1 x.f1) : k40.M w base ok x [v0, v1] := ⟨[v0], [v1], rfl, ⟨v0, rfl, g0⟩, ⟨v1, rfl, g1⟩⟩
theorem k40_openF {W : World} {ok : Nat → Prop} {x : S40} {cs : List Value} (h : Kd.FK k40 W ok x cs) : ∃ A0 c0 A1 c1, cs = [.slice A0 x.f0.length c0, .slice A1 x.f1.length c1] ∧ x.f0.length ≤ c0 ∧ Kd.FK (Kd.oslice 3 (Kd.int .i64)) W ok x.f0 [.slice A0 x.f0.length c0] ∧ x.f1.length ≤ c1 ∧ Kd.FK (Kd.oslice 3 (Kd.int .i64)) W ok x.f1 [.slice A1 x.f1.length c1] := by
  obtain ⟨A0, c0, A1, c1, rfl, l0, _, l1, _⟩ := k40_open (Kd.FK_now h)
  refine ⟨A0, c0, A1, c1, rfl, l0, (fun W' hW => ?_), l1, (fun W' hW => ?_)⟩
  · obtain ⟨_, _, he, ⟨v0, rfl, g0⟩, ⟨v1, rfl, g1⟩⟩ := h W' hW
    simp only [List.cons_append, List.nil_append, List.cons.injEq, and_true] at he
    obtain ⟨rfl, rfl⟩ := he
    exact ⟨_, rfl, g0⟩
  · obtain ⟨_, _, he, ⟨v0, rfl, g0⟩, ⟨v1, rfl, g1⟩⟩ := h W' hW
    simp only [List.cons_append, List.nil_append, List.cons.injEq, and_true] at he
    obtain ⟨rfl, rfl⟩ := he
    exact ⟨_, rfl, g1⟩
theorem k40_mkF (W : World) (ok : Nat → Prop) (x : S40) {A0 : Option Addr} {c0 : Nat} (l0 : x.f0.length ≤ c0) (g0 : Kd.FK (Kd.oslice 3 (Kd.int .i64)) W ok x.f0 [.slice A0 x.f0.length c0]) {A1 : Option Addr} {c1 : Nat} (l1 : x.f1.length ≤ c1) (g1 : Kd.FK (Kd.oslice 3 (Kd.int .i64)) W ok x.f1 [.slice A1 x.f1.length c1]) : Kd.FK k40 W ok x [.slice A0 x.f0.length c0, .slice A1 x.f1.length c1] := fun W2 hW => ⟨[.slice A0 x.f0.length c0], [.slice A1 x.f1.length c1], rfl, g0 W2 hW, g1 W2 hW⟩
def rd_T40 (xs : List S40) (i : Int) : S40 := xs.getD i.toNat z40
theorem at_T40 {w : World} {A : Option Addr} {n : Nat} {xs : List S40} (h : Kd.C k40 w A n xs) (i : Int) (h0 : 0 ≤ i) (h1 : i < n) : ∃ ad A0 c0 A1 c1, A = some ad ∧ w.cell? (ad.add (i.toNat * 2)) = some (.slice A0 (rd_T40 xs i).f0.length c0) ∧ w.cell? ⟨(ad.add (i.toNat * 2)).block, (ad.add (i.toNat * 2)).off + 1, none⟩ = some (.slice A1 (rd_T40 xs i).f1.length c1) ∧ (rd_T40 xs i).f0.length ≤ c0 ∧ (Kd.int .i64).C w A0 (rd_T40 xs i).f0.length (rd_T40 xs i).f0 ∧ (rd_T40 xs i).f1.length ≤ c1 ∧ (Kd.int .i64).C w A1 (rd_T40 xs i).f1.length (rd_T40 xs i).f1 := by
  obtain ⟨ad, c, e, _, hK, hc0⟩ := Kd.C_get h z40 i h0 h1
  have hc : ∀ j u, c[j]? = some u → w.cell? (ad.add (i.toNat * 2 + j)) = some u := hc0
  obtain ⟨A0, c0, A1, c1, rfl, l0, g0, l1, g1⟩ := k40_open hK
  exact ⟨ad, A0, c0, A1, c1, e, hc 0 _ rfl, by rw [← add_field _ _ 1 (by omega)]; exact hc 1 _ rfl, l0, g0, l1, g1⟩

end Go.Proofs.Ytojjokhfmgomcaa.PFnExactCoreOf
