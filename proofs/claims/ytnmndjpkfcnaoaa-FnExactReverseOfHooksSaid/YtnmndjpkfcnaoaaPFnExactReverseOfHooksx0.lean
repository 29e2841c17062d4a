-- Written by a program of this session (wip/print/xprint.py).
import Derived.Test.YtnmndjpkfcnaoaaProg
import Derived.Below
import Derived.Deep.Draws
import Derived.Deep.AppendLies
import Derived.Maps.AppendAt
import Derived.OwnWalk
import Derived.Laws.BytesArg
import Derived.Laws.MakeOwn
import Derived.Laws.OwnMore
import Derived.Deep.OwnRows
import Derived.Tactics
import Derived.Lib.ConvBytes
import Derived.Laws.Slices
import Derived.WalkKit
import Derived.KernelRfl
import Derived.RowKit3
import Derived.Deep.LoopGhost
import Derived.Deep.QuietTactic
import Derived.BigQuiet
import Derived.WideLaws
import Derived.Deep.DeepCutAuto
import Derived.Deep.CutBlock
import Derived.Deep.RegionHeld3
import Derived.Laws.Rows
import Derived.Lib.AppendStr
import Derived.ArgAppend
import Derived.Laws.IdiomCopy
import Derived.OrdersHeld
import Derived.Laws.BitsLemmas
import Derived.RowKit
import Derived.WalkSpells
import Derived.Lib.SliceRun
import Derived.Test.YtnmndjpkfcnaoaaWWords
import Derived.Test.YtnmndjpkfcnaoaaWLast
import Derived.Test.YtnmndjpkfcnaoaaWTab
import Derived.Test.YtnmndjpkfcnaoaaWFour
import Derived.Test.YtnmndjpkfcnaoaaWQPut
import Derived.Test.YtnmndjpkfcnaoaaWApart
import Derived.Test.YtnmndjpkfcnaoaaWArr
import Derived.Test.YtnmndjpkfcnaoaaWZeros
import Derived.Test.YtnmndjpkfcnaoaaWFoot
import Derived.Test.YtnmndjpkfcnaoaaWKept
import Derived.Test.YtnmndjpkfcnaoaaWShare
import Derived.Test.YtnmndjpkfcnaoaaWN
import Derived.Test.YtnmndjpkfcnaoaaWFootNe
import Derived.Test.YtnmndjpkfcnaoaaWAt
import Derived.Test.YtnmndjpkfcnaoaaWEqStruct
import Derived.Test.YtnmndjpkfcnaoaaWRepsOne
import Derived.Test.YtnmndjpkfcnaoaaWInv
import Derived.Test.YtnmndjpkfcnaoaaWInvWords
import Derived.Test.YtnmndjpkfcnaoaaWGuard
import Derived.Test.YtnmndjpkfcnaoaaWNEv
import Derived.Test.YtnmndjpkfcnaoaaWMore
namespace Go.Proofs.Ytnmndjpkfcnaoaa.PFnExactReverseOfHooks
open Go.RowKit Go.Proofs.YtnmndjpkfcnaoaaW.PrintWords Go.Proofs.YtnmndjpkfcnaoaaW.PrintLast Go.Proofs.YtnmndjpkfcnaoaaW.PrintMore
attribute [local go_sem] max2_int min2_int max_two min_two max_three min_three max_four min_four   -- for this text's walks alone
set_option linter.unusedVariables false
set_option linter.unusedSimpArgs false



def errW : Option Int → Value
  | none => .nilIface
  | some c => .iface 0 (.int .i64 c)
theorem errW_none : errW none = .nilIface := rfl
theorem errW_some (c : Int) : errW (some c) = .iface 0 (.int .i64 c) := rfl

theorem xw_own (A : Option Addr) (n c : Nat) : (Value.slice A n c).ownBlock = A.map (fun a => a.block) := by cases A <;> rfl
/-- What is told of a row's block, told less. -/
theorem xi {p q : Nat → Prop} (h : ∀ k, p k → q k := by intro k_ hk_; first | exact hk_ | (simp only [xw_own] at hk_ ⊢; exact hk_) | (first | simp only [xw_own, and_assoc] at hk_ ⊢ | skip); (repeat' apply And.intro) <;> first | exact hk_.1 | exact hk_ | exact hk_.2.1 | exact hk_.2 | exact hk_.2.2.1 | exact hk_.2.2 | exact hk_.2.2.2.1 | exact hk_.2.2.2 | exact hk_.2.2.2.2.1 | exact hk_.2.2.2.2 | exact hk_.2.2.2.2.2.1 | exact hk_.2.2.2.2.2 | exact hk_.2.2.2.2.2.2.1 | exact hk_.2.2.2.2.2.2 | exact hk_.2.2.2.2.2.2.2.1 | exact hk_.2.2.2.2.2.2.2 | exact hk_.2.2.2.2.2.2.2.2.1 | exact hk_.2.2.2.2.2.2.2.2) : ∀ k, p k → q k := h
/-- A fact, carried over to the world of here. -/
theorem xR {p q : Prop} (h : p) (f : p → q := by intro h_; (with_reducible repeat (first | apply Kd.R_alloc | apply Kd.R_drewN | apply Kd.R_drew)); first | exact h_ | exact Kd.R_mono h_ xi) : q := f h
/-- A fact, carried over to the world of here. -/
theorem xS {p q : Prop} (h : p) (f : p → q := by intro h_; (with_reducible repeat (first | apply Kd.S_alloc | apply Kd.S_drewN | apply Kd.S_drew)); first | exact h_ | exact Kd.S_mono h_ xi) : q := f h
/-- A fact, carried over to the world of here. -/
theorem xN {p q : Prop} (h : p) (f : p → q := by intro h_; (with_reducible repeat (first | apply Kd.N_alloc | apply Kd.N_drewN | apply Kd.N_drew)); first | exact h_ | exact Kd.N_mono h_ xi) : q := f h
/-- A fact, carried over to the world of here. -/
theorem xQ {p q : Prop} (h : p) (f : p → q := by intro h_; (with_reducible repeat (first | apply Kd.Q_alloc | apply Kd.Q_drewN | apply Kd.Q_drew)); first | exact h_ | exact Kd.Q_mono h_ xi) : q := f h
/-- A fact, carried over to the world of here. -/
theorem xV {p q : Prop} (h : p) (f : p → q := by intro h_; (with_reducible repeat (first | apply Kd.V_alloc | apply Kd.V_drewN | apply Kd.V_drew)); first | exact h_ | exact Kd.V_mono h_ xi) : q := f h
theorem xb {p q : Prop} (h : p) (f : p → q := by intro h_; repeat (first | (with_reducible first | exact h_ | apply below_alloc | apply pw_below_drewN | apply below_drew1) | exact h_)) : q := f h
theorem xm {p : Prop} (h : p := by (try simp only [List.map_toArray, List.map_cons, List.map_nil]); first | done | rfl | (simp only [List.length_drop, List.length_take]; rfl)) : p := h
theorem xc {p q : Prop} (h : p) (f : p → q := by intro h_; repeat (first | exact h_ | (with_reducible refine Kd.C_alloc ?_ _) | (with_reducible refine Kd.C_drewN ?_ _) | (with_reducible refine Kd.C_drew ?_))) : q := f h
theorem xsame {o : Option Value} {A B : Option Addr} {n m c d : Nat} (h : o = some (.slice A n c)) (h' : o = some (.slice B m d)) : A = B ∧ c = d := by
  rw [h] at h'
  injection h' with h'
  injection h' with h1 _ h3
  exact ⟨h1, h3⟩
theorem xne {α : Type} {d : Kd α} {e : Nat} {W : World} {base : Nat} {ok : Nat → Prop} {v : Value} {xs : List α} (u : Value) (h : Kd.R d e W base ok v xs) (hu : ∀ k, u.ownBlock = some k → some k ≠ v.ownBlock) (hE : d.E = [] := by rfl) : Kd.R d e W base (fun k => ok k ∧ some k ≠ u.ownBlock) v xs := Kd.R_mono (Kd.R_tight2 hE h) (fun k hk => ⟨hk.2, fun e_ => hu k e_.symm hk.1⟩)
theorem info3 : (Try.prog.info? 3).map (fun i => (i.zero, i.size, i.bytes)) = some (some (.int .i64 0), 1, 8) := by kernel_rfl
theorem info22 : (Try.prog.info? 22).map (fun i => (i.zero, i.size, i.bytes)) = some (some (.slice none 0 0), 1, 24) := by kernel_rfl
/-! ### Two rows of rows, of which one was made later: told apart in depth. -/
def dmI (N k : Nat) : Nat := if N ≤ k then k + 1 else k
def dmO (N k : Nat) : Nat := if N ≤ k then k else k + 1
theorem dmNo {N k : Nat} (h1 : k ≠ dmI N k) (h2 : k ≠ dmO N k) : False := by
  unfold dmI at h1
  unfold dmO at h2
  split at h1 <;> simp_all
theorem dmI_of {N k : Nat} (h : N ≤ k) : k ≠ dmI N k := by unfold dmI; rw [if_pos h]; omega
theorem dmO_of {N k : Nat} (h : k < N) : k ≠ dmO N k := by unfold dmO; rw [if_neg (by omega)]; omega
section
variable {α β : Type} {d : Kd α} {e base N : Nat} {ok : Nat → Prop} {W w1 : World} {u v : Value} {xs : List α}
theorem Kd.deep0 (h : Kd.S d e w1 W.heap.size ok v xs) : ∃ N, Kd.S d e w1 W.heap.size (fun k => k ≠ dmI N k) v xs ∧ N = W.heap.size :=
  ⟨_, Kd.S_mono (Kd.S_bound h) (fun _ hk => dmI_of hk.2.1), rfl⟩
theorem Kd.S_elderD (h : Kd.S d e W base ok u xs) (hN : N = W.heap.size) (hbase : ∀ k, v.ownBlock = some k → W.heap.size ≤ k) (hb : Below W.heap.size W w1) : Kd.S d e w1 base (fun k => (ok k ∧ some k ≠ v.ownBlock) ∧ k ≠ dmO N k) u xs :=
  Kd.S_mono (Kd.S_elder' (Kd.S_bound h) hbase hb) (fun _ hk => ⟨⟨hk.1.1, hk.2⟩, dmO_of (by rw [hN]; exact hk.1.2.2.1)⟩)
end

-- the values' own types
def rd_L1 (xs : List (List Int)) (i : Int) : (List Int) := xs.getD i.toNat ([] : List Int)
theorem at_L1 {w : World} {A : Option Addr} {n : Nat} {xs : List (List Int)} (h : Kd.C (Kd.slice 3 (Kd.int .i64)) w A n xs) (i : Int) (h0 : 0 ≤ i) (h1 : i < n) : ∃ ad A0 c0, A = some ad ∧ w.cell? (ad.add i.toNat) = some (.slice A0 (rd_L1 xs i).length c0) ∧ (rd_L1 xs i).length ≤ c0 ∧ (Kd.int .i64).C w A0 (rd_L1 xs i).length (rd_L1 xs i) := by
  obtain ⟨ad, c, e, _, hK, hc0⟩ := Kd.C_get h ([] : List Int) i h0 h1
  have hc : ∀ j u, c[j]? = some u → w.cell? (ad.add (i.toNat * 1 + j)) = some u := hc0
  obtain ⟨A0, c0, rfl, l0, g0⟩ := hK
  exact ⟨ad, A0, c0, e, by have hq := hc 0 _ rfl; rwa [Nat.mul_one, Nat.add_zero] at hq, l0, g0⟩

end Go.Proofs.Ytnmndjpkfcnaoaa.PFnExactReverseOfHooks
