-- Written by a program of this session (wip/print/xprint.py).
import Derived.Test.YtdjohgfelmkooaaProg
import Derived.Below
import Derived.Deep.Draws
import Derived.Deep.AppendLies
import Derived.Maps.AppendAt
import Derived.OwnWalk
import Derived.Laws.BytesArg
import Derived.Laws.MakeOwn
import Derived.Laws.OwnMore
import Derived.Deep.OwnRows
import Derived.Tactics
import Derived.Lib.ConvBytes
import Derived.Laws.Slices
import Derived.WalkKit
import Derived.KernelRfl
import Derived.RowKit3
import Derived.Deep.LoopGhost
import Derived.Deep.QuietTactic
import Derived.BigQuiet
import Derived.WideLaws
import Derived.Deep.DeepCutAuto
import Derived.Deep.CutBlock
import Derived.Deep.RegionHeld3
import Derived.Laws.Rows
import Derived.Lib.AppendStr
import Derived.ArgAppend
import Derived.Laws.IdiomCopy
import Derived.OrdersHeld
import Derived.Laws.BitsLemmas
import Derived.RowKit
import Derived.WalkSpells
import Derived.Lib.SliceRun
import Derived.Test.YtdjohgfelmkooaaWWords
import Derived.Test.YtdjohgfelmkooaaWLast
import Derived.Test.YtdjohgfelmkooaaWTab
import Derived.Test.YtdjohgfelmkooaaWFour
import Derived.Test.YtdjohgfelmkooaaWQPut
import Derived.Test.YtdjohgfelmkooaaWApart
import Derived.Test.YtdjohgfelmkooaaWArr
import Derived.Test.YtdjohgfelmkooaaWZeros
import Derived.Test.YtdjohgfelmkooaaWFoot
import Derived.Test.YtdjohgfelmkooaaWKept
import Derived.Test.YtdjohgfelmkooaaWShare
import Derived.Test.YtdjohgfelmkooaaWN
import Derived.Test.YtdjohgfelmkooaaWFootNe
import Derived.Test.YtdjohgfelmkooaaWAt
import Derived.Test.YtdjohgfelmkooaaWEqStruct
import Derived.Test.YtdjohgfelmkooaaWRepsOne
import Derived.Test.YtdjohgfelmkooaaWInv
import Derived.Test.YtdjohgfelmkooaaWInvWords
import Derived.Test.YtdjohgfelmkooaaWGuard
import Derived.Test.YtdjohgfelmkooaaWNEv
import Derived.Test.YtdjohgfelmkooaaWMore
namespace Go.Proofs.Ytdjohgfelmkooaa.PFnExactCountOscillating
open Go.RowKit Go.Proofs.YtdjohgfelmkooaaW.PrintWords Go.Proofs.YtdjohgfelmkooaaW.PrintLast Go.Proofs.YtdjohgfelmkooaaW.PrintMore
attribute [local go_sem] max2_int min2_int max_two min_two max_three min_three max_four min_four   -- for this text's walks alone
set_option linter.unusedVariables false
set_option linter.unusedSimpArgs false



def errW : Option Int → Value
  | none => .nilIface
  | some c => .iface 0 (.int .i64 c)
theorem errW_none : errW none = .nilIface := rfl
theorem errW_some (c : Int) : errW (some c) = .iface 0 (.int .i64 c) := rfl

theorem xw_own (A : Option Addr) (n c : Nat) : (Value.slice A n c).ownBlock = A.map (fun a => a.block) := by cases A <;> rfl
/-- What is told of a row's block, told less. -/
theorem xi {p q : Nat → Prop} (h : ∀ k, p k → q k := by intro k_ hk_; first | exact hk_ | (simp only [xw_own] at hk_ ⊢; exact hk_) | (first | simp only [xw_own, and_assoc] at hk_ ⊢ | skip); (repeat' apply And.intro) <;> first | exact hk_.1 | exact hk_ | exact hk_.2.1 | exact hk_.2 | exact hk_.2.2.1 | exact hk_.2.2 | exact hk_.2.2.2.1 | exact hk_.2.2.2 | exact hk_.2.2.2.2.1 | exact hk_.2.2.2.2 | exact hk_.2.2.2.2.2.1 | exact hk_.2.2.2.2.2 | exact hk_.2.2.2.2.2.2.1 | exact hk_.2.2.2.2.2.2 | exact hk_.2.2.2.2.2.2.2.1 | exact hk_.2.2.2.2.2.2.2 | exact hk_.2.2.2.2.2.2.2.2.1 | exact hk_.2.2.2.2.2.2.2.2) : ∀ k, p k → q k := h
/-- A fact, carried over to the world of here. -/
theorem xR {p q : Prop} (h : p) (f : p → q := by intro h_; (with_reducible repeat (first | apply Kd.R_alloc | apply Kd.R_drewN | apply Kd.R_drew)); first | exact h_ | exact Kd.R_mono h_ xi) : q := f h
/-- A fact, carried over to the world of here. -/
theorem xS {p q : Prop} (h : p) (f : p → q := by intro h_; (with_reducible repeat (first | apply Kd.S_alloc | apply Kd.S_drewN | apply Kd.S_drew)); first | exact h_ | exact Kd.S_mono h_ xi) : q := f h
/-- A fact, carried over to the world of here. -/
theorem xN {p q : Prop} (h : p) (f : p → q := by intro h_; (with_reducible repeat (first | apply Kd.N_alloc | apply Kd.N_drewN | apply Kd.N_drew)); first | exact h_ | exact Kd.N_mono h_ xi) : q := f h
/-- A fact, carried over to the world of here. -/
theorem xQ {p q : Prop} (h : p) (f : p → q := by intro h_; (with_reducible repeat (first | apply Kd.Q_alloc | apply Kd.Q_drewN | apply Kd.Q_drew)); first | exact h_ | exact Kd.Q_mono h_ xi) : q := f h
/-- A fact, carried over to the world of here. -/
theorem xV {p q : Prop} (h : p) (f : p → q := by intro h_; (with_reducible repeat (first | apply Kd.V_alloc | apply Kd.V_drewN | apply Kd.V_drew)); first | exact h_ | exact Kd.V_mono h_ xi) : q := f h
theorem xb {p q : Prop} (h : p) (f : p → q := by intro h_; repeat (first | (with_reducible first | exact h_ | apply below_alloc | apply pw_below_drewN | apply below_drew1) | exact h_)) : q := f h
theorem xm {p : Prop} (h : p := by (try simp only [List.map_toArray, List.map_cons, List.map_nil]); first | done | rfl | (simp only [List.length_drop, List.length_take]; rfl)) : p := h
theorem xc {p q : Prop} (h : p) (f : p → q := by intro h_; repeat (first | exact h_ | (with_reducible refine Kd.C_alloc ?_ _) | (with_reducible refine Kd.C_drewN ?_ _) | (with_reducible refine Kd.C_drew ?_))) : q := f h
theorem xsame {o : Option Value} {A B : Option Addr} {n m c d : Nat} (h : o = some (.slice A n c)) (h' : o = some (.slice B m d)) : A = B ∧ c = d := by
  rw [h] at h'
  injection h' with h'
  injection h' with h1 _ h3
  exact ⟨h1, h3⟩
theorem info3 : (Try.prog.info? 3).map (fun i => (i.zero, i.size, i.bytes)) = some (some (.int .i64 0), 1, 8) := by kernel_rfl
theorem info71 : (Try.prog.info? 71).map (fun i => (i.zero, i.size, i.bytes)) = some (some (.agg #[(.slice none 0 0), (.int .i64 0)]), 2, 32) := by kernel_rfl
-- the values' own types
def rd_L1 (xs : List (List Int)) (i : Int) : (List Int) := xs.getD i.toNat ([] : List Int)
theorem at_L1 {w : World} {A : Option Addr} {n : Nat} {xs : List (List Int)} (h : Kd.C (Kd.slice 3 (Kd.int .i64)) w A n xs) (i : Int) (h0 : 0 ≤ i) (h1 : i < n) : ∃ ad A0 c0, A = some ad ∧ w.cell? (ad.add i.toNat) = some (.slice A0 (rd_L1 xs i).length c0) ∧ (rd_L1 xs i).length ≤ c0 ∧ (Kd.int .i64).C w A0 (rd_L1 xs i).length (rd_L1 xs i) := by
  obtain ⟨ad, c, e, _, hK, hc0⟩ := Kd.C_get h ([] : List Int) i h0 h1
  have hc : ∀ j u, c[j]? = some u → w.cell? (ad.add (i.toNat * 1 + j)) = some u := hc0
  obtain ⟨A0, c0, rfl, l0, g0⟩ := hK
  exact ⟨ad, A0, c0, e, by have hq := hc 0 _ rfl; rwa [Nat.mul_one, Nat.add_zero] at hq, l0, g0⟩

/-! #### struct type 71 -/
structure S71 where
  f0 : (List Int)
  f1 : Int
def z71 : S71 := ⟨([] : List Int), (0 : Int)⟩
def k71 : Kd S71 := Kd.iso (Kd.pair (Kd.slice 3 (Kd.int .i64)) (Kd.int .i64)) (fun x : S71 => (x.f0, x.f1))
theorem k71_open {w : World} {x : S71} {cs : List Value} (h : k71.K w x cs) : ∃ A0 c0, cs = [.slice A0 x.f0.length c0, .int .i64 x.f1] ∧ x.f0.length ≤ c0 ∧ (Kd.int .i64).C w A0 x.f0.length x.f0 := by
  obtain ⟨_, _, rfl, ⟨A0, c0, rfl, l0, g0⟩, rfl⟩ := h
  exact ⟨A0, c0, rfl, l0, g0⟩
theorem k71_openM {w : World} {base : Nat} {ok : Nat → Prop} {x : S71} {cs : List Value} (h : k71.M w base ok x cs) : ∃ v0, cs = [v0, .int .i64 x.f1] ∧ (Kd.int .i64).R 3 w base ok v0 x.f0 := by
  obtain ⟨_, _, rfl, ⟨v0, rfl, g0⟩, rfl⟩ := h
  exact ⟨v0, rfl, g0⟩
theorem k71_mk (w : World) (x : S71) {A0 : Option Addr} {c0 : Nat} (l0 : x.f0.length ≤ c0) (g0 : (Kd.int .i64).C w A0 x.f0.length x.f0) : k71.K w x [.slice A0 x.f0.length c0, .int .i64 x.f1] := ⟨[.slice A0 x.f0.length c0], [.int .i64 x.f1], rfl, ⟨A0, c0, rfl, l0, g0⟩, rfl⟩
theorem k71_mkM (w : World) (base : Nat) (ok : Nat → Prop) (x : S71) {v0 : Value} (g0 : (Kd.int .i64).R 3 w base ok v0 x.f0) : k71.M w base ok x [v0, .int .i64 x.f1] := ⟨[v0], [.int .i64 x.f1], rfl, ⟨v0, rfl, g0⟩, rfl⟩
theorem k71_openF {W : World} {ok : Nat → Prop} {x : S71} {cs : List Value} (h : Kd.FK k71 W ok x cs) : ∃ A0 c0, cs = [.slice A0 x.f0.length c0, .int .i64 x.f1] ∧ x.f0.length ≤ c0 ∧ Kd.F (Kd.int .i64) W ok A0 x.f0.length x.f0 := by
  obtain ⟨A0, c0, rfl, l0, _⟩ := k71_open (Kd.FK_now h)
  exact ⟨A0, c0, rfl, l0, (fun W' hW => by obtain ⟨A0_, c0_, he, l0_, g0_⟩ := k71_open (h W' hW); injection (Option.some.inj (show some (Value.slice A0 x.f0.length c0) = some (Value.slice A0_ x.f0.length c0_) from congrArg (fun l => l[0]?) he)) with ha_ _ _; rw [ha_]; exact g0_)⟩
theorem k71_mkF (W : World) (ok : Nat → Prop) (x : S71) {A0 : Option Addr} {c0 : Nat} (l0 : x.f0.length ≤ c0) (g0 : Kd.F (Kd.int .i64) W ok A0 x.f0.length x.f0) : Kd.FK k71 W ok x [.slice A0 x.f0.length c0, .int .i64 x.f1] := fun W2 hW => k71_mk W2 x l0 (g0 W2 hW)
def rd_T71 (xs : List S71) (i : Int) : S71 := xs.getD i.toNat z71
theorem at_T71 {w : World} {A : Option Addr} {n : Nat} {xs : List S71} (h : Kd.C k71 w A n xs) (i : Int) (h0 : 0 ≤ i) (h1 : i < n) : ∃ ad A0 c0, A = some ad ∧ w.cell? (ad.add (i.toNat * 2)) = some (.slice A0 (rd_T71 xs i).f0.length c0) ∧ w.cell? ⟨(ad.add (i.toNat * 2)).block, (ad.add (i.toNat * 2)).off + 1, none⟩ = some (.int .i64 (rd_T71 xs i).f1) ∧ (rd_T71 xs i).f0.length ≤ c0 ∧ (Kd.int .i64).C w A0 (rd_T71 xs i).f0.length (rd_T71 xs i).f0 := by
  obtain ⟨ad, c, e, _, hK, hc0⟩ := Kd.C_get h z71 i h0 h1
  have hc : ∀ j u, c[j]? = some u → w.cell? (ad.add (i.toNat * 2 + j)) = some u := hc0
  obtain ⟨A0, c0, rfl, l0, g0⟩ := k71_open hK
  exact ⟨ad, A0, c0, e, hc 0 _ rfl, by rw [← add_field _ _ 1 (by omega)]; exact hc 1 _ rfl, l0, g0⟩

end Go.Proofs.Ytdjohgfelmkooaa.PFnExactCountOscillating
