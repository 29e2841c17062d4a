-- Written by a program of this session (wip/print/xprint.py).
import Derived.Test.YtneipehcmmigeaaProg
import Derived.Below
import Derived.Deep.Draws
import Derived.Deep.AppendLies
import Derived.Maps.AppendAt
import Derived.OwnWalk
import Derived.Laws.BytesArg
import Derived.Laws.MakeOwn
import Derived.Laws.OwnMore
import Derived.Deep.OwnRows
import Derived.Tactics
import Derived.Lib.ConvBytes
import Derived.Laws.Slices
import Derived.WalkKit
import Derived.KernelRfl
import Derived.RowKit3
import Derived.Deep.LoopGhost
import Derived.Deep.QuietTactic
import Derived.BigQuiet
import Derived.WideLaws
import Derived.Deep.DeepCutAuto
import Derived.Deep.CutBlock
import Derived.Deep.RegionHeld3
import Derived.Laws.Rows
import Derived.Lib.AppendStr
import Derived.ArgAppend
import Derived.Laws.IdiomCopy
import Derived.OrdersHeld
import Derived.Laws.BitsLemmas
import Derived.RowKit
import Derived.WalkSpells
import Derived.Lib.SliceRun
import Derived.Test.YtneipehcmmigeaaVFnExactCountTableaux
namespace Go.Proofs.Ytneipehcmmigeaa.PFnExactCountTableaux
open Go.RowKit Go.Proofs.YtneipehcmmigeaaW.PrintWords Go.Proofs.YtneipehcmmigeaaW.PrintLast Go.Proofs.YtneipehcmmigeaaW.PrintMore
attribute [local go_sem] max2_int min2_int max_two min_two max_three min_three max_four min_four
set_option linter.unusedVariables false
set_option linter.unusedSimpArgs false



def errW : Option Int → Value
  | none => .nilIface
  | some c => .iface 0 (.int .i64 c)
theorem errW_none : errW none = .nilIface := rfl
theorem errW_some (c : Int) : errW (some c) = .iface 0 (.int .i64 c) := rfl

theorem xw_own (A : Option Addr) (n c : Nat) : (Value.slice A n c).ownBlock = A.map (fun a => a.block) := by cases A <;> rfl
/-- What is told of a row's block, told less. -/
theorem xi {p q : Nat → Prop} (h : ∀ k, p k → q k := by intro k_ hk_; first | exact hk_ | (simp only [xw_own] at hk_ ⊢; exact hk_) | (first | simp only [xw_own, and_assoc] at hk_ ⊢ | skip); (repeat' apply And.intro) <;> first | exact hk_.1 | exact hk_ | exact hk_.2.1 | exact hk_.2 | exact hk_.2.2.1 | exact hk_.2.2 | exact hk_.2.2.2.1 | exact hk_.2.2.2 | exact hk_.2.2.2.2.1 | exact hk_.2.2.2.2 | exact hk_.2.2.2.2.2.1 | exact hk_.2.2.2.2.2 | exact hk_.2.2.2.2.2.2.1 | exact hk_.2.2.2.2.2.2 | exact hk_.2.2.2.2.2.2.2.1 | exact hk_.2.2.2.2.2.2.2 | exact hk_.2.2.2.2.2.2.2.2.1 | exact hk_.2.2.2.2.2.2.2.2) : ∀ k, p k → q k := h
/-- A fact, carried over to the world of here. -/
theorem xR {p q : Prop} (h : p) (f : p → q := by intro h_; (with_reducible repeat (first | apply Kd.R_alloc | apply Kd.R_drewN | apply Kd.R_drew)); first | exact h_ | exact Kd.R_mono h_ xi) : q := f h
/-- A fact, carried over to the world of here. -/
theorem xS {p q : Prop} (h : p) (f : p → q := by intro h_; (with_reducible repeat (first | apply Kd.S_alloc | apply Kd.S_drewN | apply Kd.S_drew)); first | exact h_ | exact Kd.S_mono h_ xi) : q := f h
/-- A fact, carried over to the world of here. -/
theorem xN {p q : Prop} (h : p) (f : p → q := by intro h_; (with_reducible repeat (first | apply Kd.N_alloc | apply Kd.N_drewN | apply Kd.N_drew)); first | exact h_ | exact Kd.N_mono h_ xi) : q := f h
/-- A fact, carried over to the world of here. -/
theorem xQ {p q : Prop} (h : p) (f : p → q := by intro h_; (with_reducible repeat (first | apply Kd.Q_alloc | apply Kd.Q_drewN | apply Kd.Q_drew)); first | exact h_ | exact Kd.Q_mono h_ xi) : q := f h
/-- A fact, carried over to the world of here. -/
theorem xV {p q : Prop} (h : p) (f : p → q := by intro h_; (with_reducible repeat (first | apply Kd.V_alloc | apply Kd.V_drewN | apply Kd.V_drew)); first | exact h_ | exact Kd.V_mono h_ xi) : q := f h
theorem xb {p q : Prop} (h : p) (f : p → q := by intro h_; repeat (first | (with_reducible first | exact h_ | apply below_alloc | apply pw_below_drewN | apply below_drew1) | exact h_)) : q := f h
theorem xm {p : Prop} (h : p := by (try simp only [List.map_toArray, List.map_cons, List.map_nil]); first | done | rfl | (simp only [List.length_drop, List.length_take]; rfl)) : p := h
theorem xc {p q : Prop} (h : p) (f : p → q := by intro h_; repeat (first | exact h_ | (with_reducible refine Kd.C_alloc ?_ _) | (with_reducible refine Kd.C_drewN ?_ _) | (with_reducible refine Kd.C_drew ?_))) : q := f h
theorem xsame {o : Option Value} {A B : Option Addr} {n m c d : Nat} (h : o = some (.slice A n c)) (h' : o = some (.slice B m d)) : A = B ∧ c = d := by
  rw [h] at h'
  injection h' with h'
  injection h' with h1 _ h3
  exact ⟨h1, h3⟩
theorem xne {α : Type} {d : Kd α} {e : Nat} {W : World} {base : Nat} {ok : Nat → Prop} {v : Value} {xs : List α} (u : Value) (h : Kd.R d e W base ok v xs) (hu : ∀ k, u.ownBlock = some k → some k ≠ v.ownBlock) (hE : d.E = [] := by rfl) : Kd.R d e W base (fun k => ok k ∧ some k ≠ u.ownBlock) v xs := Kd.R_mono (Kd.R_tight2 hE h) (fun k hk => ⟨hk.2, fun e_ => hu k e_.symm hk.1⟩)
theorem info3 : (Try.prog.info? 3).map (fun i => (i.zero, i.size, i.bytes)) = some (some (.int .i64 0), 1, 8) := by kernel_rfl
theorem info35 : (Try.prog.info? 35).map (fun i => (i.zero, i.size, i.bytes)) = some (some (.slice none 0 0), 1, 24) := by kernel_rfl
theorem info48 : (Try.prog.info? 48).map (fun i => (i.zero, i.size, i.bytes)) = some (some (.agg #[(.slice none 0 0), (.int .i64 0)]), 2, 32) := by kernel_rfl
/-! ### A call of a function value in a region, and clear of a row of one's own behind a place (elements of two cells). -/
theorem goesD_ {P : Program} {ops : Array Oper} {Q : Exit → Act → World → Prop} {oi : Oper} {N : Option Tmp} {a : Act} {w : World} {K : Act → World → Prop} {f : FuncId} {fn : Func} {as_ : Array Operand} {ts : Array TypeId} {x : Operand} (hf : P.funcs[f]? = some fn) (hname : (fn.name == "runtime.NumGoroutine") = false) (hb : fn.body.isSome = true) (args : Array Value)
    (hw : Region.wanted oi (yielded ops a.tmps) = true) (hN : oi.dst = N) (hop : oi.op = .call { callee := .value x, args := as_, argTypes := ts }) (hx : a.eval x = .func (.func f) #[] #[]) (hargs : as_.map a.eval = args)
    (h : Calls P f args w fun e w' => ∃ v, e = .returned v ∧ K (a.put N v) w') : if Region.wanted oi (yielded ops a.tmps) = true then Oper.wp P oi a w K Q else K (a.put N undef) w := by
  refine call_ f args hw hN ?_ h
  have he := enters_ hf hname hb args w
  unfold execOp
  simp [hop, resolve, Deferred.ofValue, invoke, hx, hargs, he]
def zs {α : Type} (z : α) : Nat → Nat → List α → List α
  | 0, _, xs => xs
  | k + 1, i, xs => zs z k (i + 1) (xs.set i z)
theorem zs_length {α : Type} (z : α) : ∀ (k i : Nat) (xs : List α), (zs z k i xs).length = xs.length
  | 0, _, _ => rfl
  | k + 1, i, xs => by rw [zs, zs_length z k (i + 1), List.length_set]
theorem zs_take {α : Type} (z : α) : ∀ (k i m : Nat) (xs : List α), m ≤ i → (zs z k i xs).take m = xs.take m
  | 0, _, _, _, _ => rfl
  | k + 1, i, m, xs, h => by rw [zs, zs_take z k (i + 1) m _ (by omega), List.take_set_of_le h]
def zcells (c0 c1 : Value) : Nat → List Value
  | 0 => []
  | k + 1 => c0 :: c1 :: zcells c0 c1 k
theorem zcells_len (c0 c1 : Value) : ∀ k, (zcells c0 c1 k).length = k * 2
  | 0 => rfl
  | k + 1 => by simp only [zcells, List.length_cons, zcells_len c0 c1 k]; omega
theorem zcells_get (c0 c1 : Value) : ∀ (k j : Nat), j < k * 2 → (zcells c0 c1 k)[j]? = some (if j % 2 = 0 then c0 else c1)
  | 0, _, h => by omega
  | k + 1, 0, _ => rfl
  | k + 1, 1, _ => rfl
  | k + 1, j + 2, h => by
    have := zcells_get c0 c1 k j (by omega)
    simp only [zcells, List.getElem?_cons_succ, this]
    congr 1
    rw [show (j + 2) % 2 = j % 2 by omega]
theorem zcells_eq (c0 c1 : Value) (k : Nat) : (Builtin.zeroCells #[c0, c1] k).toList = zcells c0 c1 k := by
  apply List.ext_getElem?
  intro j
  by_cases h : j < k * 2
  · rw [zcells_get c0 c1 k j h]
    have h2 : j < k * #[c0, c1].size := h
    simp only [Builtin.zeroCells, Array.toList_map, Array.toList_range, List.getElem?_map, List.getElem?_range h2, Option.map_some]
    congr 1
    by_cases hj : j % 2 = 0
    · rw [if_pos hj]
      show #[c0, c1][j % 2]! = c0
      rw [hj]; rfl
    · rw [if_neg hj]
      show #[c0, c1][j % 2]! = c1
      rw [show j % 2 = 1 by omega]; rfl
  · rw [List.getElem?_eq_none (by simp [Builtin.zeroCells]; omega), List.getElem?_eq_none (by rw [zcells_len]; omega)]
theorem N_zeros {α : Type} {d : Kd α} {e base g n cap : Nat} {ok : Nat → Prop} {z : α} {c0 c1 : Value} (hsz : d.sz = 2) (hz : ∀ W ok, Kd.FK d W ok z [c0, c1]) : ∀ (k i : Nat) (W : World) (xs : List α), Kd.N d e W base ok (.slice (some ⟨g, 0, none⟩) n cap) xs → i + k ≤ n →
    Kd.N d e (W.setCells g (i * 2) (zcells c0 c1 k)) base ok (.slice (some ⟨g, 0, none⟩) n cap) (zs z k i xs) ∧ W.grownBy (W.setCells g (i * 2) (zcells c0 c1 k)) (some g)
  | 0, _, W, _, h, _ => ⟨h, World.grownBy.refl W (some g)⟩
  | k + 1, i, W, xs, h, hn => by
    obtain ⟨c, hcl, hM, hcc, _⟩ := Kd.N_elem h z (i : Int) (by omega) (by omega)
    have h1 := Kd.N_seg h (i : Int) (by omega) (by omega) (seg := [c0, c1]) (j := 0) hcl hcc (by rw [hsz]; exact Nat.le_refl 2) (x' := z) (okp := fun _ => False) (by
      have e : c.take 0 ++ [c0, c1] ++ c.drop (0 + [c0, c1].length) = [c0, c1] := by
        rw [List.take_zero, List.nil_append, List.drop_of_length_le (by rw [hcl, hsz]; exact Nat.le_refl 2), List.append_nil]
      rw [e]; exact hz W _) (fun _ hk => hk.elim)
    rw [hsz, Int.toNat_natCast, Nat.add_zero] at h1
    have ih := N_zeros hsz hz k (i + 1) _ _ h1.1 (by omega)
    have e2 : W.setCells g (i * 2) (zcells c0 c1 (k + 1)) = (W.setCells g (i * 2) [c0, c1]).setCells g ((i + 1) * 2) (zcells c0 c1 k) := by
      rw [show (i + 1) * 2 = i * 2 + 1 + 1 by omega]
      rfl
    rw [e2]
    exact ⟨ih.1, World.grownBy.trans h1.2 ih.2⟩
theorem clear_event {P : Program} {ops : Array Oper} {rest : List Oper} {o : Oper} {a : Act} {Q : Exit → Act → World → Prop} {W w0 : World} {α : Type} (d : Kd α) (hgd : o.guard = none) (ta : Operand) (T e : TypeId) (ho : o.op = .call { callee := .builtin .clear, args := #[ta], argTypes := #[T] })
    (hu : P.underlying T = some (.slice e)) (z : α) (c0 c1 : Value) (hv : ∀ w, (zeroValue e).run P w = .ok (.agg #[c0, c1]) w) (hcells : (Value.agg #[c0, c1]).cells = #[c0, c1]) (ho0 : c0.oneCell' = true) (ho1 : c1.oneCell' = true) (hsz : d.sz = 2) (hz : ∀ W ok, Kd.FK d W ok z [c0, c1])
    {xs : List α} {A : Option Addr} {cap base m : Nat} {ok : Nat → Prop} (hm : m ≤ xs.length) {A' : Option Addr} {n' c' : Nat} (hA : A' = (if cap = m then A else A.map (·.add (m * 2)))) (hn' : n' = xs.length - m) (hs : a.eval ta = .slice A' n' c')
    (hN : Kd.N d e W base ok (.slice A xs.length cap) xs) (HB : Below base w0 W) (hB : base ≤ W.heap.size)
    (h : ∀ w' ys, Kd.N d e w' base ok (.slice A xs.length cap) ys → ys.length = xs.length → ys.take m = xs.take m → W.grownBy w' (Value.slice A xs.length cap).ownBlock → Below base w0 w' → wpList P ops Q rest (a.put o.dst (.tuple #[])) w') : wpList P ops Q (o :: rest) a W := by
  by_cases h0 : m < xs.length
  · obtain ⟨g, cap', he, hbg, hgl, cells, hcells'⟩ := Kd.N_form hN (by omega)
    injection he with hAg _ hcap
    rw [hA, hn'] at hs
    clear hA hn'
    subst hAg
    subst hcap
    have hcn := (Kd.N_reads' hN).2.1
    rw [if_neg (by omega)] at hs
    have ha : (Option.map (fun x : Addr => x.add (m * 2)) (some (⟨g, 0, none⟩ : Addr))) = some ⟨g, m * 2, none⟩ := by
      simp [Addr.add]
      try exact fun h => h.symm
    have hs2 : a.eval ta = .slice (some ⟨g, m * 2, none⟩) (xs.length - m) c' := by rw [hs]; congr 1
    have hp := N_zeros (c0 := c0) (c1 := c1) hsz hz (xs.length - m) m W xs hN (by omega)
    have hcell : ∀ j, j < (xs.length - m) * 2 → (∃ u, W.cell? ⟨g, m * 2 + j, none⟩ = some u) ∧ W.frozen? ⟨g, m * 2 + j, none⟩ = false := by
      intro j hj
      obtain ⟨c, hcl, _, hcc, hfr⟩ := Kd.N_elem hN z ((m + j / 2 : Nat) : Int) (by omega) (by omega)
      have e1 : ((m + j / 2 : Nat) : Int).toNat * d.sz + j % 2 = m * 2 + j := by rw [Int.toNat_natCast, hsz]; omega
      have hf := hfr (j % 2)
      rw [e1] at hf
      have hc2 : j % 2 < c.length := by rw [hcl, hsz]; omega
      have hc := hcc (j % 2) (c[j % 2]) (List.getElem?_eq_getElem hc2)
      rw [e1] at hc
      exact ⟨⟨_, hc⟩, hf⟩
    have hst := run_storeCells_cells (P := P) g (m * 2) (zcells c0 c1 (xs.length - m)) 0 W (fun j hj => by
      rw [zcells_len] at hj
      obtain ⟨u, hu⟩ := (hcell j hj).1
      rw [Nat.add_zero, hu]; rfl) (fun j hj => by
      rw [zcells_len] at hj
      rw [Nat.add_zero]; exact (hcell j hj).2) (fun v hv => by
      obtain ⟨j, hj⟩ := List.getElem?_of_mem hv
      have hjl := (List.getElem?_eq_some_iff.1 hj).1
      rw [zcells_len] at hjl
      rw [zcells_get _ _ _ _ hjl] at hj
      injection hj with hj
      rw [← hj]
      split
      · exact ho0
      · exact ho1)
    rw [Nat.add_zero] at hst
    have h2 := h _ _ hp.1 (zs_length _ _ _ _) (zs_take _ _ _ _ _ (Nat.le_refl _)) (by simpa [Value.ownBlock] using hp.2) (HB.grown hp.2 hB (fun k hk => by
      have : g = k := Option.some.inj hk
      omega))
    obtain ⟨q, hq⟩ : ∃ q, xs.length - m = q + 1 := ⟨xs.length - m - 1, by omega⟩
    refine wpList_plain hgd fun K hK => ?_
    unfold Oper.wp
    rw [hq] at hs2 hst h2
    simp only [execOp, ho, resolve, invoke, builtin]
    simp [hs2, Builtin.clear_, run_underlying hu, hv, hcells, zcells_eq, hst, Result.andThen]
    exact hK _ _ h2
  · have hn0 : xs.length - m = 0 := by omega
    have h2 := h W xs hN rfl rfl (World.grownBy.refl W _) HB
    rw [hn', hn0] at hs
    clear hA hn'
    refine wpList_plain hgd fun K hK => ?_
    unfold Oper.wp
    simp only [execOp, ho, resolve, invoke, builtin]
    cases A' with
    | none =>
      simp [hs, Builtin.clear_, run_underlying hu, Result.andThen]
      exact hK _ _ h2
    | some a' =>
      simp [hs, Builtin.clear_, run_underlying hu, Result.andThen]
      exact hK _ _ h2
theorem zero_of {P : Program} {e : TypeId} {z : Value} {sz b : Nat} (h : (P.info? e).map (fun i => (i.zero, i.size, i.bytes)) = some (some z, sz, b)) : ∀ w, (zeroValue e).run P w = .ok z w := by
  intro w
  obtain ⟨i, hi, hz, _, _⟩ := info_parts h
  simp [zeroValue, typeInfo, hi, hz]
theorem xown_z {A : Option Addr} {n c m c' k : Nat} {S : Nat → Prop} (h : ∀ k, (Value.slice A n c).ownBlock = some k → S k) (e : (Value.slice A m c').ownBlock = some k) : S k := h k (by
  cases A with
  | none => simp [Value.ownBlock] at e
  | some a => simpa [Value.ownBlock] using e)

-- the values' own types
def rd_L1 (xs : List (List Int)) (i : Int) : (List Int) := xs.getD i.toNat ([] : List Int)
theorem at_L1 {w : World} {A : Option Addr} {n : Nat} {xs : List (List Int)} (h : Kd.C (Kd.slice 3 (Kd.int .i64)) w A n xs) (i : Int) (h0 : 0 ≤ i) (h1 : i < n) : ∃ ad A0 c0, A = some ad ∧ w.cell? (ad.add i.toNat) = some (.slice A0 (rd_L1 xs i).length c0) ∧ (rd_L1 xs i).length ≤ c0 ∧ (Kd.int .i64).C w A0 (rd_L1 xs i).length (rd_L1 xs i) := by
  obtain ⟨ad, c, e, _, hK, hc0⟩ := Kd.C_get h ([] : List Int) i h0 h1
  have hc : ∀ j u, c[j]? = some u → w.cell? (ad.add (i.toNat * 1 + j)) = some u := hc0
  obtain ⟨A0, c0, rfl, l0, g0⟩ := hK
  exact ⟨ad, A0, c0, e, by have hq := hc 0 _ rfl; rwa [Nat.mul_one, Nat.add_zero] at hq, l0, g0⟩

/-! #### struct type 48 -/
structure S48 where
  f0 : (List Int)
  f1 : Int
def z48 : S48 := ⟨([] : List Int), (0 : Int)⟩
def k48 : Kd S48 := Kd.iso (Kd.pair (Kd.slice 3 (Kd.int .i64)) (Kd.int .i64)) (fun x : S48 => (x.f0, x.f1))
theorem k48_heap : Kd.Heap k48 := Kd.heap_iso _ (Kd.heap_pair (Kd.heap_slice 3 (Kd.heap_int .i64)) (Kd.heap_int .i64))
theorem k48_open {w : World} {x : S48} {cs : List Value} (h : k48.K w x cs) : ∃ A0 c0, cs = [.slice A0 x.f0.length c0, .int .i64 x.f1] ∧ x.f0.length ≤ c0 ∧ (Kd.int .i64).C w A0 x.f0.length x.f0 := by
  obtain ⟨_, _, rfl, ⟨A0, c0, rfl, l0, g0⟩, rfl⟩ := h
  exact ⟨A0, c0, rfl, l0, g0⟩
theorem k48_openM {w : World} {base : Nat} {ok : Nat → Prop} {x : S48} {cs : List Value} (h : k48.M w base ok x cs) : ∃ v0, cs = [v0, .int .i64 x.f1] ∧ (Kd.int .i64).R 3 w base ok v0 x.f0 := by
  obtain ⟨_, _, rfl, ⟨v0, rfl, g0⟩, rfl⟩ := h
  exact ⟨v0, rfl, g0⟩
theorem k48_mk (w : World) (x : S48) {A0 : Option Addr} {c0 : Nat} (l0 : x.f0.length ≤ c0) (g0 : (Kd.int .i64).C w A0 x.f0.length x.f0) : k48.K w x [.slice A0 x.f0.length c0, .int .i64 x.f1] := ⟨[.slice A0 x.f0.length c0], [.int .i64 x.f1], rfl, ⟨A0, c0, rfl, l0, g0⟩, rfl⟩
theorem k48_mkM (w : World) (base : Nat) (ok : Nat → Prop) (x : S48) {v0 : Value} (g0 : (Kd.int .i64).R 3 w base ok v0 x.f0) : k48.M w base ok x [v0, .int .i64 x.f1] := ⟨[v0], [.int .i64 x.f1], rfl, ⟨v0, rfl, g0⟩, rfl⟩
theorem k48_openF {W : World} {ok : Nat → Prop} {x : S48} {cs : List Value} (h : Kd.FK k48 W ok x cs) : ∃ A0 c0, cs = [.slice A0 x.f0.length c0, .int .i64 x.f1] ∧ x.f0.length ≤ c0 ∧ Kd.F (Kd.int .i64) W ok A0 x.f0.length x.f0 := by
  obtain ⟨A0, c0, rfl, l0, _⟩ := k48_open (Kd.FK_now h)
  exact ⟨A0, c0, rfl, l0, (fun W' hW => by obtain ⟨A0_, c0_, he, l0_, g0_⟩ := k48_open (h W' hW); injection (Option.some.inj (show some (Value.slice A0 x.f0.length c0) = some (Value.slice A0_ x.f0.length c0_) from congrArg (fun l => l[0]?) he)) with ha_ _ _; rw [ha_]; exact g0_)⟩
theorem k48_mkF (W : World) (ok : Nat → Prop) (x : S48) {A0 : Option Addr} {c0 : Nat} (l0 : x.f0.length ≤ c0) (g0 : Kd.F (Kd.int .i64) W ok A0 x.f0.length x.f0) : Kd.FK k48 W ok x [.slice A0 x.f0.length c0, .int .i64 x.f1] := fun W2 hW => k48_mk W2 x l0 (g0 W2 hW)
def rd_T48 (xs : List S48) (i : Int) : S48 := xs.getD i.toNat z48
theorem at_T48 {w : World} {A : Option Addr} {n : Nat} {xs : List S48} (h : Kd.C k48 w A n xs) (i : Int) (h0 : 0 ≤ i) (h1 : i < n) : ∃ ad A0 c0, A = some ad ∧ w.cell? (ad.add (i.toNat * 2)) = some (.slice A0 (rd_T48 xs i).f0.length c0) ∧ w.cell? ⟨(ad.add (i.toNat * 2)).block, (ad.add (i.toNat * 2)).off + 1, none⟩ = some (.int .i64 (rd_T48 xs i).f1) ∧ (rd_T48 xs i).f0.length ≤ c0 ∧ (Kd.int .i64).C w A0 (rd_T48 xs i).f0.length (rd_T48 xs i).f0 := by
  obtain ⟨ad, c, e, _, hK, hc0⟩ := Kd.C_get h z48 i h0 h1
  have hc : ∀ j u, c[j]? = some u → w.cell? (ad.add (i.toNat * 2 + j)) = some u := hc0
  obtain ⟨A0, c0, rfl, l0, g0⟩ := k48_open hK
  exact ⟨ad, A0, c0, e, hc 0 _ rfl, by rw [← add_field _ _ 1 (by omega)]; exact hc 1 _ rfl, l0, g0⟩

/-- The operations that are done, as bits. -/
def xB (n m : Nat) : Array Bool := ((List.range n).map fun i => m.testBit i).toArray
theorem xr {p : Prop} (h : p := by first | rfl | (simp; done) | (simp [*]; done)) : p := h
theorem xe {p : Prop} (h : p := by first | rfl | (simp [errW_none, errW_some] <;> rfl) | (simp [*, errW_none, errW_some] <;> rfl)) : p := h
theorem xd {p : Prop} [Decidable p] (h : decide p = true := by first | (with_reducible assumption) | assumption) : p := of_decide_eq_true h
theorem xk {p q : Prop} (h : p) (f : p → q := by intro h_; (with_reducible repeat (first | refine blk_drewN ?_ _ | refine blk_drew ?_ | refine blk_alloc ?_ _)); exact h_) : q := f h
theorem xs {p q g : Prop} (h : p) (e : g) (f : p → g → q := by intro h_ e_; repeat (first | (with_reducible first | exact h_ | apply below_alloc | apply pw_below_drewN | apply below_drew1 | refine below_set ?_ e_) | exact h_)) : q := f h e
theorem xw {p q : Prop} (h : p) (f : p → q := by intro h_; repeat (first | (with_reducible exact h_) | (with_reducible refine Kd.C_alloc ?_ _) | (with_reducible refine Kd.C_drewN ?_ _) | (with_reducible refine Kd.C_drew ?_) | exact h_)) : q := f h
theorem xz {p b q : Prop} (h : p) (e : b) (f : p → b → q := by intro h_ e_; first | exact xc (Kd.C_below h_ e_) | exact xc h_) : q := f h e
theorem ax {p : Prop} (h : p) : Aside0 p := ⟨h⟩
theorem xI {α β : Type} {x : Option α} {g : α → Option β} {r : β} (H : x.bind g = some r) : ∃ t, Aside0 (x = some t) ∧ g t = some r := by
  obtain ⟨t, h1, h2⟩ := Option.bind_eq_some_iff.mp H
  exact ⟨t, ⟨h1⟩, h2⟩
theorem xg {α β : Type} {x : α} {g : α → Option β} {r : β} (H : (some x).bind g = some r) : ∃ y, Aside0 (y = x) ∧ g y = some r := ⟨x, ⟨rfl⟩, H⟩
theorem xy {α : Type} (x : α) : ∃ y, Aside0 (y = x) := ⟨x, ⟨rfl⟩⟩
theorem xp {α : Type} {c : Prop} [Decidable c] {a : Option α} {r : α} (H : (if c then a else none) = some r) : c ∧ a = some r := by
  split at H
  · exact ⟨‹_›, H⟩
  · cases H
theorem xq {α : Type} {c : Prop} [Decidable c] {a : Option α} {r : α} (H : (if c then a else none) = some r) : decide c = true ∧ a = some r := by
  split at H
  · exact ⟨decide_eq_true ‹_›, H⟩
  · cases H
theorem xv {α : Type} {y x : α} {p q : Prop} (hy : y = x) (H : p) (f : y = x → p → q := by intro hy_ H_; first | (rw [hy_]; with_reducible exact H_) | (have H2_ := (Option.bind_some _ _).symm.trans H_; rw [hy_]; with_reducible exact H2_) | (have H2_ := (Option.bind_some _ _).symm.trans H_; with_reducible exact H2_) | with_reducible exact H_ | (rw [hy_]; exact H_) | exact H_) : q := f hy H
theorem xh {p q : Prop} (h : p) (f : p → q := by intro h_; repeat (first | (with_reducible first | exact h_ | apply KeepBut.set_ | apply keep_drewN | apply keep_drew | apply keep_alloc) | exact h_)) : q := f h
theorem yR {α : Type} {d : Kd α} {e base : Nat} {ok : Nat → Prop} {W w1 : World} {v : Value} {xs : List α} {p : Prop} (h : Aside0 p) (hb : Below W.heap.size W w1) (f : p → Kd.R d e W base ok v xs := by intro h_; exact xR h_) : Aside0 (Kd.R d e w1 base ok v xs) := ⟨Kd.R_below (f h.out) hb⟩
theorem yV {α : Type} {d : Kd α} {e base : Nat} {ok : Nat → Prop} {W w1 : World} {v : Value} {xs : List α} {p : Prop} (h : Aside0 p) (hb : Below W.heap.size W w1) (f : p → Kd.V d e W base ok v xs := by intro h_; exact xV h_) : Aside0 (Kd.V d e w1 base ok v xs) := ⟨Kd.V_below (f h.out) hb⟩
theorem yB {B : Nat} {w0 W w1 : World} {p : Prop} (h : Aside0 p) (hb : Below W.heap.size W w1) (f : p → Below B w0 W := by intro h_; exact xb h_) (g : Below B w0 W → Below W.heap.size W w1 → Below B w0 w1 := by exact below_step) : Aside0 (Below B w0 w1) := ⟨g (f h.out) hb⟩
theorem xl {p : Prop} (h : p := by with_reducible first | exact LeO.refl _ | exact LeO.none _) : p := h
section
variable {P : Program} {ops : Array Oper} {Q : Exit → Act → World → Prop} {md : Region.Mode} {S : World → Prop} {ds : List Nat} {T : Bool × List (List Nat × List Nat)}
theorem nm {fuel : Nat} {l : Array Bool} {a a' : Act} {w : World} (h : wpAnyLast P md ops Q S ds fuel l a' w) (ha : a = a' := by (show Act.put _ (some _) _ = _); simp only [Act.put, List.setIfInBounds_toArray, List.set_cons_zero, List.set_cons_succ, i64_w, i32_w]; rfl) : wpAnyLast P md ops Q S ds fuel l a w := norm_ ha h
theorem pu {i : Nat} {N : Option Tmp} {oi : Oper} {v : Value} {fuel : Nat} {l : Array Bool} {a : Act} {w : World} (l' : Array Bool) (hT : rtab md ops = T) {a' : Act} (h : wpAnyLast P md ops Q S ds fuel l' a' w) (hi : ops[i]? = some oi := by exact rfl) (hN : oi.dst = N := by exact rfl) (hc : anyT T l.toList l'.toList i = true := by kernel_rfl) (hQ : ∀ c a w, Q (.panic c) (a.put oi.dst v) w → Q (.panic c) a w := by exact fun _ _ _ h => h) (hw : Region.wanted oi (yielded ops a.tmps) = true := by rfl) (hy : ∀ w, (execOp a.eval oi).run P w = .ok (.value v) w := by intro w'; go_simp; with_reducible rfl) (ha : a.put N v = a' := by simp only [Act.put, List.setIfInBounds_toArray, List.set_cons_zero, List.set_cons_succ, i64_w, i32_w]; rfl) : wpAnyLast P md ops Q S ds (fuel + 1) l a w := pure_ l' hi hN (any_of hT hc) hQ (Or.inl ⟨hw, hy⟩) ha h
theorem pn {i : Nat} {N : Option Tmp} {oi : Oper} {fuel : Nat} {l : Array Bool} {a : Act} {w : World} (l' : Array Bool) (hT : rtab md ops = T) {a' : Act} (h : wpAnyLast P md ops Q S ds fuel l' a' w) (hi : ops[i]? = some oi := by exact rfl) (hN : oi.dst = N := by exact rfl) (hc : anyT T l.toList l'.toList i = true := by kernel_rfl) (hQ : ∀ c a w, Q (.panic c) (a.put oi.dst undef) w → Q (.panic c) a w := by exact fun _ _ _ h => h) (hw : Region.wanted oi (yielded ops a.tmps) = false := by rfl) (ha : a.put N undef = a' := by simp only [Act.put, List.setIfInBounds_toArray, List.set_cons_zero, List.set_cons_succ, i64_w, i32_w]; rfl) : wpAnyLast P md ops Q S ds (fuel + 1) l a w := pure_ l' hi hN (any_of hT hc) hQ (Or.inr ⟨hw, rfl⟩) ha h
theorem tk {B : List Nat} {i : Nat} {N : Option Tmp} {oi : Oper} {v : Value} {fuel : Nat} {l : Array Bool} {a : Act} {w : World} (l' : Array Bool) (hT : rtab md ops = T) (hB : waitsOk T.2 B = true) (hS : S w) {a' : Act} (h : wpAnyLast P md ops Q S ds fuel l' a' w) (hi : ops[i]? = some oi := by exact rfl) (hN : oi.dst = N := by exact rfl) (hc : takeW T B ds l.toList l'.toList i = true := by kernel_rfl) (hQ : ∀ c a w, Q (.panic c) (a.put oi.dst v) w → Q (.panic c) a w := by exact fun _ _ _ h => h) (hw : Region.wanted oi (yielded ops a.tmps) = true := by rfl) (hy : ∀ w, S w → (execOp a.eval oi).run P w = .ok (.value v) w := by intro w' s_; (repeat (have s1_ := And.left s_; replace s_ := And.right s_)); go_simp; with_reducible rfl) (ha : a.put N v = a' := by simp only [Act.put, List.setIfInBounds_toArray, List.set_cons_zero, List.set_cons_succ, i64_w, i32_w]; rfl) : wpAnyLast P md ops Q S ds (fuel + 1) l a w := take_ l' hi hN (take_ofW hT hB hc) hQ (Or.inl ⟨hw, hy⟩) hS ha h
end
end Go.Proofs.Ytneipehcmmigeaa.PFnExactCountTableaux
