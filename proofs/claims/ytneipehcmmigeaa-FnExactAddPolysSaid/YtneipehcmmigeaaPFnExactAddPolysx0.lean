-- Written by a program of this session (wip/print/xprint.py).
import Derived.Test.YtneipehcmmigeaaProg
import Derived.Below
import Derived.Deep.Draws
import Derived.Deep.AppendLies
import Derived.Maps.AppendAt
import Derived.OwnWalk
import Derived.Laws.BytesArg
import Derived.Laws.MakeOwn
import Derived.Laws.OwnMore
import Derived.Deep.OwnRows
import Derived.Tactics
import Derived.Lib.ConvBytes
import Derived.Laws.Slices
import Derived.WalkKit
import Derived.KernelRfl
import Derived.RowKit3
import Derived.Deep.LoopGhost
import Derived.Deep.QuietTactic
import Derived.BigQuiet
import Derived.WideLaws
import Derived.Deep.DeepCutAuto
import Derived.Deep.CutBlock
import Derived.Deep.RegionHeld3
import Derived.Laws.Rows
import Derived.Lib.AppendStr
import Derived.ArgAppend
import Derived.Laws.IdiomCopy
import Derived.OrdersHeld
import Derived.Laws.BitsLemmas
import Derived.RowKit
import Derived.WalkSpells
import Derived.Lib.SliceRun
import Derived.Test.YtneipehcmmigeaaVFnExactAddPolys
namespace Go.Proofs.Ytneipehcmmigeaa.PFnExactAddPolys
open Go.RowKit Go.Proofs.YtneipehcmmigeaaW.PrintWords Go.Proofs.YtneipehcmmigeaaW.PrintLast Go.Proofs.YtneipehcmmigeaaW.PrintMore
attribute [local go_sem] zgH zgF zhm zhl zfz zfy zgG zgE
set_option linter.unusedVariables false
set_option linter.unusedSimpArgs false



def errW : Option Int → Value
  | none => .nilIface
  | some c => .iface 0 (.int .i64 c)
theorem zdw : errW none = .nilIface := rfl
theorem zdv (c : Int) : errW (some c) = .iface 0 (.int .i64 c) := rfl

theorem ziE (A : Option Addr) (n c : Nat) : (Value.slice A n c).ownBlock = A.map (fun a => a.block) := by cases A <;> rfl
/-- What is told of a row's block, told less. -/
theorem xi {p q : Nat → Prop} (h : ∀ k, p k → q k := by intro k_ hk_; first | exact hk_ | (simp only [ziE] at hk_ ⊢; exact hk_) | (first | simp only [ziE, and_assoc] at hk_ ⊢ | skip); (repeat' apply And.intro) <;> first | exact hk_.1 | exact hk_ | exact hk_.2.1 | exact hk_.2 | exact hk_.2.2.1 | exact hk_.2.2 | exact hk_.2.2.2.1 | exact hk_.2.2.2 | exact hk_.2.2.2.2.1 | exact hk_.2.2.2.2 | exact hk_.2.2.2.2.2.1 | exact hk_.2.2.2.2.2 | exact hk_.2.2.2.2.2.2.1 | exact hk_.2.2.2.2.2.2 | exact hk_.2.2.2.2.2.2.2.1 | exact hk_.2.2.2.2.2.2.2 | exact hk_.2.2.2.2.2.2.2.2.1 | exact hk_.2.2.2.2.2.2.2.2) : ∀ k, p k → q k := h
/-- A fact, carried over to the world of here. -/
theorem xR {p q : Prop} (h : p) (f : p → q := by intro h_; (with_reducible repeat (first | apply Kd.zfh | apply Kd.zfd | apply Kd.zgO)); first | exact h_ | exact Kd.zcl h_ xi) : q := f h
/-- A fact, carried over to the world of here. -/
theorem xS {p q : Prop} (h : p) (f : p → q := by intro h_; (with_reducible repeat (first | apply Kd.zaH | apply Kd.zaD | apply Kd.zaK)); first | exact h_ | exact Kd.zaZ h_ xi) : q := f h
/-- A fact, carried over to the world of here. -/
theorem xN {p q : Prop} (h : p) (f : p → q := by intro h_; (with_reducible repeat (first | apply Kd.zbD | apply Kd.zbz | apply Kd.zbp)); first | exact h_ | exact Kd.zbe h_ xi) : q := f h
/-- A fact, carried over to the world of here. -/
theorem xQ {p q : Prop} (h : p) (f : p → q := by intro h_; (with_reducible repeat (first | apply Kd.zjv | apply Kd.zjt | apply Kd.zka)); first | exact h_ | exact Kd.zi0 h_ xi) : q := f h
/-- A fact, carried over to the world of here. -/
theorem xV {p q : Prop} (h : p) (f : p → q := by intro h_; (with_reducible repeat (first | apply Kd.zbr | apply Kd.zbq | apply Kd.zbm)); first | exact h_ | exact Kd.zaP h_ xi) : q := f h
theorem xb {p q : Prop} (h : p) (f : p → q := by intro h_; repeat (first | (with_reducible first | exact h_ | apply zbK | apply zbA | apply zaN) | exact h_)) : q := f h
theorem xm {p : Prop} (h : p := by (try simp only [List.map_toArray, List.map_cons, List.map_nil]); first | done | rfl | (simp only [List.length_drop, List.length_take]; rfl)) : p := h
theorem xc {p q : Prop} (h : p) (f : p → q := by intro h_; repeat (first | exact h_ | (with_reducible refine Kd.zdy ?_ _) | (with_reducible refine Kd.zc2 ?_ _) | (with_reducible refine Kd.zdm ?_))) : q := f h
theorem zbi {o : Option Value} {A B : Option Addr} {n m c d : Nat} (h : o = some (.slice A n c)) (h' : o = some (.slice B m d)) : A = B ∧ c = d := by
  rw [h] at h'
  injection h' with h'
  injection h' with h1 _ h3
  exact ⟨h1, h3⟩
theorem xne {α : Type} {d : Kd α} {e : Nat} {W : World} {base : Nat} {ok : Nat → Prop} {v : Value} {xs : List α} (u : Value) (h : Kd.R d e W base ok v xs) (hu : ∀ k, u.ownBlock = some k → some k ≠ v.ownBlock) (hE : d.E = [] := by rfl) : Kd.R d e W base (fun k => ok k ∧ some k ≠ u.ownBlock) v xs := Kd.zcl (Kd.ziu hE h) (fun k hk => ⟨hk.2, fun e_ => hu k e_.symm hk.1⟩)
theorem zii : (Try.prog.info? 3).map (fun i => (i.zero, i.size, i.bytes)) = some (some (.int .i64 0), 1, 8) := by kernel_rfl
theorem info26 : (Try.prog.info? 26).map (fun i => (i.zero, i.size, i.bytes)) = some (some (.slice none 0 0), 1, 24) := by kernel_rfl
theorem zcx : (Try.prog.info? 48).map (fun i => (i.zero, i.size, i.bytes)) = some (some (.agg #[(.slice none 0 0), (.int .i64 0)]), 2, 32) := by kernel_rfl
theorem zd9 {P : Program} {ops : Array Oper} {Q : Exit → Act → World → Prop} {oi : Oper} {N : Option Tmp} {a : Act} {w : World} {K : Act → World → Prop} {f : FuncId} {fn : Func} {as_ : Array Operand} {ts : Array TypeId} {x : Operand} (hf : P.funcs[f]? = some fn) (hname : (fn.name == "runtime.NumGoroutine") = false) (hb : fn.body.isSome = true) (args : Array Value)
    (hw : Region.wanted oi (yielded ops a.tmps) = true) (hN : oi.dst = N) (hop : oi.op = .call { callee := .value x, args := as_, argTypes := ts }) (hx : a.eval x = .func (.func f) #[] #[]) (hargs : as_.map a.eval = args)
    (h : Calls P f args w fun e w' => ∃ v, e = .returned v ∧ K (a.put N v) w') : if Region.wanted oi (yielded ops a.tmps) = true then Oper.wp P oi a w K Q else K (a.put N undef) w := by
  refine zjO f args hw hN ?_ h
  have he := zgk hf hname hb args w
  unfold execOp
  simp [hop, resolve, Deferred.ofValue, invoke, hx, hargs, he]
def zs {α : Type} (z : α) : Nat → Nat → List α → List α
  | 0, _, xs => xs
  | k + 1, i, xs => zs z k (i + 1) (xs.set i z)
theorem zfm {α : Type} (z : α) : ∀ (k i : Nat) (xs : List α), (zs z k i xs).length = xs.length
  | 0, _, _ => rfl
  | k + 1, i, xs => by rw [zs, zfm z k (i + 1), List.length_set]
theorem zg6 {α : Type} (z : α) : ∀ (k i m : Nat) (xs : List α), m ≤ i → (zs z k i xs).take m = xs.take m
  | 0, _, _, _, _ => rfl
  | k + 1, i, m, xs, h => by rw [zs, zg6 z k (i + 1) m _ (by omega), List.take_set_of_le h]
def zdn (c0 c1 : Value) : Nat → List Value
  | 0 => []
  | k + 1 => c0 :: c1 :: zdn c0 c1 k
theorem zc3 (c0 c1 : Value) : ∀ k, (zdn c0 c1 k).length = k * 2
  | 0 => rfl
  | k + 1 => by simp only [zdn, List.length_cons, zc3 c0 c1 k]; omega
theorem zdZ (c0 c1 : Value) : ∀ (k j : Nat), j < k * 2 → (zdn c0 c1 k)[j]? = some (if j % 2 = 0 then c0 else c1)
  | 0, _, h => by omega
  | k + 1, 0, _ => rfl
  | k + 1, 1, _ => rfl
  | k + 1, j + 2, h => by
    have := zdZ c0 c1 k j (by omega)
    simp only [zdn, List.getElem?_cons_succ, this]
    congr 1
    rw [show (j + 2) % 2 = j % 2 by omega]
theorem zg7 (c0 c1 : Value) (k : Nat) : (Builtin.zeroCells #[c0, c1] k).toList = zdn c0 c1 k := by
  apply List.ext_getElem?
  intro j
  by_cases h : j < k * 2
  · rw [zdZ c0 c1 k j h]
    have h2 : j < k * #[c0, c1].size := h
    simp only [Builtin.zeroCells, Array.toList_map, Array.toList_range, List.getElem?_map, List.getElem?_range h2, Option.map_some]
    congr 1
    by_cases hj : j % 2 = 0
    · rw [if_pos hj]
      show #[c0, c1][j % 2]! = c0
      rw [hj]; rfl
    · rw [if_neg hj]
      show #[c0, c1][j % 2]! = c1
      rw [show j % 2 = 1 by omega]; rfl
  · rw [List.getElem?_eq_none (by simp [Builtin.zeroCells]; omega), List.getElem?_eq_none (by rw [zc3]; omega)]
theorem zhU {α : Type} {d : Kd α} {e base g n cap : Nat} {ok : Nat → Prop} {z : α} {c0 c1 : Value} (hsz : d.sz = 2) (hz : ∀ W ok, Kd.FK d W ok z [c0, c1]) : ∀ (k i : Nat) (W : World) (xs : List α), Kd.N d e W base ok (.slice (some ⟨g, 0, none⟩) n cap) xs → i + k ≤ n →
    Kd.N d e (W.setCells g (i * 2) (zdn c0 c1 k)) base ok (.slice (some ⟨g, 0, none⟩) n cap) (zs z k i xs) ∧ W.grownBy (W.setCells g (i * 2) (zdn c0 c1 k)) (some g)
  | 0, _, W, _, h, _ => ⟨h, World.grownBy.refl W (some g)⟩
  | k + 1, i, W, xs, h, hn => by
    obtain ⟨c, hcl, hM, hcc, _⟩ := Kd.zc h z (i : Int) (by omega) (by omega)
    have h1 := Kd.zeC h (i : Int) (by omega) (by omega) (seg := [c0, c1]) (j := 0) hcl hcc (by rw [hsz]; exact Nat.le_refl 2) (x' := z) (okp := fun _ => False) (by
      have e : c.take 0 ++ [c0, c1] ++ c.drop (0 + [c0, c1].length) = [c0, c1] := by
        rw [List.take_zero, List.nil_append, List.drop_of_length_le (by rw [hcl, hsz]; exact Nat.le_refl 2), List.append_nil]
      rw [e]; exact hz W _) (fun _ hk => hk.elim)
    rw [hsz, Int.toNat_natCast, Nat.add_zero] at h1
    have ih := zhU hsz hz k (i + 1) _ _ h1.1 (by omega)
    have e2 : W.setCells g (i * 2) (zdn c0 c1 (k + 1)) = (W.setCells g (i * 2) [c0, c1]).setCells g ((i + 1) * 2) (zdn c0 c1 k) := by
      rw [show (i + 1) * 2 = i * 2 + 1 + 1 by omega]
      rfl
    rw [e2]
    exact ⟨ih.1, World.grownBy.trans h1.2 ih.2⟩
theorem zgl {P : Program} {ops : Array Oper} {rest : List Oper} {o : Oper} {a : Act} {Q : Exit → Act → World → Prop} {W w0 : World} {α : Type} (d : Kd α) (hgd : o.guard = none) (ta : Operand) (T e : TypeId) (ho : o.op = .call { callee := .builtin .clear, args := #[ta], argTypes := #[T] })
    (hu : P.underlying T = some (.slice e)) (z : α) (c0 c1 : Value) (hv : ∀ w, (zeroValue e).run P w = .ok (.agg #[c0, c1]) w) (hcells : (Value.agg #[c0, c1]).cells = #[c0, c1]) (ho0 : c0.oneCell' = true) (ho1 : c1.oneCell' = true) (hsz : d.sz = 2) (hz : ∀ W ok, Kd.FK d W ok z [c0, c1])
    {xs : List α} {A : Option Addr} {cap base m : Nat} {ok : Nat → Prop} (hm : m ≤ xs.length) {A' : Option Addr} {n' c' : Nat} (hA : A' = (if cap = m then A else A.map (·.add (m * 2)))) (hn' : n' = xs.length - m) (hs : a.eval ta = .slice A' n' c')
    (hN : Kd.N d e W base ok (.slice A xs.length cap) xs) (HB : Below base w0 W) (hB : base ≤ W.heap.size)
    (h : ∀ w' ys, Kd.N d e w' base ok (.slice A xs.length cap) ys → ys.length = xs.length → ys.take m = xs.take m → W.grownBy w' (Value.slice A xs.length cap).ownBlock → Below base w0 w' → wpList P ops Q rest (a.put o.dst (.tuple #[])) w') : wpList P ops Q (o :: rest) a W := by
  by_cases h0 : m < xs.length
  · obtain ⟨g, cap', he, hbg, hgl, cells, hcells'⟩ := Kd.zeb hN (by omega)
    injection he with hAg _ hcap
    rw [hA, hn'] at hs
    clear hA hn'
    subst hAg
    subst hcap
    have hcn := (Kd.zaE hN).2.1
    rw [if_neg (by omega)] at hs
    have ha : (Option.map (fun x : Addr => x.add (m * 2)) (some (⟨g, 0, none⟩ : Addr))) = some ⟨g, m * 2, none⟩ := by
      simp [Addr.add]
      try exact fun h => h.symm
    have hs2 : a.eval ta = .slice (some ⟨g, m * 2, none⟩) (xs.length - m) c' := by rw [hs]; congr 1
    have hp := zhU (c0 := c0) (c1 := c1) hsz hz (xs.length - m) m W xs hN (by omega)
    have hcell : ∀ j, j < (xs.length - m) * 2 → (∃ u, W.cell? ⟨g, m * 2 + j, none⟩ = some u) ∧ W.frozen? ⟨g, m * 2 + j, none⟩ = false := by
      intro j hj
      obtain ⟨c, hcl, _, hcc, hfr⟩ := Kd.zc hN z ((m + j / 2 : Nat) : Int) (by omega) (by omega)
      have e1 : ((m + j / 2 : Nat) : Int).toNat * d.sz + j % 2 = m * 2 + j := by rw [Int.toNat_natCast, hsz]; omega
      have hf := hfr (j % 2)
      rw [e1] at hf
      have hc2 : j % 2 < c.length := by rw [hcl, hsz]; omega
      have hc := hcc (j % 2) (c[j % 2]) (List.getElem?_eq_getElem hc2)
      rw [e1] at hc
      exact ⟨⟨_, hc⟩, hf⟩
    have hst := run_storeCells_cells (P := P) g (m * 2) (zdn c0 c1 (xs.length - m)) 0 W (fun j hj => by
      rw [zc3] at hj
      obtain ⟨u, hu⟩ := (hcell j hj).1
      rw [Nat.add_zero, hu]; rfl) (fun j hj => by
      rw [zc3] at hj
      rw [Nat.add_zero]; exact (hcell j hj).2) (fun v hv => by
      obtain ⟨j, hj⟩ := List.getElem?_of_mem hv
      have hjl := (List.getElem?_eq_some_iff.1 hj).1
      rw [zc3] at hjl
      rw [zdZ _ _ _ _ hjl] at hj
      injection hj with hj
      rw [← hj]
      split
      · exact ho0
      · exact ho1)
    rw [Nat.add_zero] at hst
    have h2 := h _ _ hp.1 (zfm _ _ _ _) (zg6 _ _ _ _ _ (Nat.le_refl _)) (by simpa [Value.ownBlock] using hp.2) (HB.grown hp.2 hB (fun k hk => by
      have : g = k := Option.some.inj hk
      omega))
    obtain ⟨q, hq⟩ : ∃ q, xs.length - m = q + 1 := ⟨xs.length - m - 1, by omega⟩
    refine wpList_plain hgd fun K hK => ?_
    unfold Oper.wp
    rw [hq] at hs2 hst h2
    simp only [execOp, ho, resolve, invoke, builtin]
    simp [hs2, Builtin.clear_, run_underlying hu, hv, hcells, zg7, hst, Result.andThen]
    exact hK _ _ h2
  · have hn0 : xs.length - m = 0 := by omega
    have h2 := h W xs hN rfl rfl (World.grownBy.refl W _) HB
    rw [hn', hn0] at hs
    clear hA hn'
    refine wpList_plain hgd fun K hK => ?_
    unfold Oper.wp
    simp only [execOp, ho, resolve, invoke, builtin]
    cases A' with
    | none =>
      simp [hs, Builtin.clear_, run_underlying hu, Result.andThen]
      exact hK _ _ h2
    | some a' =>
      simp [hs, Builtin.clear_, run_underlying hu, Result.andThen]
      exact hK _ _ h2
theorem zi5 {P : Program} {e : TypeId} {z : Value} {sz b : Nat} (h : (P.info? e).map (fun i => (i.zero, i.size, i.bytes)) = some (some z, sz, b)) : ∀ w, (zeroValue e).run P w = .ok z w := by
  intro w
  obtain ⟨i, hi, hz, _, _⟩ := info_parts h
  simp [zeroValue, typeInfo, hi, hz]
theorem zcH {A : Option Addr} {n c m c' k : Nat} {S : Nat → Prop} (h : ∀ k, (Value.slice A n c).ownBlock = some k → S k) (e : (Value.slice A m c').ownBlock = some k) : S k := h k (by
  cases A with
  | none => simp [Value.ownBlock] at e
  | some a => simpa [Value.ownBlock] using e)

def xcp (d s : List Int) : List Int := s.take d.length ++ d.drop s.length
theorem xcp_length (d s : List Int) : (xcp d s).length = d.length := by simp [xcp]; omega
theorem Kd.ziW {e base g n cap : Nat} {ok : Nat → Prop} : ∀ (vs : List Int) (o : Nat) (W : World) (xs : List Int), (Kd.int .i64).R e W base ok (.slice (some ⟨g, 0, none⟩) n cap) xs → o + vs.length ≤ n →
    (Kd.int .i64).R e (W.setCells g o (vs.map (Value.int .i64))) base ok (.slice (some ⟨g, 0, none⟩) n cap) (xs.take o ++ vs ++ xs.drop (o + vs.length)) ∧ W.grownBy (W.setCells g o (vs.map (Value.int .i64))) (some g)
  | [], o, W, xs, h, _ => by simpa [World.setCells] using ⟨h, World.grownBy.refl W (some g)⟩
  | v :: vs, o, W, xs, h, hl => by
    have hn := (Kd.zb9 h).1
    have h1 := Kd.zhT h (o : Int) v
    rw [Int.toNat_natCast] at h1
    have ih := Kd.ziW vs (o + 1) _ _ h1.1 (by simp at hl; omega)
    have e : (xs.set o v).take (o + 1) ++ vs ++ (xs.set o v).drop (o + 1 + vs.length) = xs.take o ++ (v :: vs) ++ xs.drop (o + (v :: vs).length) := by
      simp only [List.length_cons] at hl
      rw [List.take_succ_eq_append_getElem (by simp; omega), List.take_set, List.getElem_set_self, List.drop_set, if_pos (by omega), List.set_eq_of_length_le (by simp; omega), show o + 1 + vs.length = o + (v :: vs).length by simp; omega]
      simp
    rw [e] at ih
    exact ⟨ih.1, World.grownBy.trans h1.2 ih.2⟩
theorem copy_event {P : Program} {ops : Array Oper} {rest : List Oper} {o : Oper} {a : Act} {Q : Exit → Act → World → Prop} {W w0 : World} (hgd : o.guard = none) (ta tb : Operand) (T e : TypeId) (ho : o.op = .call { callee := .builtin .copy, args := #[ta, tb], argTypes := #[T, T] })
    (hu : P.underlying T = some (.slice e)) (hsz : (P.info? e).map (·.size) = some 1) {xs ys : List Int} {vd : Value} {A : Option Addr} {c base : Nat} {ok : Nat → Prop} (hd : a.eval ta = vd) (hs : a.eval tb = .slice A ys.length c)
    (hR : (Kd.int .i64).R e W base ok vd xs) (hC : (Kd.int .i64).C W A ys.length ys) (HB : Below base w0 W) (hB : base ≤ W.heap.size)
    (h : ∀ w', (Kd.int .i64).R e w' base ok vd (xcp xs ys) → W.grownBy w' vd.ownBlock → Below base w0 w' → wpList P ops Q rest (a.put o.dst (goInt ((Nat.min ys.length xs.length : Nat) : Int))) w') : wpList P ops Q (o :: rest) a W := by
  by_cases h0 : 0 < xs.length ∧ 0 < ys.length
  · obtain ⟨g, cap, rfl, hbg, hgl, cells, hcells⟩ := Kd.zfZ hR h0.1
    obtain ⟨ad, rfl, _⟩ := Kd.zbY hC 0 (by omega) (by omega)
    have hp := Kd.ziW (ys.take xs.length) 0 W xs hR (by simp; omega)
    have hlen : ((ys.take xs.length).map (Value.int .i64)).length = Nat.min ys.length xs.length := by simp [Nat.min_comm]
    have hrun := run_copy_cells (P := P) W T T o.type e g 0 xs.length cap ad ys.length c ((ys.take xs.length).map (Value.int .i64)) hu hsz hlen (by
      intro j v hj
      rw [List.getElem?_map, List.getElem?_take] at hj
      split at hj
      · rename_i hjl
        by_cases hy : j < ys.length
        · obtain ⟨ad', e', hx⟩ := Kd.zbY hC (j : Int) (by omega) (by omega)
          injection e' with e'
          subst e'
          rw [List.getElem?_eq_getElem hy] at hj
          simp only [Option.map_some, Option.some.injEq] at hj
          rw [← hj]
          have hr : rd ys (j : Int) = ys[j] := by simp [rd, List.getD_eq_getElem?_getD, hy]
          rw [hr, Int.toNat_natCast] at hx
          exact hx
        · rw [List.getElem?_eq_none (by omega)] at hj; simp at hj
      · simp at hj) (by
      intro j hj
      rw [hlen] at hj
      have hj2 : j < xs.length := Nat.lt_of_lt_of_le hj (Nat.min_le_right _ _)
      have := (Kd.zfe 0 hR (j : Int) (by omega) (by omega)).1
      rw [Int.toNat_natCast] at this
      rw [Nat.zero_add, this]; rfl) (by
      intro j hj
      rw [hlen] at hj
      have hj2 : j < xs.length := Nat.lt_of_lt_of_le hj (Nat.min_le_right _ _)
      have := (Kd.zfe 0 hR (j : Int) (by omega) (by omega)).2
      rw [Int.toNat_natCast] at this
      rw [Nat.zero_add, this]) (by
      intro v hv
      obtain ⟨x, _, rfl⟩ := List.mem_map.1 hv
      rfl)
    rw [hlen] at hrun
    obtain ⟨w2, hw2⟩ : ∃ w2, w2 = W.setCells g 0 ((ys.take xs.length).map (Value.int .i64)) := ⟨_, rfl⟩
    rw [← hw2] at hrun hp
    obtain ⟨nn, hnn⟩ : ∃ nn : Int, nn = ((Nat.min ys.length xs.length : Nat) : Int) := ⟨_, rfl⟩
    rw [← hnn] at hrun h
    have h2 := h w2 (by
      have e1 : xs.take 0 ++ ys.take xs.length ++ xs.drop (0 + (ys.take xs.length).length) = xcp xs ys := by
        simp only [List.take_zero, List.nil_append, xcp, Nat.zero_add, List.length_take]
        congr 1
        by_cases hle : ys.length ≤ xs.length
        · rw [Nat.min_eq_right hle]
        · rw [Nat.min_eq_left (by omega), List.drop_length, List.drop_of_length_le (by omega)]
      rw [← e1]
      exact hp.1) hp.2 (HB.grown hp.2 hB (fun k hk => by
        have : g = k := Option.some.inj hk
        omega))
    refine wpList_plain hgd fun K hK => ?_
    unfold Oper.wp
    simp only [execOp, ho, resolve, invoke, builtin]
    simp [hd, hs, hrun, Result.andThen]
    exact hK _ _ h2
  · have hx : xcp xs ys = xs := by
      by_cases h1 : xs = []
      · subst h1; simp [xcp]
      · have : ys = [] := by
          rcases Nat.eq_zero_or_pos ys.length with hz | hz
          · exact List.eq_nil_of_length_eq_zero hz
          · exact absurd ⟨List.length_pos_iff.2 h1, hz⟩ h0
        subst this; simp [xcp]
    have hn : Nat.min ys.length xs.length = 0 := by
      have : ys.length = 0 ∨ xs.length = 0 := by omega
      rcases this with h | h <;> simp [h]
    obtain ⟨A', n', c', hv, _⟩ : ∃ A' n' c', vd = .slice A' n' c' ∧ n' = xs.length := by
      obtain ⟨A', c', he, _⟩ := Kd.zfc hR
      exact ⟨A', xs.length, c', he, rfl⟩
    subst hv
    rename_i hnl
    subst hnl
    have hrun := run_copy_none (P := P) W T T o.type e A' A xs.length c' ys.length c hu hsz hn
    have h2 := h W (by rw [hx]; exact hR) (World.grownBy.refl W _) HB
    rw [hn] at h2
    refine wpList_plain hgd fun K hK => ?_
    unfold Oper.wp
    simp only [execOp, ho, resolve, invoke, builtin]
    simp [hd, hs, hrun, Result.andThen]
    exact hK _ _ h2

def dmI (N k : Nat) : Nat := if N ≤ k then k + 1 else k
def dmO (N k : Nat) : Nat := if N ≤ k then k else k + 1
theorem dmNo {N k : Nat} (h1 : k ≠ dmI N k) (h2 : k ≠ dmO N k) : False := by
  unfold dmI at h1
  unfold dmO at h2
  split at h1 <;> simp_all
theorem ziO {N k : Nat} (h : N ≤ k) : k ≠ dmI N k := by unfold dmI; rw [if_pos h]; omega
theorem zeX {N k : Nat} (h : k < N) : k ≠ dmO N k := by unfold dmO; rw [if_neg (by omega)]; omega
theorem dmI_fresh {N b k : Nat} (h : b ≠ dmI N b) (hk : b < k) : k ≠ dmI N k := by
  unfold dmI at h ⊢
  split at h
  · rw [if_pos (by omega)]; omega
  · exact absurd rfl h
section
variable {α β : Type} {d : Kd α} {e base N : Nat} {ok : Nat → Prop} {W w1 : World} {u v : Value} {xs : List α}
theorem Kd.zc7 (h : Kd.S d e w1 W.heap.size ok v xs) : ∃ N, Kd.S d e w1 W.heap.size (fun k => k ≠ dmI N k) v xs ∧ N = W.heap.size :=
  ⟨_, Kd.zaZ (Kd.zc1 h) (fun _ hk => ziO hk.2.1), rfl⟩
theorem Kd.deep1 (h : Kd.S d e w1 W.heap.size ok v xs) : ∃ N, Kd.S d e w1 W.heap.size (fun k => ok k ∧ k ≠ dmI N k) v xs ∧ N = W.heap.size :=
  ⟨_, Kd.zaZ (Kd.zc1 h) (fun _ hk => ⟨hk.1, ziO hk.2.1⟩), rfl⟩
theorem Kd.zaW (h : Kd.S d e W base ok u xs) (hN : N = W.heap.size) (hbase : ∀ k, v.ownBlock = some k → W.heap.size ≤ k) (hb : Below W.heap.size W w1) : Kd.S d e w1 base (fun k => (ok k ∧ some k ≠ v.ownBlock) ∧ k ≠ dmO N k) u xs :=
  Kd.zaZ (Kd.zgM (Kd.zc1 h) hbase hb) (fun _ hk => ⟨⟨hk.1.1, hk.2⟩, zeX (by rw [hN]; exact hk.1.2.2.1)⟩)
theorem Kd.zb3 (h : Kd.V d e W base ok u xs) (hN : N = W.heap.size) (hbase : ∀ k, v.ownBlock = some k → W.heap.size ≤ k) (hb : Below W.heap.size W w1) : Kd.V d e w1 base (fun k => (ok k ∧ some k ≠ v.ownBlock) ∧ k ≠ dmO N k) u xs :=
  Kd.zaP (Kd.zcb (Kd.zaP (Kd.zhQ h) (ok' := fun k => ok k ∧ k ≠ dmO N k) (fun _ hk => ⟨hk.1, zeX (by rw [hN]; exact hk.2)⟩)) hbase hb) (fun _ hk => ⟨⟨hk.1.1, hk.2⟩, hk.1.2⟩)
theorem Kd.N_elderD (h : Kd.N d e W base ok u xs) (hN : N = W.heap.size) (hbase : ∀ k, v.ownBlock = some k → W.heap.size ≤ k) (hb : Below W.heap.size W w1) : Kd.N d e w1 base (fun k => (ok k ∧ some k ≠ v.ownBlock) ∧ k ≠ dmO N k) u xs :=
  Kd.zbe (Kd.zdj (Kd.zbe (Kd.zcU h) (ok' := fun k => ok k ∧ k ≠ dmO N k) (fun _ hk => ⟨hk.1, zeX (by rw [hN]; exact hk.2)⟩)) hbase hb) (fun _ hk => ⟨⟨hk.1.1, hk.2⟩, hk.1.2⟩)
theorem Kd.S_oldD (h : Kd.S d e W base ok u xs) (hN : N = W.heap.size) (hb : Below W.heap.size W w1) : Kd.S d e w1 base (fun k => (ok k ∧ k ≠ dmO N k) ∧ k < W.heap.size) u xs := Kd.zaZ (Kd.zkq h hb) (fun _ hk => ⟨⟨hk.1, zeX (by rw [hN]; exact hk.2)⟩, hk.2⟩)
theorem Kd.N_oldD (h : Kd.N d e W base ok u xs) (hN : N = W.heap.size) (hb : Below W.heap.size W w1) : Kd.N d e w1 base (fun k => (ok k ∧ k ≠ dmO N k) ∧ k < W.heap.size) u xs := Kd.zbe (Kd.zks h hb) (fun _ hk => ⟨⟨hk.1, zeX (by rw [hN]; exact hk.2)⟩, hk.2⟩)
theorem Kd.V_oldD (h : Kd.V d e W base ok u xs) (hN : N = W.heap.size) (hb : Below W.heap.size W w1) : Kd.V d e w1 base (fun k => (ok k ∧ k ≠ dmO N k) ∧ k < W.heap.size) u xs := Kd.zaP (Kd.zkp h hb) (fun _ hk => ⟨⟨hk.1, zeX (by rw [hN]; exact hk.2)⟩, hk.2⟩)
end

-- the values' own types
def zh9 (xs : List (List Int)) (i : Int) : (List Int) := xs.getD i.toNat ([] : List Int)
theorem at_L1 {w : World} {A : Option Addr} {n : Nat} {xs : List (List Int)} (h : Kd.C (Kd.slice 3 (Kd.int .i64)) w A n xs) (i : Int) (h0 : 0 ≤ i) (h1 : i < n) : ∃ ad A0 c0, A = some ad ∧ w.cell? (ad.add i.toNat) = some (.slice A0 (zh9 xs i).length c0) ∧ (zh9 xs i).length ≤ c0 ∧ (Kd.int .i64).C w A0 (zh9 xs i).length (zh9 xs i) := by
  obtain ⟨ad, c, e, _, hK, hc0⟩ := Kd.zgv h ([] : List Int) i h0 h1
  have hc : ∀ j u, c[j]? = some u → w.cell? (ad.add (i.toNat * 1 + j)) = some u := hc0
  obtain ⟨A0, c0, rfl, l0, g0⟩ := hK
  exact ⟨ad, A0, c0, e, by have hq := hc 0 _ rfl; rwa [Nat.mul_one, Nat.add_zero] at hq, l0, g0⟩

/-! #### struct type 69 -/
structure S69 where
  f0 : (List Int)
  f1 : Int
def z69 : S69 := ⟨([] : List Int), (0 : Int)⟩
def k69 : Kd S69 := Kd.iso (Kd.pair (Kd.slice 3 (Kd.int .i64)) (Kd.int .i64)) (fun x : S69 => (x.f0, x.f1))
theorem k69_heap : Kd.Heap k69 := Kd.zgJ _ (Kd.zfG (Kd.zeT 3 (Kd.zdB .i64)) (Kd.zdB .i64))
theorem ze7 {w : World} {x : S69} {cs : List Value} (h : k69.K w x cs) : ∃ A0 c0, cs = [.slice A0 x.f0.length c0, .int .i64 x.f1] ∧ x.f0.length ≤ c0 ∧ (Kd.int .i64).C w A0 x.f0.length x.f0 := by
  obtain ⟨_, _, rfl, ⟨A0, c0, rfl, l0, g0⟩, rfl⟩ := h
  exact ⟨A0, c0, rfl, l0, g0⟩
theorem k69_openM {w : World} {base : Nat} {ok : Nat → Prop} {x : S69} {cs : List Value} (h : k69.M w base ok x cs) : ∃ v0, cs = [v0, .int .i64 x.f1] ∧ (Kd.int .i64).R 3 w base ok v0 x.f0 := by
  obtain ⟨_, _, rfl, ⟨v0, rfl, g0⟩, rfl⟩ := h
  exact ⟨v0, rfl, g0⟩
theorem zjL (w : World) (x : S69) {A0 : Option Addr} {c0 : Nat} (l0 : x.f0.length ≤ c0) (g0 : (Kd.int .i64).C w A0 x.f0.length x.f0) : k69.K w x [.slice A0 x.f0.length c0, .int .i64 x.f1] := ⟨[.slice A0 x.f0.length c0], [.int .i64 x.f1], rfl, ⟨A0, c0, rfl, l0, g0⟩, rfl⟩
theorem k69_mkM (w : World) (base : Nat) (ok : Nat → Prop) (x : S69) {v0 : Value} (g0 : (Kd.int .i64).R 3 w base ok v0 x.f0) : k69.M w base ok x [v0, .int .i64 x.f1] := ⟨[v0], [.int .i64 x.f1], rfl, ⟨v0, rfl, g0⟩, rfl⟩
theorem k69_openF {W : World} {ok : Nat → Prop} {x : S69} {cs : List Value} (h : Kd.FK k69 W ok x cs) : ∃ A0 c0, cs = [.slice A0 x.f0.length c0, .int .i64 x.f1] ∧ x.f0.length ≤ c0 ∧ Kd.F (Kd.int .i64) W ok A0 x.f0.length x.f0 := by
  obtain ⟨A0, c0, rfl, l0, _⟩ := ze7 (Kd.zcn h)
  exact ⟨A0, c0, rfl, l0, (fun W' hW => by obtain ⟨A0_, c0_, he, l0_, g0_⟩ := ze7 (h W' hW); injection (Option.some.inj (show some (Value.slice A0 x.f0.length c0) = some (Value.slice A0_ x.f0.length c0_) from congrArg (fun l => l[0]?) he)) with ha_ _ _; rw [ha_]; exact g0_)⟩
theorem k69_mkF (W : World) (ok : Nat → Prop) (x : S69) {A0 : Option Addr} {c0 : Nat} (l0 : x.f0.length ≤ c0) (g0 : Kd.F (Kd.int .i64) W ok A0 x.f0.length x.f0) : Kd.FK k69 W ok x [.slice A0 x.f0.length c0, .int .i64 x.f1] := fun W2 hW => zjL W2 x l0 (g0 W2 hW)
def zce (xs : List S69) (i : Int) : S69 := xs.getD i.toNat z69
theorem zhM {w : World} {A : Option Addr} {n : Nat} {xs : List S69} (h : Kd.C k69 w A n xs) (i : Int) (h0 : 0 ≤ i) (h1 : i < n) : ∃ ad A0 c0, A = some ad ∧ w.cell? (ad.add (i.toNat * 2)) = some (.slice A0 (zce xs i).f0.length c0) ∧ w.cell? ⟨(ad.add (i.toNat * 2)).block, (ad.add (i.toNat * 2)).off + 1, none⟩ = some (.int .i64 (zce xs i).f1) ∧ (zce xs i).f0.length ≤ c0 ∧ (Kd.int .i64).C w A0 (zce xs i).f0.length (zce xs i).f0 := by
  obtain ⟨ad, c, e, _, hK, hc0⟩ := Kd.zgv h z69 i h0 h1
  have hc : ∀ j u, c[j]? = some u → w.cell? (ad.add (i.toNat * 2 + j)) = some u := hc0
  obtain ⟨A0, c0, rfl, l0, g0⟩ := ze7 hK
  exact ⟨ad, A0, c0, e, hc 0 _ rfl, by rw [← zfX _ _ 1 (by omega)]; exact hc 1 _ rfl, l0, g0⟩

/-! #### struct type 48 -/
structure S48 where
  f0 : (List Int)
  f1 : Int
def z48 : S48 := ⟨([] : List Int), (0 : Int)⟩
def k48 : Kd S48 := Kd.iso (Kd.pair (Kd.slice 3 (Kd.int .i64)) (Kd.int .i64)) (fun x : S48 => (x.f0, x.f1))
theorem ze8 : Kd.Heap k48 := Kd.zgJ _ (Kd.zfG (Kd.zeT 3 (Kd.zdB .i64)) (Kd.zdB .i64))
theorem zdA {w : World} {x : S48} {cs : List Value} (h : k48.K w x cs) : ∃ A0 c0, cs = [.slice A0 x.f0.length c0, .int .i64 x.f1] ∧ x.f0.length ≤ c0 ∧ (Kd.int .i64).C w A0 x.f0.length x.f0 := by
  obtain ⟨_, _, rfl, ⟨A0, c0, rfl, l0, g0⟩, rfl⟩ := h
  exact ⟨A0, c0, rfl, l0, g0⟩
theorem zc5 {w : World} {base : Nat} {ok : Nat → Prop} {x : S48} {cs : List Value} (h : k48.M w base ok x cs) : ∃ v0, cs = [v0, .int .i64 x.f1] ∧ (Kd.int .i64).R 3 w base ok v0 x.f0 := by
  obtain ⟨_, _, rfl, ⟨v0, rfl, g0⟩, rfl⟩ := h
  exact ⟨v0, rfl, g0⟩
theorem zgI (w : World) (x : S48) {A0 : Option Addr} {c0 : Nat} (l0 : x.f0.length ≤ c0) (g0 : (Kd.int .i64).C w A0 x.f0.length x.f0) : k48.K w x [.slice A0 x.f0.length c0, .int .i64 x.f1] := ⟨[.slice A0 x.f0.length c0], [.int .i64 x.f1], rfl, ⟨A0, c0, rfl, l0, g0⟩, rfl⟩
theorem zcS (w : World) (base : Nat) (ok : Nat → Prop) (x : S48) {v0 : Value} (g0 : (Kd.int .i64).R 3 w base ok v0 x.f0) : k48.M w base ok x [v0, .int .i64 x.f1] := ⟨[v0], [.int .i64 x.f1], rfl, ⟨v0, rfl, g0⟩, rfl⟩
theorem zaX {W : World} {ok : Nat → Prop} {x : S48} {cs : List Value} (h : Kd.FK k48 W ok x cs) : ∃ A0 c0, cs = [.slice A0 x.f0.length c0, .int .i64 x.f1] ∧ x.f0.length ≤ c0 ∧ Kd.F (Kd.int .i64) W ok A0 x.f0.length x.f0 := by
  obtain ⟨A0, c0, rfl, l0, _⟩ := zdA (Kd.zcn h)
  exact ⟨A0, c0, rfl, l0, (fun W' hW => by obtain ⟨A0_, c0_, he, l0_, g0_⟩ := zdA (h W' hW); injection (Option.some.inj (show some (Value.slice A0 x.f0.length c0) = some (Value.slice A0_ x.f0.length c0_) from congrArg (fun l => l[0]?) he)) with ha_ _ _; rw [ha_]; exact g0_)⟩
theorem zde (W : World) (ok : Nat → Prop) (x : S48) {A0 : Option Addr} {c0 : Nat} (l0 : x.f0.length ≤ c0) (g0 : Kd.F (Kd.int .i64) W ok A0 x.f0.length x.f0) : Kd.FK k48 W ok x [.slice A0 x.f0.length c0, .int .i64 x.f1] := fun W2 hW => zgI W2 x l0 (g0 W2 hW)
def zab (xs : List S48) (i : Int) : S48 := xs.getD i.toNat z48
theorem zbs {w : World} {A : Option Addr} {n : Nat} {xs : List S48} (h : Kd.C k48 w A n xs) (i : Int) (h0 : 0 ≤ i) (h1 : i < n) : ∃ ad A0 c0, A = some ad ∧ w.cell? (ad.add (i.toNat * 2)) = some (.slice A0 (zab xs i).f0.length c0) ∧ w.cell? ⟨(ad.add (i.toNat * 2)).block, (ad.add (i.toNat * 2)).off + 1, none⟩ = some (.int .i64 (zab xs i).f1) ∧ (zab xs i).f0.length ≤ c0 ∧ (Kd.int .i64).C w A0 (zab xs i).f0.length (zab xs i).f0 := by
  obtain ⟨ad, c, e, _, hK, hc0⟩ := Kd.zgv h z48 i h0 h1
  have hc : ∀ j u, c[j]? = some u → w.cell? (ad.add (i.toNat * 2 + j)) = some u := hc0
  obtain ⟨A0, c0, rfl, l0, g0⟩ := zdA hK
  exact ⟨ad, A0, c0, e, hc 0 _ rfl, by rw [← zfX _ _ 1 (by omega)]; exact hc 1 _ rfl, l0, g0⟩

def zdD (xs : List (List S48)) (i : Int) : (List S48) := xs.getD i.toNat ([] : List S48)
theorem zjS {w : World} {A : Option Addr} {n : Nat} {xs : List (List S48)} (h : Kd.C (Kd.slice 48 k48) w A n xs) (i : Int) (h0 : 0 ≤ i) (h1 : i < n) : ∃ ad A0 c0, A = some ad ∧ w.cell? (ad.add i.toNat) = some (.slice A0 (zdD xs i).length c0) ∧ (zdD xs i).length ≤ c0 ∧ k48.C w A0 (zdD xs i).length (zdD xs i) := by
  obtain ⟨ad, c, e, _, hK, hc0⟩ := Kd.zgv h ([] : List S48) i h0 h1
  have hc : ∀ j u, c[j]? = some u → w.cell? (ad.add (i.toNat * 1 + j)) = some u := hc0
  obtain ⟨A0, c0, rfl, l0, g0⟩ := hK
  exact ⟨ad, A0, c0, e, by have hq := hc 0 _ rfl; rwa [Nat.mul_one, Nat.add_zero] at hq, l0, g0⟩

/-- The operations that are done, as bits. -/
def xB (n m : Nat) : Array Bool := ((List.range n).map fun i => m.testBit i).toArray
theorem xr {p : Prop} (h : p := by first | rfl | (simp; done) | (simp [*]; done)) : p := h
theorem xe {p : Prop} (h : p := by first | rfl | (simp [zdw, zdv] <;> rfl) | (simp [*, zdw, zdv] <;> rfl)) : p := h
theorem xd {p : Prop} [Decidable p] (h : decide p = true := by first | (with_reducible assumption) | assumption) : p := of_decide_eq_true h
theorem xk {p q : Prop} (h : p) (f : p → q := by intro h_; (with_reducible repeat (first | refine zaj ?_ _ | refine zaf ?_ | refine zai ?_ _)); exact h_) : q := f h
theorem xs {p q g : Prop} (h : p) (e : g) (f : p → g → q := by intro h_ e_; repeat (first | (with_reducible first | exact h_ | apply zbK | apply zbA | apply zaN | refine zcD ?_ e_) | exact h_)) : q := f h e
theorem xw {p q : Prop} (h : p) (f : p → q := by intro h_; repeat (first | (with_reducible exact h_) | (with_reducible refine Kd.zdy ?_ _) | (with_reducible refine Kd.zc2 ?_ _) | (with_reducible refine Kd.zdm ?_) | exact h_)) : q := f h
theorem xz {p b q : Prop} (h : p) (e : b) (f : p → b → q := by intro h_ e_; first | exact xc (Kd.zbE h_ e_) | exact xc h_) : q := f h e
theorem ax {p : Prop} (h : p) : zap p := ⟨h⟩
theorem xI {α β : Type} {x : Option α} {g : α → Option β} {r : β} (H : x.bind g = some r) : ∃ t, zap (x = some t) ∧ g t = some r := by
  obtain ⟨t, h1, h2⟩ := Option.bind_eq_some_iff.mp H
  exact ⟨t, ⟨h1⟩, h2⟩
theorem xg {α β : Type} {x : α} {g : α → Option β} {r : β} (H : (some x).bind g = some r) : ∃ y, zap (y = x) ∧ g y = some r := ⟨x, ⟨rfl⟩, H⟩
theorem xy {α : Type} (x : α) : ∃ y, zap (y = x) := ⟨x, ⟨rfl⟩⟩
theorem xp {α : Type} {c : Prop} [Decidable c] {a : Option α} {r : α} (H : (if c then a else none) = some r) : c ∧ a = some r := by
  split at H
  · exact ⟨‹_›, H⟩
  · cases H
theorem xq {α : Type} {c : Prop} [Decidable c] {a : Option α} {r : α} (H : (if c then a else none) = some r) : decide c = true ∧ a = some r := by
  split at H
  · exact ⟨decide_eq_true ‹_›, H⟩
  · cases H
theorem xv {α : Type} {y x : α} {p q : Prop} (hy : y = x) (H : p) (f : y = x → p → q := by intro hy_ H_; first | (rw [hy_]; with_reducible exact H_) | (have H2_ := (Option.bind_some _ _).symm.trans H_; rw [hy_]; with_reducible exact H2_) | (have H2_ := (Option.bind_some _ _).symm.trans H_; with_reducible exact H2_) | with_reducible exact H_ | (rw [hy_]; exact H_) | exact H_) : q := f hy H
theorem xh {p q : Prop} (h : p) (f : p → q := by intro h_; repeat (first | (with_reducible first | exact h_ | apply zbW.set_ | apply zgY | apply zhr | apply zgZ) | exact h_)) : q := f h
theorem yR {α : Type} {d : Kd α} {e base : Nat} {ok : Nat → Prop} {W w1 : World} {v : Value} {xs : List α} {p : Prop} (h : zap p) (hb : Below W.heap.size W w1) (f : p → Kd.R d e W base ok v xs := by intro h_; exact xR h_) : zap (Kd.R d e w1 base ok v xs) := ⟨Kd.zff (f h.out) hb⟩
theorem yV {α : Type} {d : Kd α} {e base : Nat} {ok : Nat → Prop} {W w1 : World} {v : Value} {xs : List α} {p : Prop} (h : zap p) (hb : Below W.heap.size W w1) (f : p → Kd.V d e W base ok v xs := by intro h_; exact xV h_) : zap (Kd.V d e w1 base ok v xs) := ⟨Kd.zbG (f h.out) hb⟩
theorem yB {B : Nat} {w0 W w1 : World} {p : Prop} (h : zap p) (hb : Below W.heap.size W w1) (f : p → Below B w0 W := by intro h_; exact xb h_) (g : Below B w0 W → Below W.heap.size W w1 → Below B w0 w1 := by exact zar) : zap (Below B w0 w1) := ⟨g (f h.out) hb⟩
theorem xl {p : Prop} (h : p := by with_reducible first | exact LeO.refl _ | exact LeO.none _) : p := h
section
variable {P : Program} {ops : Array Oper} {Q : Exit → Act → World → Prop} {md : Region.Mode} {S : World → Prop} {ds : List Nat} {T : Bool × List (List Nat × List Nat)}
theorem nm {fuel : Nat} {l : Array Bool} {a a' : Act} {w : World} (h : za9 P md ops Q S ds fuel l a' w) (ha : a = a' := by (show Act.put _ (some _) _ = _); simp only [Act.put, List.setIfInBounds_toArray, List.set_cons_zero, List.set_cons_succ, zbZ, zcd]; rfl) : za9 P md ops Q S ds fuel l a w := zet ha h
theorem pu {i : Nat} {N : Option Tmp} {oi : Oper} {v : Value} {fuel : Nat} {l : Array Bool} {a : Act} {w : World} (l' : Array Bool) (hT : rtab md ops = T) {a' : Act} (h : za9 P md ops Q S ds fuel l' a' w) (hi : ops[i]? = some oi := by exact rfl) (hN : oi.dst = N := by exact rfl) (hc : anyT T l.toList l'.toList i = true := by kernel_rfl) (hQ : ∀ c a w, Q (.panic c) (a.put oi.dst v) w → Q (.panic c) a w := by exact fun _ _ _ h => h) (hw : Region.wanted oi (yielded ops a.tmps) = true := by rfl) (hy : ∀ w, (execOp a.eval oi).run P w = .ok (.value v) w := by intro w'; go_simp; with_reducible rfl) (ha : a.put N v = a' := by simp only [Act.put, List.setIfInBounds_toArray, List.set_cons_zero, List.set_cons_succ, zbZ, zcd]; rfl) : za9 P md ops Q S ds (fuel + 1) l a w := zer l' hi hN (ziS hT hc) hQ (Or.inl ⟨hw, hy⟩) ha h
theorem pn {i : Nat} {N : Option Tmp} {oi : Oper} {fuel : Nat} {l : Array Bool} {a : Act} {w : World} (l' : Array Bool) (hT : rtab md ops = T) {a' : Act} (h : za9 P md ops Q S ds fuel l' a' w) (hi : ops[i]? = some oi := by exact rfl) (hN : oi.dst = N := by exact rfl) (hc : anyT T l.toList l'.toList i = true := by kernel_rfl) (hQ : ∀ c a w, Q (.panic c) (a.put oi.dst undef) w → Q (.panic c) a w := by exact fun _ _ _ h => h) (hw : Region.wanted oi (yielded ops a.tmps) = false := by rfl) (ha : a.put N undef = a' := by simp only [Act.put, List.setIfInBounds_toArray, List.set_cons_zero, List.set_cons_succ, zbZ, zcd]; rfl) : za9 P md ops Q S ds (fuel + 1) l a w := zer l' hi hN (ziS hT hc) hQ (Or.inr ⟨hw, rfl⟩) ha h
theorem tk {B : List Nat} {i : Nat} {N : Option Tmp} {oi : Oper} {v : Value} {fuel : Nat} {l : Array Bool} {a : Act} {w : World} (l' : Array Bool) (hT : rtab md ops = T) (hB : zbS T.2 B = true) (hS : S w) {a' : Act} (h : za9 P md ops Q S ds fuel l' a' w) (hi : ops[i]? = some oi := by exact rfl) (hN : oi.dst = N := by exact rfl) (hc : zi7 T B ds l.toList l'.toList i = true := by kernel_rfl) (hQ : ∀ c a w, Q (.panic c) (a.put oi.dst v) w → Q (.panic c) a w := by exact fun _ _ _ h => h) (hw : Region.wanted oi (yielded ops a.tmps) = true := by rfl) (hy : ∀ w, S w → (execOp a.eval oi).run P w = .ok (.value v) w := by intro w' s_; (repeat (have s1_ := And.left s_; replace s_ := And.right s_)); go_simp; with_reducible rfl) (ha : a.put N v = a' := by simp only [Act.put, List.setIfInBounds_toArray, List.set_cons_zero, List.set_cons_succ, zbZ, zcd]; rfl) : za9 P md ops Q S ds (fuel + 1) l a w := zdQ l' hi hN (zh3 hT hB hc) hQ (Or.inl ⟨hw, hy⟩) hS ha h
end
namespace Kd
def zcr {α : Type} (b : Nat) (d : Kd α) : Kd α where
  sz := d.sz
  E := d.E
  K := fun w x cs => d.M w b (fun _ => True) x cs
  M := fun w base ok x cs => d.M w (max base b) ok x cs
  K_len := fun h => d.K_len (d.K_of_M h)
  K_one := fun h => d.K_one (d.K_of_M h)
  K_below := fun hb h => d.M_mono (fun _ _ => trivial) (d.M_move (fun k hk => hb.block k hk.2.2.1) (d.M_bound h))
  K_of_M := fun h => d.M_mono (fun _ _ => trivial) (d.M_lower (Nat.le_max_right _ _) h)
  M_mono := fun hok h => d.M_mono hok h
  M_bound := fun h => d.M_mono (fun _ hk => ⟨hk.1, Nat.le_trans (Nat.le_max_left _ _) hk.2.1, hk.2.2⟩) (d.M_bound h)
  M_move := fun hm h => d.M_move hm h
  M_lower := fun hb h => d.M_lower (by omega) h
section
variable {α : Type} {b : Nat} {d : Kd α} {e base : Nat} {ok : Nat → Prop} {w W : World} {v : Value} {xs : List α} {x : α} {c : List Value}
theorem zca (h : Kd.FK (zcr b d) W ok x c) : Kd.FK d W ok x c := fun W' hW => d.K_of_M (h W' hW)
theorem zei (h : d.M W b ok x c) : Kd.FK (zcr b d) W ok x c := fun W' hW => d.M_mono (fun _ _ => trivial) (d.M_move (fun k hk => hW k hk.1 hk.2.2.1) (d.M_bound h))
theorem zcE (h : Kd.N (zcr b d) e w base ok v xs) : Kd.N d e w base ok v xs := by
  obtain ⟨h0, rows, hl, hR, hf⟩ := h
  exact ⟨h0, rows, hl, hR, fun j x c hx hc => zca (hf j x c hx hc)⟩
theorem R_Nsolid (h : d.R e w b ok v xs) : Kd.N (zcr b d) e w b ok v xs := by
  obtain ⟨h0, inner, ho, hr⟩ := h
  refine ⟨h0, Kd.chunks d.sz xs.length inner, Kd.zbu _ _ _, ⟨fun k hk => hk.symm, inner, by rw [Kd.zbu]; exact ho, Kd.zee hr (fun x c hp => ⟨d.K_len (d.K_of_M hp), d.K_one (d.K_of_M hp)⟩)⟩, fun j x c hx hc => ?_⟩
  rw [Kd.zcy hc]
  exact Kd.zcG (zei (hr.2 j x hx)) (fun _ hk => hk)
theorem zcC (h : Kd.S d e w base ok v xs) : Kd.S d e w base (fun k => ok k ∧ ∃ q, q ∈ e :: d.E ∧ ∃ cells, w.heap[k]? = some (.cells cells q (0, 0))) v xs := Kd.zaZ (Kd.zc1 h) (fun _ hk => ⟨hk.1, hk.2.2.2⟩)
end
end Kd
theorem zcu {W : World} {g T : Nat} {cs : Array Value} {l : List Nat} (hb : W.heap[g]? = some (.cells cs T (0, 0))) (h : ∃ q, q ∈ l ∧ ∃ cells, W.heap[g]? = some (.cells cells q (0, 0))) (hn : ∀ q, q ∈ l → q ≠ T) : False := by
  obtain ⟨q, hq, cells, hc⟩ := h
  rw [hb] at hc
  injection hc with hc
  injection hc with _ hc
  exact hn q hq hc.symm
theorem zig {W : World} {b : Nat} {ok : Nat → Prop} {x : S48} {v0 : Value} (h : Kd.FK (Kd.zcr b k48) W ok x [v0, .int .i64 x.f1]) (f : Int) : Kd.FK (Kd.zcr b k48) W ok (⟨x.f0, f⟩ : S48) [v0, .int .i64 f] := fun W' hW => by
  obtain ⟨v1, e1, h1⟩ := zc5 (h W' hW)
  injection e1 with e2 _
  subst e2
  exact zcS W' b _ (⟨x.f0, f⟩ : S48) h1
theorem k48_rowM {W : World} {b : Nat} {ok : Nat → Prop} {l : List Int} {v0 : Value} (h : Kd.FK (Kd.zcr b (Kd.slice 3 (Kd.int .i64))) W ok l [v0]) (f : Int) : Kd.FK (Kd.zcr b k48) W ok (⟨l, f⟩ : S48) [v0, .int .i64 f] := fun W' hW => by
  obtain ⟨v1, e1, h1⟩ := h W' hW
  injection e1 with e2 _
  subst e2
  exact zcS W' b _ (⟨l, f⟩ : S48) h1
/-- All of one length, no two alike. -/
def zea : List S48 → Bool
  | [] => true
  | x :: l => (l.all fun y => decide (x.f0.length = y.f0.length) && !(decide (x.f0 = y.f0))) && zea l
theorem zfN : ∀ {l : List S48}, zea l = true → ∀ (i j : Nat) (x y : S48), i < j → l[i]? = some x → l[j]? = some y → x.f0.length = y.f0.length ∧ x.f0 ≠ y.f0
  | [], _, _, _, _, _, _, h, _ => by simp at h
  | a :: l, hd, i, j, x, y, hij, hi, hj => by
    simp only [zea, Bool.and_eq_true, List.all_eq_true, decide_eq_true_eq, Bool.not_eq_true', decide_eq_false_iff_not] at hd
    obtain ⟨j', rfl⟩ : ∃ j', j = j' + 1 := ⟨j - 1, by omega⟩
    rw [List.getElem?_cons_succ] at hj
    cases i with
    | zero =>
      rw [List.getElem?_cons_zero] at hi
      injection hi with hi
      subst hi
      exact hd.1 y (List.mem_of_getElem? hj)
    | succ i =>
      rw [List.getElem?_cons_succ] at hi
      exact zfN hd.2 i j' x y (by omega) hi hj
theorem zhs {W : World} {b b' : Nat} {ok ok' : Nat → Prop} {v v' : Value} {xs ys : List Int} {k e : Nat} (h : (Kd.int .i64).R e W b ok v xs) (h' : (Kd.int .i64).R e W b' ok' v' ys) (hk : v.ownBlock = some k) (hk' : v'.ownBlock = some k) (hl : xs.length = ys.length) : xs = ys := by
  obtain ⟨_, inner, ho, hr⟩ := h
  obtain ⟨_, inner', ho', hr'⟩ := h'
  have e1 : inner = inner' := by
    obtain ⟨_, ho⟩ := ho
    obtain ⟨_, ho'⟩ := ho'
    rcases ho with ⟨rfl, _⟩ | ⟨g, cap, cur, rfl, _, hh, _, _, _, ht⟩
    · simp [Value.ownBlock] at hk
    · rcases ho' with ⟨rfl, _⟩ | ⟨g', cap', cur', rfl, _, hh', _, _, _, ht'⟩
      · simp [Value.ownBlock] at hk'
      · have a1 : g = k := by simpa [Value.ownBlock] using hk
        have a2 : g' = k := by simpa [Value.ownBlock] using hk'
        subst a1
        subst a2
        rw [hh] at hh'
        injection hh' with hh'
        injection hh' with hh'
        subst hh'
        rw [← ht, ← ht', hl]
  subst e1
  apply List.ext_getElem? 
  intro j
  by_cases hj : j < xs.length
  · have q1 := hr.2 j xs[j] (List.getElem?_eq_getElem hj)
    have q2 := hr'.2 j (ys[j]'(by omega)) (List.getElem?_eq_getElem (by omega))
    have q3 : [Value.int .i64 xs[j]] = [Value.int .i64 (ys[j]'(by omega))] := q1.symm.trans q2
    injection q3 with q3 _
    injection q3 with _ q3
    rw [List.getElem?_eq_getElem hj, List.getElem?_eq_getElem (show j < ys.length by omega), q3]
  · rw [List.getElem?_eq_none (by omega), List.getElem?_eq_none (by omega)]
open Classical in
theorem zg3 {W : World} {b : Nat} {ok : Nat → Prop} {v : Value} {r : List S48} (h : Kd.N (Kd.zcr b k48) 48 W b ok v r) (hd : zea r = true) : Kd.S k48 48 W b (fun _ => True) v r := by
  obtain ⟨_, rows, hl, ⟨_, inner, ho, hr⟩, hf⟩ := h
  have el : ∀ j x, r[j]? = some x → ∃ v0, ((inner.drop (j * 2)).take 2) = [v0, .int .i64 x.f1] ∧ (Kd.int .i64).R 3 W b (fun _ => True) v0 x.f0 := by
    intro j x hx
    have hj : j < rows.length := by rw [hl]; exact (List.getElem?_eq_some_iff.1 hx).1
    have q := hr.2 j rows[j] (List.getElem?_eq_getElem hj)
    have q2 : (inner.drop (j * 2)).take 2 = rows[j] := q.1
    rw [q2]
    exact zc5 ((hf j x rows[j] hx (List.getElem?_eq_getElem hj)).now)
  let hdr : Nat → Option Nat := fun j => (((inner.drop (j * 2)).take 2).head?.getD (.int .i64 0)).ownBlock
  let f : Nat → Nat := fun k => if q : ∃ j, j < r.length ∧ hdr j = some k then q.choose else 0
  have uniq : ∀ i j k, i < r.length → j < r.length → hdr i = some k → hdr j = some k → i = j := by
    have lt : ∀ i j k, i < j → i < r.length → j < r.length → hdr i = some k → hdr j = some k → False := by
      intro i j k hij hi hj h1 h2
      obtain ⟨v1, e1, r1⟩ := el i r[i] (List.getElem?_eq_getElem hi)
      obtain ⟨v2, e2, r2⟩ := el j r[j] (List.getElem?_eq_getElem hj)
      have h1' : v1.ownBlock = some k := by simpa [hdr, e1] using h1
      have h2' : v2.ownBlock = some k := by simpa [hdr, e2] using h2
      obtain ⟨hlen, hne⟩ := zfN hd i j r[i] r[j] hij (List.getElem?_eq_getElem hi) (List.getElem?_eq_getElem hj)
      exact hne (zhs r1 r2 h1' h2' hlen)
    intro i j k hi hj h1 h2
    rcases Nat.lt_trichotomy i j with q | q | q
    · exact (lt i j k q hi hj h1 h2).elim
    · exact q
    · exact (lt j i k q hj hi h2 h1).elim
  refine ⟨f, fun _ _ => trivial, inner, by rw [List.length_zipIdx, ← hl]; exact ho, by rw [hr.1, List.length_zipIdx, hl]; rfl, fun j p hp => ?_⟩
  obtain ⟨x, i⟩ := p
  rw [List.getElem?_zipIdx, Nat.zero_add] at hp
  obtain ⟨x', hx, hxi⟩ := Option.map_eq_some_iff.1 hp
  injection hxi with a1 a2
  subst a1
  subst a2
  have hj : j < r.length := (List.getElem?_eq_some_iff.1 hx).1
  obtain ⟨v0, e0, r0⟩ := el j x' hx
  show k48.M W b (fun k => (True ∧ some k ≠ v.ownBlock) ∧ f k = j) x' ((inner.drop (j * 2)).take 2)
  rw [e0]
  refine zcS W b _ x' (Kd.ziV rfl r0 (fun k hk => ⟨⟨trivial, fun he => ?_⟩, ?_⟩))
  · obtain ⟨c1, q1⟩ := Kd.zgq r0 k hk
    obtain ⟨c2, q2⟩ := zdq ho k he.symm
    rw [q1] at q2
    injection q2 with q2
    injection q2 with _ q2
    exact absurd q2 (by decide)
  · have hk' : hdr j = some k := by simpa [hdr, e0] using hk
    have ex : ∃ j, j < r.length ∧ hdr j = some k := ⟨j, hj, hk'⟩
    show (if q : ∃ j, j < r.length ∧ hdr j = some k then q.choose else 0) = j
    rw [dif_pos ex]
    exact uniq _ _ k ex.choose_spec.1 hj ex.choose_spec.2 hk'

theorem bb {w W w1 : World} {g : Nat} {o : Obj} (h : w.heap[g]? = some o) (hb : Below W.heap.size W w1) (f : w.heap[g]? = some o → W.heap[g]? = some o := by intro h_; (with_reducible repeat (first | refine zaj ?_ _ | refine zaf ?_ | refine zai ?_ _)); exact h_) : w1.heap[g]? = some o := zba (f h) hb
theorem bn {w W : World} {g g' : Nat} {o : Obj} (hg : g' = W.heap.size) (h : w.heap[g]? = some o) (f : w.heap[g]? = some o → W.heap[g]? = some o := by intro h_; (with_reducible repeat (first | refine zaj ?_ _ | refine zaf ?_ | refine zai ?_ _)); exact h_) : g ≠ g' := hg ▸ Nat.ne_of_lt (zey (f h))
theorem bm {w W : World} {g g' : Nat} {o : Obj} (hg : g' = W.heap.size) (h : w.heap[g]? = some o) (f : w.heap[g]? = some o → W.heap[g]? = some o := by intro h_; (with_reducible repeat (first | refine zaj ?_ _ | refine zaf ?_ | refine zai ?_ _)); exact h_) : g' ≠ g := (bn hg h f).symm
theorem bh {p q : Prop} (h : p) (f : p → q := by intro h_; repeat (first | (with_reducible first | exact h_ | apply zbK | apply zbA | apply zaN | refine zcD ?_ (zap.out (by assumption))) | exact h_)) : q := f h
theorem bq {p q : Nat → Prop} (h : ∀ k, p k → q k := by intro k_ hk_; simp only [ne_eq, hk_, not_false_eq_true, and_self]) : ∀ k, p k → q k := h
theorem bc0 {w : World} {g : Nat} {t : TypeId} {a b : Value} (h : w.heap[g]? = some (.cells #[a, b] t (0, 0))) : w.cell? ⟨g, 0, none⟩ = some a := zag h 0
theorem bcs {w : World} {g : Nat} {t : TypeId} {a : Value} (h : w.heap[g]? = some (.cells #[a] t (0, 0))) : w.cell? ⟨g, 0, none⟩ = some a := zag h 0
theorem bc1 {w : World} {g : Nat} {t : TypeId} {a b : Value} (h : w.heap[g]? = some (.cells #[a, b] t (0, 0))) : w.cell? ⟨g, 1, none⟩ = some b := zag h 1
theorem f2S {α : Type} {d : Kd α} {e t g i j base : Nat} {ok : Nat → Prop} {W : World} {cs : Array Value} {v : Value} {xs : List α} (h : Kd.S d e W base ok v xs) (hb : W.heap[g]? = some (.cells cs t (0, 0))) (a b : Value) (ht : ∀ q, q ∈ e :: d.E → q ≠ t := by decide) : Kd.S d e ((W.setCell ⟨g, i, none⟩ a).setCell ⟨g, j, none⟩ b) base ok v xs := Kd.zaZ (Kd.zgo (p := ⟨g, j, none⟩) (Kd.zgo (p := ⟨g, i, none⟩) (Kd.zgn h hb ht) (fun _ hk => hk.2) a) (fun _ hk => hk.2) b) (fun _ h_ => h_.1)
end Go.Proofs.Ytneipehcmmigeaa.PFnExactAddPolys
