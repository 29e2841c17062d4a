/- What a law's nested argument reads as: slices of slices, structs of two fields of one cell each. Plain lemmas over any program; no condition. -/
import Derived.Test.YtneipehcmmigeaaVFnExactAddPolys
import Derived.SizedLaws
import Derived.ChangeSlices
import Derived.Deep.Slices
import Derived.DataElems
set_option linter.unusedVariables false
set_option linter.unusedSimpArgs false
namespace Go.Proofs.Ytneipehcmmigeaa.XOpen
open Go.ChangeShapes Go.WideShapes Go.RowKit Go.Proofs.YtneipehcmmigeaaW.PrintWords
section
variable {H : Type} {enc : TypeId × Value → H} {P : Program} {W : World} {base : Nat} {spare : Nat → Bool} {held : Bool}

/-- Whatever reads at type t is a value of kind d, of which F holds. -/
def zgs (enc : TypeId × Value → H) (P : Program) (W : World) (base : Nat) (spare : Nat → Bool) (held : Bool) {α : Type} (t : TypeId) (d : Kd α) (F : α → Prop) : Prop :=
 ∀ (fuel : Nat) (cs : List Value) (x : DataW H × List MemPlace), DataW.trod enc P W base spare held fuel t cs = some x → ∃ a, d.K W a cs ∧ F a

theorem zdW {t : TypeId} {k : IntKind} (ht : P.underlying t = some (.int k)) : zgs enc P W base spare held t (Kd.int k) (fun n => (Lit.int k n).wf = true) := by
 intro fuel cs x h
 obtain ⟨m, rfl, rfl, hw⟩ := DataW.trod_int ht h
 exact ⟨m, rfl, hw⟩

theorem zeZ {α : Type} {Q : Nat → α → Prop} : ∀ (n : Nat), (∀ i, i < n → ∃ y, Q i y) → ∃ xs : List α, xs.length = n ∧ ∀ i y, xs[i]? = some y → Q i y
 | 0, _ => ⟨[], rfl, fun i y hy => by simp at hy⟩
 | m + 1, hf => by
  obtain ⟨xs, h1, h2⟩ := zeZ m (fun i hi => hf i (by omega))
  obtain ⟨y, hy⟩ := hf m (by omega)
  refine ⟨xs ++ [y], by simp [h1], fun i z hz => ?_⟩
  by_cases hi : i < xs.length
  ·rw [List.getElem?_append_left hi] at hz; exact h2 i z hz
  ·rw [List.getElem?_append_right (by omega)] at hz
   have hi2 : i - xs.length = 0 := by
    have := (List.getElem?_eq_some_iff.1 hz).1; simp at this; omega
   rw [hi2] at hz
   simp at hz
   subst hz
   obtain rfl : i = m := by omega
   exact hy

theorem zd1 {t e : TypeId} {α : Type} {d : Kd α} {F : α → Prop} (ht : P.underlying t = some (.slice e)) (hc : P.cellsOf e = d.sz) (hd : zgs enc P W base spare held e d F) {fuel : Nat} {cs : List Value} {x : DataW H × List MemPlace}
  (h : DataW.trod enc P W base spare held fuel t cs = some x) : ∃ (A : Option Addr) (c : Nat) (xs : List α), cs = [.slice A xs.length c] ∧ xs.length ≤ c ∧ d.C W A xs.length xs ∧ xs.length ≤ maxLen ∧ ∀ y ∈ xs, F y := by
 rcases DataW.trod_slice ht h with ⟨rfl, _⟩ | ⟨a, len, cap, elems, rest, n, _, rfl, _, hb, hl, hm, hlen, hel, _, _⟩
 ·exact ⟨none, 0, [], rfl, Nat.le_refl _, ⟨rfl, by simp, fun h => by simp at h⟩, by simp, by simp⟩
 ·have each : ∀ i, i < len → ∃ y : α, F y ∧ ∃ c : List Value, c.length = d.sz ∧ d.K W y c ∧ ∀ (j : Nat) (u : Value), c[j]? = some u → W.cell? (a.add (i * d.sz + j)) = some u := by
   intro i hi
   have h1 := hel i hi
   rw [List.getElem?_eq_getElem (by omega), Option.bind_eq_some_iff] at h1
   obtain ⟨cs', hcs, hy⟩ := h1
   obtain ⟨y, hk, hF⟩ := hd _ _ _ hy
   rw [hc] at hcs
   obtain ⟨_, g1, g2⟩ := World.cells?_some hcs
   refine ⟨y, hF, cs', g1, hk, fun j u hu => ?_⟩
   have hj : j < d.sz := by rw [← g1]; exact (List.getElem?_eq_some_iff.1 hu).1
   have := g2 j hj
   rw [hu] at this
   rw [← this]
   rw [Addr.add_add]
  obtain ⟨xs, hlx, hx⟩ := zeZ len each
  subst hlx
  refine ⟨some a, cap, xs, rfl, hl, ⟨rfl, by unfold maxLen at hm; omega, fun _ => ⟨a, rfl, fun j p hp => (hx j p hp).2⟩⟩, by omega, fun y hy => ?_⟩
  obtain ⟨i, hi⟩ := List.getElem?_of_mem hy
  exact (hx i y hi).1

theorem zes {t e : TypeId} {α : Type} {d : Kd α} {F : α → Prop} (ht : P.underlying t = some (.slice e)) (hc : P.cellsOf e = d.sz) (hd : zgs enc P W base spare held e d F) :
  zgs enc P W base spare held t (Kd.slice e d) (fun xs => xs.length ≤ maxLen ∧ ∀ y ∈ xs, F y) := by
 intro fuel cs x h
 obtain ⟨A, c, xs, rfl, h1, h2, h3, h4⟩ := zd1 ht hc hd h
 exact ⟨xs, ⟨A, c, rfl, h1, h2⟩, h3, h4⟩

/-- A struct of two fields, a cell each. -/
theorem zeP {t : TypeId} {f0 f1 : Field} (ht : P.underlying t = some (.struct #[f0, f1])) (hc : P.cellsOf t = 2) (ho0 : f0.offset = 0) (ho1 : f1.offset = 1) (hc0 : P.cellsOf f0.type = 1) (hc1 : P.cellsOf f1.type = 1) {fuel : Nat} {cs : List Value} {x : DataW H × List MemPlace}
  (h : DataW.trod enc P W base spare held fuel t cs = some x) : ∃ (u v : Value) (n : Nat) (y z : DataW H × List MemPlace), cs = [u, v] ∧ DataW.trod enc P W base spare held n f0.type [u] = some y ∧ DataW.trod enc P W base spare held n f1.type [v] = some z := by
 obtain ⟨xs, n, _, _, hl, hx, hf⟩ := DataW.trod_struct ht h
 rw [hc] at hl
 simp only [List.size_toArray, List.length_cons, List.length_nil] at hx
 obtain ⟨u, v, rfl⟩ : ∃ u v, cs = [u, v] := by
  rcases cs with _ | ⟨u, _ | ⟨v, _ | ⟨w, r⟩⟩⟩ <;> simp at hl
  exact ⟨u, v, rfl⟩
 have h0 := hf 0 f0 (by simp)
 have h1 := hf 1 f1 (by simp)
 rw [ho0, hc0] at h0
 rw [ho1, hc1] at h1
 rw [List.getElem?_eq_getElem (by omega)] at h0 h1
 exact ⟨u, v, n, _, _, rfl, h0, h1⟩

/-- An argument that is such a struct. -/
theorem zhN {t : TypeId} {f0 f1 : Field} (ht : P.underlying t = some (.struct #[f0, f1])) (hc : P.cellsOf t = 2) (ho0 : f0.offset = 0) (ho1 : f1.offset = 1) (hc0 : P.cellsOf f0.type = 1) (hc1 : P.cellsOf f1.type = 1) {fuel : Nat} {v : Value} {x : DataW H × List MemPlace}
  (h : DataW.trod enc P W base spare held fuel t v.cells.toList = some x) : ∃ (u0 u1 : Value) (n : Nat) (y z : DataW H × List MemPlace), v = .agg #[u0, u1] ∧ DataW.trod enc P W base spare held n f0.type [u0] = some y ∧ DataW.trod enc P W base spare held n f1.type [u1] = some z := by
 obtain ⟨u0, u1, n, y, z, hcs, h0, h1⟩ := zeP ht hc ho0 ho1 hc0 hc1 h
 refine ⟨u0, u1, n, y, z, ?_, h0, h1⟩
 cases v with
 | agg cs =>
  simp only [Value.cells] at hcs
  congr 1
  exact Array.toList_inj.1 (by simpa using hcs)
 | _ => simp [Value.cells] at hcs

/-- As a kind: two fields in line, by the structure's own equation. -/
theorem zfw {t : TypeId} {f0 f1 : Field} {α β γ : Type} {d0 : Kd α} {d1 : Kd β} {F0 : α → Prop} {F1 : β → Prop} (pr : γ → α × β) (mk : α → β → γ) (hpr : ∀ a b, pr (mk a b) = (a, b)) (ht : P.underlying t = some (.struct #[f0, f1])) (hc : P.cellsOf t = 2) (ho0 : f0.offset = 0) (ho1 : f1.offset = 1)
  (hc0 : P.cellsOf f0.type = 1) (hc1 : P.cellsOf f1.type = 1) (h0 : zgs enc P W base spare held f0.type d0 F0) (h1 : zgs enc P W base spare held f1.type d1 F1) :
  zgs enc P W base spare held t (Kd.iso (Kd.pair d0 d1) pr) (fun x => F0 (pr x).1 ∧ F1 (pr x).2) := by
 intro fuel cs x h
 obtain ⟨u, v, n, y, z, rfl, g0, g1⟩ := zeP ht hc ho0 ho1 hc0 hc1 h
 obtain ⟨a, ka, fa⟩ := h0 _ _ _ g0
 obtain ⟨b, kb, fb⟩ := h1 _ _ _ g1
 refine ⟨mk a b, ?_, by rw [hpr]; exact fa, by rw [hpr]; exact fb⟩
 show (Kd.pair d0 d1).K W (pr (mk a b)) [u, v]
 rw [hpr]
 exact ⟨[u], [v], rfl, ka, kb⟩

end
end Go.Proofs.Ytneipehcmmigeaa.XOpen
