/- The program's AddPolys answers as the reference's for all polynomials of zh2 at most 2^20 monomials and numbers, leaves its arguments alone and shares no memory with them; above that the law says nothing. No condition. -/
import Derived.Test.YtneipehcmmigeaaPFnExactAddPolysx17
import Derived.Test.YtneipehcmmigeaaVFnExactAddPolys
set_option linter.unusedVariables false
set_option linter.unusedSimpArgs false
namespace Go.Proofs.Ytneipehcmmigeaa
open Go.ChangeShapes Go.WideShapes
end Go.Proofs.Ytneipehcmmigeaa
namespace Go.Proofs.Ytneipehcmmigeaa.Pure
open Go.RowKit Go.Proofs.Ytneipehcmmigeaa.PFnExactAddPolys Go.Proofs.YtneipehcmmigeaaW.PrintWords Go.Proofs.YtneipehcmmigeaaW.PrintLast
theorem zfn {x : Int} (h : -9223372036854775808 ≤ x) (h' : x ≤ 9223372036854775807) : wrap64 x = x := by unfold wrap64; omega
theorem wr1 {i : Nat} (h : i < 4611686018427387904) : wrap64 ((i : Int) + 1) = ((i + 1 : Nat) : Int) := by unfold wrap64; omega
theorem Ev.ite_true {α : Type} {c : Prop} [Decidable c] {g f : Nat → Option α} {r : α} (hc : c) (h : Ev g r) : Ev (fun k => if c then g k else f k) r := by
 obtain ⟨K, h⟩ := h
 exact ⟨K, fun k hk => (if_pos hc).trans (h k hk)⟩
theorem Ev.ite_false {α : Type} {c : Prop} [Decidable c] {g f : Nat → Option α} {r : α} (hc : ¬ c) (h : Ev f r) : Ev (fun k => if c then g k else f k) r := by
 obtain ⟨K, h⟩ := h
 exact ⟨K, fun k hk => (if_neg hc).trans (h k hk)⟩
theorem zcR (l : List Int) (i : Nat) (h : i < l.length) : rd l (i : Int) = l[i] := by
 simp [rd, List.getD_eq_getElem?_getD, h]
def both {α : Type} [DecidableEq α] (a b : Option α) : Bool := match a, b with
 | some x, some y => decide (x = y)
 | _, _ => false
theorem zcJ {α : Type} (y : List α) (i : Nat) (v : α) (h : i < y.length) : (y.set i v).take (i + 1) = y.take i ++ [v] := by
 rw [List.take_succ_eq_append_getElem (by simpa using h)]
 simp only [List.getElem_set_self]
 congr 1
 apply List.ext_getElem?
 intro j
 simp only [List.getElem?_take, List.getElem?_set]
 by_cases h : j < i
 ·rw [if_pos h, if_neg (by omega), if_pos h]
 ·rw [if_neg h, if_neg h]
theorem zg9 (l : List Int) (hl : l.length ≤ 1048576) (d : Nat) : ∀ (i : Nat) (y : List Int) (k : Nat), i + d = l.length → y.length = l.length → y.take i = l.take i → d < k → zb.l0 k l y i = some l := by
 induction d with
 | zero =>
  intro i y k hi hy ht hk
  obtain ⟨k, rfl⟩ : ∃ m, k = m + 1 := ⟨k - 1, by omega⟩
  simp only [zb.l0]
  rw [if_neg (by omega)]
  obtain rfl : i = l.length := by omega
  rw [List.take_of_length_le (by omega), List.take_of_length_le (by omega)] at ht
  rw [ht]
 | succ d ih =>
  intro i y k hi hy ht hk
  obtain ⟨k, rfl⟩ : ∃ m, k = m + 1 := ⟨k - 1, by omega⟩
  have hlt : i < l.length := by omega
  simp only [zb.l0]
  rw [if_pos (by omega), if_pos (by omega), if_pos (by omega), wr1 (by omega), zcR l i hlt]
  refine ih (i + 1) _ k (by omega) (by simpa using hy) ?_ (by omega)
  rw [Int.toNat_natCast, zcJ y i _ (by omega), ht, List.take_succ_eq_append_getElem hlt]
theorem zh (l : List Int) (hl : l.length ≤ 1048576) : Ev (fun k => zb.f k l) l := by
 refine ⟨l.length + 1, fun k hk => ?_⟩
 show zb.f k l = some l
 unfold zb.f
 rw [if_pos (by omega), if_pos (by omega)]
 exact zg9 l hl l.length 0 _ k (by omega) (by simp) (by simp) (by omega)
theorem zhy (a b : List Int) (hl : a.length ≤ 1048576) (hab : a.length = b.length) (d : Nat) : ∀ (i k : Nat), i + d = a.length → a.take i = b.take i → d < k → za7.l0 k a b i = some (decide (a = b)) := by
 induction d with
 | zero =>
  intro i k hi ht hk
  obtain ⟨k, rfl⟩ : ∃ m, k = m + 1 := ⟨k - 1, by omega⟩
  simp only [za7.l0]
  rw [if_neg (by omega)]
  obtain rfl : i = a.length := by omega
  rw [List.take_of_length_le (by omega), List.take_of_length_le (by omega)] at ht
  rw [decide_eq_true ht]
 | succ d ih =>
  intro i k hi ht hk
  obtain ⟨k, rfl⟩ : ∃ m, k = m + 1 := ⟨k - 1, by omega⟩
  have hlt : i < a.length := by omega
  have hlt' : i < b.length := by omega
  simp only [za7.l0]
  rw [if_pos (by omega), if_pos (by omega), if_pos (by omega), wr1 (by omega), zcR a i hlt, zcR b i hlt']
  by_cases h : a[i] = b[i]
  ·rw [if_pos h]
   refine ih (i + 1) k (by omega) ?_ (by omega)
   rw [List.take_succ_eq_append_getElem hlt, List.take_succ_eq_append_getElem hlt', ht, h]
  ·rw [if_neg h, decide_eq_false]
   intro e
   subst e
   exact h rfl
theorem zhz (a b : List Int) (hl : a.length ≤ 1048576) : Ev (fun k => za7.f k a b) (decide (a = b)) := by
 refine ⟨a.length + 1, fun k hk => ?_⟩
 show za7.f k a b = _
 unfold za7.f
 by_cases h : (a.length : Int) = (b.length : Int)
 ·rw [if_pos h]
  exact zhy a b hl (by omega) a.length 0 k (by omega) (by simp) (by omega)
 ·rw [if_neg h, decide_eq_false]
  intro e
  subst e
  exact h rfl
theorem zgj (a : List Int) (hl : a.length ≤ 1048576) : Ev (fun k => za7.f k a a) true := by
 have h := zhz a a hl
 rwa [decide_eq_true rfl] at h
theorem zfL {α : Type} (l : List α) (i : Nat) (h : i < l.length) : l.drop i = l[i] :: l.drop (i + 1) := List.drop_eq_getElem_cons h
def cmpL : List Int → List Int → Int
 | [], [] => 0
 | [], _ :: _ => -1
 | _ :: _, [] => 1
 | x :: xs, y :: ys => if x = y then cmpL xs ys else if x < y then -1 else 1
theorem zin (x y : Int) : zbR.f x y = some (if x = y then 0 else if x < y then -1 else 1) := by
 simp only [zbR.f, zbk.f, Option.bind_some, bne_self_eq_false]
 by_cases e : x = y
 ·subst e; simp
 ·by_cases g : x < y
  ·simp [e, g]
  ·have : y < x := by omega
   simp [e, g, this]
theorem zg1 (a b : List Int) (ha : a.length ≤ 1048576) (hb : b.length ≤ 1048576) (d : Nat) : ∀ (i : Nat), i + d = a.length → i ≤ b.length → Ev (fun k => zav.l0 k a b a a.length i) (cmpL (a.drop i) (b.drop i)) := by
 induction d with
 | zero =>
  intro i hi hb'
  refine Ev.step (fun k => by simp only [zav.l0]; rfl) (Ev.ite_false (by omega) ?_)
  rw [List.drop_of_length_le (l := a) (by omega)]
  by_cases h : i < b.length
  ·rw [zfL b i h]
   exact Ev.ite_true (by omega) (Ev.now _)
  ·rw [List.drop_of_length_le (l := b) (by omega)]
   exact Ev.ite_false (by omega) (Ev.now _)
 | succ d ih =>
  intro i hi hb'
  have hlt : i < a.length := by omega
  have hlt' : (i : Int) < (a.length : Int) := by omega
  have w1 : wrap64 ((i : Int) + 1) = ((i + 1 : Nat) : Int) := wr1 (by omega)
  rw [zfL a i hlt]
  refine Ev.step (fun k => by simp only [zav.l0]; rfl) (Ev.ite_true hlt' (Ev.ite_true (Int.natCast_nonneg _) (Ev.ite_true hlt' ?_)))
  by_cases h : i < b.length
  ·have h' : (i : Int) < (b.length : Int) := by omega
   rw [zfL b i h, zcR a i hlt, zcR b i h, w1, zin]
   simp only [Option.bind_some]
   refine Ev.ite_false (by omega) (Ev.ite_true h' ?_)
   by_cases e : a[i] = b[i]
   ·simp only [cmpL, if_pos e]
    refine Ev.ite_true (by trivial) ?_
    exact ih (i + 1) (by omega) (by omega)
   ·simp only [cmpL, if_neg e]
    refine Ev.ite_false (by split <;> omega) (Ev.now _)
  ·rw [List.drop_of_length_le (l := b) (by omega)]
   exact Ev.ite_true (by omega) (Ev.now _)
theorem zeY (a b : List Int) (ha : a.length ≤ 1048576) (hb : b.length ≤ 1048576) : Ev (fun k => zav.f k a b) (cmpL a b) := by
 simp only [zav.f]
 exact zg1 a b ha hb a.length 0 (by omega) (by omega)
theorem zby (l : List S48) (i : Nat) (h : i < l.length) : zab l (i : Int) = l[i] := by
 simp [zab, List.getD_eq_getElem?_getD, h]
def okS (l : List S48) : Prop := l.length ≤ 4398046511104 ∧ ∀ x ∈ l, x.f0.length ≤ 1048576
theorem zcj {l r : List S48} (h : okS l) (p : r.Perm l) : okS r := ⟨by rw [p.length_eq]; exact h.1, fun x hx => h.2 x (p.mem_iff.1 hx)⟩
theorem zjl {l : List S48} (h : okS l) {i j : Nat} (hi : i < l.length) (hj : j < l.length) : Ev (fun k => zaS.f k l[i].f0 l[i].f1 l[j].f0 l[j].f1) (cmpL l[j].f0 l[i].f0) := by
 simp only [zaS.f]
 exact Ev.bind (zeY _ _ (h.2 _ (List.getElem_mem hj)) (h.2 _ (List.getElem_mem hi))) (Ev.now _)
theorem zh4 {l : List S48} {i j : Nat} (hi : i < l.length) (hj : j < l.length) : ((l.set ((i : Nat) : Int).toNat (⟨(zab l (j : Int)).f0, (zab l (j : Int)).f1⟩ : S48)).set ((j : Nat) : Int).toNat (⟨(zab l (i : Int)).f0, (zab l (i : Int)).f1⟩ : S48)).Perm l := by
 rw [Int.toNat_natCast, Int.toNat_natCast, zby l i hi, zby l j hj]
 exact List.set_set_perm hi hj
theorem zf5 {j : Nat} (h0 : 0 < j) (h : j < 4611686018427387904) : wrap64 ((j : Int) - 1) = ((j - 1 : Nat) : Int) := by unfold wrap64; omega
theorem wrA {i j : Nat} (h : i + j < 4611686018427387904) : wrap64 ((i : Int) + (j : Int)) = ((i + j : Nat) : Int) := by unfold wrap64; omega
theorem wrS {i j : Nat} (h0 : j ≤ i) (h : i < 4611686018427387904) : wrap64 ((i : Int) - (j : Int)) = ((i - j : Nat) : Int) := by unfold wrap64; omega
theorem zfI {i j : Nat} (h : i + j < 4611686018427387904) : wrap64 (IntKind.u64.wrap (wrap64 ((i : Int) + (j : Int))) / 2) = (((i + j) / 2 : Nat) : Int) := by
 rw [wrA h, IntKind.wrap_u64]
 have e : (((i + j : Nat) : Int) % 18446744073709551616) = ((i + j : Nat) : Int) := by omega
 rw [e]
 unfold wrap64; omega
theorem zch : ∀ p q : List Int, cmpL p q = -cmpL q p
 | [], [] => rfl
 | [], _ :: _ => rfl
 | _ :: _, [] => rfl
 | x :: xs, y :: ys => by
  simp only [cmpL]
  by_cases e : x = y
  ·subst e; simp only [if_true]; exact zch xs ys
  ·have e2 : ¬ y = x := fun h => e h.symm
   rw [if_neg e, if_neg e2]
   by_cases g : x < y
   ·rw [if_pos g, if_neg (by omega)]
   ·rw [if_neg g, if_pos (by omega)]; rfl
theorem zfR (p : List Int) : cmpL p p = 0 := by have := zch p p; omega
theorem zfQ : ∀ p q : List Int, cmpL p q = 0 → p = q
 | [], [], _ => rfl
 | [], _ :: _, h => by simp [cmpL] at h
 | _ :: _, [], h => by simp [cmpL] at h
 | x :: xs, y :: ys, h => by
  simp only [cmpL] at h
  by_cases e : x = y
  ·rw [if_pos e] at h; rw [e, zfQ xs ys h]
  ·rw [if_neg e] at h; split at h <;> omega
def LeL (p q : List Int) : Prop := cmpL p q ≤ 0
theorem zb0 : ∀ {p q r : List Int}, LeL p q → LeL q r → LeL p r
 | [], _, [], _, _ => by simp [LeL, cmpL]
 | [], _, _ :: _, _, _ => by simp [LeL, cmpL]
 | x :: xs, [], _, h, _ => by simp [LeL, cmpL] at h
 | x :: xs, y :: ys, [], _, h => by simp [LeL, cmpL] at h
 | x :: xs, y :: ys, z :: zs, h1, h2 => by
  simp only [LeL, cmpL] at h1 h2 ⊢
  by_cases e : x = y
  ·rw [if_pos e] at h1
   subst e
   by_cases e2 : x = z
   ·rw [if_pos e2] at h2 ⊢
    exact zb0 (p := xs) (q := ys) (r := zs) h1 h2
   ·rw [if_neg e2] at h2 ⊢
    exact h2
  ·rw [if_neg e] at h1
   have g : x < y := by
    by_cases g : x < y
    ·exact g
    ·rw [if_neg g] at h1; omega
   by_cases e2 : y = z
   ·subst e2
    rw [if_neg e, if_pos g]; omega
   ·rw [if_neg e2] at h2
    have g2 : y < z := by
     by_cases g2 : y < z
     ·exact g2
     ·rw [if_neg g2] at h2; omega
    rw [if_neg (by omega), if_pos (by omega)]; omega
theorem zb1 {p q : List Int} (h : ¬ cmpL p q < 0) : LeL q p := by unfold LeL; rw [zch]; omega
theorem zcV {p q : List Int} (h : cmpL p q < 0) : LeL p q := by unfold LeL; omega
theorem zeh (p : List Int) : LeL p p := by unfold LeL; rw [zfR]; omega
def G (l : List S48) (i : Nat) : List Int := (l.getD i z48).f0
theorem G_eq (l : List S48) (i : Nat) (h : i < l.length) : l[i].f0 = G l i := by simp [G, List.getD_eq_getElem?_getD, h]
theorem zf {l : List S48} (h : okS l) {i j : Nat} (hi : i < l.length) (hj : j < l.length) : Ev (fun k => zaS.f k l[i].f0 l[i].f1 l[j].f0 l[j].f1) (cmpL (G l j) (G l i)) := by
 rw [← G_eq l i hi, ← G_eq l j hj]
 exact zjl h hi hj
theorem zgQ {l : List S48} {i j : Nat} (hi : i < l.length) (hj : j < l.length) (k : Nat) : G ((l.set ((i : Nat) : Int).toNat (⟨(zab l (j : Int)).f0, (zab l (j : Int)).f1⟩ : S48)).set ((j : Nat) : Int).toNat (⟨(zab l (i : Int)).f0, (zab l (i : Int)).f1⟩ : S48)) k = if k = i then G l j else if k = j then G l i else G l k := by
 rw [Int.toNat_natCast, Int.toNat_natCast, zby l i hi, zby l j hj]
 simp only [G, List.getD_eq_getElem?_getD, List.getElem?_set, List.length_set]
 by_cases e1 : k = i
 ·subst e1
  by_cases e2 : j = k
  ·subst e2; simp [hi]
  ·simp [e2, hi, hj]
 ·by_cases e2 : k = j
  ·subst e2; simp [hi, hj, e1]
  ·have e3 : ¬ j = k := fun h => e2 h.symm
   have e4 : ¬ i = k := fun h => e1 h.symm
   simp [e1, e2, e3, e4]
def SO (l : List S48) (a b : Nat) : Prop := ∀ i j, a ≤ i → i < j → j < b → LeL (G l j) (G l i)
structure Res (a b : Nat) (r l : List S48) : Prop where
 perm : r.Perm l
 fr : ∀ k, k < a ∨ b ≤ k → G r k = G l k
 mem : ∀ k, a ≤ k → k < b → ∃ k', a ≤ k' ∧ k' < b ∧ G r k = G l k'
theorem Res.refl (a b : Nat) (l : List S48) : Res a b l l := ⟨List.Perm.refl _, fun _ _ => rfl, fun k h1 h2 => ⟨k, h1, h2, rfl⟩⟩
theorem Res.trans {a b : Nat} {r s l : List S48} (h1 : Res a b r s) (h2 : Res a b s l) : Res a b r l := ⟨h1.perm.trans h2.perm, fun k h => (h1.fr k h).trans (h2.fr k h), fun k ha hb => by
 obtain ⟨k', q1, q2, q3⟩ := h1.mem k ha hb
 obtain ⟨k'', p1, p2, p3⟩ := h2.mem k' q1 q2
 exact ⟨k'', p1, p2, q3.trans p3⟩⟩
theorem Res.wide {a b a' b' : Nat} {r l : List S48} (h : Res a b r l) (ha : a' ≤ a) (hb : b ≤ b') : Res a' b' r l := ⟨h.perm, fun k hk => h.fr k (by omega), fun k q1 q2 => by
 by_cases c : a ≤ k ∧ k < b
 ·obtain ⟨k', p1, p2, p3⟩ := h.mem k c.1 c.2
  exact ⟨k', by omega, by omega, p3⟩
 ·exact ⟨k, q1, q2, h.fr k (by omega)⟩⟩
theorem SO.fr {a b c d : Nat} {r l : List S48} (hs : SO l c d) (h : Res a b r l) (hd : d ≤ a ∨ b ≤ c) : SO r c d := fun i j h1 h2 h3 => by
 rw [h.fr i (by omega), h.fr j (by omega)]
 exact hs i j h1 h2 h3
theorem SO.sub {a b c d : Nat} {l : List S48} (hs : SO l a b) (h1 : a ≤ c) (h2 : d ≤ b) : SO l c d := fun i j p q r => hs i j (by omega) q (by omega)
theorem SO.one {a b : Nat} {l : List S48} (h : b ≤ a + 1) : SO l a b := fun i j p q r => by omega
theorem SO.join {a m b : Nat} {l : List S48} (h1 : SO l a m) (h2 : SO l m b) (hx : ∀ i j, a ≤ i → i < m → m ≤ j → j < b → LeL (G l j) (G l i)) : SO l a b := fun i j p q r => by
 by_cases c1 : j < m
 ·exact h1 i j p q c1
 ·by_cases c2 : i < m
  ·exact hx i j p c2 (by omega) r
  ·exact h2 i j (by omega) q r
theorem zjg (a b i : Nat) (hb : b < 4611686018427387904) (d : Nat) : ∀ (j : Nat) (l : List S48), a + d = j → okS l → i < l.length → j ≤ i → (∀ p q, a ≤ p → p < q → q ≤ i → q ≠ j → LeL (G l q) (G l p)) →
  (∀ l', okS l' → l'.length = l.length → SO l' a (i + 1) → Res a (i + 1) l' l → ∃ r, Ev (fun k => zaa.l0 k l' a b ((i + 1 : Nat) : Int)) r ∧ Res a b r l' ∧ SO r a b) →
  i < b → ∃ r, Ev (fun k => zaa.l1 k l a b i j) r ∧ Res a b r l ∧ SO r a b := by
 induction d with
 | zero =>
  intro j l hj hl hil hji hs H hib
  obtain ⟨r, h1, h2, h3⟩ := H l hl rfl (fun p q h1 h2 h3 => hs p q h1 h2 (by omega) (by omega)) (Res.refl _ _ _)
  refine ⟨r, Ev.step (fun k => by rw [zaa.l1]) (Ev.ite_false (by omega) ?_), h2, h3⟩
  rw [wr1 (by omega)]
  exact h1
 | succ d ih =>
  intro j l hj hl hil hji hs H hib
  have h9 := hl.1
  have hjl : j < l.length := by omega
  have hc := zf hl (i := j) (j := j - 1) (by omega) (by omega)
  by_cases c : cmpL (G l (j - 1)) (G l j) < 0
  ·have hp := zh4 (l := l) (i := j) (j := j - 1) (by omega) (by omega)
   have hg := zgQ (l := l) (i := j) (j := j - 1) (by omega) (by omega)
   generalize hS : ((l.set ((j : Nat) : Int).toNat (⟨(zab l ((j - 1 : Nat) : Int)).f0, (zab l ((j - 1 : Nat) : Int)).f1⟩ : S48)).set ((j - 1 : Nat) : Int).toNat (⟨(zab l (j : Int)).f0, (zab l (j : Int)).f1⟩ : S48)) = s at hp hg
   have hR : Res a (i + 1) s l := ⟨hp, fun k hk => by rw [hg, if_neg (by omega), if_neg (by omega)], fun k q1 q2 => by
    rw [hg]
    split
    ·exact ⟨j - 1, by omega, by omega, rfl⟩
    ·split
     ·exact ⟨j, by omega, by omega, rfl⟩
     ·exact ⟨k, q1, q2, rfl⟩⟩
   obtain ⟨r, h1, h2, h3⟩ := ih (j - 1) s (by omega) (zcj hl hp) (by rw [hp.length_eq]; omega) (by omega) (fun p q h1 h2 h3 h4 => by
    rw [hg, hg]
    by_cases e1 : q = j
    ·subst e1
     rw [if_pos rfl]
     by_cases e2 : p = q - 1
     ·subst e2
      rw [if_neg (by omega), if_pos rfl]
      exact zcV c
     ·rw [if_neg (by omega), if_neg (by omega)]
      exact hs p (q - 1) h1 (by omega) (by omega) (by omega)
    ·rw [if_neg e1, if_neg h4]
     by_cases e2 : p = j
     ·subst e2
      rw [if_pos rfl]
      exact hs (p - 1) q (by omega) (by omega) h3 e1
     ·rw [if_neg e2]
      by_cases e3 : p = j - 1
      ·subst e3
       rw [if_pos rfl]
       exact hs j q (by omega) (by omega) h3 e1
      ·rw [if_neg e3]
       exact hs p q h1 h2 h3 e1) (fun l' h' e hs' hr' => by
        obtain ⟨r, q1, q2, q3⟩ := H l' h' (by rw [e, hp.length_eq]) hs' (hr'.trans hR)
        exact ⟨r, q1, q2, q3⟩) hib
   refine ⟨r, Ev.step (fun k => by rw [zaa.l1]) (Ev.ite_true (by omega) (Ev.ite_true (by omega) (Ev.ite_true (by omega) ?_))), h2.trans (hR.wide (Nat.le_refl _) (by omega)), h3⟩
   rw [zf5 (by omega) (by omega)]
   refine Ev.ite_true (by omega) (Ev.ite_true (by omega) (Ev.bind (a := cmpL (G l (j - 1)) (G l j)) ?_ (Ev.ite_true c ?_)))
   ·rw [zby l j hjl, zby l (j - 1) (by omega)]
    exact hc
   ·rw [hS]; exact h1
  ·obtain ⟨r, h1, h2, h3⟩ := H l hl rfl (fun p q h1 h2 h3 => by
    by_cases e : q = j
    ·subst e
     by_cases e2 : p = q - 1
     ·subst e2; exact zb1 c
     ·exact zb0 (zb1 c) (hs p (q - 1) h1 (by omega) (by omega) (by omega))
    ·exact hs p q h1 h2 (by omega) e) (Res.refl _ _ _)
   refine ⟨r, Ev.step (fun k => by rw [zaa.l1]) (Ev.ite_true (by omega) (Ev.ite_true (by omega) (Ev.ite_true (by omega) ?_))), h2, h3⟩
   rw [zf5 (by omega) (by omega), wr1 (by omega)]
   refine Ev.ite_true (by omega) (Ev.ite_true (by omega) (Ev.bind (a := cmpL (G l (j - 1)) (G l j)) ?_ (Ev.ite_false c h1)))
   rw [zby l j hjl, zby l (j - 1) (by omega)]
   exact hc
theorem zht (a b : Nat) (hb : b < 4611686018427387904) (d : Nat) : ∀ (i : Nat) (l : List S48), i + d = b ∨ (d = 0 ∧ b ≤ i) → a < i → okS l → b ≤ l.length → SO l a i → ∃ r, Ev (fun k => zaa.l0 k l a b i) r ∧ Res a b r l ∧ SO r a b := by
 induction d with
 | zero =>
  intro i l hi hai hl hbl hs
  exact ⟨l, Ev.step (fun k => by rw [zaa.l0]) (Ev.ite_false (by omega) (Ev.now _)), Res.refl _ _ _, hs.sub (Nat.le_refl _) (by omega)⟩
 | succ d ih =>
  intro i l hi hai hl hbl hs
  obtain ⟨r, h1, h2, h3⟩ := zjg a b i hb (i - a) i l (by omega) hl (by omega) (Nat.le_refl _) (fun p q h1 h2 h3 h4 => hs p q h1 h2 (by omega)) (fun l' h' e hs' _ => ih (i + 1) l' (by omega) (by omega) h' (by omega) hs') (by omega)
  exact ⟨r, Ev.step (fun k => by rw [zaa.l0]) (Ev.ite_true (by omega) h1), h2, h3⟩
theorem zhu (a b : Nat) (l : List S48) (hl : okS l) (hb : b ≤ l.length) (hab : a ≤ b) : ∃ r, Ev (fun k => zaa.f k l a b) r ∧ Res a b r l ∧ SO r a b := by
 have h9 := hl.1
 simp only [zaa.f]
 rw [wr1 (by omega)]
 by_cases h : a + 1 ≤ b
 ·exact zht a b (by omega) (b - (a + 1)) (a + 1) l (by omega) (by omega) hl hb (SO.one (by omega))
 ·exact zht a b (by omega) 0 (a + 1) l (by omega) (by omega) hl hb (SO.one (by omega))
theorem zh5 (a b n : Nat) (hab : a + n ≤ b) (d : Nat) : ∀ (i : Nat) (l : List S48), i + d = n → okS l → b + n ≤ l.length → ∃ r, Ev (fun k => zad.l0 k l a b n i) r ∧ r.Perm l ∧
  ∀ k, G r k = if a + i ≤ k ∧ k < a + n then G l (b + (k - a)) else if b + i ≤ k ∧ k < b + n then G l (a + (k - b)) else G l k := by
 induction d with
 | zero =>
  intro i l hi hl hb
  exact ⟨l, Ev.step (fun k => by rw [zad.l0]) (Ev.ite_false (by omega) (Ev.now _)), List.Perm.refl _, fun k => by rw [if_neg (by omega), if_neg (by omega)]⟩
 | succ d ih =>
  intro i l hi hl hb
  have h9 := hl.1
  have hp := zh4 (l := l) (i := a + i) (j := b + i) (by omega) (by omega)
  have hg := zgQ (l := l) (i := a + i) (j := b + i) (by omega) (by omega)
  obtain ⟨r, h1, h2, h3⟩ := ih (i + 1) _ (by omega) (zcj hl hp) (by rw [hp.length_eq]; omega)
  refine ⟨r, Ev.step (fun k => by rw [zad.l0]) (Ev.ite_true (by omega) ?_), h2.trans hp, fun k => ?_⟩
  ·rw [wrA (by omega), wrA (by omega), wr1 (by omega)]
   exact Ev.ite_true (by omega) (Ev.ite_true (by omega) (Ev.ite_true (by omega) (Ev.ite_true (by omega) h1)))
  ·rw [h3, hg, hg, hg]
   repeat' split
   all_goals first
    | rfl
    | omega
    | (congr 1; omega)
theorem ze4 (a b n : Nat) (hab : a + n ≤ b) (l : List S48) (hl : okS l) (hb : b + n ≤ l.length) : ∃ r, Ev (fun k => zad.f k l a b n) r ∧ r.Perm l ∧
  ∀ k, G r k = if a ≤ k ∧ k < a + n then G l (b + (k - a)) else if b ≤ k ∧ k < b + n then G l (a + (k - b)) else G l k := by
 simp only [zad.f]
 exact zh5 a b n hab n 0 l (by omega) hl hb
theorem zga (m : Nat) : ∀ (s i j : Nat) (l : List S48), i + j ≤ s → 0 < i → 0 < j → i ≤ m → okS l → m + j ≤ l.length → ∃ r, Ev (fun k => zal.l0 k l m i j) r ∧ r.Perm l ∧
  ∀ k, G r k = if m - i ≤ k ∧ k < m - i + j then G l (k + i) else if m - i + j ≤ k ∧ k < m + j then G l (k - j) else G l k
 | 0, i, j, l, hs, hi, _, _, _, _ => by omega
 | s + 1, i, j, l, hs, hi, hj, him, hl, hml => by
  have h9 := hl.1
  by_cases e : i = j
  ·subst e
   obtain ⟨r, h1, h2, h3⟩ := ze4 (m - i) m i (by omega) l hl (by omega)
   refine ⟨r, Ev.step (fun k => by rw [zal.l0]) (Ev.ite_true rfl ?_), h2, fun k => ?_⟩
   ·rw [wrS him (by omega)]
    exact Ev.bind h1 (Ev.now _)
   ·rw [h3]
    repeat' split
    all_goals first
     | rfl
     | omega
     | (congr 1; omega)
  ·by_cases g : j < i
   ·obtain ⟨r, h1, h2, h3⟩ := ze4 (m - i) m j (by omega) l hl (by omega)
    obtain ⟨r', h4, h5, h6⟩ := zga m s (i - j) j r (by omega) (by omega) hj (by omega) (zcj hl h2) (by rw [h2.length_eq]; exact hml)
    refine ⟨r', Ev.step (fun k => by rw [zal.l0]) (Ev.ite_false (by omega) (Ev.ite_true (by omega) ?_)), h5.trans h2, fun k => ?_⟩
    ·rw [wrS him (by omega), wrS (by omega) (by omega)]
     exact Ev.bind h1 h4
    ·rw [h6, h3, h3, h3]
     repeat' split
     all_goals first
      | rfl
      | omega
      | (congr 1; omega)
   ·obtain ⟨r, h1, h2, h3⟩ := ze4 (m - i) (m + j - i) i (by omega) l hl (by omega)
    obtain ⟨r', h4, h5, h6⟩ := zga m s i (j - i) r (by omega) hi (by omega) him (zcj hl h2) (by rw [h2.length_eq]; omega)
    refine ⟨r', Ev.step (fun k => by rw [zal.l0]) (Ev.ite_false (by omega) (Ev.ite_false (by omega) ?_)), h5.trans h2, fun k => ?_⟩
    ·rw [wrS him (by omega), wrA (by omega), wrS (by omega) (by omega), wrS (by omega) (by omega)]
     exact Ev.bind h1 h4
    ·rw [h6, h3, h3, h3]
     repeat' split
     all_goals first
      | rfl
      | omega
      | (congr 1; omega)
theorem zjb (a m b : Nat) (l : List S48) (hl : okS l) (h1 : a < m) (h2 : m < b) (h3 : b ≤ l.length) : ∃ r, Ev (fun k => zal.f k l a m b) r ∧ r.Perm l ∧
  ∀ k, G r k = if a ≤ k ∧ k < a + (b - m) then G l (k + (m - a)) else if a + (b - m) ≤ k ∧ k < b then G l (k - (b - m)) else G l k := by
 have h9 := hl.1
 simp only [zal.f]
 rw [wrS (by omega) (by omega), wrS (by omega) (by omega)]
 obtain ⟨r, q1, q2, q3⟩ := zga m (b - a) (m - a) (b - m) l (by omega) (by omega) (by omega) (by omega) hl (by omega)
 refine ⟨r, q1, q2, fun k => ?_⟩
 rw [q3, show m - (m - a) = a by omega, show m + (b - m) = b by omega]
theorem zja (i : Nat) (hi : 0 < i) (d : Nat) : ∀ (j : Nat) (l : List S48), j + d = i - 1 → okS l → i ≤ l.length → ∃ r, Ev (fun k => za.l1 k l i j) r ∧ r.Perm l ∧
  ∀ k, G r k = if j ≤ k ∧ k < i - 1 then G l (k + 1) else if k = i - 1 then G l j else G l k := by
 induction d with
 | zero =>
  intro j l hj hl hil
  have h9 := hl.1
  refine ⟨l, Ev.step (fun k => by rw [za.l1]) ?_, List.Perm.refl _, fun k => ?_⟩
  ·rw [zf5 hi (by omega)]
   exact Ev.ite_false (by omega) (Ev.now _)
  ·rw [if_neg (by omega)]
   split
   ·congr 1; omega
   ·rfl
 | succ d ih =>
  intro j l hj hl hil
  have h9 := hl.1
  have hp := zh4 (l := l) (i := j) (j := j + 1) (by omega) (by omega)
  have hg := zgQ (l := l) (i := j) (j := j + 1) (by omega) (by omega)
  obtain ⟨r, h1, h2, h3⟩ := ih (j + 1) _ (by omega) (zcj hl hp) (by rw [hp.length_eq]; omega)
  refine ⟨r, Ev.step (fun k => by rw [za.l1]) ?_, h2.trans hp, fun k => ?_⟩
  ·rw [zf5 hi (by omega), wr1 (by omega)]
   exact Ev.ite_true (by omega) (Ev.ite_true (by omega) (Ev.ite_true (by omega) (Ev.ite_true (by omega) (Ev.ite_true (by omega) h1))))
  ·rw [h3, hg, hg, hg]
   repeat' split
   all_goals first
    | rfl
    | omega
    | (congr 1; omega)
theorem zf7 (a b : Nat) : ∀ (s i j : Nat) (l : List S48), j - i ≤ s → a < i → okS l → i ≤ j → j ≤ b → b ≤ l.length → SO l (a + 1) b → (∀ h, a < h → h < i → cmpL (G l a) (G l h) < 0) → (∀ h, j ≤ h → h < b → ¬ cmpL (G l a) (G l h) < 0) →
  ∃ r, Ev (fun k => za.l0 k l a i j) r ∧ Res a b r l ∧ SO r a b
 | s, i, j, l, hs, hai, hl, hij, hjb, hb, hso, hlo, hhi => by
  have h9 := hl.1
  have ha : a < b := by omega
  by_cases c : i < j
  ·cases s with
   | zero => omega
   | succ s =>
    have hh : (i + j) / 2 < l.length := by omega
    have ha' : a < l.length := by omega
    have hc := zf hl hh ha'
    by_cases g : cmpL (G l a) (G l ((i + j) / 2)) < 0
    ·obtain ⟨r, h1, h2, h3⟩ := zf7 a b s ((i + j) / 2 + 1) j l (by omega) (by omega) hl (by omega) hjb hb hso (fun h q1 q2 => by
      by_cases e : h = (i + j) / 2
      ·subst e; exact g
      ·have q := hso h ((i + j) / 2) (by omega) (by omega) (by omega)
       by_cases g2 : cmpL (G l a) (G l h) < 0
       ·exact g2
       ·exact absurd g (by have := zb0 q (zb1 g2); unfold LeL at this; rw [zch]; omega)) hhi
     refine ⟨r, Ev.step (fun k => by rw [za.l0]) (Ev.ite_true (by omega) ?_), h2, h3⟩
     rw [zfI (by omega), wr1 (by omega)]
     refine Ev.ite_true (by omega) (Ev.ite_true (by omega) (Ev.ite_true (by omega) (Ev.ite_true (by omega) (Ev.bind (a := cmpL (G l a) (G l ((i + j) / 2))) ?_ (Ev.ite_true g h1)))))
     rw [zby l _ hh, zby l a ha']
     exact hc
    ·obtain ⟨r, h1, h2, h3⟩ := zf7 a b s i ((i + j) / 2) l (by omega) hai hl (by omega) (by omega) hb hso hlo (fun h q1 q2 => by
      by_cases e : h = (i + j) / 2
      ·subst e; exact g
      ·have q := hso ((i + j) / 2) h (by omega) (by omega) (by omega)
       have q' := zb0 q (zb1 g)
       unfold LeL at q'; rw [zch]; omega)
     refine ⟨r, Ev.step (fun k => by rw [za.l0]) (Ev.ite_true (by omega) ?_), h2, h3⟩
     rw [zfI (by omega)]
     refine Ev.ite_true (by omega) (Ev.ite_true (by omega) (Ev.ite_true (by omega) (Ev.ite_true (by omega) (Ev.bind (a := cmpL (G l a) (G l ((i + j) / 2))) ?_ (Ev.ite_false g h1)))))
     rw [zby l _ hh, zby l a ha']
     exact hc
  ·have e : j = i := by omega
   subst e
   obtain ⟨r, h1, h2, h3⟩ := zja j (by omega) (j - 1 - a) a l (by omega) hl (by omega)
   refine ⟨r, Ev.step (fun k => by rw [za.l0]) (Ev.ite_false (by omega) h1), ⟨h2, fun k hk => ?_, fun k q1 q2 => ?_⟩, fun p q q1 q2 q3 => ?_⟩
   ·rw [h3, if_neg (by omega)]
    split
    ·omega
    ·rfl
   ·rw [h3]
    split
    ·exact ⟨k + 1, by omega, by omega, rfl⟩
    ·split
     ·exact ⟨a, by omega, by omega, rfl⟩
     ·exact ⟨k, q1, q2, rfl⟩
   ·rw [h3, h3]
    by_cases p1 : p < j - 1
    ·rw [if_pos (show a ≤ p ∧ p < j - 1 from ⟨q1, p1⟩)]
     by_cases p2 : q < j - 1
     ·rw [if_pos (show a ≤ q ∧ q < j - 1 by omega)]
      exact hso (p + 1) (q + 1) (by omega) (by omega) (by omega)
     ·rw [if_neg (by omega)]
      by_cases p3 : q = j - 1
      ·rw [if_pos p3]
       exact zcV (hlo (p + 1) (by omega) (by omega))
      ·rw [if_neg p3]
       exact hso (p + 1) q (by omega) (by omega) (by omega)
    ·rw [if_neg (show ¬ (a ≤ q ∧ q < j - 1) by omega), if_neg (show ¬ q = j - 1 by omega), if_neg (show ¬ (a ≤ p ∧ p < j - 1) by omega)]
     by_cases p3 : p = j - 1
     ·rw [if_pos p3]
      exact zb1 (hhi q (by omega) (by omega))
     ·rw [if_neg p3]
      exact hso p q (by omega) (by omega) (by omega)
theorem zj (i : Nat) (d : Nat) : ∀ (j : Nat) (l : List S48), i + d = j → okS l → j < l.length → ∃ r, Ev (fun k => za.l3 k l i j) r ∧ r.Perm l ∧
  ∀ k, G r k = if k = i then G l j else if i < k ∧ k ≤ j then G l (k - 1) else G l k := by
 induction d with
 | zero =>
  intro j l hj hl hjl
  refine ⟨l, Ev.step (fun k => by rw [za.l3]) (Ev.ite_false (by omega) (Ev.now _)), List.Perm.refl _, fun k => ?_⟩
  split
  ·congr 1; omega
  ·rw [if_neg (by omega)]
 | succ d ih =>
  intro j l hj hl hjl
  have h9 := hl.1
  have hp := zh4 (l := l) (i := j) (j := j - 1) (by omega) (by omega)
  have hg := zgQ (l := l) (i := j) (j := j - 1) (by omega) (by omega)
  obtain ⟨r, h1, h2, h3⟩ := ih (j - 1) _ (by omega) (zcj hl hp) (by rw [hp.length_eq]; omega)
  refine ⟨r, Ev.step (fun k => by rw [za.l3]) (Ev.ite_true (by omega) ?_), h2.trans hp, fun k => ?_⟩
  ·rw [zf5 (by omega) (by omega)]
   exact Ev.ite_true (by omega) (Ev.ite_true (by omega) (Ev.ite_true (by omega) (Ev.ite_true (by omega) h1)))
  ·rw [h3, hg, hg, hg]
   repeat' split
   all_goals first
    | rfl
    | omega
    | (congr 1; omega)
theorem zf6 (a m : Nat) : ∀ (s i j : Nat) (l : List S48), j - i ≤ s → okS l → m < l.length → a ≤ i → i ≤ j → j ≤ m → SO l a m → (∀ h, a ≤ h → h < i → ¬ cmpL (G l h) (G l m) < 0) → (∀ h, j ≤ h → h < m → cmpL (G l h) (G l m) < 0) →
  ∃ r, Ev (fun k => za.l2 k l m i j) r ∧ Res a (m + 1) r l ∧ SO r a (m + 1)
 | s, i, j, l, hs, hl, hm, hai, hij, hjm, hso, hlo, hhi => by
  have h9 := hl.1
  by_cases c : i < j
  ·cases s with
   | zero => omega
   | succ s =>
    have hh : (i + j) / 2 < l.length := by omega
    have hc := zf hl hm hh
    by_cases g : cmpL (G l ((i + j) / 2)) (G l m) < 0
    ·obtain ⟨r, h1, h2, h3⟩ := zf6 a m s i ((i + j) / 2) l (by omega) hl hm hai (by omega) (by omega) hso hlo (fun h q1 q2 => by
      by_cases e : h = (i + j) / 2
      ·subst e; exact g
      ·have q := hso ((i + j) / 2) h (by omega) (by omega) (by omega)
       by_cases g2 : cmpL (G l h) (G l m) < 0
       ·exact g2
       ·exact absurd g (by have := zb0 (zb1 g2) q; unfold LeL at this; rw [zch]; omega))
     refine ⟨r, Ev.step (fun k => by rw [za.l2]) (Ev.ite_true (by omega) ?_), h2, h3⟩
     rw [zfI (by omega)]
     refine Ev.ite_true (by omega) (Ev.ite_true (by omega) (Ev.ite_true (by omega) (Ev.ite_true (by omega) (Ev.bind (a := cmpL (G l ((i + j) / 2)) (G l m)) ?_ (Ev.ite_true g h1)))))
     rw [zby l _ hh, zby l m hm]
     exact hc
    ·obtain ⟨r, h1, h2, h3⟩ := zf6 a m s ((i + j) / 2 + 1) j l (by omega) hl hm (by omega) (by omega) hjm hso (fun h q1 q2 => by
      by_cases e : h = (i + j) / 2
      ·subst e; exact g
      ·have q := hso h ((i + j) / 2) (by omega) (by omega) (by omega)
       have q' := zb0 (zb1 g) q
       unfold LeL at q'; rw [zch]; omega) hhi
     refine ⟨r, Ev.step (fun k => by rw [za.l2]) (Ev.ite_true (by omega) ?_), h2, h3⟩
     rw [zfI (by omega), wr1 (by omega)]
     refine Ev.ite_true (by omega) (Ev.ite_true (by omega) (Ev.ite_true (by omega) (Ev.ite_true (by omega) (Ev.bind (a := cmpL (G l ((i + j) / 2)) (G l m)) ?_ (Ev.ite_false g h1)))))
     rw [zby l _ hh, zby l m hm]
     exact hc
  ·have e : j = i := by omega
   subst e
   obtain ⟨r, h1, h2, h3⟩ := zj j (m - j) m l (by omega) hl hm
   refine ⟨r, Ev.step (fun k => by rw [za.l2]) (Ev.ite_false (by omega) h1), ⟨h2, fun k hk => ?_, fun k q1 q2 => ?_⟩, fun p q q1 q2 q3 => ?_⟩
   ·rw [h3, if_neg (by omega), if_neg (by omega)]
   ·rw [h3]
    split
    ·exact ⟨m, by omega, by omega, rfl⟩
    ·split
     ·exact ⟨k - 1, by omega, by omega, rfl⟩
     ·exact ⟨k, q1, q2, rfl⟩
   ·rw [h3, h3]
    by_cases p1 : p < j
    ·rw [if_neg (show ¬ p = j by omega), if_neg (show ¬ (j < p ∧ p ≤ m) by omega)]
     by_cases p2 : q < j
     ·rw [if_neg (by omega), if_neg (by omega)]
      exact hso p q q1 q2 (by omega)
     ·by_cases p3 : q = j
      ·rw [if_pos p3]
       exact zb1 (hlo p q1 p1)
      ·rw [if_neg p3, if_pos (by omega)]
       exact hso p (q - 1) q1 (by omega) (by omega)
    ·rw [if_neg (show ¬ q = j by omega), if_pos (show j < q ∧ q ≤ m by omega)]
     by_cases p3 : p = j
     ·rw [if_pos p3]
      exact zcV (hhi (q - 1) (by omega) (by omega))
     ·rw [if_neg p3, if_pos (by omega)]
      exact hso (p - 1) (q - 1) (by omega) (by omega) (by omega)
def SymO (n : Nat) : Prop := ∀ (a m b : Nat) (l : List S48), b - a ≤ n → a < m → m < b → okS l → b ≤ l.length → SO l a m → SO l m b → ∃ r, Ev (fun k => za.f k l a m b) r ∧ Res a b r l ∧ SO r a b
structure zhY (a st mid en b : Nat) (l : List S48) : Prop where
 s1 : SO l a st
 s2 : SO l st mid
 s3 : SO l mid en
 s4 : SO l en b
 x : ∀ i j, a ≤ i → i < mid → mid ≤ j → j < b → LeL (G l j) (G l i)
theorem zhb {n : Nat} (H : SymO n) (a b mid st en : Nat) (l : List S48) (bl : Bool) (hbl : bl = true ↔ a < st ∧ st < mid) (has : a ≤ st) (hsm : st ≤ mid) (hme : mid ≤ en) (heb : en ≤ b) (hn1 : mid - a ≤ n) (hn2 : b - mid ≤ n) (hl : okS l) (hb : b ≤ l.length) (hh : zhY a st mid en b l) :
  ∃ r, Ev (fun k => za.j8 k l a b mid st en bl) r ∧ Res a b r l ∧ SO r a b := by
 have tail : ∀ l', Res a mid l' l → SO l' a mid → ∃ r, Ev (fun k => if (mid : Int) < (en : Int) then (if (en : Int) < (b : Int) then ((za.f k l' mid en b).bind fun t => some t) else some l') else some l') r ∧ Res a b r l ∧ SO r a b := by
  intro l' hr hs
  have hp := hr.perm
  have t3 := hh.s3.fr hr (.inr (Nat.le_refl _))
  have t4 := hh.s4.fr hr (.inr hme)
  have tx : ∀ i j, a ≤ i → i < mid → mid ≤ j → j < b → LeL (G l' j) (G l' i) := fun i j q1 q2 q3 q4 => by
   obtain ⟨i', p1, p2, p3⟩ := hr.mem i q1 q2
   rw [p3, hr.fr j (by omega)]
   exact hh.x i' j p1 p2 q3 q4
  have fin : SO l' mid b → ∃ r, r = l' ∧ Res a b r l ∧ SO r a b := fun hmb => ⟨l', rfl, hr.wide (Nat.le_refl _) (by omega), hs.join hmb tx⟩
  by_cases c1 : mid < en
  ·by_cases c2 : en < b
   ·obtain ⟨r, h1, h2, h3⟩ := H mid en b l' hn2 c1 c2 (zcj hl hp) (by rw [hp.length_eq]; exact hb) t3 t4
    refine ⟨r, Ev.ite_true (by omega) (Ev.ite_true (by omega) (Ev.bind h1 (Ev.now _))), (h2.wide (by omega) (Nat.le_refl _)).trans (hr.wide (Nat.le_refl _) (by omega)), (hs.fr h2 (.inl (Nat.le_refl _))).join h3 fun i j q1 q2 q3 q4 => ?_⟩
    obtain ⟨j', p1, p2, p3⟩ := h2.mem j q3 q4
    rw [p3, h2.fr i (by omega)]
    exact tx i j' q1 q2 p1 p2
   ·obtain ⟨r, rfl, h2, h3⟩ := fin (t3.sub (Nat.le_refl _) (by omega))
    exact ⟨r, Ev.ite_true (by omega) (Ev.ite_false (by omega) (Ev.now _)), h2, h3⟩
  ·have e : en = mid := by omega
   subst e
   obtain ⟨r, rfl, h2, h3⟩ := fin t4
   exact ⟨r, Ev.ite_false (by omega) (Ev.now _), h2, h3⟩
 cases bl with
 | true =>
  obtain ⟨g1, g2⟩ := hbl.1 rfl
  obtain ⟨r, h1, h2, h3⟩ := H a st mid l hn1 g1 g2 hl (by omega) hh.s1 hh.s2
  obtain ⟨r', h4, h5, h6⟩ := tail r h2 h3
  exact ⟨r', Ev.step (fun k => by rw [za.j8]) (Ev.ite_true rfl (Ev.bind h1 h4)), h5, h6⟩
 | false =>
  have hno : ¬ (a < st ∧ st < mid) := fun h => by have := hbl.2 h; cases this
  have hs : SO l a mid := by
   by_cases e : a = st
   ·subst e; exact hh.s2
   ·have e2 : st = mid := by omega
    subst e2; exact hh.s1
  obtain ⟨r', h4, h5, h6⟩ := tail l (Res.refl _ _ _) hs
  exact ⟨r', Ev.step (fun k => by rw [za.j8]) (Ev.ite_false (by simp) h4), h5, h6⟩
theorem zhc {n : Nat} (H : SymO n) (a b mid st en : Nat) (l : List S48) (has : a ≤ st) (hsm : st ≤ mid) (hme : mid ≤ en) (heb : en ≤ b) (hn1 : mid - a ≤ n) (hn2 : b - mid ≤ n) (hl : okS l) (hb : b ≤ l.length) (hh : zhY a st mid en b l) :
  ∃ r, Ev (fun k => za.j7 k l a b mid st en) r ∧ Res a b r l ∧ SO r a b := by
 by_cases c : a < st
 ·obtain ⟨r, h1, h2⟩ := zhb H a b mid st en l (decide ((st : Int) < (mid : Int))) (by rw [decide_eq_true_eq]; omega) has hsm hme heb hn1 hn2 hl hb hh
  exact ⟨r, Ev.step (fun k => by rw [za.j7]) (Ev.ite_true (by omega) h1), h2⟩
 ·obtain ⟨r, h1, h2⟩ := zhb H a b mid st en l false (by constructor <;> intro h <;> first | cases h; done | omega) has hsm hme heb hn1 hn2 hl hb hh
  exact ⟨r, Ev.step (fun k => by rw [za.j7]) (Ev.ite_false (by omega) h1), h2⟩
theorem zfH {a st m en b mid : Nat} {r l : List S48} (h1 : a ≤ st) (h2 : st ≤ m) (h3 : m ≤ en) (h4 : en ≤ b) (hmid : mid = st + (en - m)) (hs1 : SO l a m) (hs2 : SO l m b)
  (hc1 : ∀ i j, a ≤ i → i < st → en ≤ j → j < b → LeL (G l j) (G l i)) (hc2 : ∀ i j, st ≤ i → i < m → m ≤ j → j < en → LeL (G l i) (G l j))
  (hg : ∀ k, G r k = if st ≤ k ∧ k < st + (en - m) then G l (k + (m - st)) else if st + (en - m) ≤ k ∧ k < en then G l (k - (en - m)) else G l k) : zhY a st mid en b r := by
 subst hmid
 have g1 : ∀ k, k < st → G r k = G l k := fun k hk => by rw [hg, if_neg (by omega), if_neg (by omega)]
 have g2 : ∀ k, st ≤ k → k < st + (en - m) → G r k = G l (k + (m - st)) := fun k hk hk' => by rw [hg, if_pos ⟨hk, hk'⟩]
 have g3 : ∀ k, st + (en - m) ≤ k → k < en → G r k = G l (k - (en - m)) := fun k hk hk' => by rw [hg, if_neg (by omega), if_pos ⟨hk, hk'⟩]
 have g4 : ∀ k, en ≤ k → G r k = G l k := fun k hk => by rw [hg, if_neg (by omega), if_neg (by omega)]
 refine ⟨fun i j q1 q2 q3 => ?_, fun i j q1 q2 q3 => ?_, fun i j q1 q2 q3 => ?_, fun i j q1 q2 q3 => ?_, fun i j q1 q2 q3 q4 => ?_⟩
 ·rw [g1 i (by omega), g1 j q3]; exact hs1 i j q1 q2 (by omega)
 ·rw [g2 i q1 (by omega), g2 j (by omega) q3]; exact hs2 _ _ (by omega) (by omega) (by omega)
 ·rw [g3 i q1 (by omega), g3 j (by omega) q3]; exact hs1 _ _ (by omega) (by omega) (by omega)
 ·rw [g4 i q1, g4 j (by omega)]; exact hs2 i j (by omega) q2 q3
 ·by_cases c1 : i < st
  ·rw [g1 i c1]
   by_cases c2 : j < en
   ·rw [g3 j q3 c2]; exact hs1 i _ q1 (by omega) (by omega)
   ·rw [g4 j (by omega)]; exact hc1 i j q1 c1 (by omega) q4
  ·rw [g2 i (by omega) q2]
   by_cases c2 : j < en
   ·rw [g3 j q3 c2]; exact hc2 _ _ (by omega) (by omega) (by omega) (by omega)
   ·rw [g4 j (by omega)]; exact hs2 _ j (by omega) (by omega) q4
theorem zhd {n : Nat} (H : SymO n) (a m b mid st en : Nat) (l : List S48) (bl : Bool) (hbl : bl = true ↔ st < m ∧ m < en) (h1 : a ≤ st) (h2 : st ≤ m) (h3 : m ≤ en) (h4 : en ≤ b) (hmid : mid = st + (en - m)) (hn1 : mid - a ≤ n) (hn2 : b - mid ≤ n) (hl : okS l) (hb : b ≤ l.length) (hs1 : SO l a m) (hs2 : SO l m b)
  (hc1 : ∀ i j, a ≤ i → i < st → en ≤ j → j < b → LeL (G l j) (G l i)) (hc2 : ∀ i j, st ≤ i → i < m → m ≤ j → j < en → LeL (G l i) (G l j)) :
  ∃ r, Ev (fun k => za.j6 k l a m b mid st en bl) r ∧ Res a b r l ∧ SO r a b := by
 cases bl with
 | true =>
  obtain ⟨g1, g2⟩ := hbl.1 rfl
  obtain ⟨r, q1, q2, q3⟩ := zjb st m en l hl g1 g2 (by omega)
  have hR : Res a b r l := ⟨q2, fun k hk => by rw [q3, if_neg (by omega), if_neg (by omega)], fun k p1 p2 => by
   rw [q3]
   split
   ·exact ⟨k + (m - st), by omega, by omega, rfl⟩
   ·split
    ·exact ⟨k - (en - m), by omega, by omega, rfl⟩
    ·exact ⟨k, p1, p2, rfl⟩⟩
  obtain ⟨r', q4, q5, q6⟩ := zhc H a b mid st en r h1 (by omega) (by omega) h4 hn1 hn2 (zcj hl q2) (by rw [q2.length_eq]; exact hb) (zfH h1 h2 h3 h4 hmid hs1 hs2 hc1 hc2 q3)
  exact ⟨r', Ev.step (fun k => by rw [za.j6]) (Ev.ite_true rfl (Ev.bind q1 q4)), q5.trans hR, q6⟩
 | false =>
  have hno : ¬ (st < m ∧ m < en) := fun h => by have := hbl.2 h; cases this
  obtain ⟨r', q4, q5, q6⟩ := zhc H a b mid st en l h1 (by omega) (by omega) h4 hn1 hn2 hl hb (zfH h1 h2 h3 h4 hmid hs1 hs2 hc1 hc2 (fun k => by
   repeat' split
   all_goals first
    | rfl
    | (congr 1; omega)))
  exact ⟨r', Ev.step (fun k => by rw [za.j6]) (Ev.ite_false (by simp) q4), q5, q6⟩
theorem ze3 {n : Nat} (H : SymO n) (a m b mid lo hi : Nat) (ham : a < m) (hmb' : m < b) (hn1 : mid - a ≤ n) (hn2 : b - mid ≤ n) (hlo1 : a ≤ lo) (hlo2 : lo = a ∨ mid + m - lo = b) (hlo3 : mid + m ≤ b + lo) (hhi1 : hi ≤ m) (hhi2 : hi ≤ mid) (hhi3 : hi = m ∨ hi = mid) (hmb : mid ≤ b) : ∀ (s i j : Nat) (l : List S48), j - i ≤ s → okS l → b ≤ l.length → lo ≤ i → i ≤ j → j ≤ hi →
  SO l a m → SO l m b → (∀ h, lo ≤ h → h < i → ¬ cmpL (G l h) (G l (mid + m - 1 - h)) < 0) → (∀ h, j ≤ h → h < hi → cmpL (G l h) (G l (mid + m - 1 - h)) < 0) →
  ∃ r, Ev (fun k => za.l4 k l a m b mid ((mid + m : Nat) : Int) i j ((mid + m - 1 : Nat) : Int)) r ∧ Res a b r l ∧ SO r a b
 | s, i, j, l, hs, hl, hb, hi1, hij, hjh, hs1, hs2, hL, hU => by
  have h9 := hl.1
  by_cases c : i < j
  ·cases s with
   | zero => omega
   | succ s =>
    have hh : (i + j) / 2 < l.length := by omega
    have hq : mid + m - 1 - (i + j) / 2 < l.length := by omega
    have hc := zf hl hq hh
    by_cases g : cmpL (G l ((i + j) / 2)) (G l (mid + m - 1 - (i + j) / 2)) < 0
    ·obtain ⟨r, h1, h2, h3⟩ := ze3 H a m b mid lo hi ham hmb' hn1 hn2 hlo1 hlo2 hlo3 hhi1 hhi2 hhi3 hmb s i ((i + j) / 2) l (by omega) hl hb hi1 (by omega) (by omega) hs1 hs2 hL (fun h q1 q2 => by
      by_cases e : h = (i + j) / 2
      ·subst e; exact g
      ·have p1 := hs1 ((i + j) / 2) h (by omega) (by omega) (by omega)
       have p2 := hs2 (mid + m - 1 - h) (mid + m - 1 - (i + j) / 2) (by omega) (by omega) (by omega)
       by_cases g2 : cmpL (G l h) (G l (mid + m - 1 - h)) < 0
       ·exact g2
       ·exact absurd g (by have := zb0 p2 (zb0 (zb1 g2) p1); unfold LeL at this; rw [zch]; omega))
     refine ⟨r, Ev.step (fun k => by rw [za.l4]) (Ev.ite_true (by omega) ?_), h2, h3⟩
     rw [zfI (by omega), wrS (by omega) (by omega)]
     refine Ev.ite_true (by omega) (Ev.ite_true (by omega) (Ev.ite_true (by omega) (Ev.ite_true (by omega) (Ev.bind (a := cmpL (G l ((i + j) / 2)) (G l (mid + m - 1 - (i + j) / 2))) ?_ (Ev.ite_true g h1)))))
     rw [zby l _ hh, zby l _ hq]
     exact hc
    ·obtain ⟨r, h1, h2, h3⟩ := ze3 H a m b mid lo hi ham hmb' hn1 hn2 hlo1 hlo2 hlo3 hhi1 hhi2 hhi3 hmb s ((i + j) / 2 + 1) j l (by omega) hl hb (by omega) (by omega) hjh hs1 hs2 (fun h q1 q2 => by
      by_cases e : h = (i + j) / 2
      ·subst e; exact g
      ·have p1 := hs1 h ((i + j) / 2) (by omega) (by omega) (by omega)
       have p2 := hs2 (mid + m - 1 - (i + j) / 2) (mid + m - 1 - h) (by omega) (by omega) (by omega)
       have := zb0 p2 (zb0 (zb1 g) p1)
       unfold LeL at this; rw [zch]; omega) hU
     refine ⟨r, Ev.step (fun k => by rw [za.l4]) (Ev.ite_true (by omega) ?_), h2, h3⟩
     rw [zfI (by omega), wrS (by omega) (by omega), wr1 (by omega)]
     refine Ev.ite_true (by omega) (Ev.ite_true (by omega) (Ev.ite_true (by omega) (Ev.ite_true (by omega) (Ev.bind (a := cmpL (G l ((i + j) / 2)) (G l (mid + m - 1 - (i + j) / 2))) ?_ (Ev.ite_false g h1)))))
     rw [zby l _ hh, zby l _ hq]
     exact hc
  ·have e : j = i := by omega
   subst e
   have hc1 : ∀ p q, a ≤ p → p < j → mid + m - j ≤ q → q < b → LeL (G l q) (G l p) := fun p q q1 q2 q3 q4 => by
    have hjl : lo < j := by omega
    have p0 := zb1 (hL (j - 1) (by omega) (by omega))
    have p1 : LeL (G l (j - 1)) (G l p) := by
     by_cases e : p = j - 1
     ·rw [e]; exact zeh _
     ·exact hs1 p (j - 1) q1 (by omega) (by omega)
    have p2 : LeL (G l q) (G l (mid + m - 1 - (j - 1))) := by
     by_cases e : q = mid + m - 1 - (j - 1)
     ·rw [e]; exact zeh _
     ·exact hs2 _ q (by omega) (by omega) q4
    exact zb0 p2 (zb0 p0 p1)
   have hc2 : ∀ p q, j ≤ p → p < m → m ≤ q → q < mid + m - j → LeL (G l p) (G l q) := fun p q q1 q2 q3 q4 => by
    have hjl : j < hi := by omega
    have p0 := zcV (hU j (Nat.le_refl _) hjl)
    have p1 : LeL (G l p) (G l j) := by
     by_cases e : p = j
     ·rw [e]; exact zeh _
     ·exact hs1 j p (by omega) (by omega) q2
    have p2 : LeL (G l (mid + m - 1 - j)) (G l q) := by
     by_cases e : q = mid + m - 1 - j
     ·rw [e]; exact zeh _
     ·exact hs2 q _ q3 (by omega) (by omega)
    exact zb0 p1 (zb0 p0 p2)
   by_cases c2 : j < m
   ·obtain ⟨r, h1, h2⟩ := zhd H a m b mid j (mid + m - j) l (decide ((m : Int) < ((mid + m - j : Nat) : Int))) (by rw [decide_eq_true_eq]; omega) (by omega) (by omega) (by omega) (by omega) (by omega) hn1 hn2 hl hb hs1 hs2 hc1 hc2
    refine ⟨r, Ev.step (fun k => by rw [za.l4]) (Ev.ite_false (by omega) (Ev.ite_true (by omega) ?_)), h2⟩
    rw [wrS (by omega) (by omega)]
    exact h1
   ·obtain ⟨r, h1, h2⟩ := zhd H a m b mid j (mid + m - j) l false (by constructor <;> intro h <;> first | cases h; done | omega) (by omega) (by omega) (by omega) (by omega) (by omega) hn1 hn2 hl hb hs1 hs2 hc1 hc2
    refine ⟨r, Ev.step (fun k => by rw [za.l4]) (Ev.ite_false (by omega) (Ev.ite_false (by omega) ?_)), h2⟩
    rw [wrS (by omega) (by omega)]
    exact h1
theorem zgz : ∀ n, SymO n
 | 0 => fun a m b l hn h1 h2 _ _ => by omega
 | n + 1 => fun a m b l hn h1 h2 hl hb hs1 hs2 => by
  have H := zgz n
  have h9 := hl.1
  by_cases c1 : m - a = 1
  ·have e : m = a + 1 := by omega
   obtain ⟨r, g1, g2⟩ := zf7 a b (b - m) m b l (by omega) (by omega) hl (by omega) (Nat.le_refl _) hb (by rw [← e]; exact hs2) (fun h q1 q2 => by omega) (fun h q1 q2 => by omega)
   refine ⟨r, Ev.step (fun k => by rw [za.f]) ?_, g2⟩
   rw [wrS (by omega) (by omega)]
   exact Ev.ite_true (by omega) g1
  ·by_cases c2 : b - m = 1
   ·have e : b = m + 1 := by omega
    subst e
    obtain ⟨r, g1, g2⟩ := zf6 a m (m - a) a m l (by omega) hl (by omega) (Nat.le_refl _) (by omega) (Nat.le_refl _) hs1 (fun h q1 q2 => by omega) (fun h q1 q2 => by omega)
    refine ⟨r, Ev.step (fun k => by rw [za.f]) ?_, g2⟩
    rw [wrS (by omega) (by omega), wrS (by omega) (by omega)]
    exact Ev.ite_false (by omega) (Ev.ite_true (by omega) g1)
   ·by_cases c3 : (a + b) / 2 < m
    ·obtain ⟨r, g1, g2⟩ := ze3 H a m b ((a + b) / 2) ((a + b) / 2 + m - b) ((a + b) / 2) h1 h2 (by omega) (by omega) (by omega) (by omega) (by omega) (by omega) (by omega) (by omega) (by omega) ((a + b) / 2) ((a + b) / 2 + m - b) ((a + b) / 2) l (by omega) hl hb (by omega) (by omega) (by omega) hs1 hs2 (fun h q1 q2 => by omega) (fun h q1 q2 => by omega)
     refine ⟨r, Ev.step (fun k => by rw [za.f]) ?_, g2⟩
     rw [wrS (by omega) (by omega), wrS (by omega) (by omega), zfI (by omega), wrA (by omega), wrS (by omega) (by omega)]
     refine Ev.ite_false (by omega) (Ev.ite_false (by omega) (Ev.ite_true (by omega) (Ev.step (fun k => by rw [za.j4]) ?_)))
     rw [zf5 (by omega) (by omega)]
     exact g1
    ·obtain ⟨r, g1, g2⟩ := ze3 H a m b ((a + b) / 2) a m h1 h2 (by omega) (by omega) (by omega) (by omega) (by omega) (by omega) (by omega) (by omega) (by omega) m a m l (by omega) hl hb (by omega) (by omega) (by omega) hs1 hs2 (fun h q1 q2 => by omega) (fun h q1 q2 => by omega)
     refine ⟨r, Ev.step (fun k => by rw [za.f]) ?_, g2⟩
     rw [wrS (by omega) (by omega), wrS (by omega) (by omega), zfI (by omega), wrA (by omega)]
     refine Ev.ite_false (by omega) (Ev.ite_false (by omega) (Ev.ite_false (by omega) (Ev.step (fun k => by rw [za.j4]) ?_)))
     rw [zf5 (by omega) (by omega)]
     exact g1
theorem zhe (a m b : Nat) (l : List S48) (h1 : a < m) (h2 : m < b) (hl : okS l) (hb : b ≤ l.length) (hs1 : SO l a m) (hs2 : SO l m b) : ∃ r, Ev (fun k => za.f k l a m b) r ∧ Res a b r l ∧ SO r a b := zgz (b - a) a m b l (Nat.le_refl _) h1 h2 hl hb hs1 hs2
def Blk (bs : Nat) (l : List S48) (n e : Nat) : Prop := ∀ c, bs * c < e → SO l (bs * c) (min (bs * c + bs) n)
theorem ziF (n bs : Nat) (hbs : 0 < bs) (hbn : bs < n) (H : ∀ l, okS l → l.length = n → Blk (2 * bs) l n n → ∃ r, Ev (fun k => zac.l1 k l n ((bs * 2 : Nat) : Int)) r ∧ r.Perm l ∧ SO r 0 n) : ∀ (s c : Nat) (l : List S48), n + 2 * bs - 2 * bs * c ≤ s → 2 * bs * c ≤ n → okS l → l.length = n → Blk (2 * bs) l n (2 * bs * c) → (∀ x, 2 * bs * c ≤ bs * x → bs * x < n → SO l (bs * x) (min (bs * x + bs) n)) →
  ∃ r, Ev (fun k => zac.l2 k l n bs ((2 * bs * c : Nat) : Int) ((2 * bs * c + 2 * bs : Nat) : Int)) r ∧ r.Perm l ∧ SO r 0 n
 | 0, c, l, hs, ha, _, _, _, _ => by omega
 | s + 1, c, l, hs, ha, hl, hn, hB, hT => by
  have h9 := hl.1
  have w2 : wrap64 (2 * (bs : Int)) = ((2 * bs : Nat) : Int) := by unfold wrap64; omega
  have w3 : wrap64 ((bs : Int) * 2) = ((bs * 2 : Nat) : Int) := by unfold wrap64; omega
  have e1 : 2 * bs * c = bs * (2 * c) := by rw [Nat.mul_comm 2 bs, Nat.mul_assoc]
  have e2 : bs * (2 * c + 1) = 2 * bs * c + bs := by rw [Nat.mul_add, ← e1, Nat.mul_one]
  have e3 : 2 * bs * (c + 1) = 2 * bs * c + 2 * bs := by rw [Nat.mul_add, Nat.mul_one]
  have t1 := hT (2 * c) (by omega)
  have t2 := hT (2 * c + 1) (by omega)
  rw [← e1] at t1
  rw [e2] at t2
  generalize hA : 2 * bs * c = A at *
  have old : ∀ x, 2 * bs * x < A → 2 * bs * x + 2 * bs ≤ A := fun x hx => by
   have : x < c := by
    by_cases q : x < c
    ·exact q
    ·have := Nat.mul_le_mul_left (2 * bs) (show c ≤ x by omega); omega
   have := Nat.mul_le_mul_left (2 * bs) (show x + 1 ≤ c by omega)
   rw [Nat.mul_add, Nat.mul_one] at this
   omega
  by_cases c1 : A + 2 * bs ≤ n
  ·have u1 := t1 (by omega)
   have u2 := t2 (by omega)
   obtain ⟨r, h1, h2, h3⟩ := zhe A (A + bs) (A + 2 * bs) l (by omega) (by omega) hl (by omega) (u1.sub (Nat.le_refl _) (by omega)) (u2.sub (Nat.le_refl _) (by omega))
   obtain ⟨r', h4, h5, h6⟩ := ziF n bs hbs hbn H s (c + 1) r (by omega) (by omega) (zcj hl h2.perm) (by rw [h2.perm.length_eq]; exact hn) (fun x hx => by
    by_cases q : 2 * bs * x < A
    ·exact (hB x q).fr h2 (.inl (by have := old x q; omega))
    ·have ex : x = c := by
      by_cases q2 : x < c
      ·exfalso; have := Nat.mul_le_mul_left (2 * bs) (show x + 1 ≤ c by omega); rw [Nat.mul_add, Nat.mul_one] at this; omega
      ·by_cases q3 : x = c
       ·exact q3
       ·exfalso; have := Nat.mul_le_mul_left (2 * bs) (show c + 1 ≤ x by omega); omega
     subst ex
     rw [hA]
     exact h3.sub (Nat.le_refl _) (by omega)) (fun x q1 q2 => (hT x (by omega) q2).fr h2 (.inr (by omega)))
   refine ⟨r', Ev.step (fun k => by rw [zac.l2]) (Ev.ite_true (by omega) ?_), h5.trans h2.perm, h6⟩
   rw [wrA (by omega), w2, wrA (by omega)]
   rw [e3] at h4
   exact Ev.bind h1 h4
  ·have fin : ∀ r, Res A n r l → SO r A n → Blk (2 * bs) r n n := fun r hr hs' x hx => by
    by_cases q : 2 * bs * x < A
    ·exact (hB x q).fr hr (.inl (by have := old x q; omega))
    ·exact hs'.sub (by omega) (by omega)
   by_cases c2 : A + bs < n
   ·have u1 := t1 (by omega)
    have u2 := t2 (by omega)
    obtain ⟨r, h1, h2, h3⟩ := zhe A (A + bs) n l (by omega) c2 hl (by omega) (u1.sub (Nat.le_refl _) (by omega)) (u2.sub (Nat.le_refl _) (by omega))
    obtain ⟨r', h4, h5, h6⟩ := H r (zcj hl h2.perm) (by rw [h2.perm.length_eq]; exact hn) (fin r h2 h3)
    refine ⟨r', Ev.step (fun k => by rw [zac.l2]) (Ev.ite_false (by omega) ?_), h5.trans h2.perm, h6⟩
    rw [wrA (by omega), w3]
    exact Ev.ite_true (by omega) (Ev.bind h1 h4)
   ·obtain ⟨r', h4, h5, h6⟩ := H l hl hn (fin l (Res.refl _ _ _) (by
     by_cases q : A < n
     ·exact (t1 q).sub (Nat.le_refl _) (by omega)
     ·exact SO.one (by omega)))
    refine ⟨r', Ev.step (fun k => by rw [zac.l2]) (Ev.ite_false (by omega) ?_), h5, h6⟩
    rw [wrA (by omega), w3]
    exact Ev.ite_false (by omega) h4
theorem ziG (n : Nat) : ∀ (s bs : Nat) (l : List S48), n - bs ≤ s → 0 < bs → okS l → l.length = n → bs ≤ 2 * n + 20 → Blk bs l n n → ∃ r, Ev (fun k => zac.l1 k l n bs) r ∧ r.Perm l ∧ SO r 0 n
 | s, bs, l, hs, hbs, hl, hn, hb2, hB => by
  have h9 := hl.1
  by_cases c : bs < n
  ·cases s with
   | zero => omega
   | succ s =>
    obtain ⟨r, h1, h2, h3⟩ := ziF n bs hbs c (fun l' hl' hn' hB' => ziG n s (bs * 2) l' (by omega) (by omega) hl' hn' (by omega) (by rw [Nat.mul_comm bs 2]; exact hB')) (n + 2 * bs) 0 l (by omega) (by omega) hl hn (fun x hx => by omega) (fun x _ q => hB x q)
    refine ⟨r, Ev.step (fun k => by rw [zac.l1]) (Ev.ite_true (by omega) ?_), h2, h3⟩
    rw [show wrap64 (2 * (bs : Int)) = ((2 * bs * 0 + 2 * bs : Nat) : Int) by unfold wrap64; omega]
    exact h1
  ·refine ⟨l, Ev.step (fun k => by rw [zac.l1]) (Ev.ite_false (by omega) (Ev.now _)), List.Perm.refl _, ?_⟩
   by_cases q : 0 < n
   ·have := hB 0 (by omega)
    exact this.sub (by omega) (by omega)
   ·exact SO.one (by omega)
theorem ziH (n : Nat) : ∀ (s c : Nat) (l : List S48), n + 20 - 20 * c ≤ s → 20 * c ≤ n → okS l → l.length = n → Blk 20 l n (20 * c) → ∃ r, Ev (fun k => zac.l0 k l n 20 ((20 * c : Nat) : Int) ((20 * c + 20 : Nat) : Int)) r ∧ r.Perm l ∧ SO r 0 n
 | 0, c, l, hs, ha, _, _, _ => by omega
 | s + 1, c, l, hs, ha, hl, hn, hB => by
  have h9 := hl.1
  by_cases c1 : 20 * c + 20 ≤ n
  ·obtain ⟨r, h1, h2, h3⟩ := zhu (20 * c) (20 * c + 20) l hl (by omega) (by omega)
   obtain ⟨r', h4, h5, h6⟩ := ziH n s (c + 1) r (by omega) (by omega) (zcj hl h2.perm) (by rw [h2.perm.length_eq]; exact hn) (fun x hx => by
    by_cases q : 20 * x < 20 * c
    ·exact (hB x q).fr h2 (.inl (by omega))
    ·have : x = c := by omega
     subst this
     exact h3.sub (Nat.le_refl _) (by omega))
   refine ⟨r', Ev.step (fun k => by rw [zac.l0]) (Ev.ite_true (by omega) ?_), h5.trans h2.perm, h6⟩
   rw [show wrap64 (((20 * c + 20 : Nat) : Int) + 20) = ((20 * (c + 1) + 20 : Nat) : Int) by unfold wrap64; omega]
   exact Ev.bind h1 h4
  ·obtain ⟨r, h1, h2, h3⟩ := zhu (20 * c) n l hl (by omega) ha
   obtain ⟨r', h4, h5, h6⟩ := ziG n n 20 r (by omega) (by omega) (zcj hl h2.perm) (by rw [h2.perm.length_eq]; exact hn) (by omega) (fun x hx => by
    by_cases q : 20 * x < 20 * c
    ·exact (hB x q).fr h2 (.inl (by omega))
    ·have : x = c := by omega
     subst this
     exact h3.sub (Nat.le_refl _) (by omega))
   exact ⟨r', Ev.step (fun k => by rw [zac.l0]) (Ev.ite_false (by omega) (Ev.bind h1 h4)), h5.trans h2.perm, h6⟩
theorem zh6 (l : List S48) (hl : okS l) : ∃ r, Ev (fun k => zax.f k l) r ∧ r.Perm l ∧ SO r 0 l.length := by
 obtain ⟨r, h1, h2, h3⟩ := ziH l.length (l.length + 20) 0 l (by omega) (by omega) hl rfl (fun x hx => by omega)
 refine ⟨r, ?_, h2, h3⟩
 simp only [zax.f, zac.f]
 exact Ev.bind h1 (Ev.now _)
theorem zik (a b : List Int) (hl : a.length ≤ 1048576) (hab : a.length = b.length) (d : Nat) : ∀ (i k : Nat), i + d = a.length → a.take i = b.take i → d < k → zaz.l0 k a b (a.length : Int) i = some (decide (a = b)) := by
 induction d with
 | zero =>
  intro i k hi ht hk
  obtain ⟨k, rfl⟩ : ∃ m, k = m + 1 := ⟨k - 1, by omega⟩
  simp only [zaz.l0]
  rw [if_neg (by omega)]
  obtain rfl : i = a.length := by omega
  rw [List.take_of_length_le (by omega), List.take_of_length_le (by omega)] at ht
  rw [decide_eq_true ht]
 | succ d ih =>
  intro i k hi ht hk
  obtain ⟨k, rfl⟩ : ∃ m, k = m + 1 := ⟨k - 1, by omega⟩
  have hlt : i < a.length := by omega
  have hlt' : i < b.length := by omega
  simp only [zaz.l0]
  rw [if_pos (by omega), if_pos (by omega), if_pos (by omega), if_pos (by omega), wr1 (by omega), zcR a i hlt, zcR b i hlt']
  by_cases h : a[i] = b[i]
  ·rw [if_pos h]
   refine ih (i + 1) k (by omega) ?_ (by omega)
   rw [List.take_succ_eq_append_getElem hlt, List.take_succ_eq_append_getElem hlt', ht, h]
  ·rw [if_neg h, decide_eq_false]
   intro e
   subst e
   exact h rfl
theorem zil (a b : List Int) (hl : a.length ≤ 1048576) : Ev (fun k => zaz.f k a b) (decide (a = b)) := by
 refine ⟨a.length + 1, fun k hk => ?_⟩
 show zaz.f k a b = _
 unfold zaz.f
 by_cases h : (a.length : Int) = (b.length : Int)
 ·rw [if_pos h]
  exact zik a b hl (by omega) a.length 0 k (by omega) (by simp) (by omega)
 ·rw [if_neg h, decide_eq_false]
  intro e
  subst e
  exact h rfl
theorem zjm (l : List Int) (hl : l.length ≤ 1048576) : zbc.f l = some l := by
 simp only [zbc.f, Option.bind_some, List.nil_append, List.length_nil]
 rw [if_pos (by omega)]
theorem zcW : ∀ {a b : List Int}, a.Perm b → a.sum = b.sum
 | _, _, .nil => rfl
 | _, _, .cons x h => by simp [zcW h]
 | _, _, .swap x y l => by simp; omega
 | _, _, .trans h1 h2 => (zcW h1).trans (zcW h2)
def nz (x : S48) : Bool := !(x.f1 == 0)
theorem zjh (l : List S48) (hl : l.length ≤ 4398046511104) (d : Nat) : ∀ (i : Nat), i + d = l.length → (∀ j (h : j < l.length), j < i → nz l[j] = true) →
  ∃ r, Ev (fun k => zan.l0 k l l.length i) r ∧ ((r = -1 ∧ ∀ j (h : j < l.length), nz l[j] = true) ∨ ∃ m : Nat, r = (m : Int) ∧ ∃ h : m < l.length, nz l[m] = false ∧ ∀ j (h : j < l.length), j < m → nz l[j] = true) := by
 induction d with
 | zero =>
  intro i hi H
  exact ⟨-1, Ev.step (fun k => by rw [zan.l0]) (Ev.ite_false (by omega) (Ev.now _)), .inl ⟨rfl, fun j h => H j h (by omega)⟩⟩
 | succ d ih =>
  intro i hi H
  have hlt : i < l.length := by omega
  by_cases c : nz l[i] = true
  ·obtain ⟨r, h1, h2⟩ := ih (i + 1) (by omega) (fun j h hj => by
    by_cases e : j = i
    ·subst e; exact c
    ·exact H j h (by omega))
   refine ⟨r, Ev.step (fun k => by rw [zan.l0]) (Ev.ite_true (by omega) (Ev.ite_true (by omega) (Ev.ite_true (by omega) ?_))), h2⟩
   rw [zby l i hlt, wr1 (by omega)]
   simp only [zbF.f, Option.bind_some]
   exact Ev.ite_false (by simpa [nz] using c) h1
  ·refine ⟨(i : Int), Ev.step (fun k => by rw [zan.l0]) (Ev.ite_true (by omega) (Ev.ite_true (by omega) (Ev.ite_true (by omega) ?_))), .inr ⟨i, rfl, hlt, by simpa using c, fun j h hj => H j h hj⟩⟩
   rw [zby l i hlt]
   simp only [zbF.f, Option.bind_some]
   exact Ev.ite_true (by simpa [nz] using c) (Ev.now _)
theorem zjk (o : List S48) (ho : o.length ≤ 4398046511104) (d : Nat) : ∀ (i j : Nat) (l : List S48), j + d = o.length → i ≤ j → l.length = o.length → l.take i = (o.take j).filter nz → l.drop j = o.drop j →
  Ev (fun k => zam.l0 k l i j) (o.filter nz) := by
 induction d with
 | zero =>
  intro i j l hj hij hl h1 h2
  refine Ev.step (fun k => by rw [zam.l0]) (Ev.ite_false (by omega) (Ev.ite_true (by omega) (Ev.ite_true (by omega) ?_)))
  rw [Int.toNat_natCast, h1, List.take_of_length_le (by omega)]
  exact Ev.now _
 | succ d ih =>
  intro i j l hj hij hl h1 h2
  have hlt : j < l.length := by omega
  have hlo : j < o.length := by omega
  have e : l[j] = o[j] := by
   have := congrArg (fun q => q[0]?) h2
   simpa [List.getElem?_drop, hlt, hlo] using this
  have e2 : (o.take (j + 1)).filter nz = (o.take j).filter nz ++ (if nz o[j] = true then [o[j]] else []) := by
   rw [List.take_succ_eq_append_getElem hlo, List.filter_append]
   congr 1
   by_cases c : nz o[j] = true <;> simp [c]
  have h3 : l.drop (j + 1) = o.drop (j + 1) := by
   have := congrArg (fun q => q.drop 1) h2
   simpa using this
  refine Ev.step (fun k => by rw [zam.l0]) (Ev.ite_true (by omega) (Ev.ite_true (by omega) ?_))
  rw [zby l j hlt, wr1 (by omega), wr1 (by omega), Int.toNat_natCast]
  simp only [zbF.f, Option.bind_some]
  by_cases c : nz o[j] = true
  ·refine Ev.ite_false (by rw [e]; simpa [nz] using c) (Ev.ite_true (by omega) (Ev.ite_true (by omega) ?_))
   refine ih (i + 1) (j + 1) _ (by omega) (by omega) (by simpa using hl) ?_ ?_
   ·rw [zcJ l i _ (by omega), h1, e2, if_pos c, e]
   ·rw [List.drop_set_of_lt (by omega)]; exact h3
  ·refine Ev.ite_true (by rw [e]; simpa [nz] using c) ?_
   exact ih i (j + 1) l (by omega) (by omega) hl (by rw [h1, e2, if_neg c, List.append_nil]) h3
theorem zg0 (l : List S48) (hl : l.length ≤ 4398046511104) : Ev (fun k => zam.f k l) (l.filter nz) := by
 obtain ⟨r, h1, h2⟩ := zjh l hl l.length 0 (by omega) (fun j _ h => by omega)
 simp only [zam.f, zan.f]
 refine Ev.bind h1 ?_
 rcases h2 with ⟨rfl, h⟩ | ⟨m, rfl, hm, hz, h⟩
 ·refine Ev.ite_true rfl ?_
  rw [List.filter_eq_self.2 (fun x hx => by obtain ⟨j, hj, rfl⟩ := List.getElem_of_mem hx; exact h j hj)]
  exact Ev.now _
 ·refine Ev.ite_false (by omega) ?_
  rw [wr1 (by omega)]
  have e : (l.take m).filter nz = l.take m := List.filter_eq_self.2 (fun x hx => by
   obtain ⟨j, hj, rfl⟩ := List.getElem_of_mem hx
   simp only [List.length_take] at hj
   rw [List.getElem_take]
   exact h j (by omega) (by omega))
  refine zjk l hl (l.length - (m + 1)) m (m + 1) l (by omega) (by omega) rfl ?_ rfl
  rw [List.take_succ_eq_append_getElem hm, List.filter_append, e]
  simp [hz]
def val (l : List Int) : Int := if l.length ≤ 1 then l.sum else wrap64 l.sum
theorem val_one (a : Int) : val [a] = a := by simp [val]
theorem wsum (a b : Int) : wrap64 (wrap64 a + b) = wrap64 (a + b) := by unfold wrap64; omega
theorem zgy (l : List Int) (h : l ≠ []) (a : Int) : val (l ++ [a]) = wrap64 (val l + a) := by
 have hl : 0 < l.length := List.length_pos_iff.2 h
 unfold val
 rw [if_neg (by simp; omega), List.sum_append]
 simp only [List.sum_cons, List.sum_nil, Int.add_zero]
 split
 ·rfl
 ·rw [wsum]
theorem zh1 {a b : List Int} (h : a.Perm b) : val a = val b := by
 unfold val
 rw [h.length_eq, zcW h]
def fat (w : List Int) (l : List S48) : List Int := (l.filter fun x => decide (x.f0 = w)).map fun x => x.f1
theorem zct (w : List Int) (a b : List S48) : fat w (a ++ b) = fat w a ++ fat w b := by simp [fat]
theorem zcZ (x : S48) : fat x.f0 [x] = [x.f1] := by simp [fat]
theorem zcK {w : List Int} {x : S48} (h : x.f0 ≠ w) : fat w [x] = [] := by simp [fat, h]
theorem zeU {w : List Int} {l : List S48} (h : ∀ x ∈ l, x.f0 ≠ w) : fat w l = [] := by
 have : (l.filter fun x => decide (x.f0 = w)) = [] := List.filter_eq_nil_iff.2 (fun x hx => by simpa using h x hx)
 simp [fat, this]
theorem ziN {w : List Int} {l : List S48} {x : S48} (hx : x ∈ l) (h : x.f0 = w) : fat w l ≠ [] := by
 intro e
 have : x.f1 ∈ fat w l := List.mem_map.2 ⟨x, List.mem_filter.2 ⟨hx, by simpa using h⟩, rfl⟩
 rw [e] at this
 cases this
theorem zij {a b : List S48} (h : a.Perm b) (w : List Int) : (fat w a).Perm (fat w b) := (h.filter _).map _
def Desc (l : List S48) : Prop := l.Pairwise fun x y => cmpL y.f0 x.f0 < 0
structure Can (l out : List S48) : Prop where
 ord : Desc out
 val : ∀ x ∈ out, x.f1 = val (fat x.f0 l)
 sub : ∀ x ∈ out, ∃ y ∈ l, y.f0 = x.f0
 all : ∀ y ∈ l, ∃ x ∈ out, x.f0 = y.f0
theorem Can.perm {a b out : List S48} (h : Can a out) (p : a.Perm b) : Can b out := ⟨h.ord, fun x hx => (h.val x hx).trans (zh1 (zij p _)), fun x hx => by
 obtain ⟨y, hy, e⟩ := h.sub x hx
 exact ⟨y, p.mem_iff.1 hy, e⟩, fun y hy => h.all y (p.mem_iff.2 hy)⟩
theorem Can.nil : Can [] [] := ⟨List.Pairwise.nil, fun x h => (by cases h), fun x h => (by cases h), fun y h => (by cases h)⟩
theorem zb5 (p : List Int) : ¬ cmpL p p < 0 := by rw [zfR]; omega
theorem zho {p q : List Int} (h : LeL p q) (hne : p ≠ q) : cmpL p q < 0 := by
 unfold LeL at h
 by_cases e : cmpL p q = 0
 ·exact absurd (zfQ p q e) hne
 ·omega
theorem zfC {p q r : List Int} (h1 : cmpL p q < 0) (h2 : LeL q r) : cmpL p r < 0 := by
 refine zho (zb0 (zcV h1) h2) (fun e => ?_)
 subst e
 unfold LeL at h2
 rw [zch] at h2
 omega
theorem zh7 (l : List S48) (a x : S48) : (l ++ [a]).set l.length x = l ++ [x] := by
 rw [List.set_append_right _ _ (Nat.le_refl _), Nat.sub_self]; rfl
theorem Can.same {l out : List S48} {a m : S48} (h : Can l (out ++ [a])) (e : a.f0 = m.f0) : Can (l ++ [m]) (out ++ [(⟨a.f0, wrap64 (a.f1 + m.f1)⟩ : S48)]) := by
 have ho := h.ord
 unfold Desc at ho
 rw [List.pairwise_append] at ho
 obtain ⟨o1, _, o3⟩ := ho
 refine ⟨?_, fun x hx => ?_, fun x hx => ?_, fun y hy => ?_⟩
 ·unfold Desc
  rw [List.pairwise_append]
  refine ⟨o1, List.pairwise_singleton _ _, fun x hx y hy => ?_⟩
  rw [List.mem_singleton.1 hy]
  exact o3 x hx a (List.mem_singleton_self _)
 ·rcases List.mem_append.1 hx with hx | hx
  ·have hne : m.f0 ≠ x.f0 := fun e2 => by
    have := o3 x hx a (List.mem_singleton_self _)
    rw [e, e2] at this
    exact zb5 _ this
   rw [zct, zcK hne, List.append_nil]
   exact h.val x (List.mem_append_left _ hx)
  ·rw [List.mem_singleton.1 hx]
   show wrap64 (a.f1 + m.f1) = Pure.val (fat a.f0 (l ++ [m]))
   have ha := h.val a (List.mem_append_right _ (List.mem_singleton_self _))
   obtain ⟨y, hy, hye⟩ := h.sub a (List.mem_append_right _ (List.mem_singleton_self _))
   rw [zct, show fat a.f0 [m] = [m.f1] by rw [e]; exact zcZ m, zgy _ (ziN hy hye), ← ha]
 ·rcases List.mem_append.1 hx with hx | hx
  ·obtain ⟨y, hy, e2⟩ := h.sub x (List.mem_append_left _ hx)
   exact ⟨y, List.mem_append_left _ hy, e2⟩
  ·rw [List.mem_singleton.1 hx]
   exact ⟨m, List.mem_append_right _ (List.mem_singleton_self _), e.symm⟩
 ·rcases List.mem_append.1 hy with hy | hy
  ·obtain ⟨x, hx, e2⟩ := h.all y hy
   rcases List.mem_append.1 hx with hx | hx
   ·exact ⟨x, List.mem_append_left _ hx, e2⟩
   ·rw [List.mem_singleton.1 hx] at e2
    exact ⟨_, List.mem_append_right _ (List.mem_singleton_self _), e2⟩
  ·rw [List.mem_singleton.1 hy]
   exact ⟨_, List.mem_append_right _ (List.mem_singleton_self _), e⟩
theorem Can.snoc {l out : List S48} {m m' : S48} (h : Can l out) (hlt : ∀ x ∈ out, cmpL m.f0 x.f0 < 0) (e0 : m'.f0 = m.f0) (e1 : m'.f1 = m.f1) : Can (l ++ [m]) (out ++ [m']) := by
 have hm : ∀ y ∈ l, y.f0 ≠ m.f0 := fun y hy e => by
  obtain ⟨x, hx, e2⟩ := h.all y hy
  have := hlt x hx
  rw [e2, e] at this
  exact zb5 _ this
 refine ⟨?_, fun x hx => ?_, fun x hx => ?_, fun y hy => ?_⟩
 ·unfold Desc
  rw [List.pairwise_append]
  refine ⟨h.ord, List.pairwise_singleton _ _, fun x hx y hy => ?_⟩
  rw [List.mem_singleton.1 hy, e0]
  exact hlt x hx
 ·rcases List.mem_append.1 hx with hx | hx
  ·have hne : m.f0 ≠ x.f0 := fun e2 => by
    have := hlt x hx
    rw [e2] at this
    exact zb5 _ this
   rw [zct, zcK hne, List.append_nil]
   exact h.val x hx
  ·rw [List.mem_singleton.1 hx, e0, e1, zct, zeU hm, List.nil_append, zcZ, val_one]
 ·rcases List.mem_append.1 hx with hx | hx
  ·obtain ⟨y, hy, e2⟩ := h.sub x hx
   exact ⟨y, List.mem_append_left _ hy, e2⟩
  ·rw [List.mem_singleton.1 hx]
   exact ⟨m, List.mem_append_right _ (List.mem_singleton_self _), e0.symm⟩
 ·rcases List.mem_append.1 hy with hy | hy
  ·obtain ⟨x, hx, e2⟩ := h.all y hy
   exact ⟨x, List.mem_append_left _ hx, e2⟩
  ·rw [List.mem_singleton.1 hy]
   exact ⟨_, List.mem_append_right _ (List.mem_singleton_self _), e0⟩
theorem Desc.filter {l : List S48} (h : Desc l) (p : S48 → Bool) : Desc (l.filter p) := List.Pairwise.filter p h
theorem zfM {l : List S48} {n : Nat} (h : Desc l) (hn : ∀ x ∈ l, x.f0.length = n) : zea l = true := by
 induction l with
 | nil => rfl
 | cons x l ih =>
  unfold Desc at h
  rw [List.pairwise_cons] at h
  simp only [zea, Bool.and_eq_true, List.all_eq_true, decide_eq_true_eq, Bool.not_eq_true', decide_eq_false_iff_not]
  refine ⟨fun y hy => ⟨?_, fun e => ?_⟩, ih h.2 (fun y hy => hn y (List.mem_cons_of_mem _ hy))⟩
  ·rw [hn x List.mem_cons_self, hn y (List.mem_cons_of_mem _ hy)]
  ·have := h.1 y hy
   rw [e] at this
   exact zb5 _ this
theorem zhA : ∀ {a b : List S48}, Desc a → Desc b → (∀ x, x ∈ a ↔ x ∈ b) → a = b
 | [], [], _, _, _ => rfl
 | [], y :: b, _, _, h => absurd ((h y).2 List.mem_cons_self) (by simp)
 | x :: a, [], _, _, h => absurd ((h x).1 List.mem_cons_self) (by simp)
 | x :: a, y :: b, ha, hb, h => by
  unfold Desc at ha hb
  rw [List.pairwise_cons] at ha hb
  have e : x = y := by
   rcases List.mem_cons.1 ((h x).1 List.mem_cons_self) with e | e
   ·exact e
   ·rcases List.mem_cons.1 ((h y).2 List.mem_cons_self) with e2 | e2
    ·exact e2.symm
    ·have q1 := hb.1 x e
     have q2 := ha.1 y e2
     rw [zch] at q2
     omega
  subst e
  have nx : ∀ z, (z ∈ a → z ≠ x) := fun z hz e => by
   subst e
   exact zb5 _ (ha.1 z hz)
  have ny : ∀ z, (z ∈ b → z ≠ x) := fun z hz e => by
   subst e
   exact zb5 _ (hb.1 z hz)
  rw [zhA ha.2 hb.2 (fun z => ⟨fun hz => ((List.mem_cons.1 ((h z).1 (List.mem_cons_of_mem _ hz))).resolve_left (nx z hz)), fun hz => ((List.mem_cons.1 ((h z).2 (List.mem_cons_of_mem _ hz))).resolve_left (ny z hz))⟩)]
theorem Can.uniq {l a b : List S48} (ha : Can l a) (hb : Can l b) : a = b := by
 refine zhA ha.ord hb.ord (fun x => ⟨fun hx => ?_, fun hx => ?_⟩)
 ·obtain ⟨y, hy, e⟩ := ha.sub x hx
  obtain ⟨z, hz, e2⟩ := hb.all y hy
  have e3 : z = x := by
   have q1 := ha.val x hx
   have q2 := hb.val z hz
   rw [e2, e] at q2
   cases z; cases x
   simp only [S48.mk.injEq] at *
   exact ⟨e2.trans e, q2.trans q1.symm⟩
  exact e3 ▸ hz
 ·obtain ⟨y, hy, e⟩ := hb.sub x hx
  obtain ⟨z, hz, e2⟩ := ha.all y hy
  have e3 : z = x := by
   have q1 := hb.val x hx
   have q2 := ha.val z hz
   rw [e2, e] at q2
   cases z; cases x
   simp only [S48.mk.injEq] at *
   exact ⟨e2.trans e, q2.trans q1.symm⟩
  exact e3 ▸ hz
theorem zir (v : Int) (xs : List S48) (hx : okS xs) (hs : SO xs 0 xs.length) (nn : Nat) (hnn : ∀ x ∈ xs, x.f0.length = nn) (d : Nat) : ∀ (i : Nat) (out : List S48), i + d = xs.length → out.length ≤ i → Can (xs.take i) out → (0 < i → ∃ o a, out = o ++ [a] ∧ a.f0 = G xs (i - 1)) →
  ∃ r : List S48, Ev (fun k => zau.l0 k xs xs.length i v out) (v, r.filter nz) ∧ Can xs r ∧ r.length ≤ xs.length := by
 induction d with
 | zero =>
  intro i out hi ho hc hl
  have h9 := hx.1
  rw [List.take_of_length_le (by omega)] at hc
  have hd : zea (out.filter nz) = true := zfM (n := nn) (hc.ord.filter _) (fun x h => by
   obtain ⟨y, hy, e⟩ := hc.sub x (List.mem_filter.1 h).1
   rw [← e]; exact hnn y hy)
  exact ⟨out, Ev.step (fun k => by rw [zau.l0]) (Ev.ite_false (by omega) (Ev.bind (zg0 out (by omega)) (by first | exact Ev.ite_true hd (Ev.now _) | exact Ev.now _))), hc, by omega⟩
 | succ d ih =>
  intro i out hi ho hc hl
  have h9 := hx.1
  have hlt : i < xs.length := by omega
  have hm := hx.2 _ (List.getElem_mem hlt)
  have tk : xs.take (i + 1) = xs.take i ++ [xs[i]] := List.take_succ_eq_append_getElem hlt
  have gi : xs[i].f0 = G xs i := G_eq xs i hlt
  have cl : Ev (fun k => zbc.f xs[i].f0) xs[i].f0 := ⟨0, fun _ _ => zjm _ (by omega)⟩
  -- one more behind
  have add : (∀ x ∈ out, cmpL xs[i].f0 x.f0 < 0) → ∃ r : List S48, Ev (fun k => (zbc.f xs[i].f0).bind fun t => if out.length < 4398046511104 then zau.l0 k xs xs.length ((i + 1 : Nat) : Int) v (out ++ [(⟨t, xs[i].f1⟩ : S48)]) else none) (v, r.filter nz) ∧ Can xs r ∧ r.length ≤ xs.length := by
   intro hlt2
   obtain ⟨r, r1, r2, r3⟩ := ih (i + 1) (out ++ [(⟨xs[i].f0, xs[i].f1⟩ : S48)]) (by omega) (by simp; omega) (by rw [tk]; exact hc.snoc hlt2 rfl rfl) (fun _ => ⟨out, _, rfl, by simpa using gi⟩)
   exact ⟨r, Ev.bind cl (Ev.ite_true (by omega) r1), r2, r3⟩
  have w1 : wrap64 ((i : Int) + 1) = ((i + 1 : Nat) : Int) := wr1 (by omega)
  by_cases h0 : i = 0
  ·have e : out = [] := List.length_eq_zero_iff.1 (by omega)
   subst e
   obtain ⟨r, r1, r2⟩ := add (fun x hx => by cases hx)
   refine ⟨r, Ev.step (fun k => by rw [zau.l0]) (Ev.ite_true (by omega) (Ev.ite_true (by omega) (Ev.ite_true (by omega) (Ev.ite_false (by simp [wrap64]) ?_)))), r2⟩
   rw [zby xs i hlt, w1]
   exact r1
  ·obtain ⟨o, a, rfl, ea⟩ := hl (by omega)
   have hlen : (o ++ [a]).length = o.length + 1 := by simp
   rw [hlen] at ho
   have wl : wrap64 (((o ++ [a]).length : Int) - 1) = ((o.length : Nat) : Int) := by rw [hlen]; unfold wrap64; omega
   have hla : (o ++ [a])[o.length]'(by omega) = a := by simp
   have hle : LeL xs[i].f0 a.f0 := by rw [gi, ea]; exact hs (i - 1) i (by omega) (by omega) hlt
   have hal : a.f0.length ≤ 1048576 := by
    obtain ⟨y, hy, e⟩ := hc.sub a (List.mem_append_right _ (List.mem_singleton_self _))
    rw [← e]; exact hx.2 y (List.mem_of_mem_take hy)
   have heq := zil a.f0 xs[i].f0 hal
   by_cases e : a.f0 = xs[i].f0
   ·obtain ⟨r, r1, r2, r3⟩ := ih (i + 1) (o ++ [(⟨a.f0, wrap64 (a.f1 + xs[i].f1)⟩ : S48)]) (by omega) (by simp; omega) (by rw [tk]; exact hc.same e) (fun _ => ⟨o, _, rfl, by simpa [e] using gi⟩)
    refine ⟨r, Ev.step (fun k => by rw [zau.l0]) (Ev.ite_true (by omega) (Ev.ite_true (by omega) (Ev.ite_true (by omega) ?_))), r2, r3⟩
    rw [wl, zby xs i hlt, zby (o ++ [a]) o.length (by omega), hla, w1, Int.toNat_natCast, zh7]
    refine Ev.ite_true (by omega) (Ev.ite_true (by omega) (Ev.ite_true (by omega) (Ev.bind heq ?_)))
    exact Ev.ite_true (by simpa using e) r1
   ·obtain ⟨r, r1, r2⟩ := add (fun x hx2 => by
     have q : cmpL xs[i].f0 a.f0 < 0 := zho hle (fun h => e h.symm)
     rcases List.mem_append.1 hx2 with h | h
     ·have := hc.ord
      unfold Desc at this
      rw [List.pairwise_append] at this
      exact zfC q (zcV (this.2.2 x h a (List.mem_singleton_self _)))
     ·rw [List.mem_singleton.1 h]; exact q)
    refine ⟨r, Ev.step (fun k => by rw [zau.l0]) (Ev.ite_true (by omega) (Ev.ite_true (by omega) (Ev.ite_true (by omega) ?_))), r2⟩
    rw [wl, zby xs i hlt, zby (o ++ [a]) o.length (by omega), hla, w1]
    refine Ev.ite_true (by omega) (Ev.ite_true (by omega) (Ev.ite_true (by omega) (Ev.bind heq ?_)))
    exact Ev.ite_false (by simpa using e) r1
theorem zis (v : Int) (l : List S48) (hl : okS l) (hlen : l.length < 4398046511104) (nn : Nat) (hnn : ∀ x ∈ l, x.f0.length = nn) : ∃ r : List S48, Ev (fun k => zau.f k v l) (v, r.filter nz) ∧ Can l r ∧ r.length ≤ l.length := by
 obtain ⟨s, s1, s2, s3⟩ := zh6 l hl
 have hs := zcj hl s2
 rw [← s2.length_eq] at s3
 obtain ⟨r, r1, r2, r3⟩ := zir v s hs s3 nn (fun x hx => hnn x (s2.mem_iff.1 hx)) s.length 0 [] (by omega) (by simp) Can.nil (fun h => by omega)
 refine ⟨r, ?_, r2.perm s2, by rw [← s2.length_eq]; exact r3⟩
 simp only [zau.f]
 refine Ev.bind (a := l) ?_ (Ev.bind s1 ?_)
 ·simp only [zbM.f, Option.bind_some, List.nil_append, List.length_nil, Nat.zero_add, if_pos hlen]
  exact Ev.now _
 ·rw [← s2.length_eq]; exact r1
def conv (m : S69) : S48 := ⟨m.f0, m.f1⟩
def zgA (l : List S69) : Prop := l.length ≤ 1048576 ∧ ∀ m ∈ l, m.f0.length ≤ 1048576
theorem zeq (l : List S69) (i : Nat) (h : i < l.length) : zce l (i : Int) = l[i] := by
 simp [zce, List.getD_eq_getElem?_getD, h]
theorem zdU (l : List S48) (i : Nat) (h : i < l.length) : zab l (i : Int) = l[i] := by
 simp [zab, List.getD_eq_getElem?_getD, h]
theorem zgT (l : List S69) (hl : l.length ≤ 1048576) (hm : ∀ m ∈ l, m.f0.length ≤ maxLen) (d : Nat) : ∀ (i : Nat) (a : Int), i + d = l.length → 0 ≤ a → a ≤ 1048576 →
  ∃ r : Int, Ev (fun k => za5.l0 k l a i) r ∧ (r < 0 ∨ (r ≤ 1048576 ∧ ∀ m ∈ l.drop i, m.f0.length ≤ 1048576)) := by
 induction d with
 | zero =>
  intro i a hi h0 h1
  refine ⟨a, Ev.step (fun k => by simp only [za5.l0]; rfl) (Ev.ite_false (by omega) (Ev.now _)), .inr ⟨h1, ?_⟩⟩
  rw [List.drop_of_length_le (by omega)]; simp
 | succ d ih =>
  intro i a hi h0 h1
  have hlt : i < l.length := by omega
  have hlt' : (i : Int) < (l.length : Int) := by omega
  have hx := hm _ (List.getElem_mem hlt)
  unfold maxLen at hx
  have w1 : wrap64 ((i : Int) + 1) = ((i + 1 : Nat) : Int) := wr1 (by omega)
  have w2 : wrap64 (a - (l[i].f0.length : Int)) = a - (l[i].f0.length : Int) := zfn (by omega) (by omega)
  rw [List.drop_eq_getElem_cons hlt]
  by_cases h : a - (l[i].f0.length : Int) < 0
  ·refine ⟨-1, Ev.step (fun k => by simp only [za5.l0, zcf.f, zb8.f]; rfl) ?_, .inl (by omega)⟩
   rw [zeq l i hlt, w2, if_pos h]
   simp only [Option.bind_some]
   rw [if_pos (by omega)]
   simp only [Option.bind_some]
   exact Ev.ite_true hlt' (Ev.ite_true (Int.natCast_nonneg _) (Ev.ite_true (by omega) (Ev.now _)))
  ·obtain ⟨r, hr, hc⟩ := ih (i + 1) (a - (l[i].f0.length : Int)) (by omega) (by omega) (by omega)
   refine ⟨r, Ev.step (fun k => by simp only [za5.l0, zcf.f, zb8.f]; rfl) ?_, hc.imp_right fun hc => ⟨hc.1, fun m hm => ?_⟩⟩
   ·rw [zeq l i hlt, w2, if_neg h]
    simp only [Option.bind_some]
    rw [if_neg h, w1]
    simp only [Option.bind_some]
    exact Ev.ite_true hlt' (Ev.ite_true (Int.natCast_nonneg _) (Ev.ite_false h hr))
   ·rcases List.mem_cons.1 hm with rfl | hm
    ·omega
    ·exact hc.2 m hm
theorem zfp (v : Int) (l : List S69) (left : Int) (h0 : 0 ≤ left) (h1 : left ≤ 1048576) (hn : l.length ≤ maxLen) (hm : ∀ m ∈ l, m.f0.length ≤ maxLen) : ∃ r : Int, Ev (fun k => zbv.f k v l left) r ∧ (r < 0 ∨ (0 ≤ r ∧ r ≤ 1048576 ∧ zgA l)) := by
 unfold maxLen at hn
 simp only [zbv.f, za5.f]
 rw [zfn (x := left - (l.length : Int)) (by omega) (by omega)]
 by_cases h : left - (l.length : Int) < 0
 ·exact ⟨-1, Ev.bind (Ev.ite_true h (Ev.now _)) (Ev.ite_true (by omega) (Ev.now _)), .inl (by omega)⟩
 ·obtain ⟨r, hr, hc⟩ := zgT l (by omega) hm l.length 0 (left - (l.length : Int)) (by omega) (by omega) (by omega)
  by_cases h0 : r < 0
  ·exact ⟨-1, Ev.bind (Ev.ite_false h hr) (Ev.ite_true h0 (Ev.now _)), .inl (by omega)⟩
  ·obtain ⟨c1, c2⟩ := hc.resolve_left h0
   refine ⟨r, Ev.bind (Ev.ite_false h hr) (Ev.ite_false h0 (Ev.now _)), .inr ⟨by omega, c1, by omega, ?_⟩⟩
   simpa using c2
theorem zgS (l : List S69) (hs : zgA l) (d : Nat) : ∀ (i : Nat) (y : List S48), i + d = l.length → y.length = l.length → y.take i = (l.take i).map conv → Ev (fun k => za4.l0 k l y i) (l.map conv) := by
 obtain ⟨hl, he⟩ := hs
 induction d with
 | zero =>
  intro i y hi hy ht
  obtain rfl : i = l.length := by omega
  rw [List.take_of_length_le (by omega), List.take_of_length_le (by omega)] at ht
  subst ht
  exact Ev.step (fun k => by simp only [za4.l0]; rfl) (Ev.ite_false (by omega) (Ev.now _))
 | succ d ih =>
  intro i y hi hy ht
  have hlt : i < l.length := by omega
  have hlt' : (i : Int) < (l.length : Int) := by omega
  have hlt2 : (i : Int) < (y.length : Int) := by omega
  have hx := he _ (List.getElem_mem hlt)
  have w1 : wrap64 ((i : Int) + 1) = ((i + 1 : Nat) : Int) := wr1 (by omega)
  refine Ev.step (fun k => by simp only [za4.l0, zbT.f]; rfl) ?_
  rw [zeq l i hlt, w1]
  refine Ev.ite_true hlt' (Ev.ite_true (Int.natCast_nonneg _) (Ev.bind (Ev.bind (zh _ hx) (Ev.now _)) (Ev.ite_true hlt2 ?_)))
  refine ih (i + 1) _ (by omega) (by simpa using hy) ?_
  rw [Int.toNat_natCast, zcJ y i _ (by omega), ht, List.take_succ_eq_append_getElem hlt, List.map_append]
  rfl
theorem zfo (v : Int) (l : List S69) (hs : zgA l) : Ev (fun k => zaY.f k v l) (v, l.map conv) := by
 have hl := hs.1
 simp only [zaY.f, za4.f]
 refine Ev.bind (Ev.ite_true (by omega) (Ev.ite_true (by omega) ?_)) (Ev.now _)
 exact zgS l hs l.length 0 _ (by omega) (by simp) (by simp)
theorem ziM (x a b : Int) : zcp.f x a b = some (decide (a ≤ x ∧ x ≤ b)) := by
 unfold zcp.f
 by_cases h : x ≥ a
 ·rw [if_pos h]; congr 1; by_cases h2 : x ≤ b
  ·rw [decide_eq_true h2, decide_eq_true ⟨h, h2⟩]
  ·rw [decide_eq_false h2, decide_eq_false (by omega)]
 ·rw [if_neg h, decide_eq_false (by omega)]
theorem zgw (x a b : Int) : zbU.f x a b = some (decide (a ≤ x ∧ x ≤ b)) := by
 unfold zbU.f
 by_cases h : a ≤ x
 ·rw [if_pos h]; congr 1; by_cases h2 : x ≤ b
  ·rw [decide_eq_true h2, decide_eq_true ⟨h, h2⟩]
  ·rw [decide_eq_false h2, decide_eq_false (by omega)]
 ·rw [if_neg h, decide_eq_false (by omega)]
theorem zhL (a b : List Int) (ha : a.length ≤ 1048576) (hb : b.length ≤ 1048576) (d : Nat) : ∀ (i : Nat), i + d = a.length → i ≤ b.length → Ev (fun k => zaA.l0 k a b i) (decide (cmpL (a.drop i) (b.drop i) < 0)) := by
 induction d with
 | zero =>
  intro i hi hb'
  refine Ev.step (fun k => by simp only [zaA.l0]; rfl) (Ev.ite_false (by omega) (Ev.step (fun k => by simp only [zaA.j1]; rfl) ?_))
  refine Ev.ite_false (by simp) ?_
  rw [List.drop_of_length_le (l := a) (by omega)]
  by_cases h : i < b.length
  ·rw [zfL b i h]
   have : (a.length : Int) < b.length := by omega
   simp only [cmpL, this, decide_true]
   exact Ev.now _
  ·rw [List.drop_of_length_le (l := b) (by omega)]
   have : ¬ (a.length : Int) < b.length := by omega
   simp only [cmpL, this, decide_false]
   exact Ev.now _
 | succ d ih =>
  intro i hi hb'
  have hlt : i < a.length := by omega
  have hlt' : (i : Int) < (a.length : Int) := by omega
  rw [zfL a i hlt]
  by_cases h : i < b.length
  ·have h' : (i : Int) < (b.length : Int) := by omega
   have w1 : wrap64 ((i : Int) + 1) = ((i + 1 : Nat) : Int) := wr1 (by omega)
   rw [zfL b i h]
   refine Ev.step (fun k => by simp only [zaA.l0]; rfl) (Ev.ite_true hlt' ?_)
   rw [decide_eq_true h']
   refine Ev.step (fun k => by simp only [zaA.j1]; rfl) ?_
   refine Ev.ite_true (by trivial) (Ev.ite_true (Int.natCast_nonneg _) (Ev.ite_true hlt' (Ev.ite_true h' ?_)))
   rw [zcR a i hlt, zcR b i h, w1]
   by_cases e : a[i] = b[i]
   ·refine Ev.ite_true e ?_
    simp only [cmpL, if_pos e]
    exact ih (i + 1) (by omega) (by omega)
   ·refine Ev.ite_false e ?_
    simp only [cmpL, if_neg e]
    by_cases g : a[i] < b[i]
    ·simp only [if_pos g, g, decide_true]; exact Ev.now _
    ·simp only [if_neg g, g, decide_false]; exact Ev.now _
  ·have h' : ¬ (i : Int) < (b.length : Int) := by omega
   refine Ev.step (fun k => by simp only [zaA.l0]; rfl) (Ev.ite_true hlt' ?_)
   rw [decide_eq_false h']
   refine Ev.step (fun k => by simp only [zaA.j1]; rfl) ?_
   refine Ev.ite_false (by simp) ?_
   rw [List.drop_of_length_le (l := b) (by omega)]
   have : ¬ (a.length : Int) < b.length := by omega
   simp only [cmpL, this, decide_false]
   exact Ev.now _
theorem zfW (a b : List Int) (ha : a.length ≤ 1048576) (hb : b.length ≤ 1048576) : Ev (fun k => zaA.f k a b) (decide (cmpL a b < 0)) := by
 simp only [zaA.f]
 exact zhL a b ha hb a.length 0 (by omega) (by omega)
def okE (x : Int) : Bool := decide (0 ≤ x ∧ x ≤ 18)
def okM (v : Int) (m : S48) : Bool := m.f0.all okE && (decide ((m.f0.length : Int) = v) && (m.f1 != 0))
theorem zf9 (f0 : List Int) (f1 v : Int) (hl : f0.length ≤ 1048576) (d : Nat) : ∀ (i : Nat), i + d = f0.length → Ev (fun k => za1.l0 k v i f0 f1) ((f0.drop i).all okE && (decide ((f0.length : Int) = v) && (f1 != 0))) := by
 induction d with
 | zero =>
  intro i hi
  refine Ev.step (fun k => by simp only [za1.l0]; rfl) (Ev.ite_false (by omega) ?_)
  rw [List.drop_of_length_le (by omega)]
  by_cases e : (f0.length : Int) = v
  ·rw [decide_eq_true e]; exact Ev.ite_true e (by simpa using Ev.now _)
  ·rw [decide_eq_false e]; exact Ev.ite_false e (by simpa using Ev.now _)
 | succ d ih =>
  intro i hi
  have hlt : i < f0.length := by omega
  have hlt' : (i : Int) < (f0.length : Int) := by omega
  have w1 : wrap64 ((i : Int) + 1) = ((i + 1 : Nat) : Int) := wr1 (by omega)
  rw [zfL f0 i hlt]
  refine Ev.step (fun k => by simp only [za1.l0]; rfl) (Ev.ite_true hlt' (Ev.ite_true (Int.natCast_nonneg _) ?_))
  rw [zcR f0 i hlt, ziM, w1]
  simp only [Option.bind_some, List.all_cons]
  by_cases h : 0 ≤ f0[i] ∧ f0[i] ≤ 18
  ·have : okE f0[i] = true := decide_eq_true h
   rw [this, Bool.true_and]
   exact Ev.ite_true (by simp only [decide_eq_true_eq]; exact h) (ih (i + 1) (by omega))
  ·have : okE f0[i] = false := decide_eq_false h
   rw [this]
   exact Ev.ite_false (by simp only [decide_eq_true_eq]; exact h) (by simpa using Ev.now _)
theorem zg (m : S48) (v : Int) (hl : m.f0.length ≤ 1048576) : Ev (fun k => za1.f k m.f0 m.f1 v) (okM v m) := by
 simp only [za1.f]
 exact zf9 m.f0 m.f1 v hl m.f0.length 0 (by omega)
theorem zfD (x : Int) : zb2.f x = some (!okE x) := by
 unfold zb2.f
 rw [zgw]
 rfl
theorem zfO (l : List Int) (hl : l.length ≤ 1048576) (d : Nat) : ∀ (i : Nat), i + d = l.length → ∃ r : Int, Ev (fun k => zao.l0 k l l.length i) r ∧ decide (r ≥ 0) = !((l.drop i).all okE) := by
 induction d with
 | zero =>
  intro i hi
  refine ⟨-1, Ev.step (fun k => by simp only [zao.l0]; rfl) (Ev.ite_false (by omega) (Ev.now _)), ?_⟩
  rw [List.drop_of_length_le (by omega)]; simp
 | succ d ih =>
  intro i hi
  have hlt : i < l.length := by omega
  have hlt' : (i : Int) < (l.length : Int) := by omega
  have w1 : wrap64 ((i : Int) + 1) = ((i + 1 : Nat) : Int) := wr1 (by omega)
  rw [zfL l i hlt]
  cases h : okE l[i]
  ·refine ⟨i, Ev.step (fun k => by simp only [zao.l0]; rfl) (Ev.ite_true hlt' (Ev.ite_true (Int.natCast_nonneg _) (Ev.ite_true hlt' ?_))), by simp only [List.all_cons, h, Bool.false_and, Bool.not_false, decide_eq_true_eq]; omega⟩
   rw [zcR l i hlt, zfD, h]
   simp only [Option.bind_some]
   exact Ev.ite_true rfl (Ev.now _)
  ·obtain ⟨r, r1, r2⟩ := ih (i + 1) (by omega)
   refine ⟨r, Ev.step (fun k => by simp only [zao.l0]; rfl) (Ev.ite_true hlt' (Ev.ite_true (Int.natCast_nonneg _) (Ev.ite_true hlt' ?_))), by simp only [List.all_cons, h, Bool.true_and]; exact r2⟩
   rw [zcR l i hlt, zfD, h, w1]
   simp only [Option.bind_some]
   exact Ev.ite_false (by simp) r1
theorem zfP (l : List Int) (hl : l.length ≤ 1048576) : Ev (fun k => zay.f k l) (!(l.all okE)) := by
 obtain ⟨r, r1, r2⟩ := zfO l hl l.length 0 (by omega)
 simp only [zay.f, zao.f]
 refine Ev.bind r1 ?_
 rw [r2]; exact Ev.now _
def bigM (l : List S48) : Prop := l.length ≤ 4398046511104 ∧ ∀ m ∈ l, m.f0.length ≤ 1048576
def okAt (v : Int) (l : List S48) (i : Nat) : Bool := okM v (l.getD i z48) && (i == 0 || decide (cmpL (l.getD i z48).f0 (l.getD (i - 1) z48).f0 < 0))
def zcq (v : Int) (l : List S48) : Nat → Nat → Bool
 | _, 0 => true
 | i, d + 1 => okAt v l i && zcq v l (i + 1) d
theorem zdH {v : Int} {l : List S48} : ∀ {d i : Nat}, zcq v l i d = true → ∀ j, i ≤ j → j < i + d → okAt v l j = true
 | 0, i, _, j, h1, h2 => by omega
 | d + 1, i, h, j, h1, h2 => by
  simp only [zcq, Bool.and_eq_true] at h
  by_cases e : j = i
  ·subst e; exact h.1
  ·exact zdH h.2 j (by omega) (by omega)
def zdl (v : Int) (l : List S48) : Bool := zcq v l 0 l.length && decide (1 ≤ v ∧ v ≤ 4)
theorem ze (l : List S48) (i : Nat) (h : i < l.length) : l.getD i z48 = l[i] := by simp [List.getD_eq_getElem?_getD, h]
theorem zf8 (v : Int) (l : List S48) (hs : bigM l) (d : Nat) : ∀ (i : Nat), i + d = l.length → Ev (fun k => zaJ.l0 k i v l) (zcq v l i d && decide (1 ≤ v ∧ v ≤ 4)) := by
 obtain ⟨hl, he⟩ := hs
 induction d with
 | zero =>
  intro i hi
  refine Ev.step (fun k => by simp only [zaJ.l0]; rfl) (Ev.ite_false (by omega) ?_)
  rw [ziM]
  simp only [Option.bind_some, zcq, Bool.true_and]
  exact Ev.now _
 | succ d ih =>
  intro i hi
  have hlt : i < l.length := by omega
  have hlt' : (i : Int) < (l.length : Int) := by omega
  have w1 : wrap64 ((i : Int) + 1) = ((i + 1 : Nat) : Int) := wr1 (by omega)
  have hx := he _ (List.getElem_mem hlt)
  refine Ev.step (fun k => by simp only [zaJ.l0]; rfl) (Ev.ite_true hlt' (Ev.ite_true (Int.natCast_nonneg _) ?_))
  rw [zdU l i hlt, w1]
  refine Ev.bind (zg l[i] v hx) ?_
  simp only [zcq, okAt, ze l i hlt]
  cases hm : okM v l[i]
  ·exact Ev.ite_false (by simp) (by simpa using Ev.now _)
  ·refine Ev.ite_true rfl ?_
   by_cases h0 : i = 0
   ·subst h0
    refine Ev.ite_false (by omega) ?_
    simpa using ih 1 (by omega)
   ·have h1 : i - 1 < l.length := by omega
    have hx1 := he _ (List.getElem_mem h1)
    have e1 : wrap64 ((i : Int) - 1) = ((i - 1 : Nat) : Int) := by unfold wrap64; omega
    have hb := zfW l[i].f0 l[i - 1].f0 hx hx1
    refine Ev.ite_true (by omega) ?_
    rw [e1, zdU l (i - 1) h1]
    refine Ev.ite_true (Int.natCast_nonneg _) (Ev.ite_true (by omega) (Ev.bind hb ?_))
    simp only [ze l (i - 1) h1, Bool.true_and]
    have e0 : (i == 0) = false := by simpa using h0
    rw [e0, Bool.false_or]
    cases hc : decide (cmpL l[i].f0 l[i - 1].f0 < 0)
    ·exact Ev.ite_false (by simp) (by simpa using Ev.now _)
    ·exact Ev.ite_true rfl (by simpa using ih (i + 1) (by omega))
theorem zem (v : Int) (l : List S48) (hs : bigM l) : Ev (fun k => zaJ.f k v l) (zdl v l) := by
 simp only [zaJ.f]
 exact zf8 v l hs l.length 0 (by omega)
theorem zgf (v : Int) (l : List S48) (hs : bigM l) (d : Nat) : ∀ (i : Nat), i + d = l.length → Ev (fun k => zaw.l0 k l l.length i v l) (zcq v l i d) := by
 obtain ⟨hl, he⟩ := hs
 induction d with
 | zero =>
  intro i hi
  exact Ev.step (fun k => by simp only [zaw.l0]; rfl) (Ev.ite_false (by omega) (Ev.now _))
 | succ d ih =>
  intro i hi
  have hlt : i < l.length := by omega
  have hlt' : (i : Int) < (l.length : Int) := by omega
  have w1 : wrap64 ((i : Int) + 1) = ((i + 1 : Nat) : Int) := wr1 (by omega)
  have hx := he _ (List.getElem_mem hlt)
  have no : Ev (fun k => zaw.j1 k l l.length i true v l l[i].f0 l[i].f1) false := by
   refine Ev.step (fun k => by simp only [zaw.j1]; rfl) ?_
   exact Ev.ite_true (by trivial) (Ev.now _)
  have yes : Ev (fun k => zaw.j1 k l l.length i false v l l[i].f0 l[i].f1) (l[i].f0.all okE && zcq v l (i + 1) d) := by
   refine Ev.step (fun k => by simp only [zaw.j1]; rfl) ?_
   refine Ev.ite_false (by simp) (Ev.bind (zfP _ hx) ?_)
   rw [w1]
   cases hE : l[i].f0.all okE
   ·exact Ev.ite_true rfl (Ev.now _)
   ·exact Ev.ite_false (by simp) (by simpa using ih (i + 1) (by omega))
  refine Ev.step (fun k => by simp only [zaw.l0]; rfl) (Ev.ite_true hlt' (Ev.ite_true (Int.natCast_nonneg _) (Ev.ite_true hlt' ?_)))
  rw [zdU l i hlt]
  simp only [zcq, okAt, okM, ze l i hlt]
  by_cases e : (l[i].f0.length : Int) = v
  ·refine Ev.ite_true e ?_
   by_cases z : l[i].f1 = 0
   ·refine Ev.ite_true z ?_
    have : (l[i].f1 != 0) = false := by simpa using z
    rw [this]
    simpa using no
   ·refine Ev.ite_false z ?_
    have : (l[i].f1 != 0) = true := by simpa using z
    rw [this, decide_eq_true e, Bool.and_true, Bool.and_true]
    by_cases h0 : i = 0
    ·subst h0
     refine Ev.ite_false (by omega) ?_
     simpa using yes
    ·have h1 : i - 1 < l.length := by omega
     have hx1 := he _ (List.getElem_mem h1)
     have e1 : wrap64 ((i : Int) - 1) = ((i - 1 : Nat) : Int) := by unfold wrap64; omega
     refine Ev.ite_true (by omega) ?_
     rw [e1, zdU l (i - 1) h1]
     refine Ev.ite_true (Int.natCast_nonneg _) (Ev.ite_true (by omega) (Ev.bind (zeY l[i].f0 l[i - 1].f0 hx hx1) ?_))
     simp only [ze l (i - 1) h1]
     have e0 : (i == 0) = false := by simpa using h0
     rw [e0, Bool.false_or]
     by_cases hc : cmpL l[i].f0 l[i - 1].f0 < 0
     ·have g : decide (cmpL l[i].f0 l[i - 1].f0 ≥ 0) = false := by simp; omega
      rw [g, decide_eq_true hc, Bool.and_true]
      exact yes
     ·have g : decide (cmpL l[i].f0 l[i - 1].f0 ≥ 0) = true := by simp; omega
      rw [g, decide_eq_false hc, Bool.and_false, Bool.false_and]
      exact no
  ·refine Ev.ite_false e ?_
   rw [decide_eq_false e]
   simpa using no
theorem zdJ (v : Int) (l : List S48) (hs : bigM l) : Ev (fun k => zaw.f k v l) (zdl v l) := by
 simp only [zaw.f, zgw, Option.bind_some, zdl]
 by_cases h : 1 ≤ v ∧ v ≤ 4
 ·rw [decide_eq_true h, Bool.and_true]
  exact Ev.ite_true rfl (zgf v l hs l.length 0 (by omega))
 ·rw [decide_eq_false h, Bool.and_false]
  exact Ev.ite_false (by simp) (Ev.now _)
theorem zgK {l : List S69} (h : zgA l) : bigM (l.map conv) := by
 refine ⟨by have := h.1; rw [List.length_map]; omega, fun m hm => ?_⟩
 obtain ⟨x, hx, rfl⟩ := List.mem_map.1 hm
 exact h.2 x hx
theorem zhp (a b : List Int) (hl : a.length ≤ 1048576) (hab : a.length = b.length) (d : Nat) : ∀ (i : Nat), i + d = a.length → a.take i = b.take i → Ev (fun k => zbb.l0 k a b i) (decide (a = b)) := by
 induction d with
 | zero =>
  intro i hi ht
  refine Ev.step (fun k => by simp only [zbb.l0]; rfl) (Ev.ite_false (by omega) ?_)
  obtain rfl : i = a.length := by omega
  rw [List.take_of_length_le (by omega), List.take_of_length_le (by omega)] at ht
  rw [decide_eq_true ht]; exact Ev.now _
 | succ d ih =>
  intro i hi ht
  have hlt : i < a.length := by omega
  have hlt' : i < b.length := by omega
  have w1 : wrap64 ((i : Int) + 1) = ((i + 1 : Nat) : Int) := wr1 (by omega)
  refine Ev.step (fun k => by simp only [zbb.l0]; rfl) (Ev.ite_true (by omega) (Ev.ite_true (Int.natCast_nonneg _) (Ev.ite_true (by omega) ?_)))
  rw [w1, zcR a i hlt, zcR b i hlt']
  by_cases h : a[i] = b[i]
  ·refine Ev.ite_true h (ih (i + 1) (by omega) ?_)
   rw [List.take_succ_eq_append_getElem hlt, List.take_succ_eq_append_getElem hlt', ht, h]
  ·refine Ev.ite_false h ?_
   rw [decide_eq_false (by intro e; subst e; exact h rfl)]; exact Ev.now _
theorem zhq (a b : List Int) (hl : a.length ≤ 1048576) : Ev (fun k => zbb.f k a b) (decide (a = b)) := by
 simp only [zbb.f]
 by_cases h : (a.length : Int) = (b.length : Int)
 ·exact Ev.ite_true h (zhp a b hl (by omega) a.length 0 (by omega) (by simp))
 ·refine Ev.ite_false h ?_
  rw [decide_eq_false (by intro e; subst e; exact h rfl)]; exact Ev.now _
theorem Desc.app {a b : List S48} : Desc (a ++ b) ↔ Desc a ∧ Desc b ∧ ∀ x ∈ a, ∀ y ∈ b, cmpL y.f0 x.f0 < 0 := List.pairwise_append
theorem Can.merge {l a b : List S48} {x m : S48} (h : Can l (a ++ x :: b)) (e : x.f0 = m.f0) : Can (l ++ [m]) (a ++ (⟨x.f0, wrap64 (x.f1 + m.f1)⟩ : S48) :: b) := by
 have ho := h.ord
 rw [Desc.app] at ho
 obtain ⟨o1, o2, o3⟩ := ho
 unfold Desc at o2
 rw [List.pairwise_cons] at o2
 obtain ⟨o4, o5⟩ := o2
 refine ⟨?_, fun y hy => ?_, fun y hy => ?_, fun y hy => ?_⟩
 ·rw [Desc.app]
  refine ⟨o1, List.pairwise_cons.2 ⟨fun y hy => o4 y hy, o5⟩, fun y hy z hz => ?_⟩
  rcases List.mem_cons.1 hz with rfl | hz
  ·exact o3 y hy x List.mem_cons_self
  ·exact o3 y hy z (List.mem_cons_of_mem _ hz)
 ·have old : y ∈ a ++ x :: b → m.f0 ≠ y.f0 → y.f1 = Pure.val (fat y.f0 (l ++ [m])) := fun hy hne => by
   rw [zct, zcK hne, List.append_nil]
   exact h.val y hy
  rcases List.mem_append.1 hy with hy | hy
  ·refine old (List.mem_append_left _ hy) (fun e2 => ?_)
   have := o3 y hy x List.mem_cons_self
   rw [e, e2] at this
   exact zb5 _ this
  ·rcases List.mem_cons.1 hy with rfl | hy
   ·show wrap64 (x.f1 + m.f1) = Pure.val (fat x.f0 (l ++ [m]))
    have hx : x ∈ a ++ x :: b := List.mem_append_right _ List.mem_cons_self
    obtain ⟨z, hz, hze⟩ := h.sub x hx
    rw [zct, show fat x.f0 [m] = [m.f1] by rw [e]; exact zcZ m, zgy _ (ziN hz hze), ← h.val x hx]
   ·refine old (List.mem_append_right _ (List.mem_cons_of_mem _ hy)) (fun e2 => ?_)
    have := o4 y hy
    rw [e, e2] at this
    exact zb5 _ this
 ·have old : y ∈ a ++ x :: b → ∃ z ∈ l ++ [m], z.f0 = y.f0 := fun hy => by
   obtain ⟨z, hz, e2⟩ := h.sub y hy
   exact ⟨z, List.mem_append_left _ hz, e2⟩
  rcases List.mem_append.1 hy with hy | hy
  ·exact old (List.mem_append_left _ hy)
  ·rcases List.mem_cons.1 hy with rfl | hy
   ·exact ⟨m, List.mem_append_right _ (List.mem_singleton_self _), e.symm⟩
   ·exact old (List.mem_append_right _ (List.mem_cons_of_mem _ hy))
 ·have new : ∀ z ∈ a ++ x :: b, ∃ w ∈ a ++ (⟨x.f0, wrap64 (x.f1 + m.f1)⟩ : S48) :: b, w.f0 = z.f0 := fun z hz => by
   rcases List.mem_append.1 hz with hz | hz
   ·exact ⟨z, List.mem_append_left _ hz, rfl⟩
   ·rcases List.mem_cons.1 hz with rfl | hz
    ·exact ⟨_, List.mem_append_right _ List.mem_cons_self, rfl⟩
    ·exact ⟨z, List.mem_append_right _ (List.mem_cons_of_mem _ hz), rfl⟩
  rcases List.mem_append.1 hy with hy | hy
  ·obtain ⟨z, hz, e2⟩ := h.all y hy
   obtain ⟨w, hw, e3⟩ := new z hz
   exact ⟨w, hw, e3.trans e2⟩
  ·rw [List.mem_singleton.1 hy]
   exact ⟨_, List.mem_append_right _ List.mem_cons_self, e⟩
theorem Can.insert {l a b : List S48} {m : S48} (h : Can l (a ++ b)) (ha : ∀ x ∈ a, cmpL m.f0 x.f0 < 0) (hb : ∀ x ∈ b, cmpL x.f0 m.f0 < 0) : Can (l ++ [m]) (a ++ m :: b) := by
 have ho := h.ord
 rw [Desc.app] at ho
 obtain ⟨o1, o2, o3⟩ := ho
 have hne : ∀ x ∈ a ++ b, x.f0 ≠ m.f0 := fun x hx e => by
  rcases List.mem_append.1 hx with hx | hx
  ·have := ha x hx; rw [e] at this; exact zb5 _ this
  ·have := hb x hx; rw [e] at this; exact zb5 _ this
 have hm : ∀ y ∈ l, y.f0 ≠ m.f0 := fun y hy e => by
  obtain ⟨x, hx, e2⟩ := h.all y hy
  exact hne x hx (e2.trans e)
 have split : ∀ x, x ∈ a ++ m :: b → x = m ∨ x ∈ a ++ b := fun x hx => by
  rcases List.mem_append.1 hx with hx | hx
  ·exact .inr (List.mem_append_left _ hx)
  ·rcases List.mem_cons.1 hx with rfl | hx
   ·exact .inl rfl
   ·exact .inr (List.mem_append_right _ hx)
 refine ⟨?_, fun x hx => ?_, fun x hx => ?_, fun y hy => ?_⟩
 ·rw [Desc.app]
  refine ⟨o1, List.pairwise_cons.2 ⟨fun y hy => hb y hy, o2⟩, fun y hy z hz => ?_⟩
  rcases List.mem_cons.1 hz with rfl | hz
  ·exact ha y hy
  ·exact o3 y hy z hz
 ·rcases split x hx with rfl | hx
  ·rw [zct, zeU hm, List.nil_append, zcZ, val_one]
  ·rw [zct, zcK (fun e => hne x hx e.symm), List.append_nil]
   exact h.val x hx
 ·rcases split x hx with rfl | hx
  ·exact ⟨x, List.mem_append_right _ (List.mem_singleton_self _), rfl⟩
  ·obtain ⟨z, hz, e⟩ := h.sub x hx
   exact ⟨z, List.mem_append_left _ hz, e⟩
 ·rcases List.mem_append.1 hy with hy | hy
  ·obtain ⟨x, hx, e⟩ := h.all y hy
   refine ⟨x, ?_, e⟩
   rcases List.mem_append.1 hx with hx | hx
   ·exact List.mem_append_left _ hx
   ·exact List.mem_append_right _ (List.mem_cons_of_mem _ hx)
  ·rw [List.mem_singleton.1 hy]
   exact ⟨m, List.mem_append_right _ List.mem_cons_self, rfl⟩
theorem Can.len {l out : List S48} (h : Can l out) {n : Nat} (hl : ∀ x ∈ l, x.f0.length = n) : ∀ x ∈ out, x.f0.length = n := fun x hx => by
 obtain ⟨y, hy, e⟩ := h.sub x hx
 rw [← e]; exact hl y hy
theorem ziI {l cur : List S48} {m : S48} {n : Nat} (hc : Can l cur) (hn : n ≤ 1048576) (hl : ∀ x ∈ l, x.f0.length = n) (hm : m.f0.length = n) (hlen : cur.length ≤ 2199023255552) : ∀ (i : Nat), i ≤ cur.length → (∀ x ∈ cur.drop i, cmpL x.f0 m.f0 < 0) →
  ∃ r : List S48, Ev (fun k => zaB.l0 k cur m.f0 m.f1 (i : Int)) r ∧ Can (l ++ [m]) r ∧ r.length ≤ cur.length + 1
 | 0, _, hd => by
  have h0 : ¬ ((0 : Nat) : Int) > 0 := by omega
  refine ⟨m :: cur, Ev.step (fun k => by rw [zaB.l0]) (Ev.ite_false h0 ?_), ?_, by simp⟩
  ·simp only [zaB.fin, if_neg h0, zaB.put]
   rw [if_pos (by omega)]
   simpa using Ev.now _
  ·have := Can.insert (a := []) (b := cur) (m := m) (by simpa using hc) (fun x hx => (by cases hx)) (by simpa using hd)
   simpa using this
 | i + 1, hi, hd => by
  have hlt : i < cur.length := by omega
  have hcl := hc.len hl
  have hx := hcl _ (List.getElem_mem hlt)
  have w : wrap64 (((i + 1 : Nat) : Int) - 1) = (i : Int) := by unfold wrap64; omega
  have hb := zfW cur[i].f0 m.f0 (by omega) (by omega)
  have h1 : ((i + 1 : Nat) : Int) > 0 := by omega
  have sp : cur.drop i = cur[i] :: cur.drop (i + 1) := List.drop_eq_getElem_cons hlt
  by_cases c : cmpL cur[i].f0 m.f0 < 0
  ·obtain ⟨r, r1, r2⟩ := ziI hc hn hl hm hlen i (by omega) (fun x hx => by
    rw [sp] at hx
    rcases List.mem_cons.1 hx with rfl | hx
    ·exact c
    ·exact hd x hx)
   refine ⟨r, Ev.step (fun k => by rw [zaB.l0]) (Ev.ite_true h1 ?_), r2⟩
   rw [w]
   refine Ev.ite_true (by omega) (Ev.ite_true (by omega) ?_)
   rw [zby cur i hlt]
   exact Ev.bind hb (Ev.ite_true (by simpa using c) r1)
  ·have hs := zhq cur[i].f0 m.f0 (by omega)
   have cat : cur = cur.take i ++ cur[i] :: cur.drop (i + 1) := by rw [← sp, List.take_append_drop]
   by_cases e : cur[i].f0 = m.f0
   ·refine ⟨cur.set i (⟨cur[i].f0, wrap64 (cur[i].f1 + m.f1)⟩ : S48), Ev.step (fun k => by rw [zaB.l0]) (Ev.ite_true h1 ?_), ?_, by simp⟩
    ·rw [w]
     refine Ev.ite_true (by omega) (Ev.ite_true (by omega) ?_)
     rw [zby cur i hlt]
     refine Ev.bind hb (Ev.ite_false (by simpa using c) ?_)
     simp only [zaB.fin, w]
     refine Ev.ite_true h1 (Ev.ite_true (by omega) (Ev.ite_true (by omega) ?_))
     rw [zby cur i hlt, Int.toNat_natCast]
     exact Ev.bind hs (Ev.ite_true (by simpa using e) (Ev.now _))
    ·rw [List.set_eq_take_append_cons_drop, if_pos hlt]
     exact Can.merge (by rw [← cat]; exact hc) e
   ·have hgt : cmpL m.f0 cur[i].f0 < 0 := zho (zb1 c) (fun h => e h.symm)
    refine ⟨(cur.take (i + 1) ++ [m]) ++ cur.drop (i + 1), Ev.step (fun k => by rw [zaB.l0]) (Ev.ite_true h1 ?_), ?_, by simp; omega⟩
    ·rw [w]
     refine Ev.ite_true (by omega) (Ev.ite_true (by omega) ?_)
     rw [zby cur i hlt]
     refine Ev.bind hb (Ev.ite_false (by simpa using c) ?_)
     simp only [zaB.fin, w]
     refine Ev.ite_true h1 (Ev.ite_true (by omega) (Ev.ite_true (by omega) ?_))
     rw [zby cur i hlt]
     refine Ev.bind hs (Ev.ite_false (by simpa using e) ?_)
     simp only [zaB.put]
     rw [if_pos (by omega), Int.toNat_natCast]
     exact Ev.now _
    ·rw [List.append_assoc, List.singleton_append]
     refine Can.insert (by rw [List.take_append_drop]; exact hc) (fun x hx => ?_) hd
     have ho := hc.ord
     rw [cat, Desc.app] at ho
     rw [List.take_succ_eq_append_getElem hlt] at hx
     rcases List.mem_append.1 hx with hx | hx
     ·exact zfC hgt (zcV (ho.2.2 x hx _ List.mem_cons_self))
     ·rw [List.mem_singleton.1 hx]; exact hgt
theorem ziJ {l cur : List S48} (m : S48) {n : Nat} (hc : Can l cur) (hn : n ≤ 1048576) (hl : ∀ x ∈ l, x.f0.length = n) (hm : m.f0.length = n) (hlen : cur.length ≤ 2199023255552) :
  ∃ r : List S48, Ev (fun k => zaB.f k cur m.f0 m.f1) r ∧ Can (l ++ [m]) r ∧ r.length ≤ cur.length + 1 := by
 simp only [zaB.f]
 exact ziI hc hn hl hm hlen cur.length (Nat.le_refl _) (fun x hx => by rw [List.drop_of_length_le (Nat.le_refl _)] at hx; cases hx)
theorem zio (l : List S48) (hl : l.length < 4398046511104) (d : Nat) : ∀ (i : Nat) (out : List S48), i + d = l.length → out.length ≤ i → Ev (fun k => zaT.l0 k l out (i : Int)) (out ++ (l.drop i).filter nz) := by
 induction d with
 | zero =>
  intro i out hi ho
  rw [List.drop_of_length_le (by omega), List.filter_nil, List.append_nil]
  exact Ev.step (fun k => by rw [zaT.l0]) (Ev.ite_false (by omega) (Ev.now _))
 | succ d ih =>
  intro i out hi ho
  have hlt : i < l.length := by omega
  refine Ev.step (fun k => by rw [zaT.l0]) (Ev.ite_true (by omega) (Ev.ite_true (by omega) ?_))
  rw [zby l i hlt, wr1 (by omega), List.drop_eq_getElem_cons hlt]
  by_cases c : l[i].f1 = 0
  ·rw [List.filter_cons_of_neg (by simp [nz, c])]
   exact Ev.ite_true c (ih (i + 1) out (by omega) (by omega))
  ·rw [List.filter_cons_of_pos (by simp [nz, c])]
   have h := ih (i + 1) (out ++ [l[i]]) (by omega) (by simp; omega)
   rw [List.append_assoc, List.singleton_append] at h
   exact Ev.ite_false c (Ev.ite_true (by omega) h)
theorem ziq (l : List S48) (hl : l.length < 4398046511104) : Ev (fun k => zaT.f k l) (l.filter nz) := by
 simp only [zaT.f]
 simpa using zio l hl l.length 0 [] (by omega) (by simp)
def zdu (a : Int) (n : Nat) : List Int := (List.range n).map (fun (j : Nat) => a + (j : Int))
theorem zds (a : Int) (n : Nat) : (zdu a n).length = n := by simp [zdu]
theorem zhn (a : Int) (n i : Nat) (h : i < (zdu a n).length) : (zdu a n)[i] = a + i := by simp [zdu]
theorem zgd (a : Int) (n : Nat) (h0 : 0 ≤ a) (h1 : a ≤ 4611686018427387904) (hn : n ≤ 4611686018427387) (d : Nat) : ∀ (i : Nat) (y : List Int) (k : Nat), i + d = n → y.length = n → y.take i = zdu a i → d < k →
  za0.l0 k y (a + i) i = some (a + n, zdu a n) := by
 induction d with
 | zero =>
  intro i y k hi hy ht hk
  obtain ⟨k, rfl⟩ : ∃ m, k = m + 1 := ⟨k - 1, by omega⟩
  simp only [za0.l0]
  rw [if_neg (by omega)]
  obtain rfl : i = n := by omega
  rw [List.take_of_length_le (by omega)] at ht
  rw [ht]
 | succ d ih =>
  intro i y k hi hy ht hk
  obtain ⟨k, rfl⟩ : ∃ m, k = m + 1 := ⟨k - 1, by omega⟩
  simp only [za0.l0]
  rw [if_pos (by omega), if_pos (by omega), wr1 (by omega), zfn (x := a + i + 1) (by omega) (by omega)]
  have e : a + (i : Int) + 1 = a + ((i + 1 : Nat) : Int) := by omega
  rw [e]
  refine ih (i + 1) _ k (by omega) (by simpa using hy) ?_ (by omega)
  rw [Int.toNat_natCast, zcJ y i _ (by omega), ht]
  simp [zdu, List.range_succ]
theorem zge (a : Int) (l : List Int) (h0 : 0 ≤ a) (h1 : a ≤ 4611686018427387904) (hn : l.length ≤ 4611686018427387) : Ev (fun k => za0.f k l a) (a + l.length, zdu a l.length) := by
 refine ⟨l.length + 1, fun k hk => ?_⟩
 show za0.f k l a = _
 unfold za0.f
 have h := zgd a l.length h0 h1 hn l.length 0 l k (by omega) rfl (by simp [zdu]) (by omega)
 simpa using h
theorem zgh (a : Int) (n : Nat) (h0 : 0 ≤ a) (h1 : a ≤ 4611686018427387904) (hn : n ≤ 4611686018427387) (d : Nat) : ∀ (i k : Nat), i + d = n → d < k →
  zaU.l0 k (zdu a n) (a + i) i = some (a + n) := by
 induction d with
 | zero =>
  intro i k hi hk
  obtain ⟨k, rfl⟩ : ∃ m, k = m + 1 := ⟨k - 1, by omega⟩
  simp only [zaU.l0]
  rw [if_neg (by rw [zds]; omega)]
  obtain rfl : i = n := by omega
  rfl
 | succ d ih =>
  intro i k hi hk
  obtain ⟨k, rfl⟩ : ∃ m, k = m + 1 := ⟨k - 1, by omega⟩
  simp only [zaU.l0]
  have hlt : i < (zdu a n).length := by rw [zds]; omega
  rw [if_pos (by rw [zds]; omega), if_pos (by omega), zcR _ i hlt, zhn, if_pos rfl, wr1 (by omega), zfn (x := a + i + 1) (by omega) (by omega)]
  have e : a + (i : Int) + 1 = a + ((i + 1 : Nat) : Int) := by omega
  rw [e]
  exact ih (i + 1) k (by omega) (by omega)
theorem zgi (a : Int) (n : Nat) (h0 : 0 ≤ a) (h1 : a ≤ 4611686018427387904) (hn : n ≤ 4611686018427387) : Ev (fun k => zaU.f k (zdu a n) a) (a + n) := by
 refine ⟨n + 1, fun k hk => ?_⟩
 show zaU.f k (zdu a n) a = _
 unfold zaU.f
 have h := zgh a n h0 h1 hn n 0 k (by omega) (by omega)
 simpa using h
def mkM : Int → List S48 → List S48
 | _, [] => []
 | a, x :: l => (⟨zdu a x.f0.length, a + x.f0.length⟩ : S48) :: mkM (a + x.f0.length + 1) l
def endM : Int → List S48 → Int
 | a, [] => a
 | a, x :: l => endM (a + x.f0.length + 1) l
theorem zdL : ∀ (l m : List S48) (a : Int), endM a (l ++ m) = endM (endM a l) m
 | [], _, _ => rfl
 | x :: l, m, a => by simp only [List.cons_append, endM]; exact zdL l m _
theorem zd3 : ∀ (l m : List S48) (a : Int), mkM a (l ++ m) = mkM a l ++ mkM (endM a l) m
 | [], _, _ => rfl
 | x :: l, m, a => by simp only [List.cons_append, mkM, endM, zd3 l m]
theorem zcO : ∀ (l : List S48) (a : Int), (mkM a l).length = l.length
 | [], _ => rfl
 | x :: l, a => by simp only [mkM, List.length_cons, zcO l]
theorem zdK : ∀ (l : List S48) (a : Int), (∀ m ∈ l, m.f0.length ≤ 1048576) → a ≤ endM a l ∧ endM a l ≤ a + (l.length : Int) * 1048577
 | [], a, _ => by simp [endM]
 | x :: l, a, h => by
  have h1 := h x List.mem_cons_self
  have h2 := zdK l (a + x.f0.length + 1) (fun m hm => h m (List.mem_cons_of_mem _ hm))
  simp only [endM, List.length_cons]
  omega
theorem zel (l : List S48) (i : Nat) (h : i < l.length) : l.take (i + 1) = l.take i ++ [l[i]] := List.take_succ_eq_append_getElem h
theorem zfA (l : List S48) (a : Int) (h0 : 0 ≤ a) (h1 : a ≤ 1152921504606846976) (hl : l.length ≤ 1099511627776) (he : ∀ m ∈ l, m.f0.length ≤ 1048576) (d : Nat) : ∀ (i : Nat) (y : List S48), i + d = l.length → y = mkM a (l.take i) ++ l.drop i →
  Ev (fun k => zaQ.l0 k y (endM a (l.take i)) i) (endM a l, mkM a l) := by
 induction d with
 | zero =>
  intro i y hi hy
  rw [List.drop_of_length_le (by omega), List.take_of_length_le (by omega), List.append_nil] at hy
  rw [hy, List.take_of_length_le (by omega)]
  exact Ev.step (fun k => by rw [zaQ.l0]) (Ev.ite_false (by rw [zcO]; omega) (Ev.now _))
 | succ d ih =>
  intro i y hi hy
  have hlt : i < l.length := by omega
  have hml : (mkM a (l.take i)).length = i := by rw [zcO, List.length_take]; omega
  have hyl : y.length = l.length := by rw [hy, List.length_append, hml, List.length_drop]; omega
  have hx := he _ (List.getElem_mem hlt)
  obtain ⟨b1, b2⟩ := zdK (l.take i) a (fun m hm => he m (List.mem_of_mem_take hm))
  have b3 : ((l.take i).length : Int) ≤ 1099511627776 := by rw [List.length_take]; omega
  have hyi : zab y (i : Int) = l[i] := by
   rw [zby y i (by omega)]
   simp only [hy]
   rw [List.getElem_append_right (by omega)]
   simp only [hml, Nat.sub_self]
   rw [List.getElem_drop]
   simp
  refine Ev.step (fun k => by rw [zaQ.l0]) (Ev.ite_true (by omega) (Ev.ite_true (by omega) ?_))
  rw [hyi, wr1 (by omega), Int.toNat_natCast]
  refine Ev.bind (zge (endM a (l.take i)) l[i].f0 (by omega) (by omega) (by omega)) ?_
  have w : wrap64 (endM a (l.take i) + l[i].f0.length + 1) = endM a (l.take (i + 1)) := by
   rw [zel l i hlt, zdL]
   exact zfn (by omega) (by omega)
  rw [w]
  refine ih (i + 1) _ (by omega) ?_
  rw [hy, zel l i hlt, zd3, List.append_assoc, List.set_append_right _ _ (by omega), hml, Nat.sub_self, List.drop_eq_getElem_cons hlt]
  rfl
theorem zfB (l : List S48) (a : Int) (h0 : 0 ≤ a) (h1 : a ≤ 1152921504606846976) (hl : l.length ≤ 1099511627776) (he : ∀ m ∈ l, m.f0.length ≤ 1048576) : Ev (fun k => zaQ.f k l a) (endM a l, mkM a l) :=
 zfA l a h0 h1 hl he l.length 0 l (by omega) (by simp [mkM])
theorem zje (l : List S48) (a : Int) (i : Nat) (h : i < l.length) (h' : i < (mkM a l).length) : (mkM a l)[i] = (⟨zdu (endM a (l.take i)) l[i].f0.length, endM a (l.take i) + l[i].f0.length⟩ : S48) := by
 have e : mkM a l = mkM a (l.take i) ++ ((⟨zdu (endM a (l.take i)) l[i].f0.length, endM a (l.take i) + l[i].f0.length⟩ : S48) :: mkM (endM a (l.take i) + l[i].f0.length + 1) (l.drop (i + 1))) := by
  conv => lhs; rw [← List.take_append_drop i l, zd3, List.drop_eq_getElem_cons h]
  rfl
 have hml : (mkM a (l.take i)).length = i := by rw [zcO, List.length_take]; omega
 simp only [e]
 rw [List.getElem_append_right (by omega)]
 simp only [hml, Nat.sub_self, List.getElem_cons_zero]
theorem zfE (l : List S48) (a : Int) (h0 : 0 ≤ a) (h1 : a ≤ 1152921504606846976) (hl : l.length ≤ 1099511627776) (he : ∀ m ∈ l, m.f0.length ≤ 1048576) (d : Nat) : ∀ (i : Nat), i + d = l.length →
  Ev (fun k => zaR.l0 k (mkM a l) (endM a (l.take i)) i) (endM a l) := by
 induction d with
 | zero =>
  intro i hi
  rw [List.take_of_length_le (by omega)]
  exact Ev.step (fun k => by rw [zaR.l0]) (Ev.ite_false (by rw [zcO]; omega) (Ev.now _))
 | succ d ih =>
  intro i hi
  have hlt : i < l.length := by omega
  have hlm : i < (mkM a l).length := by rw [zcO]; omega
  have hx := he _ (List.getElem_mem hlt)
  obtain ⟨b1, b2⟩ := zdK (l.take i) a (fun m hm => he m (List.mem_of_mem_take hm))
  have b3 : ((l.take i).length : Int) ≤ 1099511627776 := by rw [List.length_take]; omega
  refine Ev.step (fun k => by rw [zaR.l0]) (Ev.ite_true (by omega) (Ev.ite_true (by omega) ?_))
  rw [zby _ i hlm, zje l a i hlt hlm, wr1 (by omega)]
  refine Ev.bind (zgi (endM a (l.take i)) l[i].f0.length (by omega) (by omega) (by omega)) (Ev.ite_false (by omega) (Ev.ite_true rfl ?_))
  have w : wrap64 (endM a (l.take i) + l[i].f0.length + 1) = endM a (l.take (i + 1)) := by
   rw [zel l i hlt, zdL]
   exact zfn (by omega) (by omega)
  rw [w]
  exact ih (i + 1) (by omega)
theorem zfF (l : List S48) (a : Int) (h0 : 0 ≤ a) (h1 : a ≤ 1152921504606846976) (hl : l.length ≤ 1099511627776) (he : ∀ m ∈ l, m.f0.length ≤ 1048576) : Ev (fun k => zaR.f k (mkM a l) a) (endM a l) :=
 zfE l a h0 h1 hl he l.length 0 (by omega)
theorem zdI (v : Int) (l : List S48) (a : Int) (h0 : 0 ≤ a) (h1 : a ≤ 1152921504606846976) (hl : l.length ≤ 1099511627776) (he : ∀ m ∈ l, m.f0.length ≤ 1048576) : Ev (fun k => zbn.f k v l a) (endM a l, mkM a l) := by
 simp only [zbn.f]
 exact Ev.bind (zfB l a h0 h1 hl he) (Ev.now _)
theorem zgg (v : Int) (l : List S48) (a : Int) (h0 : 0 ≤ a) (h1 : a ≤ 1152921504606846976) (hl : l.length ≤ 1099511627776) (he : ∀ m ∈ l, m.f0.length ≤ 1048576) : Ev (fun k => zbo.f k v (mkM a l) a) (endM a l) := by
 have := (zdK l a he).1
 simp only [zbo.f]
 exact Ev.bind (zfF l a h0 h1 hl he) (Ev.ite_false (by omega) (Ev.now _))
theorem zfK (l : List S48) (hl : l.length ≤ 1099511627776) (he : ∀ m ∈ l, m.f0.length ≤ 1048576) (d : Nat) : ∀ (i : Nat), i + d = l.length → Ev (fun k => zaM.l0 k l l i) true := by
 induction d with
 | zero =>
  intro i hi
  exact Ev.step (fun k => by rw [zaM.l0]) (Ev.ite_false (by omega) (Ev.now _))
 | succ d ih =>
  intro i hi
  have hlt : i < l.length := by omega
  have hlt' : (i : Int) < (l.length : Int) := by omega
  have hx := he _ (List.getElem_mem hlt)
  have w1 : wrap64 ((i : Int) + 1) = ((i + 1 : Nat) : Int) := wr1 (by omega)
  refine Ev.step (fun k => by simp only [zaM.l0, zbP.f]; rfl) ?_
  rw [zby l i hlt, w1]
  exact Ev.ite_true hlt' (Ev.ite_true (Int.natCast_nonneg _) (Ev.ite_true hlt' (Ev.bind (Ev.bind (zgj _ hx) (Ev.ite_true (by first | rfl | trivial) (Ev.ite_true (by first | rfl | trivial) (Ev.now _)))) (Ev.ite_true (by first | rfl | trivial) (ih (i + 1) (by omega))))))
theorem zdf (v : Int) (l : List S48) (hl : l.length ≤ 1099511627776) (he : ∀ m ∈ l, m.f0.length ≤ 1048576) : Ev (fun k => zbd.f k v l v l) true := by
 simp only [zbd.f, zaM.f]
 exact Ev.ite_true (by first | rfl | trivial) (Ev.bind (Ev.ite_true (by first | rfl | trivial) (zfK l hl he l.length 0 (by omega))) (Ev.ite_true rfl (Ev.now _)))
theorem zgC {v : Int} {l : List S48} (h : zdl v l = true) : ∃ n : Nat, v = (n : Int) ∧ 1 ≤ n ∧ n ≤ 4 ∧ ∀ x ∈ l, x.f0.length = n := by
 simp only [zdl, Bool.and_eq_true, decide_eq_true_eq] at h
 refine ⟨v.toNat, by omega, by omega, by omega, fun x hx => ?_⟩
 obtain ⟨i, hi, rfl⟩ := List.getElem_of_mem hx
 have := zdH h.1 i (by omega) (by omega)
 simp only [okAt, okM, ze l i hi, Bool.and_eq_true, decide_eq_true_eq] at this
 have := this.1.2.1
 omega
theorem zhh {v : Int} {l : List S48} (h : zdl v l = true) : ∀ x ∈ l, okM v x = true := fun x hx => by
 simp only [zdl, Bool.and_eq_true] at h
 obtain ⟨i, hi, rfl⟩ := List.getElem_of_mem hx
 have := zdH h.1 i (by omega) (by omega)
 simp only [okAt, ze l i hi, Bool.and_eq_true] at this
 exact this.1
theorem zjc {v : Int} (hv : 1 ≤ v ∧ v ≤ 4) {l : List S48} (ho : Desc l) (hm : ∀ x ∈ l, okM v x = true) : zdl v l = true := by
 have key : ∀ d i, i + d = l.length → zcq v l i d = true := by
  intro d
  induction d with
  | zero => intro i _; rfl
  | succ d ih =>
   intro i hi
   have hlt : i < l.length := by omega
   simp only [zcq, okAt, ze l i hlt, Bool.and_eq_true]
   refine ⟨⟨hm _ (List.getElem_mem hlt), ?_⟩, ih (i + 1) (by omega)⟩
   by_cases h0 : i = 0
   ·simp [h0]
   ·have h1 : i - 1 < l.length := by omega
    simp only [ze l (i - 1) h1, Bool.or_eq_true, decide_eq_true_eq]
    refine .inr ?_
    unfold Desc at ho
    exact List.pairwise_iff_getElem.1 ho (i - 1) i h1 hlt (by omega)
 simp only [zdl, Bool.and_eq_true, decide_eq_true_eq]
 exact ⟨key l.length 0 (by omega), hv⟩
theorem zkl (v : Nat) (hv : v ≤ 4) (f g : List S48) (hg : ∀ x ∈ g, x.f0.length = v) (hgl : g.length ≤ 1048576) (d : Nat) :
  ∀ (j : Nat) (l cur : List S48), j + d = g.length → Can l cur → (∀ x ∈ l, x.f0.length = v) → cur.length + d ≤ 2097152 →
  ∃ cur' : List S48, Can (l ++ g.drop j) cur' ∧ cur'.length ≤ cur.length + d ∧ Ev (fun k => zaq.l1 k cur (j : Int) (v : Int) f (v : Int) g) ((v : Int), cur'.filter nz, true) := by
 induction d with
 | zero =>
  intro j l cur hj hc hl hn
  refine ⟨cur, ?_, by omega, Ev.step (fun k => by rw [zaq.l1]) (Ev.ite_false (by omega) (Ev.bind (ziq cur (by omega)) (Ev.now _)))⟩
  rw [List.drop_of_length_le (by omega), List.append_nil]; exact hc
 | succ d ih =>
  intro j l cur hj hc hl hn
  have hlt : j < g.length := by omega
  have h2 := hg _ (List.getElem_mem hlt)
  obtain ⟨cur1, c1, c2, c3⟩ := ziJ g[j] hc (by omega) hl h2 (by omega)
  obtain ⟨cur', e1, e2, e3⟩ := ih (j + 1) (l ++ [g[j]]) cur1 (by omega) c2 (fun x hx => by
   rcases List.mem_append.1 hx with hx | hx
   ·exact hl x hx
   ·rw [List.mem_singleton.1 hx]; exact h2) (by omega)
  refine ⟨cur', ?_, by omega, ?_⟩
  ·rw [List.drop_eq_getElem_cons hlt]
   rw [List.append_assoc, List.singleton_append] at e1
   exact e1
  ·refine Ev.step (fun k => by rw [zaq.l1]) (Ev.ite_true (by omega) (Ev.ite_true (by omega) ?_))
   rw [zby g j hlt, wr1 (by omega)]
   exact Ev.bind c1 e3
theorem zkm (v : Nat) (hv : v ≤ 4) (f g : List S48) (hf : ∀ x ∈ f, x.f0.length = v) (hg : ∀ x ∈ g, x.f0.length = v) (hfl : f.length ≤ 1048576) (hgl : g.length ≤ 1048576) (d : Nat) :
  ∀ (i : Nat) (l cur : List S48), i + d = f.length → Can l cur → (∀ x ∈ l, x.f0.length = v) → cur.length + d ≤ 1048576 →
  ∃ cur' : List S48, Can (l ++ (f.drop i ++ g)) cur' ∧ cur'.length ≤ 2097152 ∧ Ev (fun k => zaq.l0 k cur (i : Int) (v : Int) f (v : Int) g) ((v : Int), cur'.filter nz, true) := by
 induction d with
 | zero =>
  intro i l cur hi hc hl hn
  obtain ⟨cur', e1, e2, e3⟩ := zkl v hv f g hg hgl g.length 0 l cur (by omega) hc hl (by omega)
  rw [List.drop_zero] at e1
  have e4 : Ev (fun k => zaq.l1 k cur 0 (v : Int) f (v : Int) g) ((v : Int), cur'.filter nz, true) := e3
  refine ⟨cur', ?_, by omega, Ev.step (fun k => by rw [zaq.l0]) (Ev.ite_false (by omega) e4)⟩
  rw [List.drop_of_length_le (by omega), List.nil_append]; exact e1
 | succ d ih =>
  intro i l cur hi hc hl hn
  have hlt : i < f.length := by omega
  have h2 := hf _ (List.getElem_mem hlt)
  obtain ⟨cur1, c1, c2, c3⟩ := ziJ f[i] hc (by omega) hl h2 (by omega)
  obtain ⟨cur', e1, e2, e3⟩ := ih (i + 1) (l ++ [f[i]]) cur1 (by omega) c2 (fun x hx => by
   rcases List.mem_append.1 hx with hx | hx
   ·exact hl x hx
   ·rw [List.mem_singleton.1 hx]; exact h2) (by omega)
  refine ⟨cur', ?_, e2, ?_⟩
  ·rw [List.drop_eq_getElem_cons hlt]
   rw [List.append_assoc, List.singleton_append] at e1
   exact e1
  ·refine Ev.step (fun k => by rw [zaq.l0]) (Ev.ite_true (by omega) (Ev.ite_true (by omega) ?_))
   rw [zby f i hlt, wr1 (by omega)]
   exact Ev.bind c1 e3
theorem zhD (f g : List S48) (hf : f.length ≤ 1048576) (hg : g.length ≤ 1048576) : Ev (fun k => zat.f k [f, g]) (f ++ g) := by
 have r0 : zdD [f, g] 0 = f := rfl
 have r1 : zdD [f, g] 1 = g := rfl
 have w0 : wrap64 (0 + (f.length : Int)) = (f.length : Int) := zfn (by omega) (by omega) |>.trans (by omega)
 have w1 : wrap64 ((f.length : Int) + (g.length : Int)) = (f.length : Int) + (g.length : Int) := zfn (by omega) (by omega)
 have v0 : wrap64 (0 + 1) = 1 := by unfold wrap64; omega
 have v1 : wrap64 (1 + 1) = 2 := by unfold wrap64; omega
 simp only [zat.f]
 refine Ev.step (fun k => by rw [zat.l0]) (Ev.ite_true (by simp) (Ev.ite_true (by omega) (Ev.ite_true (by simp) ?_)))
 rw [r0, w0, v0]
 refine Ev.ite_false (by omega) ?_
 refine Ev.step (fun k => by rw [zat.l0]) (Ev.ite_true (by simp) (Ev.ite_true (by omega) (Ev.ite_true (by simp) ?_)))
 rw [r1, w1, v1]
 refine Ev.ite_false (by omega) ?_
 refine Ev.step (fun k => by rw [zat.l0]) (Ev.ite_false (by simp) ?_)
 have gr : Ev (fun k => zbw.f ((f.length : Int) + (g.length : Int))) ([] : List S48) := by
  unfold zbw.f
  rw [if_pos (by omega)]
  exact Ev.now _
 refine Ev.bind gr ?_
 refine Ev.step (fun k => by rw [zat.l1]) (Ev.ite_true (by simp) (Ev.ite_true (by omega) (Ev.ite_true (by simp) ?_)))
 rw [r0, v0]
 refine Ev.ite_true (by simp; omega) ?_
 refine Ev.step (fun k => by rw [zat.l1]) (Ev.ite_true (by simp) (Ev.ite_true (by omega) (Ev.ite_true (by simp) ?_)))
 rw [r1, v1]
 refine Ev.ite_true (by simp; omega) ?_
 refine Ev.step (fun k => by rw [zat.l1]) (Ev.ite_false (by simp) ?_)
 rw [List.nil_append]
 exact Ev.now _
theorem same (v : Int) (f : List S48) (v' : Int) (g : List S48) (hf : f.length ≤ 1048576 ∧ ∀ x ∈ f, x.f0.length ≤ 1048576) (hg : g.length ≤ 1048576 ∧ ∀ x ∈ g, x.f0.length ≤ 1048576) :
  ∃ (u : Int) (R : List S48) (b : Bool), Ev (fun k => zaq.f k v f v' g) (u, R, b) ∧ Ev (fun k => zaC.f k v f v' g) (u, R, b) ∧ R.length ≤ 1099511627776 ∧ ∀ x ∈ R, x.f0.length ≤ 1048576 := by
 have bf : bigM f := ⟨by omega, hf.2⟩
 have bg : bigM g := ⟨by omega, hg.2⟩
 have sf := zem v f bf
 have sg := zem v' g bg
 have pf := zdJ v f bf
 have pg := zdJ v' g bg
 have no : ∀ (a : Int) (b : List S48) (c : Int) (d : List S48), Ev (fun k => zaq.j0 k true a b c d) (0, ([] : List S48), false) ∧ Ev (fun k => zaC.j0 k true a b c d) (0, ([] : List S48), false) := fun a b c d =>
  ⟨Ev.step (fun k => by rw [zaq.j0]) (Ev.ite_true rfl (Ev.now _)), Ev.step (fun k => by rw [zaC.j0]) (Ev.ite_true rfl (Ev.now _))⟩
 simp only [zaq.f, zaC.f]
 by_cases c1 : zdl v f = true
 ·by_cases c2 : zdl v' g = true
  ·by_cases c3 : v = v'
   ·subst c3
    obtain ⟨n, rfl, n1, n2, n3⟩ := zgC c1
    obtain ⟨n', e', _, _, n4⟩ := zgC c2
    have en : n' = n := by omega
    subst en
    have pl : ∀ x ∈ f ++ g, x.f0.length = n' := fun x hx => by
     rcases List.mem_append.1 hx with h | h
     ·exact n3 x h
     ·exact n4 x h
    obtain ⟨cur, s1, s2, s3⟩ := zkm n' n2 f g n3 n4 hf.1 hg.1 f.length 0 [] [] (by omega) Can.nil (fun x hx => (by cases hx)) (by simpa using hf.1)
    rw [List.nil_append, List.drop_zero] at s1
    have s5 : Ev (fun k => zaq.l0 k [] 0 (n' : Int) f (n' : Int) g) ((n' : Int), cur.filter nz, true) := s3
    obtain ⟨r, r1, r2, r3⟩ := zis (n' : Int) (f ++ g) ⟨by rw [List.length_append]; omega, fun x hx => by have := pl x hx; omega⟩ (by rw [List.length_append]; omega) n' pl
    have er : r = cur := r2.uniq s1
    subst er
    have hfl : (r.filter nz).length ≤ 1099511627776 := by have := List.length_filter_le nz r; omega
    have hfe : ∀ x ∈ r.filter nz, x.f0.length ≤ 1048576 := fun x hx => by have := r2.len pl x (List.mem_filter.1 hx).1; omega
    have si := zdJ (n' : Int) _ (show bigM (r.filter nz) from ⟨by omega, hfe⟩)
    have c4 : zdl (n' : Int) (r.filter nz) = true := by
     refine zjc (by omega) (r2.ord.filter _) (fun x hx => ?_)
     obtain ⟨x1, x2⟩ := List.mem_filter.1 hx
     obtain ⟨y, hy, e⟩ := r2.sub x x1
     have oy : okM (n' : Int) y = true := by
      rcases List.mem_append.1 hy with h | h
      ·exact zhh c1 y h
      ·exact zhh c2 y h
     simp only [okM, Bool.and_eq_true] at oy ⊢
     rw [← e]
     exact ⟨oy.1, oy.2.1, by simpa [nz] using x2⟩
    have ck : Ev (fun k => zbx.f k (n' : Int) (r.filter nz)) ((n' : Int), r.filter nz, true) := by
     simp only [zbx.f]
     exact Ev.bind si (Ev.ite_true c4 (Ev.now _))
    refine ⟨(n' : Int), r.filter nz, true, Ev.bind sf (Ev.ite_true c1 (Ev.bind sg (Ev.ite_true c2 ?_))), Ev.bind pf (Ev.ite_true c1 (Ev.bind pg (Ev.ite_true c2 ?_))), hfl, hfe⟩
    ·exact Ev.step (fun k => by rw [zaq.j0]) (Ev.ite_false (by simp) s5)
    ·refine Ev.step (fun k => by rw [zaC.j0]) (Ev.ite_false (by simp) (Ev.bind (zhD f g hf.1 hg.1) (Ev.bind r1 ?_)))
     refine Ev.bind ck ?_
     exact Ev.now _
   ·have e : (v != v') = true := by simpa using c3
    rw [e]
    exact ⟨0, [], false, Ev.bind sf (Ev.ite_true c1 (Ev.bind sg (Ev.ite_true c2 (no _ _ _ _).1))), Ev.bind pf (Ev.ite_true c1 (Ev.bind pg (Ev.ite_true c2 (no _ _ _ _).2))), by simp, fun x hx => (by cases hx)⟩
  ·exact ⟨0, [], false, Ev.bind sf (Ev.ite_true c1 (Ev.bind sg (Ev.ite_false c2 (no _ _ _ _).1))), Ev.bind pf (Ev.ite_true c1 (Ev.bind pg (Ev.ite_false c2 (no _ _ _ _).2))), by simp, fun x hx => (by cases hx)⟩
 ·exact ⟨0, [], false, Ev.bind sf (Ev.ite_false c1 (no _ _ _ _).1), Ev.bind pf (Ev.ite_false c1 (no _ _ _ _).2), by simp, fun x hx => (by cases hx)⟩
theorem zeD : zak.Pure := by
 intro v l v' l' hv hl hv' hl'
 apply Ev.rounds
 simp only [zak.f]
 obtain ⟨r, hr, hc⟩ := zfp v l 1048576 (by omega) (by omega) hl.1 (fun m hm => (hl.2 m hm).1.1)
 refine Ev.bind hr ?_
 by_cases h0 : r < 0
 ·exact Ev.ite_true h0 (Ev.now _)
 refine Ev.ite_false h0 ?_
 obtain ⟨r0, r1, hs⟩ := hc.resolve_left h0
 obtain ⟨r', hr', hc'⟩ := zfp v' l' r r0 r1 hl'.1 (fun m hm => (hl'.2 m hm).1.1)
 refine Ev.bind hr' ?_
 by_cases h0' : r' < 0
 ·exact Ev.ite_true h0' (Ev.now _)
 refine Ev.ite_false h0' ?_
 obtain ⟨_, _, hs'⟩ := hc'.resolve_left h0'
 have t1 := zfo v l hs
 have t2 := zfo v' l' hs'
 have b1 : (l.map conv).length ≤ 1048576 ∧ ∀ x ∈ l.map conv, x.f0.length ≤ 1048576 := ⟨by rw [List.length_map]; exact hs.1, (zgK hs).2⟩
 have b2 : (l'.map conv).length ≤ 1048576 ∧ ∀ x ∈ l'.map conv, x.f0.length ≤ 1048576 := ⟨by rw [List.length_map]; exact hs'.1, (zgK hs').2⟩
 obtain ⟨u, R, b, s1, s2, s3, s4⟩ := same v (l.map conv) v' (l'.map conv) b1 b2
 have q := zdf u R s3 s4
 have q1 := zdf v (l.map conv) (by omega) b1.2
 have q2 := zdf v' (l'.map conv) (by omega) b2.2
 have m1 := zdI v (l.map conv) 1 (by omega) (by omega) (by omega) b1.2
 obtain ⟨g1, g2⟩ := zdK (l.map conv) 1 b1.2
 have m2 := zdI v' (l'.map conv) (endM 1 (l.map conv)) (by omega) (by omega) (by omega) b2.2
 have g3 := (zdK (l'.map conv) (endM 1 (l.map conv)) b2.2).1
 have mR := zdI u R 1 (by omega) (by omega) s3 s4
 have hR := zgg u R 1 (by omega) (by omega) s3 s4
 have gR := (zdK R 1 s4).1
 refine Ev.bind t1 (Ev.bind t2 (Ev.bind s1 (Ev.bind t1 (Ev.bind t2 (Ev.bind s2 (Ev.bind q (Ev.ite_true rfl ?_)))))))
 refine Ev.step (fun k => by rw [zak.j0]) (Ev.ite_false (by simp) (Ev.bind t1 (Ev.bind q1 (Ev.ite_true rfl (Ev.bind t2 (Ev.bind q2 (Ev.ite_true rfl (Ev.bind m1 (Ev.bind m2 ?_)))))))))
 refine Ev.ite_false (show ¬ (endM (endM 1 (l.map conv)) (l'.map conv) < 0) by omega) (Ev.bind q (Ev.ite_true rfl ?_))
 refine Ev.step (fun k => by rw [zak.j1]) (Ev.ite_false (by simp) (Ev.bind mR ?_))
 refine Ev.bind hR (Ev.ite_false (by omega) (Ev.ite_true rfl (Ev.bind t1 (Ev.bind t2 (Ev.bind s2 (Ev.bind q (Ev.ite_true rfl ?_)))))))
 refine Ev.step (fun k => by rw [zak.j2]) (Ev.ite_false (by simp) (Ev.bind hR ?_))
 exact Ev.ite_false (by omega) (Ev.ite_true rfl (Ev.now _))
end Go.Proofs.Ytneipehcmmigeaa.Pure
