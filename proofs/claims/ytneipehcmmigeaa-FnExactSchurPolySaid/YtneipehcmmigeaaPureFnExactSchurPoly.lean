/- The program's SchurPoly answers as the reference's for every shape of at most 2^20 numbers and every number of variables, leaves its argument alone and shares no memory with it; above that length the law says nothing. No condition. -/
import Derived.Test.YtneipehcmmigeaaPFnExactSchurPolyx18
import Derived.Test.YtneipehcmmigeaaVFnExactSchurPoly
set_option linter.unusedVariables false
set_option linter.unusedSimpArgs false
namespace Go.Proofs.Ytneipehcmmigeaa
open Go.ChangeShapes Go.WideShapes
end Go.Proofs.Ytneipehcmmigeaa
namespace Go.Proofs.Ytneipehcmmigeaa.Pure
open Go.RowKit Go.Proofs.Ytneipehcmmigeaa.PFnExactSchurPoly Go.Proofs.YtneipehcmmigeaaW.PrintWords Go.Proofs.YtneipehcmmigeaaW.PrintLast
theorem zdW {x : Int} (h : -9223372036854775808 ≤ x) (h' : x ≤ 9223372036854775807) : wrap64 x = x := by unfold wrap64; omega
theorem wr1 {i : Nat} (h : i < 4611686018427387904) : wrap64 ((i : Int) + 1) = ((i + 1 : Nat) : Int) := by unfold wrap64; omega
theorem Ev.ite_true {α : Type} {c : Prop} [Decidable c] {g f : Nat → Option α} {r : α} (hc : c) (h : Ev g r) : Ev (fun k => if c then g k else f k) r := by
  obtain ⟨K, h⟩ := h
  exact ⟨K, fun k hk => (if_pos hc).trans (h k hk)⟩
theorem Ev.ite_false {α : Type} {c : Prop} [Decidable c] {g f : Nat → Option α} {r : α} (hc : ¬ c) (h : Ev f r) : Ev (fun k => if c then g k else f k) r := by
  obtain ⟨K, h⟩ := h
  exact ⟨K, fun k hk => (if_neg hc).trans (h k hk)⟩
theorem zdd (l : List Int) (i : Nat) (h : i < l.length) : rd l (i : Int) = l[i] := by
  simp [rd, List.getD_eq_getElem?_getD, h]
theorem zdo {α : Type} {p : α → Bool} {l : List α} (h : l.all p = true) {x : α} (hx : x ∈ l) : p x = true := List.all_eq_true.mp h x hx
def both {α : Type} [DecidableEq α] (a b : Option α) : Bool := match a, b with
  | some x, some y => decide (x = y)
  | _, _ => false
theorem zdC {α : Type} (y : List α) (i : Nat) (v : α) (h : i < y.length) : (y.set i v).take (i + 1) = y.take i ++ [v] := by
  rw [List.take_succ_eq_append_getElem (by simpa using h)]
  simp only [List.getElem_set_self]
  congr 1
  apply List.ext_getElem?
  intro j
  simp only [List.getElem?_take, List.getElem?_set]
  by_cases h : j < i
  · rw [if_pos h, if_neg (by omega), if_pos h]
  · rw [if_neg h, if_neg h]
theorem zkk {α : Type} (l : List α) (i : Nat) (h : i < l.length) : l.drop i = l[i] :: l.drop (i + 1) := List.drop_eq_getElem_cons h
def cmpL : List Int → List Int → Int
  | [], [] => 0
  | [], _ :: _ => -1
  | _ :: _, [] => 1
  | x :: xs, y :: ys => if x = y then cmpL xs ys else if x < y then -1 else 1
theorem zjw (x y : Int) : zb7.f x y = some (if x = y then 0 else if x < y then -1 else 1) := by
  simp only [zb7.f, zbn.f, Option.bind_some, bne_self_eq_false]
  by_cases e : x = y
  · subst e; simp
  · by_cases g : x < y
    · simp [e, g]
    · have : y < x := by omega
      simp [e, g, this]
theorem zhp (a b : List Int) (ha : a.length ≤ 1048576) (hb : b.length ≤ 1048576) (d : Nat) : ∀ (i : Nat), i + d = a.length → i ≤ b.length → Ev (fun k => zaz.l0 k a b a a.length i) (cmpL (a.drop i) (b.drop i)) := by
  induction d with
  | zero =>
    intro i hi hb'
    refine Ev.step (fun k => by simp only [zaz.l0]; rfl) (Ev.ite_false (by omega) ?_)
    rw [List.drop_of_length_le (l := a) (by omega)]
    by_cases h : i < b.length
    · rw [zkk b i h]
      exact Ev.ite_true (by omega) (Ev.now _)
    · rw [List.drop_of_length_le (l := b) (by omega)]
      exact Ev.ite_false (by omega) (Ev.now _)
  | succ d ih =>
    intro i hi hb'
    have hlt : i < a.length := by omega
    have hlt' : (i : Int) < (a.length : Int) := by omega
    have w1 : wrap64 ((i : Int) + 1) = ((i + 1 : Nat) : Int) := wr1 (by omega)
    rw [zkk a i hlt]
    refine Ev.step (fun k => by simp only [zaz.l0]; rfl) (Ev.ite_true hlt' (Ev.ite_true (Int.natCast_nonneg _) (Ev.ite_true hlt' ?_)))
    by_cases h : i < b.length
    · have h' : (i : Int) < (b.length : Int) := by omega
      rw [zkk b i h, zdd a i hlt, zdd b i h, w1, zjw]
      simp only [Option.bind_some]
      refine Ev.ite_false (by omega) (Ev.ite_true h' ?_)
      by_cases e : a[i] = b[i]
      · simp only [cmpL, if_pos e]
        refine Ev.ite_true (by trivial) ?_
        exact ih (i + 1) (by omega) (by omega)
      · simp only [cmpL, if_neg e]
        refine Ev.ite_false (by split <;> omega) (Ev.now _)
    · rw [List.drop_of_length_le (l := b) (by omega)]
      exact Ev.ite_true (by omega) (Ev.now _)
theorem zhq (a b : List Int) (ha : a.length ≤ 1048576) (hb : b.length ≤ 1048576) : Ev (fun k => zaz.f k a b) (cmpL a b) := by
  simp only [zaz.f]
  exact zhp a b ha hb a.length 0 (by omega) (by omega)
theorem zbY (l : List S48) (i : Nat) (h : i < l.length) : zac l (i : Int) = l[i] := by
  simp [zac, List.getD_eq_getElem?_getD, h]
def okS (l : List S48) : Prop := l.length ≤ 4398046511104 ∧ ∀ x ∈ l, x.f0.length ≤ 1048576
theorem zcG {l r : List S48} (h : okS l) (p : r.Perm l) : okS r := ⟨by rw [p.length_eq]; exact h.1, fun x hx => h.2 x (p.mem_iff.1 hx)⟩
theorem zkn {l : List S48} (h : okS l) {i j : Nat} (hi : i < l.length) (hj : j < l.length) : Ev (fun k => zaW.f k l[i].f0 l[i].f1 l[j].f0 l[j].f1) (cmpL l[j].f0 l[i].f0) := by
  simp only [zaW.f]
  exact Ev.bind (zhq _ _ (h.2 _ (List.getElem_mem hj)) (h.2 _ (List.getElem_mem hi))) (Ev.now _)
theorem zi7 {l : List S48} {i j : Nat} (hi : i < l.length) (hj : j < l.length) : ((l.set ((i : Nat) : Int).toNat (⟨(zac l (j : Int)).f0, (zac l (j : Int)).f1⟩ : S48)).set ((j : Nat) : Int).toNat (⟨(zac l (i : Int)).f0, (zac l (i : Int)).f1⟩ : S48)).Perm l := by
  rw [Int.toNat_natCast, Int.toNat_natCast, zbY l i hi, zbY l j hj]
  exact List.set_set_perm hi hj
theorem zgt {j : Nat} (h0 : 0 < j) (h : j < 4611686018427387904) : wrap64 ((j : Int) - 1) = ((j - 1 : Nat) : Int) := by unfold wrap64; omega
theorem wrA {i j : Nat} (h : i + j < 4611686018427387904) : wrap64 ((i : Int) + (j : Int)) = ((i + j : Nat) : Int) := by unfold wrap64; omega
theorem wrS {i j : Nat} (h0 : j ≤ i) (h : i < 4611686018427387904) : wrap64 ((i : Int) - (j : Int)) = ((i - j : Nat) : Int) := by unfold wrap64; omega
theorem zgj {i j : Nat} (h : i + j < 4611686018427387904) : wrap64 (IntKind.u64.wrap (wrap64 ((i : Int) + (j : Int))) / 2) = (((i + j) / 2 : Nat) : Int) := by
  rw [wrA h, IntKind.wrap_u64]
  have e : (((i + j : Nat) : Int) % 18446744073709551616) = ((i + j : Nat) : Int) := by omega
  rw [e]
  unfold wrap64; omega
theorem zcB : ∀ p q : List Int, cmpL p q = -cmpL q p
  | [], [] => rfl
  | [], _ :: _ => rfl
  | _ :: _, [] => rfl
  | x :: xs, y :: ys => by
    simp only [cmpL]
    by_cases e : x = y
    · subst e; simp only [if_true]; exact zcB xs ys
    · have e2 : ¬ y = x := fun h => e h.symm
      rw [if_neg e, if_neg e2]
      by_cases g : x < y
      · rw [if_pos g, if_neg (by omega)]
      · rw [if_neg g, if_pos (by omega)]; rfl
theorem zgo (p : List Int) : cmpL p p = 0 := by have := zcB p p; omega
theorem zgn : ∀ p q : List Int, cmpL p q = 0 → p = q
  | [], [], _ => rfl
  | [], _ :: _, h => by simp [cmpL] at h
  | _ :: _, [], h => by simp [cmpL] at h
  | x :: xs, y :: ys, h => by
    simp only [cmpL] at h
    by_cases e : x = y
    · rw [if_pos e] at h; rw [e, zgn xs ys h]
    · rw [if_neg e] at h; split at h <;> omega
def LeL (p q : List Int) : Prop := cmpL p q ≤ 0
theorem zci : ∀ {p q r : List Int}, LeL p q → LeL q r → LeL p r
  | [], _, [], _, _ => by simp [LeL, cmpL]
  | [], _, _ :: _, _, _ => by simp [LeL, cmpL]
  | x :: xs, [], _, h, _ => by simp [LeL, cmpL] at h
  | x :: xs, y :: ys, [], _, h => by simp [LeL, cmpL] at h
  | x :: xs, y :: ys, z :: zs, h1, h2 => by
    simp only [LeL, cmpL] at h1 h2 ⊢
    by_cases e : x = y
    · rw [if_pos e] at h1
      subst e
      by_cases e2 : x = z
      · rw [if_pos e2] at h2 ⊢
        exact zci (p := xs) (q := ys) (r := zs) h1 h2
      · rw [if_neg e2] at h2 ⊢
        exact h2
    · rw [if_neg e] at h1
      have g : x < y := by
        by_cases g : x < y
        · exact g
        · rw [if_neg g] at h1; omega
      by_cases e2 : y = z
      · subst e2
        rw [if_neg e, if_pos g]; omega
      · rw [if_neg e2] at h2
        have g2 : y < z := by
          by_cases g2 : y < z
          · exact g2
          · rw [if_neg g2] at h2; omega
        rw [if_neg (by omega), if_pos (by omega)]; omega
theorem zcp {p q : List Int} (h : ¬ cmpL p q < 0) : LeL q p := by unfold LeL; rw [zcB]; omega
theorem zdB {p q : List Int} (h : cmpL p q < 0) : LeL p q := by unfold LeL; omega
theorem zeQ (p : List Int) : LeL p p := by unfold LeL; rw [zgo]; omega
def G (l : List S48) (i : Nat) : List Int := (l.getD i z48).f0
theorem G_eq (l : List S48) (i : Nat) (h : i < l.length) : l[i].f0 = G l i := by simp [G, List.getD_eq_getElem?_getD, h]
theorem zfR {l : List S48} (h : okS l) {i j : Nat} (hi : i < l.length) (hj : j < l.length) : Ev (fun k => zaW.f k l[i].f0 l[i].f1 l[j].f0 l[j].f1) (cmpL (G l j) (G l i)) := by
  rw [← G_eq l i hi, ← G_eq l j hj]
  exact zkn h hi hj
theorem zhb {l : List S48} {i j : Nat} (hi : i < l.length) (hj : j < l.length) (k : Nat) : G ((l.set ((i : Nat) : Int).toNat (⟨(zac l (j : Int)).f0, (zac l (j : Int)).f1⟩ : S48)).set ((j : Nat) : Int).toNat (⟨(zac l (i : Int)).f0, (zac l (i : Int)).f1⟩ : S48)) k = if k = i then G l j else if k = j then G l i else G l k := by
  rw [Int.toNat_natCast, Int.toNat_natCast, zbY l i hi, zbY l j hj]
  simp only [G, List.getD_eq_getElem?_getD, List.getElem?_set, List.length_set]
  by_cases e1 : k = i
  · subst e1
    by_cases e2 : j = k
    · subst e2; simp [hi]
    · simp [e2, hi, hj]
  · by_cases e2 : k = j
    · subst e2; simp [hi, hj, e1]
    · have e3 : ¬ j = k := fun h => e2 h.symm
      have e4 : ¬ i = k := fun h => e1 h.symm
      simp [e1, e2, e3, e4]
def SO (l : List S48) (a b : Nat) : Prop := ∀ i j, a ≤ i → i < j → j < b → LeL (G l j) (G l i)
structure Res (a b : Nat) (r l : List S48) : Prop where
  perm : r.Perm l
  fr : ∀ k, k < a ∨ b ≤ k → G r k = G l k
  mem : ∀ k, a ≤ k → k < b → ∃ k', a ≤ k' ∧ k' < b ∧ G r k = G l k'
theorem Res.refl (a b : Nat) (l : List S48) : Res a b l l := ⟨List.Perm.refl _, fun _ _ => rfl, fun k h1 h2 => ⟨k, h1, h2, rfl⟩⟩
theorem Res.trans {a b : Nat} {r s l : List S48} (h1 : Res a b r s) (h2 : Res a b s l) : Res a b r l := ⟨h1.perm.trans h2.perm, fun k h => (h1.fr k h).trans (h2.fr k h), fun k ha hb => by
  obtain ⟨k', q1, q2, q3⟩ := h1.mem k ha hb
  obtain ⟨k'', p1, p2, p3⟩ := h2.mem k' q1 q2
  exact ⟨k'', p1, p2, q3.trans p3⟩⟩
theorem Res.wide {a b a' b' : Nat} {r l : List S48} (h : Res a b r l) (ha : a' ≤ a) (hb : b ≤ b') : Res a' b' r l := ⟨h.perm, fun k hk => h.fr k (by omega), fun k q1 q2 => by
  by_cases c : a ≤ k ∧ k < b
  · obtain ⟨k', p1, p2, p3⟩ := h.mem k c.1 c.2
    exact ⟨k', by omega, by omega, p3⟩
  · exact ⟨k, q1, q2, h.fr k (by omega)⟩⟩
theorem SO.fr {a b c d : Nat} {r l : List S48} (hs : SO l c d) (h : Res a b r l) (hd : d ≤ a ∨ b ≤ c) : SO r c d := fun i j h1 h2 h3 => by
  rw [h.fr i (by omega), h.fr j (by omega)]
  exact hs i j h1 h2 h3
theorem SO.sub {a b c d : Nat} {l : List S48} (hs : SO l a b) (h1 : a ≤ c) (h2 : d ≤ b) : SO l c d := fun i j p q r => hs i j (by omega) q (by omega)
theorem SO.one {a b : Nat} {l : List S48} (h : b ≤ a + 1) : SO l a b := fun i j p q r => by omega
theorem SO.join {a m b : Nat} {l : List S48} (h1 : SO l a m) (h2 : SO l m b) (hx : ∀ i j, a ≤ i → i < m → m ≤ j → j < b → LeL (G l j) (G l i)) : SO l a b := fun i j p q r => by
  by_cases c1 : j < m
  · exact h1 i j p q c1
  · by_cases c2 : i < m
    · exact hx i j p c2 (by omega) r
    · exact h2 i j (by omega) q r
theorem zkf (a b i : Nat) (hb : b < 4611686018427387904) (d : Nat) : ∀ (j : Nat) (l : List S48), a + d = j → okS l → i < l.length → j ≤ i → (∀ p q, a ≤ p → p < q → q ≤ i → q ≠ j → LeL (G l q) (G l p)) →
    (∀ l', okS l' → l'.length = l.length → SO l' a (i + 1) → Res a (i + 1) l' l → ∃ r, Ev (fun k => zaa.l0 k l' a b ((i + 1 : Nat) : Int)) r ∧ Res a b r l' ∧ SO r a b) →
    i < b → ∃ r, Ev (fun k => zaa.l1 k l a b i j) r ∧ Res a b r l ∧ SO r a b := by
  induction d with
  | zero =>
    intro j l hj hl hil hji hs H hib
    obtain ⟨r, h1, h2, h3⟩ := H l hl rfl (fun p q h1 h2 h3 => hs p q h1 h2 (by omega) (by omega)) (Res.refl _ _ _)
    refine ⟨r, Ev.step (fun k => by rw [zaa.l1]) (Ev.ite_false (by omega) ?_), h2, h3⟩
    rw [wr1 (by omega)]
    exact h1
  | succ d ih =>
    intro j l hj hl hil hji hs H hib
    have h9 := hl.1
    have hjl : j < l.length := by omega
    have hc := zfR hl (i := j) (j := j - 1) (by omega) (by omega)
    by_cases c : cmpL (G l (j - 1)) (G l j) < 0
    · have hp := zi7 (l := l) (i := j) (j := j - 1) (by omega) (by omega)
      have hg := zhb (l := l) (i := j) (j := j - 1) (by omega) (by omega)
      generalize hS : ((l.set ((j : Nat) : Int).toNat (⟨(zac l ((j - 1 : Nat) : Int)).f0, (zac l ((j - 1 : Nat) : Int)).f1⟩ : S48)).set ((j - 1 : Nat) : Int).toNat (⟨(zac l (j : Int)).f0, (zac l (j : Int)).f1⟩ : S48)) = s at hp hg
      have hR : Res a (i + 1) s l := ⟨hp, fun k hk => by rw [hg, if_neg (by omega), if_neg (by omega)], fun k q1 q2 => by
        rw [hg]
        split
        · exact ⟨j - 1, by omega, by omega, rfl⟩
        · split
          · exact ⟨j, by omega, by omega, rfl⟩
          · exact ⟨k, q1, q2, rfl⟩⟩
      obtain ⟨r, h1, h2, h3⟩ := ih (j - 1) s (by omega) (zcG hl hp) (by rw [hp.length_eq]; omega) (by omega) (fun p q h1 h2 h3 h4 => by
        rw [hg, hg]
        by_cases e1 : q = j
        · subst e1
          rw [if_pos rfl]
          by_cases e2 : p = q - 1
          · subst e2
            rw [if_neg (by omega), if_pos rfl]
            exact zdB c
          · rw [if_neg (by omega), if_neg (by omega)]
            exact hs p (q - 1) h1 (by omega) (by omega) (by omega)
        · rw [if_neg e1, if_neg h4]
          by_cases e2 : p = j
          · subst e2
            rw [if_pos rfl]
            exact hs (p - 1) q (by omega) (by omega) h3 e1
          · rw [if_neg e2]
            by_cases e3 : p = j - 1
            · subst e3
              rw [if_pos rfl]
              exact hs j q (by omega) (by omega) h3 e1
            · rw [if_neg e3]
              exact hs p q h1 h2 h3 e1) (fun l' h' e hs' hr' => by
                obtain ⟨r, q1, q2, q3⟩ := H l' h' (by rw [e, hp.length_eq]) hs' (hr'.trans hR)
                exact ⟨r, q1, q2, q3⟩) hib
      refine ⟨r, Ev.step (fun k => by rw [zaa.l1]) (Ev.ite_true (by omega) (Ev.ite_true (by omega) (Ev.ite_true (by omega) ?_))), h2.trans (hR.wide (Nat.le_refl _) (by omega)), h3⟩
      rw [zgt (by omega) (by omega)]
      refine Ev.ite_true (by omega) (Ev.ite_true (by omega) (Ev.bind (a := cmpL (G l (j - 1)) (G l j)) ?_ (Ev.ite_true c ?_)))
      · rw [zbY l j hjl, zbY l (j - 1) (by omega)]
        exact hc
      · rw [hS]; exact h1
    · obtain ⟨r, h1, h2, h3⟩ := H l hl rfl (fun p q h1 h2 h3 => by
        by_cases e : q = j
        · subst e
          by_cases e2 : p = q - 1
          · subst e2; exact zcp c
          · exact zci (zcp c) (hs p (q - 1) h1 (by omega) (by omega) (by omega))
        · exact hs p q h1 h2 (by omega) e) (Res.refl _ _ _)
      refine ⟨r, Ev.step (fun k => by rw [zaa.l1]) (Ev.ite_true (by omega) (Ev.ite_true (by omega) (Ev.ite_true (by omega) ?_))), h2, h3⟩
      rw [zgt (by omega) (by omega), wr1 (by omega)]
      refine Ev.ite_true (by omega) (Ev.ite_true (by omega) (Ev.bind (a := cmpL (G l (j - 1)) (G l j)) ?_ (Ev.ite_false c h1)))
      rw [zbY l j hjl, zbY l (j - 1) (by omega)]
      exact hc
theorem ziz (a b : Nat) (hb : b < 4611686018427387904) (d : Nat) : ∀ (i : Nat) (l : List S48), i + d = b ∨ (d = 0 ∧ b ≤ i) → a < i → okS l → b ≤ l.length → SO l a i → ∃ r, Ev (fun k => zaa.l0 k l a b i) r ∧ Res a b r l ∧ SO r a b := by
  induction d with
  | zero =>
    intro i l hi hai hl hbl hs
    exact ⟨l, Ev.step (fun k => by rw [zaa.l0]) (Ev.ite_false (by omega) (Ev.now _)), Res.refl _ _ _, hs.sub (Nat.le_refl _) (by omega)⟩
  | succ d ih =>
    intro i l hi hai hl hbl hs
    obtain ⟨r, h1, h2, h3⟩ := zkf a b i hb (i - a) i l (by omega) hl (by omega) (Nat.le_refl _) (fun p q h1 h2 h3 h4 => hs p q h1 h2 (by omega)) (fun l' h' e hs' _ => ih (i + 1) l' (by omega) (by omega) h' (by omega) hs') (by omega)
    exact ⟨r, Ev.step (fun k => by rw [zaa.l0]) (Ev.ite_true (by omega) h1), h2, h3⟩
theorem ziA (a b : Nat) (l : List S48) (hl : okS l) (hb : b ≤ l.length) (hab : a ≤ b) : ∃ r, Ev (fun k => zaa.f k l a b) r ∧ Res a b r l ∧ SO r a b := by
  have h9 := hl.1
  simp only [zaa.f]
  rw [wr1 (by omega)]
  by_cases h : a + 1 ≤ b
  · exact ziz a b (by omega) (b - (a + 1)) (a + 1) l (by omega) (by omega) hl hb (SO.one (by omega))
  · exact ziz a b (by omega) 0 (a + 1) l (by omega) (by omega) hl hb (SO.one (by omega))
theorem zi8 (a b n : Nat) (hab : a + n ≤ b) (d : Nat) : ∀ (i : Nat) (l : List S48), i + d = n → okS l → b + n ≤ l.length → ∃ r, Ev (fun k => zad.l0 k l a b n i) r ∧ r.Perm l ∧
    ∀ k, G r k = if a + i ≤ k ∧ k < a + n then G l (b + (k - a)) else if b + i ≤ k ∧ k < b + n then G l (a + (k - b)) else G l k := by
  induction d with
  | zero =>
    intro i l hi hl hb
    exact ⟨l, Ev.step (fun k => by rw [zad.l0]) (Ev.ite_false (by omega) (Ev.now _)), List.Perm.refl _, fun k => by rw [if_neg (by omega), if_neg (by omega)]⟩
  | succ d ih =>
    intro i l hi hl hb
    have h9 := hl.1
    have hp := zi7 (l := l) (i := a + i) (j := b + i) (by omega) (by omega)
    have hg := zhb (l := l) (i := a + i) (j := b + i) (by omega) (by omega)
    obtain ⟨r, h1, h2, h3⟩ := ih (i + 1) _ (by omega) (zcG hl hp) (by rw [hp.length_eq]; omega)
    refine ⟨r, Ev.step (fun k => by rw [zad.l0]) (Ev.ite_true (by omega) ?_), h2.trans hp, fun k => ?_⟩
    · rw [wrA (by omega), wrA (by omega), wr1 (by omega)]
      exact Ev.ite_true (by omega) (Ev.ite_true (by omega) (Ev.ite_true (by omega) (Ev.ite_true (by omega) h1)))
    · rw [h3, hg, hg, hg]
      repeat' split
      all_goals first
        | rfl
        | omega
        | (congr 1; omega)
theorem zfH (a b n : Nat) (hab : a + n ≤ b) (l : List S48) (hl : okS l) (hb : b + n ≤ l.length) : ∃ r, Ev (fun k => zad.f k l a b n) r ∧ r.Perm l ∧
    ∀ k, G r k = if a ≤ k ∧ k < a + n then G l (b + (k - a)) else if b ≤ k ∧ k < b + n then G l (a + (k - b)) else G l k := by
  simp only [zad.f]
  exact zi8 a b n hab n 0 l (by omega) hl hb
theorem zgw (m : Nat) : ∀ (s i j : Nat) (l : List S48), i + j ≤ s → 0 < i → 0 < j → i ≤ m → okS l → m + j ≤ l.length → ∃ r, Ev (fun k => zah.l0 k l m i j) r ∧ r.Perm l ∧
    ∀ k, G r k = if m - i ≤ k ∧ k < m - i + j then G l (k + i) else if m - i + j ≤ k ∧ k < m + j then G l (k - j) else G l k
  | 0, i, j, l, hs, hi, _, _, _, _ => by omega
  | s + 1, i, j, l, hs, hi, hj, him, hl, hml => by
    have h9 := hl.1
    by_cases e : i = j
    · subst e
      obtain ⟨r, h1, h2, h3⟩ := zfH (m - i) m i (by omega) l hl (by omega)
      refine ⟨r, Ev.step (fun k => by rw [zah.l0]) (Ev.ite_true rfl ?_), h2, fun k => ?_⟩
      · rw [wrS him (by omega)]
        exact Ev.bind h1 (Ev.now _)
      · rw [h3]
        repeat' split
        all_goals first
          | rfl
          | omega
          | (congr 1; omega)
    · by_cases g : j < i
      · obtain ⟨r, h1, h2, h3⟩ := zfH (m - i) m j (by omega) l hl (by omega)
        obtain ⟨r', h4, h5, h6⟩ := zgw m s (i - j) j r (by omega) (by omega) hj (by omega) (zcG hl h2) (by rw [h2.length_eq]; exact hml)
        refine ⟨r', Ev.step (fun k => by rw [zah.l0]) (Ev.ite_false (by omega) (Ev.ite_true (by omega) ?_)), h5.trans h2, fun k => ?_⟩
        · rw [wrS him (by omega), wrS (by omega) (by omega)]
          exact Ev.bind h1 h4
        · rw [h6, h3, h3, h3]
          repeat' split
          all_goals first
            | rfl
            | omega
            | (congr 1; omega)
      · obtain ⟨r, h1, h2, h3⟩ := zfH (m - i) (m + j - i) i (by omega) l hl (by omega)
        obtain ⟨r', h4, h5, h6⟩ := zgw m s i (j - i) r (by omega) hi (by omega) him (zcG hl h2) (by rw [h2.length_eq]; omega)
        refine ⟨r', Ev.step (fun k => by rw [zah.l0]) (Ev.ite_false (by omega) (Ev.ite_false (by omega) ?_)), h5.trans h2, fun k => ?_⟩
        · rw [wrS him (by omega), wrA (by omega), wrS (by omega) (by omega), wrS (by omega) (by omega)]
          exact Ev.bind h1 h4
        · rw [h6, h3, h3, h3]
          repeat' split
          all_goals first
            | rfl
            | omega
            | (congr 1; omega)
theorem zka (a m b : Nat) (l : List S48) (hl : okS l) (h1 : a < m) (h2 : m < b) (h3 : b ≤ l.length) : ∃ r, Ev (fun k => zah.f k l a m b) r ∧ r.Perm l ∧
    ∀ k, G r k = if a ≤ k ∧ k < a + (b - m) then G l (k + (m - a)) else if a + (b - m) ≤ k ∧ k < b then G l (k - (b - m)) else G l k := by
  have h9 := hl.1
  simp only [zah.f]
  rw [wrS (by omega) (by omega), wrS (by omega) (by omega)]
  obtain ⟨r, q1, q2, q3⟩ := zgw m (b - a) (m - a) (b - m) l (by omega) (by omega) (by omega) (by omega) hl (by omega)
  refine ⟨r, q1, q2, fun k => ?_⟩
  rw [q3, show m - (m - a) = a by omega, show m + (b - m) = b by omega]
theorem zj7 (i : Nat) (hi : 0 < i) (d : Nat) : ∀ (j : Nat) (l : List S48), j + d = i - 1 → okS l → i ≤ l.length → ∃ r, Ev (fun k => za.l1 k l i j) r ∧ r.Perm l ∧
    ∀ k, G r k = if j ≤ k ∧ k < i - 1 then G l (k + 1) else if k = i - 1 then G l j else G l k := by
  induction d with
  | zero =>
    intro j l hj hl hil
    have h9 := hl.1
    refine ⟨l, Ev.step (fun k => by rw [za.l1]) ?_, List.Perm.refl _, fun k => ?_⟩
    · rw [zgt hi (by omega)]
      exact Ev.ite_false (by omega) (Ev.now _)
    · rw [if_neg (by omega)]
      split
      · congr 1; omega
      · rfl
  | succ d ih =>
    intro j l hj hl hil
    have h9 := hl.1
    have hp := zi7 (l := l) (i := j) (j := j + 1) (by omega) (by omega)
    have hg := zhb (l := l) (i := j) (j := j + 1) (by omega) (by omega)
    obtain ⟨r, h1, h2, h3⟩ := ih (j + 1) _ (by omega) (zcG hl hp) (by rw [hp.length_eq]; omega)
    refine ⟨r, Ev.step (fun k => by rw [za.l1]) ?_, h2.trans hp, fun k => ?_⟩
    · rw [zgt hi (by omega), wr1 (by omega)]
      exact Ev.ite_true (by omega) (Ev.ite_true (by omega) (Ev.ite_true (by omega) (Ev.ite_true (by omega) (Ev.ite_true (by omega) h1))))
    · rw [h3, hg, hg, hg]
      repeat' split
      all_goals first
        | rfl
        | omega
        | (congr 1; omega)
theorem zgv (a b : Nat) : ∀ (s i j : Nat) (l : List S48), j - i ≤ s → a < i → okS l → i ≤ j → j ≤ b → b ≤ l.length → SO l (a + 1) b → (∀ h, a < h → h < i → cmpL (G l a) (G l h) < 0) → (∀ h, j ≤ h → h < b → ¬ cmpL (G l a) (G l h) < 0) →
    ∃ r, Ev (fun k => za.l0 k l a i j) r ∧ Res a b r l ∧ SO r a b
  | s, i, j, l, hs, hai, hl, hij, hjb, hb, hso, hlo, hhi => by
    have h9 := hl.1
    have ha : a < b := by omega
    by_cases c : i < j
    · cases s with
      | zero => omega
      | succ s =>
        have hh : (i + j) / 2 < l.length := by omega
        have ha' : a < l.length := by omega
        have hc := zfR hl hh ha'
        by_cases g : cmpL (G l a) (G l ((i + j) / 2)) < 0
        · obtain ⟨r, h1, h2, h3⟩ := zgv a b s ((i + j) / 2 + 1) j l (by omega) (by omega) hl (by omega) hjb hb hso (fun h q1 q2 => by
            by_cases e : h = (i + j) / 2
            · subst e; exact g
            · have q := hso h ((i + j) / 2) (by omega) (by omega) (by omega)
              by_cases g2 : cmpL (G l a) (G l h) < 0
              · exact g2
              · exact absurd g (by have := zci q (zcp g2); unfold LeL at this; rw [zcB]; omega)) hhi
          refine ⟨r, Ev.step (fun k => by rw [za.l0]) (Ev.ite_true (by omega) ?_), h2, h3⟩
          rw [zgj (by omega), wr1 (by omega)]
          refine Ev.ite_true (by omega) (Ev.ite_true (by omega) (Ev.ite_true (by omega) (Ev.ite_true (by omega) (Ev.bind (a := cmpL (G l a) (G l ((i + j) / 2))) ?_ (Ev.ite_true g h1)))))
          rw [zbY l _ hh, zbY l a ha']
          exact hc
        · obtain ⟨r, h1, h2, h3⟩ := zgv a b s i ((i + j) / 2) l (by omega) hai hl (by omega) (by omega) hb hso hlo (fun h q1 q2 => by
            by_cases e : h = (i + j) / 2
            · subst e; exact g
            · have q := hso ((i + j) / 2) h (by omega) (by omega) (by omega)
              have q' := zci q (zcp g)
              unfold LeL at q'; rw [zcB]; omega)
          refine ⟨r, Ev.step (fun k => by rw [za.l0]) (Ev.ite_true (by omega) ?_), h2, h3⟩
          rw [zgj (by omega)]
          refine Ev.ite_true (by omega) (Ev.ite_true (by omega) (Ev.ite_true (by omega) (Ev.ite_true (by omega) (Ev.bind (a := cmpL (G l a) (G l ((i + j) / 2))) ?_ (Ev.ite_false g h1)))))
          rw [zbY l _ hh, zbY l a ha']
          exact hc
    · have e : j = i := by omega
      subst e
      obtain ⟨r, h1, h2, h3⟩ := zj7 j (by omega) (j - 1 - a) a l (by omega) hl (by omega)
      refine ⟨r, Ev.step (fun k => by rw [za.l0]) (Ev.ite_false (by omega) h1), ⟨h2, fun k hk => ?_, fun k q1 q2 => ?_⟩, fun p q q1 q2 q3 => ?_⟩
      · rw [h3, if_neg (by omega)]
        split
        · omega
        · rfl
      · rw [h3]
        split
        · exact ⟨k + 1, by omega, by omega, rfl⟩
        · split
          · exact ⟨a, by omega, by omega, rfl⟩
          · exact ⟨k, q1, q2, rfl⟩
      · rw [h3, h3]
        by_cases p1 : p < j - 1
        · rw [if_pos (show a ≤ p ∧ p < j - 1 from ⟨q1, p1⟩)]
          by_cases p2 : q < j - 1
          · rw [if_pos (show a ≤ q ∧ q < j - 1 by omega)]
            exact hso (p + 1) (q + 1) (by omega) (by omega) (by omega)
          · rw [if_neg (by omega)]
            by_cases p3 : q = j - 1
            · rw [if_pos p3]
              exact zdB (hlo (p + 1) (by omega) (by omega))
            · rw [if_neg p3]
              exact hso (p + 1) q (by omega) (by omega) (by omega)
        · rw [if_neg (show ¬ (a ≤ q ∧ q < j - 1) by omega), if_neg (show ¬ q = j - 1 by omega), if_neg (show ¬ (a ≤ p ∧ p < j - 1) by omega)]
          by_cases p3 : p = j - 1
          · rw [if_pos p3]
            exact zcp (hhi q (by omega) (by omega))
          · rw [if_neg p3]
            exact hso p q (by omega) (by omega) (by omega)
theorem zj6 (i : Nat) (d : Nat) : ∀ (j : Nat) (l : List S48), i + d = j → okS l → j < l.length → ∃ r, Ev (fun k => za.l3 k l i j) r ∧ r.Perm l ∧
    ∀ k, G r k = if k = i then G l j else if i < k ∧ k ≤ j then G l (k - 1) else G l k := by
  induction d with
  | zero =>
    intro j l hj hl hjl
    refine ⟨l, Ev.step (fun k => by rw [za.l3]) (Ev.ite_false (by omega) (Ev.now _)), List.Perm.refl _, fun k => ?_⟩
    split
    · congr 1; omega
    · rw [if_neg (by omega)]
  | succ d ih =>
    intro j l hj hl hjl
    have h9 := hl.1
    have hp := zi7 (l := l) (i := j) (j := j - 1) (by omega) (by omega)
    have hg := zhb (l := l) (i := j) (j := j - 1) (by omega) (by omega)
    obtain ⟨r, h1, h2, h3⟩ := ih (j - 1) _ (by omega) (zcG hl hp) (by rw [hp.length_eq]; omega)
    refine ⟨r, Ev.step (fun k => by rw [za.l3]) (Ev.ite_true (by omega) ?_), h2.trans hp, fun k => ?_⟩
    · rw [zgt (by omega) (by omega)]
      exact Ev.ite_true (by omega) (Ev.ite_true (by omega) (Ev.ite_true (by omega) (Ev.ite_true (by omega) h1)))
    · rw [h3, hg, hg, hg]
      repeat' split
      all_goals first
        | rfl
        | omega
        | (congr 1; omega)
theorem zgu (a m : Nat) : ∀ (s i j : Nat) (l : List S48), j - i ≤ s → okS l → m < l.length → a ≤ i → i ≤ j → j ≤ m → SO l a m → (∀ h, a ≤ h → h < i → ¬ cmpL (G l h) (G l m) < 0) → (∀ h, j ≤ h → h < m → cmpL (G l h) (G l m) < 0) →
    ∃ r, Ev (fun k => za.l2 k l m i j) r ∧ Res a (m + 1) r l ∧ SO r a (m + 1)
  | s, i, j, l, hs, hl, hm, hai, hij, hjm, hso, hlo, hhi => by
    have h9 := hl.1
    by_cases c : i < j
    · cases s with
      | zero => omega
      | succ s =>
        have hh : (i + j) / 2 < l.length := by omega
        have hc := zfR hl hm hh
        by_cases g : cmpL (G l ((i + j) / 2)) (G l m) < 0
        · obtain ⟨r, h1, h2, h3⟩ := zgu a m s i ((i + j) / 2) l (by omega) hl hm hai (by omega) (by omega) hso hlo (fun h q1 q2 => by
            by_cases e : h = (i + j) / 2
            · subst e; exact g
            · have q := hso ((i + j) / 2) h (by omega) (by omega) (by omega)
              by_cases g2 : cmpL (G l h) (G l m) < 0
              · exact g2
              · exact absurd g (by have := zci (zcp g2) q; unfold LeL at this; rw [zcB]; omega))
          refine ⟨r, Ev.step (fun k => by rw [za.l2]) (Ev.ite_true (by omega) ?_), h2, h3⟩
          rw [zgj (by omega)]
          refine Ev.ite_true (by omega) (Ev.ite_true (by omega) (Ev.ite_true (by omega) (Ev.ite_true (by omega) (Ev.bind (a := cmpL (G l ((i + j) / 2)) (G l m)) ?_ (Ev.ite_true g h1)))))
          rw [zbY l _ hh, zbY l m hm]
          exact hc
        · obtain ⟨r, h1, h2, h3⟩ := zgu a m s ((i + j) / 2 + 1) j l (by omega) hl hm (by omega) (by omega) hjm hso (fun h q1 q2 => by
            by_cases e : h = (i + j) / 2
            · subst e; exact g
            · have q := hso h ((i + j) / 2) (by omega) (by omega) (by omega)
              have q' := zci (zcp g) q
              unfold LeL at q'; rw [zcB]; omega) hhi
          refine ⟨r, Ev.step (fun k => by rw [za.l2]) (Ev.ite_true (by omega) ?_), h2, h3⟩
          rw [zgj (by omega), wr1 (by omega)]
          refine Ev.ite_true (by omega) (Ev.ite_true (by omega) (Ev.ite_true (by omega) (Ev.ite_true (by omega) (Ev.bind (a := cmpL (G l ((i + j) / 2)) (G l m)) ?_ (Ev.ite_false g h1)))))
          rw [zbY l _ hh, zbY l m hm]
          exact hc
    · have e : j = i := by omega
      subst e
      obtain ⟨r, h1, h2, h3⟩ := zj6 j (m - j) m l (by omega) hl hm
      refine ⟨r, Ev.step (fun k => by rw [za.l2]) (Ev.ite_false (by omega) h1), ⟨h2, fun k hk => ?_, fun k q1 q2 => ?_⟩, fun p q q1 q2 q3 => ?_⟩
      · rw [h3, if_neg (by omega), if_neg (by omega)]
      · rw [h3]
        split
        · exact ⟨m, by omega, by omega, rfl⟩
        · split
          · exact ⟨k - 1, by omega, by omega, rfl⟩
          · exact ⟨k, q1, q2, rfl⟩
      · rw [h3, h3]
        by_cases p1 : p < j
        · rw [if_neg (show ¬ p = j by omega), if_neg (show ¬ (j < p ∧ p ≤ m) by omega)]
          by_cases p2 : q < j
          · rw [if_neg (by omega), if_neg (by omega)]
            exact hso p q q1 q2 (by omega)
          · by_cases p3 : q = j
            · rw [if_pos p3]
              exact zcp (hlo p q1 p1)
            · rw [if_neg p3, if_pos (by omega)]
              exact hso p (q - 1) q1 (by omega) (by omega)
        · rw [if_neg (show ¬ q = j by omega), if_pos (show j < q ∧ q ≤ m by omega)]
          by_cases p3 : p = j
          · rw [if_pos p3]
            exact zdB (hhi (q - 1) (by omega) (by omega))
          · rw [if_neg p3, if_pos (by omega)]
            exact hso (p - 1) (q - 1) (by omega) (by omega) (by omega)
def SymO (n : Nat) : Prop := ∀ (a m b : Nat) (l : List S48), b - a ≤ n → a < m → m < b → okS l → b ≤ l.length → SO l a m → SO l m b → ∃ r, Ev (fun k => za.f k l a m b) r ∧ Res a b r l ∧ SO r a b
structure ziZ (a st mid en b : Nat) (l : List S48) : Prop where
  s1 : SO l a st
  s2 : SO l st mid
  s3 : SO l mid en
  s4 : SO l en b
  x : ∀ i j, a ≤ i → i < mid → mid ≤ j → j < b → LeL (G l j) (G l i)
theorem zhG {n : Nat} (H : SymO n) (a b mid st en : Nat) (l : List S48) (bl : Bool) (hbl : bl = true ↔ a < st ∧ st < mid) (has : a ≤ st) (hsm : st ≤ mid) (hme : mid ≤ en) (heb : en ≤ b) (hn1 : mid - a ≤ n) (hn2 : b - mid ≤ n) (hl : okS l) (hb : b ≤ l.length) (hh : ziZ a st mid en b l) :
    ∃ r, Ev (fun k => za.j8 k l a b mid st en bl) r ∧ Res a b r l ∧ SO r a b := by
  have tail : ∀ l', Res a mid l' l → SO l' a mid → ∃ r, Ev (fun k => if (mid : Int) < (en : Int) then (if (en : Int) < (b : Int) then ((za.f k l' mid en b).bind fun t => some t) else some l') else some l') r ∧ Res a b r l ∧ SO r a b := by
    intro l' hr hs
    have hp := hr.perm
    have t3 := hh.s3.fr hr (.inr (Nat.le_refl _))
    have t4 := hh.s4.fr hr (.inr hme)
    have tx : ∀ i j, a ≤ i → i < mid → mid ≤ j → j < b → LeL (G l' j) (G l' i) := fun i j q1 q2 q3 q4 => by
      obtain ⟨i', p1, p2, p3⟩ := hr.mem i q1 q2
      rw [p3, hr.fr j (by omega)]
      exact hh.x i' j p1 p2 q3 q4
    have fin : SO l' mid b → ∃ r, r = l' ∧ Res a b r l ∧ SO r a b := fun hmb => ⟨l', rfl, hr.wide (Nat.le_refl _) (by omega), hs.join hmb tx⟩
    by_cases c1 : mid < en
    · by_cases c2 : en < b
      · obtain ⟨r, h1, h2, h3⟩ := H mid en b l' hn2 c1 c2 (zcG hl hp) (by rw [hp.length_eq]; exact hb) t3 t4
        refine ⟨r, Ev.ite_true (by omega) (Ev.ite_true (by omega) (Ev.bind h1 (Ev.now _))), (h2.wide (by omega) (Nat.le_refl _)).trans (hr.wide (Nat.le_refl _) (by omega)), (hs.fr h2 (.inl (Nat.le_refl _))).join h3 fun i j q1 q2 q3 q4 => ?_⟩
        obtain ⟨j', p1, p2, p3⟩ := h2.mem j q3 q4
        rw [p3, h2.fr i (by omega)]
        exact tx i j' q1 q2 p1 p2
      · obtain ⟨r, rfl, h2, h3⟩ := fin (t3.sub (Nat.le_refl _) (by omega))
        exact ⟨r, Ev.ite_true (by omega) (Ev.ite_false (by omega) (Ev.now _)), h2, h3⟩
    · have e : en = mid := by omega
      subst e
      obtain ⟨r, rfl, h2, h3⟩ := fin t4
      exact ⟨r, Ev.ite_false (by omega) (Ev.now _), h2, h3⟩
  cases bl with
  | true =>
    obtain ⟨g1, g2⟩ := hbl.1 rfl
    obtain ⟨r, h1, h2, h3⟩ := H a st mid l hn1 g1 g2 hl (by omega) hh.s1 hh.s2
    obtain ⟨r', h4, h5, h6⟩ := tail r h2 h3
    exact ⟨r', Ev.step (fun k => by rw [za.j8]) (Ev.ite_true rfl (Ev.bind h1 h4)), h5, h6⟩
  | false =>
    have hno : ¬ (a < st ∧ st < mid) := fun h => by have := hbl.2 h; cases this
    have hs : SO l a mid := by
      by_cases e : a = st
      · subst e; exact hh.s2
      · have e2 : st = mid := by omega
        subst e2; exact hh.s1
    obtain ⟨r', h4, h5, h6⟩ := tail l (Res.refl _ _ _) hs
    exact ⟨r', Ev.step (fun k => by rw [za.j8]) (Ev.ite_false (by simp) h4), h5, h6⟩
theorem zhH {n : Nat} (H : SymO n) (a b mid st en : Nat) (l : List S48) (has : a ≤ st) (hsm : st ≤ mid) (hme : mid ≤ en) (heb : en ≤ b) (hn1 : mid - a ≤ n) (hn2 : b - mid ≤ n) (hl : okS l) (hb : b ≤ l.length) (hh : ziZ a st mid en b l) :
    ∃ r, Ev (fun k => za.j7 k l a b mid st en) r ∧ Res a b r l ∧ SO r a b := by
  by_cases c : a < st
  · obtain ⟨r, h1, h2⟩ := zhG H a b mid st en l (decide ((st : Int) < (mid : Int))) (by rw [decide_eq_true_eq]; omega) has hsm hme heb hn1 hn2 hl hb hh
    exact ⟨r, Ev.step (fun k => by rw [za.j7]) (Ev.ite_true (by omega) h1), h2⟩
  · obtain ⟨r, h1, h2⟩ := zhG H a b mid st en l false (by constructor <;> intro h <;> first | cases h; done | omega) has hsm hme heb hn1 hn2 hl hb hh
    exact ⟨r, Ev.step (fun k => by rw [za.j7]) (Ev.ite_false (by omega) h1), h2⟩
theorem zgi {a st m en b mid : Nat} {r l : List S48} (h1 : a ≤ st) (h2 : st ≤ m) (h3 : m ≤ en) (h4 : en ≤ b) (hmid : mid = st + (en - m)) (hs1 : SO l a m) (hs2 : SO l m b)
    (hc1 : ∀ i j, a ≤ i → i < st → en ≤ j → j < b → LeL (G l j) (G l i)) (hc2 : ∀ i j, st ≤ i → i < m → m ≤ j → j < en → LeL (G l i) (G l j))
    (hg : ∀ k, G r k = if st ≤ k ∧ k < st + (en - m) then G l (k + (m - st)) else if st + (en - m) ≤ k ∧ k < en then G l (k - (en - m)) else G l k) : ziZ a st mid en b r := by
  subst hmid
  have g1 : ∀ k, k < st → G r k = G l k := fun k hk => by rw [hg, if_neg (by omega), if_neg (by omega)]
  have g2 : ∀ k, st ≤ k → k < st + (en - m) → G r k = G l (k + (m - st)) := fun k hk hk' => by rw [hg, if_pos ⟨hk, hk'⟩]
  have g3 : ∀ k, st + (en - m) ≤ k → k < en → G r k = G l (k - (en - m)) := fun k hk hk' => by rw [hg, if_neg (by omega), if_pos ⟨hk, hk'⟩]
  have g4 : ∀ k, en ≤ k → G r k = G l k := fun k hk => by rw [hg, if_neg (by omega), if_neg (by omega)]
  refine ⟨fun i j q1 q2 q3 => ?_, fun i j q1 q2 q3 => ?_, fun i j q1 q2 q3 => ?_, fun i j q1 q2 q3 => ?_, fun i j q1 q2 q3 q4 => ?_⟩
  · rw [g1 i (by omega), g1 j q3]; exact hs1 i j q1 q2 (by omega)
  · rw [g2 i q1 (by omega), g2 j (by omega) q3]; exact hs2 _ _ (by omega) (by omega) (by omega)
  · rw [g3 i q1 (by omega), g3 j (by omega) q3]; exact hs1 _ _ (by omega) (by omega) (by omega)
  · rw [g4 i q1, g4 j (by omega)]; exact hs2 i j (by omega) q2 q3
  · by_cases c1 : i < st
    · rw [g1 i c1]
      by_cases c2 : j < en
      · rw [g3 j q3 c2]; exact hs1 i _ q1 (by omega) (by omega)
      · rw [g4 j (by omega)]; exact hc1 i j q1 c1 (by omega) q4
    · rw [g2 i (by omega) q2]
      by_cases c2 : j < en
      · rw [g3 j q3 c2]; exact hc2 _ _ (by omega) (by omega) (by omega) (by omega)
      · rw [g4 j (by omega)]; exact hs2 _ j (by omega) (by omega) q4
theorem zhI {n : Nat} (H : SymO n) (a m b mid st en : Nat) (l : List S48) (bl : Bool) (hbl : bl = true ↔ st < m ∧ m < en) (h1 : a ≤ st) (h2 : st ≤ m) (h3 : m ≤ en) (h4 : en ≤ b) (hmid : mid = st + (en - m)) (hn1 : mid - a ≤ n) (hn2 : b - mid ≤ n) (hl : okS l) (hb : b ≤ l.length) (hs1 : SO l a m) (hs2 : SO l m b)
    (hc1 : ∀ i j, a ≤ i → i < st → en ≤ j → j < b → LeL (G l j) (G l i)) (hc2 : ∀ i j, st ≤ i → i < m → m ≤ j → j < en → LeL (G l i) (G l j)) :
    ∃ r, Ev (fun k => za.j6 k l a m b mid st en bl) r ∧ Res a b r l ∧ SO r a b := by
  cases bl with
  | true =>
    obtain ⟨g1, g2⟩ := hbl.1 rfl
    obtain ⟨r, q1, q2, q3⟩ := zka st m en l hl g1 g2 (by omega)
    have hR : Res a b r l := ⟨q2, fun k hk => by rw [q3, if_neg (by omega), if_neg (by omega)], fun k p1 p2 => by
      rw [q3]
      split
      · exact ⟨k + (m - st), by omega, by omega, rfl⟩
      · split
        · exact ⟨k - (en - m), by omega, by omega, rfl⟩
        · exact ⟨k, p1, p2, rfl⟩⟩
    obtain ⟨r', q4, q5, q6⟩ := zhH H a b mid st en r h1 (by omega) (by omega) h4 hn1 hn2 (zcG hl q2) (by rw [q2.length_eq]; exact hb) (zgi h1 h2 h3 h4 hmid hs1 hs2 hc1 hc2 q3)
    exact ⟨r', Ev.step (fun k => by rw [za.j6]) (Ev.ite_true rfl (Ev.bind q1 q4)), q5.trans hR, q6⟩
  | false =>
    have hno : ¬ (st < m ∧ m < en) := fun h => by have := hbl.2 h; cases this
    obtain ⟨r', q4, q5, q6⟩ := zhH H a b mid st en l h1 (by omega) (by omega) h4 hn1 hn2 hl hb (zgi h1 h2 h3 h4 hmid hs1 hs2 hc1 hc2 (fun k => by
      repeat' split
      all_goals first
        | rfl
        | (congr 1; omega)))
    exact ⟨r', Ev.step (fun k => by rw [za.j6]) (Ev.ite_false (by simp) q4), q5, q6⟩
theorem zfG {n : Nat} (H : SymO n) (a m b mid lo hi : Nat) (ham : a < m) (hmb' : m < b) (hn1 : mid - a ≤ n) (hn2 : b - mid ≤ n) (hlo1 : a ≤ lo) (hlo2 : lo = a ∨ mid + m - lo = b) (hlo3 : mid + m ≤ b + lo) (hhi1 : hi ≤ m) (hhi2 : hi ≤ mid) (hhi3 : hi = m ∨ hi = mid) (hmb : mid ≤ b) : ∀ (s i j : Nat) (l : List S48), j - i ≤ s → okS l → b ≤ l.length → lo ≤ i → i ≤ j → j ≤ hi →
    SO l a m → SO l m b → (∀ h, lo ≤ h → h < i → ¬ cmpL (G l h) (G l (mid + m - 1 - h)) < 0) → (∀ h, j ≤ h → h < hi → cmpL (G l h) (G l (mid + m - 1 - h)) < 0) →
    ∃ r, Ev (fun k => za.l4 k l a m b mid ((mid + m : Nat) : Int) i j ((mid + m - 1 : Nat) : Int)) r ∧ Res a b r l ∧ SO r a b
  | s, i, j, l, hs, hl, hb, hi1, hij, hjh, hs1, hs2, hL, hU => by
    have h9 := hl.1
    by_cases c : i < j
    · cases s with
      | zero => omega
      | succ s =>
        have hh : (i + j) / 2 < l.length := by omega
        have hq : mid + m - 1 - (i + j) / 2 < l.length := by omega
        have hc := zfR hl hq hh
        by_cases g : cmpL (G l ((i + j) / 2)) (G l (mid + m - 1 - (i + j) / 2)) < 0
        · obtain ⟨r, h1, h2, h3⟩ := zfG H a m b mid lo hi ham hmb' hn1 hn2 hlo1 hlo2 hlo3 hhi1 hhi2 hhi3 hmb s i ((i + j) / 2) l (by omega) hl hb hi1 (by omega) (by omega) hs1 hs2 hL (fun h q1 q2 => by
            by_cases e : h = (i + j) / 2
            · subst e; exact g
            · have p1 := hs1 ((i + j) / 2) h (by omega) (by omega) (by omega)
              have p2 := hs2 (mid + m - 1 - h) (mid + m - 1 - (i + j) / 2) (by omega) (by omega) (by omega)
              by_cases g2 : cmpL (G l h) (G l (mid + m - 1 - h)) < 0
              · exact g2
              · exact absurd g (by have := zci p2 (zci (zcp g2) p1); unfold LeL at this; rw [zcB]; omega))
          refine ⟨r, Ev.step (fun k => by rw [za.l4]) (Ev.ite_true (by omega) ?_), h2, h3⟩
          rw [zgj (by omega), wrS (by omega) (by omega)]
          refine Ev.ite_true (by omega) (Ev.ite_true (by omega) (Ev.ite_true (by omega) (Ev.ite_true (by omega) (Ev.bind (a := cmpL (G l ((i + j) / 2)) (G l (mid + m - 1 - (i + j) / 2))) ?_ (Ev.ite_true g h1)))))
          rw [zbY l _ hh, zbY l _ hq]
          exact hc
        · obtain ⟨r, h1, h2, h3⟩ := zfG H a m b mid lo hi ham hmb' hn1 hn2 hlo1 hlo2 hlo3 hhi1 hhi2 hhi3 hmb s ((i + j) / 2 + 1) j l (by omega) hl hb (by omega) (by omega) hjh hs1 hs2 (fun h q1 q2 => by
            by_cases e : h = (i + j) / 2
            · subst e; exact g
            · have p1 := hs1 h ((i + j) / 2) (by omega) (by omega) (by omega)
              have p2 := hs2 (mid + m - 1 - (i + j) / 2) (mid + m - 1 - h) (by omega) (by omega) (by omega)
              have := zci p2 (zci (zcp g) p1)
              unfold LeL at this; rw [zcB]; omega) hU
          refine ⟨r, Ev.step (fun k => by rw [za.l4]) (Ev.ite_true (by omega) ?_), h2, h3⟩
          rw [zgj (by omega), wrS (by omega) (by omega), wr1 (by omega)]
          refine Ev.ite_true (by omega) (Ev.ite_true (by omega) (Ev.ite_true (by omega) (Ev.ite_true (by omega) (Ev.bind (a := cmpL (G l ((i + j) / 2)) (G l (mid + m - 1 - (i + j) / 2))) ?_ (Ev.ite_false g h1)))))
          rw [zbY l _ hh, zbY l _ hq]
          exact hc
    · have e : j = i := by omega
      subst e
      have hc1 : ∀ p q, a ≤ p → p < j → mid + m - j ≤ q → q < b → LeL (G l q) (G l p) := fun p q q1 q2 q3 q4 => by
        have hjl : lo < j := by omega
        have p0 := zcp (hL (j - 1) (by omega) (by omega))
        have p1 : LeL (G l (j - 1)) (G l p) := by
          by_cases e : p = j - 1
          · rw [e]; exact zeQ _
          · exact hs1 p (j - 1) q1 (by omega) (by omega)
        have p2 : LeL (G l q) (G l (mid + m - 1 - (j - 1))) := by
          by_cases e : q = mid + m - 1 - (j - 1)
          · rw [e]; exact zeQ _
          · exact hs2 _ q (by omega) (by omega) q4
        exact zci p2 (zci p0 p1)
      have hc2 : ∀ p q, j ≤ p → p < m → m ≤ q → q < mid + m - j → LeL (G l p) (G l q) := fun p q q1 q2 q3 q4 => by
        have hjl : j < hi := by omega
        have p0 := zdB (hU j (Nat.le_refl _) hjl)
        have p1 : LeL (G l p) (G l j) := by
          by_cases e : p = j
          · rw [e]; exact zeQ _
          · exact hs1 j p (by omega) (by omega) q2
        have p2 : LeL (G l (mid + m - 1 - j)) (G l q) := by
          by_cases e : q = mid + m - 1 - j
          · rw [e]; exact zeQ _
          · exact hs2 q _ q3 (by omega) (by omega)
        exact zci p1 (zci p0 p2)
      by_cases c2 : j < m
      · obtain ⟨r, h1, h2⟩ := zhI H a m b mid j (mid + m - j) l (decide ((m : Int) < ((mid + m - j : Nat) : Int))) (by rw [decide_eq_true_eq]; omega) (by omega) (by omega) (by omega) (by omega) (by omega) hn1 hn2 hl hb hs1 hs2 hc1 hc2
        refine ⟨r, Ev.step (fun k => by rw [za.l4]) (Ev.ite_false (by omega) (Ev.ite_true (by omega) ?_)), h2⟩
        rw [wrS (by omega) (by omega)]
        exact h1
      · obtain ⟨r, h1, h2⟩ := zhI H a m b mid j (mid + m - j) l false (by constructor <;> intro h <;> first | cases h; done | omega) (by omega) (by omega) (by omega) (by omega) (by omega) hn1 hn2 hl hb hs1 hs2 hc1 hc2
        refine ⟨r, Ev.step (fun k => by rw [za.l4]) (Ev.ite_false (by omega) (Ev.ite_false (by omega) ?_)), h2⟩
        rw [wrS (by omega) (by omega)]
        exact h1
theorem zgV : ∀ n, SymO n
  | 0 => fun a m b l hn h1 h2 _ _ => by omega
  | n + 1 => fun a m b l hn h1 h2 hl hb hs1 hs2 => by
    have H := zgV n
    have h9 := hl.1
    by_cases c1 : m - a = 1
    · have e : m = a + 1 := by omega
      obtain ⟨r, g1, g2⟩ := zgv a b (b - m) m b l (by omega) (by omega) hl (by omega) (Nat.le_refl _) hb (by rw [← e]; exact hs2) (fun h q1 q2 => by omega) (fun h q1 q2 => by omega)
      refine ⟨r, Ev.step (fun k => by rw [za.f]) ?_, g2⟩
      rw [wrS (by omega) (by omega)]
      exact Ev.ite_true (by omega) g1
    · by_cases c2 : b - m = 1
      · have e : b = m + 1 := by omega
        subst e
        obtain ⟨r, g1, g2⟩ := zgu a m (m - a) a m l (by omega) hl (by omega) (Nat.le_refl _) (by omega) (Nat.le_refl _) hs1 (fun h q1 q2 => by omega) (fun h q1 q2 => by omega)
        refine ⟨r, Ev.step (fun k => by rw [za.f]) ?_, g2⟩
        rw [wrS (by omega) (by omega), wrS (by omega) (by omega)]
        exact Ev.ite_false (by omega) (Ev.ite_true (by omega) g1)
      · by_cases c3 : (a + b) / 2 < m
        · obtain ⟨r, g1, g2⟩ := zfG H a m b ((a + b) / 2) ((a + b) / 2 + m - b) ((a + b) / 2) h1 h2 (by omega) (by omega) (by omega) (by omega) (by omega) (by omega) (by omega) (by omega) (by omega) ((a + b) / 2) ((a + b) / 2 + m - b) ((a + b) / 2) l (by omega) hl hb (by omega) (by omega) (by omega) hs1 hs2 (fun h q1 q2 => by omega) (fun h q1 q2 => by omega)
          refine ⟨r, Ev.step (fun k => by rw [za.f]) ?_, g2⟩
          rw [wrS (by omega) (by omega), wrS (by omega) (by omega), zgj (by omega), wrA (by omega), wrS (by omega) (by omega)]
          refine Ev.ite_false (by omega) (Ev.ite_false (by omega) (Ev.ite_true (by omega) (Ev.step (fun k => by rw [za.j4]) ?_)))
          rw [zgt (by omega) (by omega)]
          exact g1
        · obtain ⟨r, g1, g2⟩ := zfG H a m b ((a + b) / 2) a m h1 h2 (by omega) (by omega) (by omega) (by omega) (by omega) (by omega) (by omega) (by omega) (by omega) m a m l (by omega) hl hb (by omega) (by omega) (by omega) hs1 hs2 (fun h q1 q2 => by omega) (fun h q1 q2 => by omega)
          refine ⟨r, Ev.step (fun k => by rw [za.f]) ?_, g2⟩
          rw [wrS (by omega) (by omega), wrS (by omega) (by omega), zgj (by omega), wrA (by omega)]
          refine Ev.ite_false (by omega) (Ev.ite_false (by omega) (Ev.ite_false (by omega) (Ev.step (fun k => by rw [za.j4]) ?_)))
          rw [zgt (by omega) (by omega)]
          exact g1
theorem zhJ (a m b : Nat) (l : List S48) (h1 : a < m) (h2 : m < b) (hl : okS l) (hb : b ≤ l.length) (hs1 : SO l a m) (hs2 : SO l m b) : ∃ r, Ev (fun k => za.f k l a m b) r ∧ Res a b r l ∧ SO r a b := zgV (b - a) a m b l (Nat.le_refl _) h1 h2 hl hb hs1 hs2
def Blk (bs : Nat) (l : List S48) (n e : Nat) : Prop := ∀ c, bs * c < e → SO l (bs * c) (min (bs * c + bs) n)
theorem zjH (n bs : Nat) (hbs : 0 < bs) (hbn : bs < n) (H : ∀ l, okS l → l.length = n → Blk (2 * bs) l n n → ∃ r, Ev (fun k => zab.l1 k l n ((bs * 2 : Nat) : Int)) r ∧ r.Perm l ∧ SO r 0 n) : ∀ (s c : Nat) (l : List S48), n + 2 * bs - 2 * bs * c ≤ s → 2 * bs * c ≤ n → okS l → l.length = n → Blk (2 * bs) l n (2 * bs * c) → (∀ x, 2 * bs * c ≤ bs * x → bs * x < n → SO l (bs * x) (min (bs * x + bs) n)) →
    ∃ r, Ev (fun k => zab.l2 k l n bs ((2 * bs * c : Nat) : Int) ((2 * bs * c + 2 * bs : Nat) : Int)) r ∧ r.Perm l ∧ SO r 0 n
  | 0, c, l, hs, ha, _, _, _, _ => by omega
  | s + 1, c, l, hs, ha, hl, hn, hB, hT => by
    have h9 := hl.1
    have w2 : wrap64 (2 * (bs : Int)) = ((2 * bs : Nat) : Int) := by unfold wrap64; omega
    have w3 : wrap64 ((bs : Int) * 2) = ((bs * 2 : Nat) : Int) := by unfold wrap64; omega
    have e1 : 2 * bs * c = bs * (2 * c) := by rw [Nat.mul_comm 2 bs, Nat.mul_assoc]
    have e2 : bs * (2 * c + 1) = 2 * bs * c + bs := by rw [Nat.mul_add, ← e1, Nat.mul_one]
    have e3 : 2 * bs * (c + 1) = 2 * bs * c + 2 * bs := by rw [Nat.mul_add, Nat.mul_one]
    have t1 := hT (2 * c) (by omega)
    have t2 := hT (2 * c + 1) (by omega)
    rw [← e1] at t1
    rw [e2] at t2
    generalize hA : 2 * bs * c = A at *
    have old : ∀ x, 2 * bs * x < A → 2 * bs * x + 2 * bs ≤ A := fun x hx => by
      have : x < c := by
        by_cases q : x < c
        · exact q
        · have := Nat.mul_le_mul_left (2 * bs) (show c ≤ x by omega); omega
      have := Nat.mul_le_mul_left (2 * bs) (show x + 1 ≤ c by omega)
      rw [Nat.mul_add, Nat.mul_one] at this
      omega
    by_cases c1 : A + 2 * bs ≤ n
    · have u1 := t1 (by omega)
      have u2 := t2 (by omega)
      obtain ⟨r, h1, h2, h3⟩ := zhJ A (A + bs) (A + 2 * bs) l (by omega) (by omega) hl (by omega) (u1.sub (Nat.le_refl _) (by omega)) (u2.sub (Nat.le_refl _) (by omega))
      obtain ⟨r', h4, h5, h6⟩ := zjH n bs hbs hbn H s (c + 1) r (by omega) (by omega) (zcG hl h2.perm) (by rw [h2.perm.length_eq]; exact hn) (fun x hx => by
        by_cases q : 2 * bs * x < A
        · exact (hB x q).fr h2 (.inl (by have := old x q; omega))
        · have ex : x = c := by
            by_cases q2 : x < c
            · exfalso; have := Nat.mul_le_mul_left (2 * bs) (show x + 1 ≤ c by omega); rw [Nat.mul_add, Nat.mul_one] at this; omega
            · by_cases q3 : x = c
              · exact q3
              · exfalso; have := Nat.mul_le_mul_left (2 * bs) (show c + 1 ≤ x by omega); omega
          subst ex
          rw [hA]
          exact h3.sub (Nat.le_refl _) (by omega)) (fun x q1 q2 => (hT x (by omega) q2).fr h2 (.inr (by omega)))
      refine ⟨r', Ev.step (fun k => by rw [zab.l2]) (Ev.ite_true (by omega) ?_), h5.trans h2.perm, h6⟩
      rw [wrA (by omega), w2, wrA (by omega)]
      rw [e3] at h4
      exact Ev.bind h1 h4
    · have fin : ∀ r, Res A n r l → SO r A n → Blk (2 * bs) r n n := fun r hr hs' x hx => by
        by_cases q : 2 * bs * x < A
        · exact (hB x q).fr hr (.inl (by have := old x q; omega))
        · exact hs'.sub (by omega) (by omega)
      by_cases c2 : A + bs < n
      · have u1 := t1 (by omega)
        have u2 := t2 (by omega)
        obtain ⟨r, h1, h2, h3⟩ := zhJ A (A + bs) n l (by omega) c2 hl (by omega) (u1.sub (Nat.le_refl _) (by omega)) (u2.sub (Nat.le_refl _) (by omega))
        obtain ⟨r', h4, h5, h6⟩ := H r (zcG hl h2.perm) (by rw [h2.perm.length_eq]; exact hn) (fin r h2 h3)
        refine ⟨r', Ev.step (fun k => by rw [zab.l2]) (Ev.ite_false (by omega) ?_), h5.trans h2.perm, h6⟩
        rw [wrA (by omega), w3]
        exact Ev.ite_true (by omega) (Ev.bind h1 h4)
      · obtain ⟨r', h4, h5, h6⟩ := H l hl hn (fin l (Res.refl _ _ _) (by
          by_cases q : A < n
          · exact (t1 q).sub (Nat.le_refl _) (by omega)
          · exact SO.one (by omega)))
        refine ⟨r', Ev.step (fun k => by rw [zab.l2]) (Ev.ite_false (by omega) ?_), h5, h6⟩
        rw [wrA (by omega), w3]
        exact Ev.ite_false (by omega) h4
theorem zjI (n : Nat) : ∀ (s bs : Nat) (l : List S48), n - bs ≤ s → 0 < bs → okS l → l.length = n → bs ≤ 2 * n + 20 → Blk bs l n n → ∃ r, Ev (fun k => zab.l1 k l n bs) r ∧ r.Perm l ∧ SO r 0 n
  | s, bs, l, hs, hbs, hl, hn, hb2, hB => by
    have h9 := hl.1
    by_cases c : bs < n
    · cases s with
      | zero => omega
      | succ s =>
        obtain ⟨r, h1, h2, h3⟩ := zjH n bs hbs c (fun l' hl' hn' hB' => zjI n s (bs * 2) l' (by omega) (by omega) hl' hn' (by omega) (by rw [Nat.mul_comm bs 2]; exact hB')) (n + 2 * bs) 0 l (by omega) (by omega) hl hn (fun x hx => by omega) (fun x _ q => hB x q)
        refine ⟨r, Ev.step (fun k => by rw [zab.l1]) (Ev.ite_true (by omega) ?_), h2, h3⟩
        rw [show wrap64 (2 * (bs : Int)) = ((2 * bs * 0 + 2 * bs : Nat) : Int) by unfold wrap64; omega]
        exact h1
    · refine ⟨l, Ev.step (fun k => by rw [zab.l1]) (Ev.ite_false (by omega) (Ev.now _)), List.Perm.refl _, ?_⟩
      by_cases q : 0 < n
      · have := hB 0 (by omega)
        exact this.sub (by omega) (by omega)
      · exact SO.one (by omega)
theorem zjJ (n : Nat) : ∀ (s c : Nat) (l : List S48), n + 20 - 20 * c ≤ s → 20 * c ≤ n → okS l → l.length = n → Blk 20 l n (20 * c) → ∃ r, Ev (fun k => zab.l0 k l n 20 ((20 * c : Nat) : Int) ((20 * c + 20 : Nat) : Int)) r ∧ r.Perm l ∧ SO r 0 n
  | 0, c, l, hs, ha, _, _, _ => by omega
  | s + 1, c, l, hs, ha, hl, hn, hB => by
    have h9 := hl.1
    by_cases c1 : 20 * c + 20 ≤ n
    · obtain ⟨r, h1, h2, h3⟩ := ziA (20 * c) (20 * c + 20) l hl (by omega) (by omega)
      obtain ⟨r', h4, h5, h6⟩ := zjJ n s (c + 1) r (by omega) (by omega) (zcG hl h2.perm) (by rw [h2.perm.length_eq]; exact hn) (fun x hx => by
        by_cases q : 20 * x < 20 * c
        · exact (hB x q).fr h2 (.inl (by omega))
        · have : x = c := by omega
          subst this
          exact h3.sub (Nat.le_refl _) (by omega))
      refine ⟨r', Ev.step (fun k => by rw [zab.l0]) (Ev.ite_true (by omega) ?_), h5.trans h2.perm, h6⟩
      rw [show wrap64 (((20 * c + 20 : Nat) : Int) + 20) = ((20 * (c + 1) + 20 : Nat) : Int) by unfold wrap64; omega]
      exact Ev.bind h1 h4
    · obtain ⟨r, h1, h2, h3⟩ := ziA (20 * c) n l hl (by omega) ha
      obtain ⟨r', h4, h5, h6⟩ := zjI n n 20 r (by omega) (by omega) (zcG hl h2.perm) (by rw [h2.perm.length_eq]; exact hn) (by omega) (fun x hx => by
        by_cases q : 20 * x < 20 * c
        · exact (hB x q).fr h2 (.inl (by omega))
        · have : x = c := by omega
          subst this
          exact h3.sub (Nat.le_refl _) (by omega))
      exact ⟨r', Ev.step (fun k => by rw [zab.l0]) (Ev.ite_false (by omega) (Ev.bind h1 h4)), h5.trans h2.perm, h6⟩
theorem zj (l : List S48) (hl : okS l) : ∃ r, Ev (fun k => zaA.f k l) r ∧ r.Perm l ∧ SO r 0 l.length := by
  obtain ⟨r, h1, h2, h3⟩ := zjJ l.length (l.length + 20) 0 l (by omega) (by omega) hl rfl (fun x hx => by omega)
  refine ⟨r, ?_, h2, h3⟩
  simp only [zaA.f, zab.f]
  exact Ev.bind h1 (Ev.now _)
theorem zjs (a b : List Int) (hl : a.length ≤ 1048576) (hab : a.length = b.length) (d : Nat) : ∀ (i k : Nat), i + d = a.length → a.take i = b.take i → d < k → zaB.l0 k a b (a.length : Int) i = some (decide (a = b)) := by
  induction d with
  | zero =>
    intro i k hi ht hk
    obtain ⟨k, rfl⟩ : ∃ m, k = m + 1 := ⟨k - 1, by omega⟩
    simp only [zaB.l0]
    rw [if_neg (by omega)]
    obtain rfl : i = a.length := by omega
    rw [List.take_of_length_le (by omega), List.take_of_length_le (by omega)] at ht
    rw [decide_eq_true ht]
  | succ d ih =>
    intro i k hi ht hk
    obtain ⟨k, rfl⟩ : ∃ m, k = m + 1 := ⟨k - 1, by omega⟩
    have hlt : i < a.length := by omega
    have hlt' : i < b.length := by omega
    simp only [zaB.l0]
    rw [if_pos (by omega), if_pos (by omega), if_pos (by omega), if_pos (by omega), wr1 (by omega), zdd a i hlt, zdd b i hlt']
    by_cases h : a[i] = b[i]
    · rw [if_pos h]
      refine ih (i + 1) k (by omega) ?_ (by omega)
      rw [List.take_succ_eq_append_getElem hlt, List.take_succ_eq_append_getElem hlt', ht, h]
    · rw [if_neg h, decide_eq_false]
      intro e
      subst e
      exact h rfl
theorem zjt (a b : List Int) (hl : a.length ≤ 1048576) : Ev (fun k => zaB.f k a b) (decide (a = b)) := by
  refine ⟨a.length + 1, fun k hk => ?_⟩
  show zaB.f k a b = _
  unfold zaB.f
  by_cases h : (a.length : Int) = (b.length : Int)
  · rw [if_pos h]
    exact zjs a b hl (by omega) a.length 0 k (by omega) (by simp) (by omega)
  · rw [if_neg h, decide_eq_false]
    intro e
    subst e
    exact h rfl
theorem ziJ (l : List Int) (hl : l.length ≤ 1048576) : za6.f l = some l := by
  simp only [za6.f, Option.bind_some, List.nil_append, List.length_nil]
  rw [if_pos (by omega)]
theorem zdm : ∀ {a b : List Int}, a.Perm b → a.sum = b.sum
  | _, _, .nil => rfl
  | _, _, .cons x h => by simp [zdm h]
  | _, _, .swap x y l => by simp; omega
  | _, _, .trans h1 h2 => (zdm h1).trans (zdm h2)
def nz (x : S48) : Bool := !(x.f1 == 0)
theorem zkh (l : List S48) (hl : l.length ≤ 4398046511104) (d : Nat) : ∀ (i : Nat), i + d = l.length → (∀ j (h : j < l.length), j < i → nz l[j] = true) →
    ∃ r, Ev (fun k => zam.l0 k l l.length i) r ∧ ((r = -1 ∧ ∀ j (h : j < l.length), nz l[j] = true) ∨ ∃ m : Nat, r = (m : Int) ∧ ∃ h : m < l.length, nz l[m] = false ∧ ∀ j (h : j < l.length), j < m → nz l[j] = true) := by
  induction d with
  | zero =>
    intro i hi H
    exact ⟨-1, Ev.step (fun k => by rw [zam.l0]) (Ev.ite_false (by omega) (Ev.now _)), .inl ⟨rfl, fun j h => H j h (by omega)⟩⟩
  | succ d ih =>
    intro i hi H
    have hlt : i < l.length := by omega
    by_cases c : nz l[i] = true
    · obtain ⟨r, h1, h2⟩ := ih (i + 1) (by omega) (fun j h hj => by
        by_cases e : j = i
        · subst e; exact c
        · exact H j h (by omega))
      refine ⟨r, Ev.step (fun k => by rw [zam.l0]) (Ev.ite_true (by omega) (Ev.ite_true (by omega) (Ev.ite_true (by omega) ?_))), h2⟩
      rw [zbY l i hlt, wr1 (by omega)]
      simp only [zbJ.f, Option.bind_some]
      exact Ev.ite_false (by simpa [nz] using c) h1
    · refine ⟨(i : Int), Ev.step (fun k => by rw [zam.l0]) (Ev.ite_true (by omega) (Ev.ite_true (by omega) (Ev.ite_true (by omega) ?_))), .inr ⟨i, rfl, hlt, by simpa using c, fun j h hj => H j h hj⟩⟩
      rw [zbY l i hlt]
      simp only [zbJ.f, Option.bind_some]
      exact Ev.ite_true (by simpa [nz] using c) (Ev.now _)
theorem zkl (o : List S48) (ho : o.length ≤ 4398046511104) (d : Nat) : ∀ (i j : Nat) (l : List S48), j + d = o.length → i ≤ j → l.length = o.length → l.take i = (o.take j).filter nz → l.drop j = o.drop j →
    Ev (fun k => zaj.l0 k l i j) (o.filter nz) := by
  induction d with
  | zero =>
    intro i j l hj hij hl h1 h2
    refine Ev.step (fun k => by rw [zaj.l0]) (Ev.ite_false (by omega) (Ev.ite_true (by omega) (Ev.ite_true (by omega) ?_)))
    rw [Int.toNat_natCast, h1, List.take_of_length_le (by omega)]
    exact Ev.now _
  | succ d ih =>
    intro i j l hj hij hl h1 h2
    have hlt : j < l.length := by omega
    have hlo : j < o.length := by omega
    have e : l[j] = o[j] := by
      have := congrArg (fun q => q[0]?) h2
      simpa [List.getElem?_drop, hlt, hlo] using this
    have e2 : (o.take (j + 1)).filter nz = (o.take j).filter nz ++ (if nz o[j] = true then [o[j]] else []) := by
      rw [List.take_succ_eq_append_getElem hlo, List.filter_append]
      congr 1
      by_cases c : nz o[j] = true <;> simp [c]
    have h3 : l.drop (j + 1) = o.drop (j + 1) := by
      have := congrArg (fun q => q.drop 1) h2
      simpa using this
    refine Ev.step (fun k => by rw [zaj.l0]) (Ev.ite_true (by omega) (Ev.ite_true (by omega) ?_))
    rw [zbY l j hlt, wr1 (by omega), wr1 (by omega), Int.toNat_natCast]
    simp only [zbJ.f, Option.bind_some]
    by_cases c : nz o[j] = true
    · refine Ev.ite_false (by rw [e]; simpa [nz] using c) (Ev.ite_true (by omega) (Ev.ite_true (by omega) ?_))
      refine ih (i + 1) (j + 1) _ (by omega) (by omega) (by simpa using hl) ?_ ?_
      · rw [zdC l i _ (by omega), h1, e2, if_pos c, e]
      · rw [List.drop_set_of_lt (by omega)]; exact h3
    · refine Ev.ite_true (by rw [e]; simpa [nz] using c) ?_
      exact ih i (j + 1) l (by omega) (by omega) hl (by rw [h1, e2, if_neg c, List.append_nil]) h3
theorem zho (l : List S48) (hl : l.length ≤ 4398046511104) : Ev (fun k => zaj.f k l) (l.filter nz) := by
  obtain ⟨r, h1, h2⟩ := zkh l hl l.length 0 (by omega) (fun j _ h => by omega)
  simp only [zaj.f, zam.f]
  refine Ev.bind h1 ?_
  rcases h2 with ⟨rfl, h⟩ | ⟨m, rfl, hm, hz, h⟩
  · refine Ev.ite_true rfl ?_
    rw [List.filter_eq_self.2 (fun x hx => by obtain ⟨j, hj, rfl⟩ := List.getElem_of_mem hx; exact h j hj)]
    exact Ev.now _
  · refine Ev.ite_false (by omega) ?_
    rw [wr1 (by omega)]
    have e : (l.take m).filter nz = l.take m := List.filter_eq_self.2 (fun x hx => by
      obtain ⟨j, hj, rfl⟩ := List.getElem_of_mem hx
      simp only [List.length_take] at hj
      rw [List.getElem_take]
      exact h j (by omega) (by omega))
    refine zkl l hl (l.length - (m + 1)) m (m + 1) l (by omega) (by omega) rfl ?_ rfl
    rw [List.take_succ_eq_append_getElem hm, List.filter_append, e]
    simp [hz]
def val (l : List Int) : Int := if l.length ≤ 1 then l.sum else wrap64 l.sum
theorem val_one (a : Int) : val [a] = a := by simp [val]
theorem wsum (a b : Int) : wrap64 (wrap64 a + b) = wrap64 (a + b) := by unfold wrap64; omega
theorem zi3 (l : List Int) (h : l ≠ []) (a : Int) : val (l ++ [a]) = wrap64 (val l + a) := by
  have hl : 0 < l.length := List.length_pos_iff.2 h
  unfold val
  rw [if_neg (by simp; omega), List.sum_append]
  simp only [List.sum_cons, List.sum_nil, Int.add_zero]
  split
  · rfl
  · rw [wsum]
theorem zi4 {a b : List Int} (h : a.Perm b) : val a = val b := by
  unfold val
  rw [h.length_eq, zdm h]
def fat (w : List Int) (l : List S48) : List Int := (l.filter fun x => decide (x.f0 = w)).map fun x => x.f1
theorem zcP (w : List Int) (a b : List S48) : fat w (a ++ b) = fat w a ++ fat w b := by simp [fat]
theorem zc3 (x : S48) : fat x.f0 [x] = [x.f1] := by simp [fat]
theorem zcH {w : List Int} {x : S48} (h : x.f0 ≠ w) : fat w [x] = [] := by simp [fat, h]
theorem zdT {w : List Int} {l : List S48} (h : ∀ x ∈ l, x.f0 ≠ w) : fat w l = [] := by
  have : (l.filter fun x => decide (x.f0 = w)) = [] := List.filter_eq_nil_iff.2 (fun x hx => by simpa using h x hx)
  simp [fat, this]
theorem zk1 {w : List Int} {l : List S48} {x : S48} (hx : x ∈ l) (h : x.f0 = w) : fat w l ≠ [] := by
  intro e
  have : x.f1 ∈ fat w l := List.mem_map.2 ⟨x, List.mem_filter.2 ⟨hx, by simpa using h⟩, rfl⟩
  rw [e] at this
  cases this
theorem zjr {a b : List S48} (h : a.Perm b) (w : List Int) : (fat w a).Perm (fat w b) := (h.filter _).map _
def Desc (l : List S48) : Prop := l.Pairwise fun x y => cmpL y.f0 x.f0 < 0
structure Can (l out : List S48) : Prop where
  ord : Desc out
  val : ∀ x ∈ out, x.f1 = val (fat x.f0 l)
  sub : ∀ x ∈ out, ∃ y ∈ l, y.f0 = x.f0
  all : ∀ y ∈ l, ∃ x ∈ out, x.f0 = y.f0
theorem Can.perm {a b out : List S48} (h : Can a out) (p : a.Perm b) : Can b out := ⟨h.ord, fun x hx => (h.val x hx).trans (zi4 (zjr p _)), fun x hx => by
  obtain ⟨y, hy, e⟩ := h.sub x hx
  exact ⟨y, p.mem_iff.1 hy, e⟩, fun y hy => h.all y (p.mem_iff.2 hy)⟩
theorem Can.nil : Can [] [] := ⟨List.Pairwise.nil, fun x h => (by cases h), fun x h => (by cases h), fun y h => (by cases h)⟩
theorem zcA (p : List Int) : ¬ cmpL p p < 0 := by rw [zgo]; omega
theorem zjN {p q : List Int} (h : LeL p q) (hne : p ≠ q) : cmpL p q < 0 := by
  unfold LeL at h
  by_cases e : cmpL p q = 0
  · exact absurd (zgn p q e) hne
  · omega
theorem ziv {p q r : List Int} (h1 : cmpL p q < 0) (h2 : LeL q r) : cmpL p r < 0 := by
  refine zjN (zci (zdB h1) h2) (fun e => ?_)
  subst e
  unfold LeL at h2
  rw [zcB] at h2
  omega
theorem zjb (l : List S48) (a x : S48) : (l ++ [a]).set l.length x = l ++ [x] := by
  rw [List.set_append_right _ _ (Nat.le_refl _), Nat.sub_self]; rfl
theorem Can.same {l out : List S48} {a m : S48} (h : Can l (out ++ [a])) (e : a.f0 = m.f0) : Can (l ++ [m]) (out ++ [(⟨a.f0, wrap64 (a.f1 + m.f1)⟩ : S48)]) := by
  have ho := h.ord
  unfold Desc at ho
  rw [List.pairwise_append] at ho
  obtain ⟨o1, _, o3⟩ := ho
  refine ⟨?_, fun x hx => ?_, fun x hx => ?_, fun y hy => ?_⟩
  · unfold Desc
    rw [List.pairwise_append]
    refine ⟨o1, List.pairwise_singleton _ _, fun x hx y hy => ?_⟩
    rw [List.mem_singleton.1 hy]
    exact o3 x hx a (List.mem_singleton_self _)
  · rcases List.mem_append.1 hx with hx | hx
    · have hne : m.f0 ≠ x.f0 := fun e2 => by
        have := o3 x hx a (List.mem_singleton_self _)
        rw [e, e2] at this
        exact zcA _ this
      rw [zcP, zcH hne, List.append_nil]
      exact h.val x (List.mem_append_left _ hx)
    · rw [List.mem_singleton.1 hx]
      show wrap64 (a.f1 + m.f1) = Pure.val (fat a.f0 (l ++ [m]))
      have ha := h.val a (List.mem_append_right _ (List.mem_singleton_self _))
      obtain ⟨y, hy, hye⟩ := h.sub a (List.mem_append_right _ (List.mem_singleton_self _))
      rw [zcP, show fat a.f0 [m] = [m.f1] by rw [e]; exact zc3 m, zi3 _ (zk1 hy hye), ← ha]
  · rcases List.mem_append.1 hx with hx | hx
    · obtain ⟨y, hy, e2⟩ := h.sub x (List.mem_append_left _ hx)
      exact ⟨y, List.mem_append_left _ hy, e2⟩
    · rw [List.mem_singleton.1 hx]
      exact ⟨m, List.mem_append_right _ (List.mem_singleton_self _), e.symm⟩
  · rcases List.mem_append.1 hy with hy | hy
    · obtain ⟨x, hx, e2⟩ := h.all y hy
      rcases List.mem_append.1 hx with hx | hx
      · exact ⟨x, List.mem_append_left _ hx, e2⟩
      · rw [List.mem_singleton.1 hx] at e2
        exact ⟨_, List.mem_append_right _ (List.mem_singleton_self _), e2⟩
    · rw [List.mem_singleton.1 hy]
      exact ⟨_, List.mem_append_right _ (List.mem_singleton_self _), e⟩
theorem Can.snoc {l out : List S48} {m m' : S48} (h : Can l out) (hlt : ∀ x ∈ out, cmpL m.f0 x.f0 < 0) (e0 : m'.f0 = m.f0) (e1 : m'.f1 = m.f1) : Can (l ++ [m]) (out ++ [m']) := by
  have hm : ∀ y ∈ l, y.f0 ≠ m.f0 := fun y hy e => by
    obtain ⟨x, hx, e2⟩ := h.all y hy
    have := hlt x hx
    rw [e2, e] at this
    exact zcA _ this
  refine ⟨?_, fun x hx => ?_, fun x hx => ?_, fun y hy => ?_⟩
  · unfold Desc
    rw [List.pairwise_append]
    refine ⟨h.ord, List.pairwise_singleton _ _, fun x hx y hy => ?_⟩
    rw [List.mem_singleton.1 hy, e0]
    exact hlt x hx
  · rcases List.mem_append.1 hx with hx | hx
    · have hne : m.f0 ≠ x.f0 := fun e2 => by
        have := hlt x hx
        rw [e2] at this
        exact zcA _ this
      rw [zcP, zcH hne, List.append_nil]
      exact h.val x hx
    · rw [List.mem_singleton.1 hx, e0, e1, zcP, zdT hm, List.nil_append, zc3, val_one]
  · rcases List.mem_append.1 hx with hx | hx
    · obtain ⟨y, hy, e2⟩ := h.sub x hx
      exact ⟨y, List.mem_append_left _ hy, e2⟩
    · rw [List.mem_singleton.1 hx]
      exact ⟨m, List.mem_append_right _ (List.mem_singleton_self _), e0.symm⟩
  · rcases List.mem_append.1 hy with hy | hy
    · obtain ⟨x, hx, e2⟩ := h.all y hy
      exact ⟨x, List.mem_append_left _ hx, e2⟩
    · rw [List.mem_singleton.1 hy]
      exact ⟨_, List.mem_append_right _ (List.mem_singleton_self _), e0⟩
theorem Desc.filter {l : List S48} (h : Desc l) (p : S48 → Bool) : Desc (l.filter p) := List.Pairwise.filter p h
theorem zeA {l : List S48} {n : Nat} (h : Desc l) (hn : ∀ x ∈ l, x.f0.length = n) : zeb l = true := by
  induction l with
  | nil => rfl
  | cons x l ih =>
    unfold Desc at h
    rw [List.pairwise_cons] at h
    simp only [zeb, Bool.and_eq_true, List.all_eq_true, decide_eq_true_eq, Bool.not_eq_true', decide_eq_false_iff_not]
    refine ⟨fun y hy => ⟨?_, fun e => ?_⟩, ih h.2 (fun y hy => hn y (List.mem_cons_of_mem _ hy))⟩
    · rw [hn x List.mem_cons_self, hn y (List.mem_cons_of_mem _ hy)]
    · have := h.1 y hy
      rw [e] at this
      exact zcA _ this
theorem zgH : ∀ {a b : List S48}, Desc a → Desc b → (∀ x, x ∈ a ↔ x ∈ b) → a = b
  | [], [], _, _, _ => rfl
  | [], y :: b, _, _, h => absurd ((h y).2 List.mem_cons_self) (by simp)
  | x :: a, [], _, _, h => absurd ((h x).1 List.mem_cons_self) (by simp)
  | x :: a, y :: b, ha, hb, h => by
    unfold Desc at ha hb
    rw [List.pairwise_cons] at ha hb
    have e : x = y := by
      rcases List.mem_cons.1 ((h x).1 List.mem_cons_self) with e | e
      · exact e
      · rcases List.mem_cons.1 ((h y).2 List.mem_cons_self) with e2 | e2
        · exact e2.symm
        · have q1 := hb.1 x e
          have q2 := ha.1 y e2
          rw [zcB] at q2
          omega
    subst e
    have nx : ∀ z, (z ∈ a → z ≠ x) := fun z hz e => by
      subst e
      exact zcA _ (ha.1 z hz)
    have ny : ∀ z, (z ∈ b → z ≠ x) := fun z hz e => by
      subst e
      exact zcA _ (hb.1 z hz)
    rw [zgH ha.2 hb.2 (fun z => ⟨fun hz => ((List.mem_cons.1 ((h z).1 (List.mem_cons_of_mem _ hz))).resolve_left (nx z hz)), fun hz => ((List.mem_cons.1 ((h z).2 (List.mem_cons_of_mem _ hz))).resolve_left (ny z hz))⟩)]
theorem Can.uniq {l a b : List S48} (ha : Can l a) (hb : Can l b) : a = b := by
  refine zgH ha.ord hb.ord (fun x => ⟨fun hx => ?_, fun hx => ?_⟩)
  · obtain ⟨y, hy, e⟩ := ha.sub x hx
    obtain ⟨z, hz, e2⟩ := hb.all y hy
    have e3 : z = x := by
      have q1 := ha.val x hx
      have q2 := hb.val z hz
      rw [e2, e] at q2
      cases z; cases x
      simp only [S48.mk.injEq] at *
      exact ⟨e2.trans e, q2.trans q1.symm⟩
    exact e3 ▸ hz
  · obtain ⟨y, hy, e⟩ := hb.sub x hx
    obtain ⟨z, hz, e2⟩ := ha.all y hy
    have e3 : z = x := by
      have q1 := hb.val x hx
      have q2 := ha.val z hz
      rw [e2, e] at q2
      cases z; cases x
      simp only [S48.mk.injEq] at *
      exact ⟨e2.trans e, q2.trans q1.symm⟩
    exact e3 ▸ hz
theorem zjx (v : Int) (xs : List S48) (hx : okS xs) (hs : SO xs 0 xs.length) (nn : Nat) (hnn : ∀ x ∈ xs, x.f0.length = nn) (d : Nat) : ∀ (i : Nat) (out : List S48), i + d = xs.length → out.length ≤ i → Can (xs.take i) out → (0 < i → ∃ o a, out = o ++ [a] ∧ a.f0 = G xs (i - 1)) →
    ∃ r : List S48, Ev (fun k => zav.l0 k xs xs.length i v out) (v, r.filter nz) ∧ Can xs r ∧ r.length ≤ xs.length := by
  induction d with
  | zero =>
    intro i out hi ho hc hl
    have h9 := hx.1
    rw [List.take_of_length_le (by omega)] at hc
    have hd : zeb (out.filter nz) = true := zeA (n := nn) (hc.ord.filter _) (fun x h => by
      obtain ⟨y, hy, e⟩ := hc.sub x (List.mem_filter.1 h).1
      rw [← e]; exact hnn y hy)
    exact ⟨out, Ev.step (fun k => by rw [zav.l0]) (Ev.ite_false (by omega) (Ev.bind (zho out (by omega)) (Ev.ite_true hd (Ev.now _)))), hc, by omega⟩
  | succ d ih =>
    intro i out hi ho hc hl
    have h9 := hx.1
    have hlt : i < xs.length := by omega
    have hm := hx.2 _ (List.getElem_mem hlt)
    have tk : xs.take (i + 1) = xs.take i ++ [xs[i]] := List.take_succ_eq_append_getElem hlt
    have gi : xs[i].f0 = G xs i := G_eq xs i hlt
    have cl : Ev (fun k => za6.f xs[i].f0) xs[i].f0 := ⟨0, fun _ _ => ziJ _ (by omega)⟩
    -- one more behind
    have add : (∀ x ∈ out, cmpL xs[i].f0 x.f0 < 0) → ∃ r : List S48, Ev (fun k => (za6.f xs[i].f0).bind fun t => if out.length < 4398046511104 then zav.l0 k xs xs.length ((i + 1 : Nat) : Int) v (out ++ [(⟨t, xs[i].f1⟩ : S48)]) else none) (v, r.filter nz) ∧ Can xs r ∧ r.length ≤ xs.length := by
      intro hlt2
      obtain ⟨r, r1, r2, r3⟩ := ih (i + 1) (out ++ [(⟨xs[i].f0, xs[i].f1⟩ : S48)]) (by omega) (by simp; omega) (by rw [tk]; exact hc.snoc hlt2 rfl rfl) (fun _ => ⟨out, _, rfl, by simpa using gi⟩)
      exact ⟨r, Ev.bind cl (Ev.ite_true (by omega) r1), r2, r3⟩
    have w1 : wrap64 ((i : Int) + 1) = ((i + 1 : Nat) : Int) := wr1 (by omega)
    by_cases h0 : i = 0
    · have e : out = [] := List.length_eq_zero_iff.1 (by omega)
      subst e
      obtain ⟨r, r1, r2⟩ := add (fun x hx => by cases hx)
      refine ⟨r, Ev.step (fun k => by rw [zav.l0]) (Ev.ite_true (by omega) (Ev.ite_true (by omega) (Ev.ite_true (by omega) (Ev.ite_false (by simp [wrap64]) ?_)))), r2⟩
      rw [zbY xs i hlt, w1]
      exact r1
    · obtain ⟨o, a, rfl, ea⟩ := hl (by omega)
      have hlen : (o ++ [a]).length = o.length + 1 := by simp
      rw [hlen] at ho
      have wl : wrap64 (((o ++ [a]).length : Int) - 1) = ((o.length : Nat) : Int) := by rw [hlen]; unfold wrap64; omega
      have hla : (o ++ [a])[o.length]'(by omega) = a := by simp
      have hle : LeL xs[i].f0 a.f0 := by rw [gi, ea]; exact hs (i - 1) i (by omega) (by omega) hlt
      have hal : a.f0.length ≤ 1048576 := by
        obtain ⟨y, hy, e⟩ := hc.sub a (List.mem_append_right _ (List.mem_singleton_self _))
        rw [← e]; exact hx.2 y (List.mem_of_mem_take hy)
      have heq := zjt a.f0 xs[i].f0 hal
      by_cases e : a.f0 = xs[i].f0
      · obtain ⟨r, r1, r2, r3⟩ := ih (i + 1) (o ++ [(⟨a.f0, wrap64 (a.f1 + xs[i].f1)⟩ : S48)]) (by omega) (by simp; omega) (by rw [tk]; exact hc.same e) (fun _ => ⟨o, _, rfl, by simpa [e] using gi⟩)
        refine ⟨r, Ev.step (fun k => by rw [zav.l0]) (Ev.ite_true (by omega) (Ev.ite_true (by omega) (Ev.ite_true (by omega) ?_))), r2, r3⟩
        rw [wl, zbY xs i hlt, zbY (o ++ [a]) o.length (by omega), hla, w1, Int.toNat_natCast, zjb]
        refine Ev.ite_true (by omega) (Ev.ite_true (by omega) (Ev.ite_true (by omega) (Ev.bind heq ?_)))
        exact Ev.ite_true (by simpa using e) r1
      · obtain ⟨r, r1, r2⟩ := add (fun x hx2 => by
          have q : cmpL xs[i].f0 a.f0 < 0 := zjN hle (fun h => e h.symm)
          rcases List.mem_append.1 hx2 with h | h
          · have := hc.ord
            unfold Desc at this
            rw [List.pairwise_append] at this
            exact ziv q (zdB (this.2.2 x h a (List.mem_singleton_self _)))
          · rw [List.mem_singleton.1 h]; exact q)
        refine ⟨r, Ev.step (fun k => by rw [zav.l0]) (Ev.ite_true (by omega) (Ev.ite_true (by omega) (Ev.ite_true (by omega) ?_))), r2⟩
        rw [wl, zbY xs i hlt, zbY (o ++ [a]) o.length (by omega), hla, w1]
        refine Ev.ite_true (by omega) (Ev.ite_true (by omega) (Ev.ite_true (by omega) (Ev.bind heq ?_)))
        exact Ev.ite_false (by simpa using e) r1
theorem zg6 (v : Int) (l : List S48) (hl : okS l) (hlen : l.length < 4398046511104) (nn : Nat) (hnn : ∀ x ∈ l, x.f0.length = nn) : ∃ r : List S48, Ev (fun k => zav.f k v l) (v, r.filter nz) ∧ Can l r ∧ r.length ≤ l.length := by
  obtain ⟨s, s1, s2, s3⟩ := zj l hl
  have hs := zcG hl s2
  rw [← s2.length_eq] at s3
  obtain ⟨r, r1, r2, r3⟩ := zjx v s hs s3 nn (fun x hx => hnn x (s2.mem_iff.1 hx)) s.length 0 [] (by omega) (by simp) Can.nil (fun h => by omega)
  refine ⟨r, ?_, r2.perm s2, by rw [← s2.length_eq]; exact r3⟩
  simp only [zav.f]
  refine Ev.bind (a := l) ?_ (Ev.bind s1 ?_)
  · simp only [zbS.f, Option.bind_some, List.nil_append, List.length_nil, Nat.zero_add, if_pos hlen]
    exact Ev.now _
  · rw [← s2.length_eq]; exact r1
def isPF (prev s : Int) : List Int → Bool
  | [] => true
  | x :: xs => if 1 ≤ x ∧ x ≤ 9 ∧ x ≤ prev ∧ s + x ≤ 9 then isPF x (s + x) xs else false
def isP (l : List Int) : Bool := isPF 9 0 l
def genP : Nat → Nat → Nat → List (List Int)
  | 0, _, _ => [[]]
  | n + 1, prev, s => [] :: (List.range' 1 (min prev (9 - s))).flatMap fun x => (genP n x (s + x)).map fun r => (x : Int) :: r
theorem zg0 : ∀ (n prev s : Nat) (l : List Int), 9 < n + s → s ≤ 9 → isPF prev s l = true → l ∈ genP n prev s
  | 0, prev, s, l, h1, h2, _ => by omega
  | n + 1, prev, s, [], _, _, _ => by simp [genP]
  | n + 1, prev, s, x :: xs, h1, h2, h => by
    simp only [isPF] at h
    split at h
    · rename_i hc
      obtain ⟨c1, c2, c3, c4⟩ := hc
      obtain ⟨m, rfl⟩ : ∃ m : Nat, x = (m : Int) := ⟨x.toNat, by omega⟩
      have e : (s : Int) + (m : Int) = ((s + m : Nat) : Int) := by omega
      rw [e] at h
      have ih := zg0 n m (s + m) xs (by omega) (by omega) h
      simp only [genP, List.mem_cons, List.mem_flatMap]
      refine Or.inr ⟨m, ?_, ?_⟩
      · simp only [List.mem_range'_1]; omega
      · exact List.mem_map.2 ⟨xs, ih, rfl⟩
    · cases h
def allP : List (List Int) := genP 10 9 0
theorem zdp {l : List Int} (h : isP l = true) : l ∈ allP := zg0 10 9 0 l (by omega) (by omega) h
theorem ze5 : ∀ (l : List Int) (prev s : Int), isPF prev s l = true → s + l.length ≤ 9 ∨ l = []
  | [], _, _, _ => .inr rfl
  | x :: xs, prev, s, h => by
    simp only [isPF] at h
    split at h
    · rename_i hc
      rcases ze5 xs x (s + x) h with h1 | rfl
      · left; simp only [List.length_cons]; omega
      · left; simp; omega
    · cases h
theorem zhj {l : List Int} (h : isP l = true) : l.length ≤ 9 := by
  rcases ze5 l 9 0 h with h | rfl
  · omega
  · simp
theorem drop_cons (l : List Int) (i : Nat) (h : i < l.length) : l.drop i = l[i] :: l.drop (i + 1) := List.drop_eq_getElem_cons h
def zcS (l : List Int) (i : Nat) : Int := if i = 0 then 9 else l.getD (i - 1) 0
theorem ze1 (l : List Int) (i : Nat) (h : i < l.length) : zcS l (i + 1) = l[i] := by simp [zcS, h]
def inR : List Int → List Int → Bool
  | [], _ => true
  | _ :: _, [] => false
  | x :: xs, y :: ys => decide (x ≤ y) && inR xs ys
def hsR (p q : List Int) : Bool := inR p q && inR q.tail p
theorem zge : ∀ (a b c : List Int), inR a b = true → inR b c = true → inR a c = true
  | [], _, _, _, _ => rfl
  | _ :: _, [], _, h, _ => by simp [inR] at h
  | _ :: _, _ :: _, [], _, h => by simp [inR] at h
  | x :: a, y :: b, z :: c, h1, h2 => by
    simp only [inR, Bool.and_eq_true, decide_eq_true_eq] at h1 h2 ⊢
    exact ⟨by omega, zge a b c h1.2 h2.2⟩
def zeH (q : List Int) : Bool := allP.all fun p => decide (zaL.f 60 p q = some (inR p q)) && decide (zaJ.f 60 p q = some (inR p q))
def zeE (q : List Int) : Bool := (List.range 10).all fun k => !decide ((k : Int) ≤ q.sum) || match zbe.f 300 q (k : Int) with
  | some L => L.isPerm ((allP.filter fun p => hsR p q).filter fun p => decide (p.sum = q.sum - (k : Int)))
  | none => false
def zhD : List (List Int) → Option (List (List Int))
  | [] => some []
  | x :: L => match zbj.f 30 x, zhD L with
    | some y, some M => some (y :: M)
    | _, _ => none
def zdl (o : List Int) : Bool := allP.all fun p => !inR p o || (List.range 10).all fun k => !decide ((k : Int) ≤ o.sum - p.sum) || match zaw.f 300 p o (k : Int) 0 with
  | some L => decide (L.length ≤ 1000) && match zhD L with
    | some M => M.isPerm ((allP.filter fun q => hsR p q && inR q o).filter fun q => decide (q.sum = p.sum + (k : Int)))
    | none => false
  | none => false
set_option maxRecDepth 100000 in
theorem zjf : ((allP.drop 0).take 10).all zeH = true := by decide +kernel
set_option maxRecDepth 100000 in
theorem zim : ((allP.drop 10).take 10).all zeH = true := by decide +kernel
set_option maxRecDepth 100000 in
theorem zil : ((allP.drop 20).take 10).all zeH = true := by decide +kernel
set_option maxRecDepth 100000 in
theorem zik : ((allP.drop 30).take 10).all zeH = true := by decide +kernel
set_option maxRecDepth 100000 in
theorem zij : ((allP.drop 40).take 10).all zeH = true := by decide +kernel
set_option maxRecDepth 100000 in
theorem zii : ((allP.drop 50).take 10).all zeH = true := by decide +kernel
set_option maxRecDepth 100000 in
theorem zih : ((allP.drop 60).take 10).all zeH = true := by decide +kernel
set_option maxRecDepth 100000 in
theorem zig : ((allP.drop 70).take 10).all zeH = true := by decide +kernel
set_option maxRecDepth 100000 in
theorem zif : ((allP.drop 80).take 10).all zeH = true := by decide +kernel
set_option maxRecDepth 100000 in
theorem zie : ((allP.drop 90).take 10).all zeH = true := by decide +kernel
set_option maxRecDepth 100000 in
theorem zkZ : allP.all zeH = true := by
  have e : allP = ((allP.drop 0).take 10 ++ ((allP.drop 10).take 10 ++ ((allP.drop 20).take 10 ++ ((allP.drop 30).take 10 ++ ((allP.drop 40).take 10 ++ ((allP.drop 50).take 10 ++ ((allP.drop 60).take 10 ++ ((allP.drop 70).take 10 ++ ((allP.drop 80).take 10 ++ ((allP.drop 90).take 10 ++ [])))))))))) := by decide +kernel
  rw [e]
  simp only [List.all_append, List.all_nil, Bool.and_true, zjf, zim, zil, zik, zij, zii, zih, zig, zif, zie]
set_option maxRecDepth 100000 in
theorem zje : ((allP.drop 0).take 10).all zeE = true := by decide +kernel
set_option maxRecDepth 100000 in
theorem zid : ((allP.drop 10).take 10).all zeE = true := by decide +kernel
set_option maxRecDepth 100000 in
theorem zic : ((allP.drop 20).take 10).all zeE = true := by decide +kernel
set_option maxRecDepth 100000 in
theorem zib : ((allP.drop 30).take 10).all zeE = true := by decide +kernel
set_option maxRecDepth 100000 in
theorem zia : ((allP.drop 40).take 10).all zeE = true := by decide +kernel
set_option maxRecDepth 100000 in
theorem zi : ((allP.drop 50).take 10).all zeE = true := by decide +kernel
set_option maxRecDepth 100000 in
theorem zh9 : ((allP.drop 60).take 10).all zeE = true := by decide +kernel
set_option maxRecDepth 100000 in
theorem zh8 : ((allP.drop 70).take 10).all zeE = true := by decide +kernel
set_option maxRecDepth 100000 in
theorem zh7 : ((allP.drop 80).take 10).all zeE = true := by decide +kernel
set_option maxRecDepth 100000 in
theorem zh6 : ((allP.drop 90).take 10).all zeE = true := by decide +kernel
set_option maxRecDepth 100000 in
theorem zkS : allP.all zeE = true := by
  have e : allP = ((allP.drop 0).take 10 ++ ((allP.drop 10).take 10 ++ ((allP.drop 20).take 10 ++ ((allP.drop 30).take 10 ++ ((allP.drop 40).take 10 ++ ((allP.drop 50).take 10 ++ ((allP.drop 60).take 10 ++ ((allP.drop 70).take 10 ++ ((allP.drop 80).take 10 ++ ((allP.drop 90).take 10 ++ [])))))))))) := by decide +kernel
  rw [e]
  simp only [List.all_append, List.all_nil, Bool.and_true, zje, zid, zic, zib, zia, zi, zh9, zh8, zh7, zh6]
set_option maxRecDepth 100000 in
theorem zjd : ((allP.drop 0).take 5).all zdl = true := by decide +kernel
set_option maxRecDepth 100000 in
theorem zjc : ((allP.drop 5).take 5).all zdl = true := by decide +kernel
set_option maxRecDepth 100000 in
theorem zh5 : ((allP.drop 10).take 5).all zdl = true := by decide +kernel
set_option maxRecDepth 100000 in
theorem zh4 : ((allP.drop 15).take 5).all zdl = true := by decide +kernel
set_option maxRecDepth 100000 in
theorem zh3 : ((allP.drop 20).take 5).all zdl = true := by decide +kernel
set_option maxRecDepth 100000 in
theorem zh2 : ((allP.drop 25).take 5).all zdl = true := by decide +kernel
set_option maxRecDepth 100000 in
theorem zh1 : ((allP.drop 30).take 5).all zdl = true := by decide +kernel
set_option maxRecDepth 100000 in
theorem zh0 : ((allP.drop 35).take 5).all zdl = true := by decide +kernel
set_option maxRecDepth 100000 in
theorem zhZ : ((allP.drop 40).take 5).all zdl = true := by decide +kernel
set_option maxRecDepth 100000 in
theorem zhY : ((allP.drop 45).take 5).all zdl = true := by decide +kernel
set_option maxRecDepth 100000 in
theorem zhX : ((allP.drop 50).take 5).all zdl = true := by decide +kernel
set_option maxRecDepth 100000 in
theorem zhW : ((allP.drop 55).take 5).all zdl = true := by decide +kernel
set_option maxRecDepth 100000 in
theorem zhV : ((allP.drop 60).take 5).all zdl = true := by decide +kernel
set_option maxRecDepth 100000 in
theorem zhU : ((allP.drop 65).take 5).all zdl = true := by decide +kernel
set_option maxRecDepth 100000 in
theorem zhT : ((allP.drop 70).take 5).all zdl = true := by decide +kernel
set_option maxRecDepth 100000 in
theorem zhS : ((allP.drop 75).take 5).all zdl = true := by decide +kernel
set_option maxRecDepth 100000 in
theorem zhR : ((allP.drop 80).take 5).all zdl = true := by decide +kernel
set_option maxRecDepth 100000 in
theorem zhQ : ((allP.drop 85).take 5).all zdl = true := by decide +kernel
set_option maxRecDepth 100000 in
theorem zhP : ((allP.drop 90).take 5).all zdl = true := by decide +kernel
set_option maxRecDepth 100000 in
theorem zhO : ((allP.drop 95).take 5).all zdl = true := by decide +kernel
set_option maxRecDepth 100000 in
theorem zkQ : allP.all zdl = true := by
  have e : allP = ((allP.drop 0).take 5 ++ ((allP.drop 5).take 5 ++ ((allP.drop 10).take 5 ++ ((allP.drop 15).take 5 ++ ((allP.drop 20).take 5 ++ ((allP.drop 25).take 5 ++ ((allP.drop 30).take 5 ++ ((allP.drop 35).take 5 ++ ((allP.drop 40).take 5 ++ ((allP.drop 45).take 5 ++ ((allP.drop 50).take 5 ++ ((allP.drop 55).take 5 ++ ((allP.drop 60).take 5 ++ ((allP.drop 65).take 5 ++ ((allP.drop 70).take 5 ++ ((allP.drop 75).take 5 ++ ((allP.drop 80).take 5 ++ ((allP.drop 85).take 5 ++ ((allP.drop 90).take 5 ++ ((allP.drop 95).take 5 ++ [])))))))))))))))))))) := by decide +kernel
  rw [e]
  simp only [List.all_append, List.all_nil, Bool.and_true, zjd, zjc, zh5, zh4, zh3, zh2, zh1, zh0, zhZ, zhY, zhX, zhW, zhV, zhU, zhT, zhS, zhR, zhQ, zhP, zhO]
theorem zg2 : ∀ a : List Int, inR a a = true
  | [] => rfl
  | x :: a => by simp [inR, zg2 a]
def sumN {α : Type} (l : List α) (f : α → Nat) : Nat := (l.map f).sum
theorem zgW {α : Type} (f : α → Nat) : sumN [] f = 0 := rfl
theorem zck {α : Type} (x : α) (l : List α) (f : α → Nat) : sumN (x :: l) f = f x + sumN l f := by simp [sumN]
theorem zf4 {α : Type} {a b : List α} (h : a.Perm b) (f : α → Nat) : sumN a f = sumN b f := (h.map f).sum_nat
theorem zcn {α : Type} {l : List α} {f g : α → Nat} (h : ∀ x ∈ l, f x = g x) : sumN l f = sumN l g := by
  unfold sumN; rw [List.map_congr_left h]
theorem zfJ {α : Type} (f g : α → Nat) : ∀ l : List α, sumN l (fun x => f x + g x) = sumN l f + sumN l g
  | [] => rfl
  | x :: l => by rw [zck, zck, zck, zfJ f g l]; omega
theorem zdL {α : Type} : ∀ l : List α, sumN l (fun _ => 0) = 0
  | [] => rfl
  | x :: l => by rw [zck, zdL l]
theorem zf3 {α β : Type} (f : α → β → Nat) (m : List β) : ∀ l : List α, sumN l (fun x => sumN m (fun y => f x y)) = sumN m (fun y => sumN l (fun x => f x y))
  | [] => (zdL m).symm
  | x :: l => by
    rw [zck, zf3 f m l, ← zfJ]
    exact zcn (fun y _ => (zck x l (fun x => f x y)).symm)
theorem zcr {α : Type} (p : α → Bool) (f : α → Nat) : ∀ l : List α, sumN (l.filter p) f = sumN l (fun x => if p x = true then f x else 0)
  | [] => rfl
  | x :: l => by
    by_cases h : p x = true
    · rw [List.filter_cons_of_pos h, zck, zck, if_pos h, zcr p f l]
    · rw [List.filter_cons_of_neg h, zck, if_neg h, zcr p f l, Nat.zero_add]
theorem zfI {α : Type} [DecidableEq α] (a : α) (f : α → Nat) : ∀ l : List α, l.Nodup → a ∈ l → sumN l (fun x => if x = a then f x else 0) = f a
  | x :: l, hn, ha => by
    rw [List.nodup_cons] at hn
    rw [zck]
    by_cases h : x = a
    · subst h
      rw [if_pos rfl, zcn (g := fun _ => 0) (fun y hy => if_neg (show ¬ y = x from fun e => hn.1 (e ▸ hy))), zdL, Nat.add_zero]
    · rw [if_neg h, Nat.zero_add]
      exact zfI a f l hn.2 ((List.mem_cons.1 ha).resolve_left (fun e => h e.symm))
theorem zfw : allP.Nodup := by decide +kernel
theorem zhd {α : Type} (g : α → Nat) (f : α → Nat) (F : List α) (j : Nat) : sumN (F.filter fun x => decide (g x < j + 1)) f = sumN (F.filter fun x => decide (g x < j)) f + sumN (F.filter fun x => decide (g x = j)) f := by
  rw [zcr, zcr, zcr, ← zfJ]
  refine zcn (fun x _ => ?_)
  simp only [decide_eq_true_eq]
  by_cases h : g x < j
  · rw [if_pos (by omega), if_pos h, if_neg (by omega)]; omega
  · by_cases h2 : g x = j
    · rw [if_pos (by omega), if_neg h, if_pos h2]; omega
    · rw [if_neg (by omega), if_neg h, if_neg h2]
theorem zel {p : List Int} (h : p ∈ allP) : 0 ≤ p.sum ∧ p.sum ≤ 9 := by
  have a : allP.all (fun p => decide (0 ≤ p.sum ∧ p.sum ≤ 9)) = true := by decide +kernel
  exact of_decide_eq_true (zdo a h)
theorem zct {p : List Int} (h : p ∈ allP) : isP p = true := by
  have a : allP.all (fun p => isP p) = true := by decide +kernel
  exact zdo a h
set_option maxRecDepth 100000 in
theorem zkg : (allP.all fun q => allP.all fun p => !inR p q || (decide (p.sum ≤ q.sum) && (!decide (p.sum = q.sum) || decide (p = q)))) = true := by decide +kernel
theorem zfs {p q : List Int} (hp : p ∈ allP) (hq : q ∈ allP) (h : inR p q = true) : p.sum ≤ q.sum ∧ (p.sum = q.sum → p = q) := by
  have a := zdo (zdo zkg hq) hp
  rw [h] at a
  simp only [Bool.not_true, Bool.false_or, Bool.and_eq_true, Bool.or_eq_true, Bool.not_eq_true', decide_eq_false_iff_not, decide_eq_true_eq] at a
  exact ⟨a.1, fun e => a.2.resolve_left (fun n => n e)⟩
def zdJ (k : Int) (a b : List Int) : Bool := hsR a b && decide (a.sum + k = b.sum)
def cB : List Int → List Int → List Int → Nat
  | [], p, q => if p = q then 1 else 0
  | k :: ws, p, q => sumN allP (fun r => if zdJ k p r = true then cB ws r q else 0)
theorem zhL {α : Type} (l : List α) (c : Prop) [Decidable c] (f : α → Nat) : (if c then sumN l f else 0) = sumN l (fun x => if c then f x else 0) := by
  by_cases h : c
  · simp only [if_pos h]
  · simp only [if_neg h]; exact (zdL l).symm
theorem ziN (k : Int) : ∀ (ws p q : List Int), p ∈ allP → q ∈ allP → cB (ws ++ [k]) p q = sumN allP (fun r => if zdJ k r q = true then cB ws p r else 0)
  | [], p, q, hp, hq => by
    simp only [List.nil_append, cB]
    rw [zcn (g := fun r => if r = q then (if zdJ k p r = true then 1 else 0) else 0) (fun r _ => by
      by_cases h : r = q
      · subst h; simp
      · rw [if_neg h, if_neg h, ite_self]), zfI q (fun r => if zdJ k p r = true then 1 else 0) allP zfw hq]
    rw [zcn (g := fun r => if r = p then (if zdJ k r q = true then 1 else 0) else 0) (fun r _ => by
      by_cases h : r = p
      · subst h; simp
      · rw [if_neg h, if_neg (show ¬ p = r from fun e => h e.symm), ite_self]), zfI p (fun r => if zdJ k r q = true then 1 else 0) allP zfw hp]
  | w :: ws, p, q, hp, hq => by
    simp only [List.cons_append, cB]
    rw [zcn (g := fun r => sumN allP (fun s => if zdJ w p r = true then (if zdJ k s q = true then cB ws r s else 0) else 0)) (fun r hr => by
      rw [ziN k ws r q hr hq, zhL]), zf3]
    refine zcn (fun s _ => ?_)
    rw [zhL]
    refine zcn (fun r _ => ?_)
    by_cases h1 : zdJ w p r = true <;> by_cases h2 : zdJ k s q = true <;> simp [h1, h2]
theorem zhK {α : Type} (f : α → Nat) (c : Nat) : ∀ l : List α, (∀ x ∈ l, f x ≤ c) → sumN l f ≤ l.length * c
  | [], _ => by simp [sumN]
  | x :: l, h => by
    rw [zck, List.length_cons, Nat.succ_mul]
    have h1 := h x List.mem_cons_self
    have h2 := zhK f c l (fun y hy => h y (List.mem_cons_of_mem _ hy))
    omega
theorem zg8 : allP.length = 97 := by decide +kernel
theorem zko : ∀ (ws p q : List Int), cB ws p q ≤ 97 ^ ws.length
  | [], p, q => by
    simp only [cB, List.length_nil, Nat.pow_zero]
    split
    · exact Nat.le_refl 1
    · exact Nat.zero_le 1
  | k :: ws, p, q => by
    simp only [cB, List.length_cons, Nat.pow_succ]
    have := zhK (fun r => if zdJ k p r = true then cB ws r q else 0) (97 ^ ws.length) allP (fun r _ => by
      show (if zdJ k p r = true then cB ws r q else 0) ≤ _
      split
      · exact zko ws r q
      · exact Nat.zero_le _)
    rw [zg8] at this
    rw [Nat.mul_comm]
    exact this
theorem zi9 {α : Type} {l : List α} {f : α → Nat} (h : sumN l f ≠ 0) : ∃ x ∈ l, f x ≠ 0 := by
  refine Classical.byContradiction fun hc => h ?_
  rw [zcn (g := fun _ => 0) (fun x hx => Classical.byContradiction fun h2 => hc ⟨x, hx, h2⟩), zdL]
theorem zeO (q : List Int) (hq : q ∈ allP) (ws : List Int) : ∀ p : List Int, p ∈ allP → cB ws p q ≠ 0 → inR p q = true ∧ (∀ w ∈ ws, 0 ≤ w) ∧ p.sum + ws.sum = q.sum := by
  induction ws with
  | nil =>
    intro p _ h
    by_cases e : p = q
    · subst e
      exact ⟨zg2 p, fun w hw => (by cases hw), by rw [List.sum_nil, Int.add_zero]⟩
    · exact absurd (if_neg e) h
  | cons k ws ih =>
    intro p hp h
    obtain ⟨r, hr, h2⟩ := zi9 (l := allP) (f := fun r => if zdJ k p r = true then cB ws r q else 0) h
    by_cases h3 : zdJ k p r = true
    · have h4 : cB ws r q ≠ 0 := fun e => h2 ((if_pos h3).trans e)
      obtain ⟨a1, a2, a3⟩ := ih r hr h4
      have h5 : hsR p r = true ∧ p.sum + k = r.sum := by
        simpa only [zdJ, Bool.and_eq_true, decide_eq_true_eq] using h3
      have h6 : inR p r = true := by
        have := h5.1
        simp only [hsR, Bool.and_eq_true] at this
        exact this.1
      have h7 := (zfs hp hr h6).1
      refine ⟨zge _ _ _ h6 a1, fun w hw => ?_, ?_⟩
      · rcases List.mem_cons.1 hw with e | hw
        · have := h5.2; omega
        · exact a2 w hw
      · rw [List.sum_cons]; have := h5.2; omega
    · exact absurd (if_neg h3) h2
theorem zhE (l : List Int) (hl : l.length ≤ 1048576) (d : Nat) : ∀ (i : Nat) (y : List Int) (k : Nat), i + d = l.length → y.length = l.length → y.take i = l.take i → d < k → za5.l0 k l y i = some l := by
  induction d with
  | zero =>
    intro i y k hi hy ht hk
    obtain ⟨k, rfl⟩ : ∃ m, k = m + 1 := ⟨k - 1, by omega⟩
    simp only [za5.l0]
    rw [if_neg (by omega)]
    obtain rfl : i = l.length := by omega
    rw [List.take_of_length_le (by omega), List.take_of_length_le (by omega)] at ht
    rw [ht]
  | succ d ih =>
    intro i y k hi hy ht hk
    obtain ⟨k, rfl⟩ : ∃ m, k = m + 1 := ⟨k - 1, by omega⟩
    have hlt : i < l.length := by omega
    simp only [za5.l0]
    rw [if_pos (by omega), if_pos (by omega), if_pos (by omega), wr1 (by omega), zdd l i hlt]
    refine ih (i + 1) _ k (by omega) (by simpa using hy) ?_ (by omega)
    rw [Int.toNat_natCast, zdC y i _ (by omega), ht, List.take_succ_eq_append_getElem hlt]
theorem zf2 (l : List Int) (hl : l.length ≤ 1048576) : Ev (fun k => za5.f k l) l := by
  refine ⟨l.length + 1, fun k hk => ?_⟩
  show za5.f k l = some l
  unfold za5.f
  rw [if_pos (by omega), if_pos (by omega)]
  exact zhE l hl l.length 0 _ k (by omega) (by simp) (by simp) (by omega)
theorem ziF (a b : List Int) (hl : a.length ≤ 1048576) (hab : a.length = b.length) (d : Nat) : ∀ (i k : Nat), i + d = a.length → a.take i = b.take i → d < k → zaR.l0 k a b i = some (decide (a = b)) := by
  induction d with
  | zero =>
    intro i k hi ht hk
    obtain ⟨k, rfl⟩ : ∃ m, k = m + 1 := ⟨k - 1, by omega⟩
    simp only [zaR.l0]
    rw [if_neg (by omega)]
    obtain rfl : i = a.length := by omega
    rw [List.take_of_length_le (by omega), List.take_of_length_le (by omega)] at ht
    rw [decide_eq_true ht]
  | succ d ih =>
    intro i k hi ht hk
    obtain ⟨k, rfl⟩ : ∃ m, k = m + 1 := ⟨k - 1, by omega⟩
    have hlt : i < a.length := by omega
    have hlt' : i < b.length := by omega
    simp only [zaR.l0]
    rw [if_pos (by omega), if_pos (by omega), if_pos (by omega), wr1 (by omega), zdd a i hlt, zdd b i hlt']
    by_cases h : a[i] = b[i]
    · rw [if_pos h]
      refine ih (i + 1) k (by omega) ?_ (by omega)
      rw [List.take_succ_eq_append_getElem hlt, List.take_succ_eq_append_getElem hlt', ht, h]
    · rw [if_neg h, decide_eq_false]
      intro e
      subst e
      exact h rfl
theorem ziG (a b : List Int) (hl : a.length ≤ 1048576) : Ev (fun k => zaR.f k a b) (decide (a = b)) := by
  refine ⟨a.length + 1, fun k hk => ?_⟩
  show zaR.f k a b = _
  unfold zaR.f
  by_cases h : (a.length : Int) = (b.length : Int)
  · rw [if_pos h]
    exact ziF a b hl (by omega) a.length 0 k (by omega) (by simp) (by omega)
  · rw [if_neg h, decide_eq_false]
    intro e
    subst e
    exact h rfl
theorem zdZ (a : List Int) (hl : a.length ≤ 1048576) : Ev (fun k => zaR.f k a a) true := by
  have h := ziG a a hl
  rwa [decide_eq_true rfl] at h
theorem zg4 : allP.all (fun p => decide (zaS.f 20 p = some p.sum) && decide (zbl.f 20 p = some p.sum)) = true := by decide +kernel
theorem zd4 {p : List Int} (h : isP p = true) : Ev (fun k => zaS.f k p) p.sum := by
  have a := zdo zg4 (zdp h)
  simp only [Bool.and_eq_true, decide_eq_true_eq] at a
  exact Ev.of (zaS.mono p) a.1
theorem zft {p : List Int} (h : isP p = true) : Ev (fun k => zbl.f k p) p.sum := by
  have a := zdo zg4 (zdp h)
  simp only [Bool.and_eq_true, decide_eq_true_eq] at a
  exact Ev.of (zbl.mono p) a.2
theorem zfF (x a b : Int) : zbv.f x a b = some (decide (a ≤ x ∧ x ≤ b)) := by
  unfold zbv.f
  by_cases h : a ≤ x
  · rw [if_pos h]; congr 1; by_cases h2 : x ≤ b
    · rw [decide_eq_true h2, decide_eq_true ⟨h, h2⟩]
    · rw [decide_eq_false h2, decide_eq_false (by omega)]
  · rw [if_neg h, decide_eq_false (by omega)]
theorem zg1 (x a b : Int) : zch.f x a b = some (decide (a ≤ x ∧ x ≤ b)) := by
  unfold zch.f
  by_cases h : x ≥ a
  · rw [if_pos h]; congr 1; by_cases h2 : x ≤ b
    · rw [decide_eq_true h2, decide_eq_true ⟨h, h2⟩]
    · rw [decide_eq_false h2, decide_eq_false (by omega)]
  · rw [if_neg h, decide_eq_false (by omega)]
theorem zhe (l : List Int) (hl : l.length ≤ 1048576) (d : Nat) : ∀ (i k : Nat) (s : Int), i + d = l.length → 0 ≤ s → s ≤ 9 → 2 * d < k → zaq.l0 k l s i = some (isPF (zcS l i) s (l.drop i)) := by
  induction d with
  | zero =>
    intro i k s hi h0 h9 hk
    obtain ⟨k, rfl⟩ : ∃ m, k = m + 1 := ⟨k - 1, by omega⟩
    simp only [zaq.l0]
    rw [if_neg (by omega), List.drop_of_length_le (by omega)]
    rfl
  | succ d ih =>
    intro i k s hi h0 h9 hk
    obtain ⟨k, rfl⟩ : ∃ m, k = m + 2 := ⟨k - 2, by omega⟩
    have hlt : i < l.length := by omega
    simp only [zaq.l0]
    rw [if_pos (by omega), if_pos (by omega), zdd l i hlt, zg1, drop_cons l i hlt]
    simp only [Option.bind_some, isPF]
    have hj : ∀ b : Bool, (b = true ↔ ¬ (1 ≤ l[i] ∧ l[i] ≤ 9 ∧ l[i] ≤ zcS l i)) →
        zaq.j1 (k + 1) l s i b = some (if 1 ≤ l[i] ∧ l[i] ≤ 9 ∧ l[i] ≤ zcS l i ∧ s + l[i] ≤ 9 then isPF l[i] (s + l[i]) (l.drop (i + 1)) else false) := by
      intro b hb
      simp only [zaq.j1]
      by_cases hc : 1 ≤ l[i] ∧ l[i] ≤ 9 ∧ l[i] ≤ zcS l i
      · rw [if_neg (fun h => hb.1 h hc), if_pos (by omega), if_pos (by omega), zdd l i hlt, zdW (by omega) (by omega), wr1 (by omega)]
        by_cases h9' : s + l[i] > 9
        · rw [if_pos h9', if_neg (by omega)]
        · rw [if_neg h9', if_pos ⟨hc.1, hc.2.1, hc.2.2, by omega⟩, ih (i + 1) k _ (by omega) (by omega) (by omega) (by omega), ze1 l i hlt]
      · rw [if_pos (hb.2 hc), if_neg (fun h => hc ⟨h.1, h.2.1, h.2.2.1⟩)]
    by_cases h1 : 1 ≤ l[i] ∧ l[i] ≤ 9
    · rw [if_pos (decide_eq_true h1)]
      by_cases hi0 : i = 0
      · subst hi0
        rw [if_neg (by omega)]
        exact hj false (by simp [zcS]; omega)
      · have e : wrap64 ((i : Int) - 1) = ((i - 1 : Nat) : Int) := by unfold wrap64; omega
        rw [if_pos (by omega), e, if_pos (by omega), if_pos (by omega), zdd l (i - 1) (by omega)]
        refine hj _ ?_
        have hp : zcS l i = l[i - 1] := by simp [zcS, hi0]; rw [List.getElem?_eq_getElem (by omega)]; rfl
        rw [hp, decide_eq_true_iff]; omega
    · rw [if_neg (by simp; omega)]
      exact hj true (by simp; omega)
theorem zeh (l : List Int) (hl : l.length ≤ 1048576) : Ev (fun k => zaq.f k l) (isP l) := by
  refine ⟨2 * l.length + 1, fun k hk => ?_⟩
  have h := zhe l hl l.length 0 k 0 (by omega) (by omega) (by omega) (by omega)
  simpa [zaq.f, isP, zcS] using h
theorem zhk (l : List Int) (hl : l.length ≤ 1048576) (d : Nat) : ∀ (i k : Nat) (s : Int), i + d = l.length → 0 ≤ s → s ≤ 9 → 2 * d < k → zau.l0 k l s l l.length i = some (isPF (zcS l i) s (l.drop i)) := by
  induction d with
  | zero =>
    intro i k s hi h0 h9 hk
    obtain ⟨k, rfl⟩ : ∃ m, k = m + 1 := ⟨k - 1, by omega⟩
    simp only [zau.l0]
    rw [if_neg (by omega), List.drop_of_length_le (by omega)]
    rfl
  | succ d ih =>
    intro i k s hi h0 h9 hk
    obtain ⟨k, rfl⟩ : ∃ m, k = m + 2 := ⟨k - 2, by omega⟩
    have hlt : i < l.length := by omega
    simp only [zau.l0]
    rw [if_pos (by omega), if_pos (by omega), if_pos (by omega), zdd l i hlt, zfF, drop_cons l i hlt]
    simp only [Option.bind_some, isPF]
    have hj : ∀ b : Bool, (b = true ↔ ¬ (1 ≤ l[i] ∧ l[i] ≤ 9 ∧ l[i] ≤ zcS l i)) →
        zau.j1 (k + 1) l s l[i] l l.length i b = some (if 1 ≤ l[i] ∧ l[i] ≤ 9 ∧ l[i] ≤ zcS l i ∧ s + l[i] ≤ 9 then isPF l[i] (s + l[i]) (l.drop (i + 1)) else false) := by
      intro b hb
      simp only [zau.j1]
      by_cases hc : 1 ≤ l[i] ∧ l[i] ≤ 9 ∧ l[i] ≤ zcS l i
      · rw [if_neg (fun h => hb.1 h hc), zdW (x := s + l[i]) (by omega) (by omega), wr1 (by omega)]
        by_cases h9' : s + l[i] > 9
        · rw [if_pos h9', if_neg (by omega)]
        · rw [if_neg h9', if_pos ⟨hc.1, hc.2.1, hc.2.2, by omega⟩, ih (i + 1) k _ (by omega) (by omega) (by omega) (by omega), ze1 l i hlt]
      · rw [if_pos (hb.2 hc), if_neg (fun h => hc ⟨h.1, h.2.1, h.2.2.1⟩)]
    by_cases h1 : 1 ≤ l[i] ∧ l[i] ≤ 9
    · rw [if_pos (decide_eq_true h1)]
      by_cases hi0 : i = 0
      · subst hi0
        rw [if_neg (by omega)]
        exact hj false (by simp [zcS]; omega)
      · have e : wrap64 ((i : Int) - 1) = ((i - 1 : Nat) : Int) := by unfold wrap64; omega
        rw [if_pos (by omega), e, if_pos (by omega), if_pos (by omega), zdd l (i - 1) (by omega)]
        refine hj _ ?_
        have hp : zcS l i = l[i - 1] := by simp [zcS, hi0]; rw [List.getElem?_eq_getElem (by omega)]; rfl
        rw [hp, decide_eq_true_iff]; omega
    · rw [if_neg (by simp; omega)]
      exact hj true (by simp; omega)
theorem zeo (l : List Int) (hl : l.length ≤ 1048576) : Ev (fun k => zau.f k l) (isP l) := by
  refine ⟨2 * l.length + 1, fun k hk => ?_⟩
  have h := zhk l hl l.length 0 k 0 (by omega) (by omega) (by omega) (by omega)
  simpa [zau.f, isP, zcS] using h
def zdF (a : Int) (n : Nat) : List Int := (List.range n).map (fun (j : Nat) => a + (j : Int))
theorem zdO (a : Int) (n : Nat) : (zdF a n).length = n := by simp [zdF]
theorem ziu (a : Int) (n i : Nat) (h : i < (zdF a n).length) : (zdF a n)[i] = a + i := by simp [zdF]
theorem zgC (a : Int) (n : Nat) (h0 : 0 ≤ a) (h1 : a ≤ 4611686018427387904) (hn : n ≤ 4611686018427387) (d : Nat) : ∀ (i : Nat) (y : List Int) (k : Nat), i + d = n → y.length = n → y.take i = zdF a i → d < k →
    zaO.l0 k y (a + i) i = some (a + n, zdF a n) := by
  induction d with
  | zero =>
    intro i y k hi hy ht hk
    obtain ⟨k, rfl⟩ : ∃ m, k = m + 1 := ⟨k - 1, by omega⟩
    simp only [zaO.l0]
    rw [if_neg (by omega)]
    obtain rfl : i = n := by omega
    rw [List.take_of_length_le (by omega)] at ht
    rw [ht]
  | succ d ih =>
    intro i y k hi hy ht hk
    obtain ⟨k, rfl⟩ : ∃ m, k = m + 1 := ⟨k - 1, by omega⟩
    simp only [zaO.l0]
    rw [if_pos (by omega), if_pos (by omega), wr1 (by omega), zdW (x := a + i + 1) (by omega) (by omega)]
    have e : a + (i : Int) + 1 = a + ((i + 1 : Nat) : Int) := by omega
    rw [e]
    refine ih (i + 1) _ k (by omega) (by simpa using hy) ?_ (by omega)
    rw [Int.toNat_natCast, zdC y i _ (by omega), ht]
    simp [zdF, List.range_succ]
theorem zdY (a : Int) (l : List Int) (h0 : 0 ≤ a) (h1 : a ≤ 4611686018427387904) (hn : l.length ≤ 4611686018427387) : Ev (fun k => zaO.f k l a) (a + l.length, zdF a l.length) := by
  refine ⟨l.length + 1, fun k hk => ?_⟩
  show zaO.f k l a = _
  unfold zaO.f
  have h := zgC a l.length h0 h1 hn l.length 0 l k (by omega) rfl (by simp [zdF]) (by omega)
  simpa using h
theorem zgE (a : Int) (n : Nat) (h0 : 0 ≤ a) (h1 : a ≤ 4611686018427387904) (hn : n ≤ 4611686018427387) (d : Nat) : ∀ (i k : Nat), i + d = n → d < k →
    zaX.l0 k (zdF a n) (a + i) i = some (a + n) := by
  induction d with
  | zero =>
    intro i k hi hk
    obtain ⟨k, rfl⟩ : ∃ m, k = m + 1 := ⟨k - 1, by omega⟩
    simp only [zaX.l0]
    rw [if_neg (by rw [zdO]; omega)]
    obtain rfl : i = n := by omega
    rfl
  | succ d ih =>
    intro i k hi hk
    obtain ⟨k, rfl⟩ : ∃ m, k = m + 1 := ⟨k - 1, by omega⟩
    simp only [zaX.l0]
    have hlt : i < (zdF a n).length := by rw [zdO]; omega
    rw [if_pos (by rw [zdO]; omega), if_pos (by omega), zdd _ i hlt, ziu, if_pos rfl, wr1 (by omega), zdW (x := a + i + 1) (by omega) (by omega)]
    have e : a + (i : Int) + 1 = a + ((i + 1 : Nat) : Int) := by omega
    rw [e]
    exact ih (i + 1) k (by omega) (by omega)
theorem zgF (a : Int) (n : Nat) (h0 : 0 ≤ a) (h1 : a ≤ 4611686018427387904) (hn : n ≤ 4611686018427387) : Ev (fun k => zaX.f k (zdF a n) a) (a + n) := by
  refine ⟨n + 1, fun k hk => ?_⟩
  show zaX.f k (zdF a n) a = _
  unfold zaX.f
  have h := zgE a n h0 h1 hn n 0 k (by omega) (by omega)
  simpa using h
def mkM : Int → List S48 → List S48
  | _, [] => []
  | a, x :: l => (⟨zdF a x.f0.length, a + x.f0.length⟩ : S48) :: mkM (a + x.f0.length + 1) l
def endM : Int → List S48 → Int
  | a, [] => a
  | a, x :: l => endM (a + x.f0.length + 1) l
theorem zd0 : ∀ (l m : List S48) (a : Int), endM a (l ++ m) = endM (endM a l) m
  | [], _, _ => rfl
  | x :: l, m, a => by simp only [List.cons_append, endM]; exact zd0 l m _
theorem zen : ∀ (l m : List S48) (a : Int), mkM a (l ++ m) = mkM a l ++ mkM (endM a l) m
  | [], _, _ => rfl
  | x :: l, m, a => by simp only [List.cons_append, mkM, endM, zen l m]
theorem zdb : ∀ (l : List S48) (a : Int), (mkM a l).length = l.length
  | [], _ => rfl
  | x :: l, a => by simp only [mkM, List.length_cons, zdb l]
theorem ze7 : ∀ (l : List S48) (a : Int), (∀ m ∈ l, m.f0.length ≤ 100) → a ≤ endM a l ∧ endM a l ≤ a + (l.length : Int) * 101
  | [], a, _ => by simp [endM]
  | x :: l, a, h => by
    have h1 := h x List.mem_cons_self
    have h2 := ze7 l (a + x.f0.length + 1) (fun m hm => h m (List.mem_cons_of_mem _ hm))
    simp only [endM, List.length_cons]
    omega
theorem ze0 (l : List S48) (i : Nat) (h : i < l.length) : zac l (i : Int) = l[i] := by
  simp [zac, List.getD_eq_getElem?_getD, h]
theorem zeU (l : List S48) (i : Nat) (h : i < l.length) : l.take (i + 1) = l.take i ++ [l[i]] := List.take_succ_eq_append_getElem h
theorem zgc (l : List S48) (a : Int) (h0 : 0 ≤ a) (h1 : a ≤ 1000000000) (hl : l.length ≤ 4398046511104) (he : ∀ m ∈ l, m.f0.length ≤ 100) (d : Nat) : ∀ (i : Nat) (y : List S48), i + d = l.length → y = mkM a (l.take i) ++ l.drop i →
    Ev (fun k => zaU.l0 k y (endM a (l.take i)) i) (endM a l, mkM a l) := by
  induction d with
  | zero =>
    intro i y hi hy
    rw [List.drop_of_length_le (by omega), List.take_of_length_le (by omega), List.append_nil] at hy
    rw [hy, List.take_of_length_le (by omega)]
    exact Ev.step (fun k => by rw [zaU.l0]) (Ev.ite_false (by rw [zdb]; omega) (Ev.now _))
  | succ d ih =>
    intro i y hi hy
    have hlt : i < l.length := by omega
    have hml : (mkM a (l.take i)).length = i := by rw [zdb, List.length_take]; omega
    have hyl : y.length = l.length := by rw [hy, List.length_append, hml, List.length_drop]; omega
    have hx := he _ (List.getElem_mem hlt)
    obtain ⟨b1, b2⟩ := ze7 (l.take i) a (fun m hm => he m (List.mem_of_mem_take hm))
    have b3 : ((l.take i).length : Int) ≤ 4398046511104 := by rw [List.length_take]; omega
    have hyi : zac y (i : Int) = l[i] := by
      rw [ze0 y i (by omega)]
      simp only [hy]
      rw [List.getElem_append_right (by omega)]
      simp only [hml, Nat.sub_self]
      rw [List.getElem_drop]
      simp
    refine Ev.step (fun k => by rw [zaU.l0]) (Ev.ite_true (by omega) (Ev.ite_true (by omega) ?_))
    rw [hyi, wr1 (by omega), Int.toNat_natCast]
    refine Ev.bind (zdY (endM a (l.take i)) l[i].f0 (by omega) (by omega) (by omega)) ?_
    have w : wrap64 (endM a (l.take i) + l[i].f0.length + 1) = endM a (l.take (i + 1)) := by
      rw [zeU l i hlt, zd0]
      exact zdW (by omega) (by omega)
    rw [w]
    refine ih (i + 1) _ (by omega) ?_
    rw [hy, zeU l i hlt, zen, List.append_assoc, List.set_append_right _ _ (by omega), hml, Nat.sub_self, List.drop_eq_getElem_cons hlt]
    rfl
theorem zgd (l : List S48) (a : Int) (h0 : 0 ≤ a) (h1 : a ≤ 1000000000) (hl : l.length ≤ 4398046511104) (he : ∀ m ∈ l, m.f0.length ≤ 100) : Ev (fun k => zaU.f k l a) (endM a l, mkM a l) :=
  zgc l a h0 h1 hl he l.length 0 l (by omega) (by simp [mkM])
theorem zkc (l : List S48) (a : Int) (i : Nat) (h : i < l.length) (h' : i < (mkM a l).length) : (mkM a l)[i] = (⟨zdF (endM a (l.take i)) l[i].f0.length, endM a (l.take i) + l[i].f0.length⟩ : S48) := by
  have e : mkM a l = mkM a (l.take i) ++ ((⟨zdF (endM a (l.take i)) l[i].f0.length, endM a (l.take i) + l[i].f0.length⟩ : S48) :: mkM (endM a (l.take i) + l[i].f0.length + 1) (l.drop (i + 1))) := by
    conv => lhs; rw [← List.take_append_drop i l, zen, List.drop_eq_getElem_cons h]
    rfl
  have hml : (mkM a (l.take i)).length = i := by rw [zdb, List.length_take]; omega
  simp only [e]
  rw [List.getElem_append_right (by omega)]
  simp only [hml, Nat.sub_self, List.getElem_cons_zero]
theorem zgg (l : List S48) (a : Int) (h0 : 0 ≤ a) (h1 : a ≤ 1000000000) (hl : l.length ≤ 4398046511104) (he : ∀ m ∈ l, m.f0.length ≤ 100) (d : Nat) : ∀ (i : Nat), i + d = l.length →
    Ev (fun k => zaV.l0 k (mkM a l) (endM a (l.take i)) i) (endM a l) := by
  induction d with
  | zero =>
    intro i hi
    rw [List.take_of_length_le (by omega)]
    exact Ev.step (fun k => by rw [zaV.l0]) (Ev.ite_false (by rw [zdb]; omega) (Ev.now _))
  | succ d ih =>
    intro i hi
    have hlt : i < l.length := by omega
    have hlm : i < (mkM a l).length := by rw [zdb]; omega
    have hx := he _ (List.getElem_mem hlt)
    obtain ⟨b1, b2⟩ := ze7 (l.take i) a (fun m hm => he m (List.mem_of_mem_take hm))
    have b3 : ((l.take i).length : Int) ≤ 4398046511104 := by rw [List.length_take]; omega
    refine Ev.step (fun k => by rw [zaV.l0]) (Ev.ite_true (by omega) (Ev.ite_true (by omega) ?_))
    rw [ze0 _ i hlm, zkc l a i hlt hlm, wr1 (by omega)]
    refine Ev.bind (zgF (endM a (l.take i)) l[i].f0.length (by omega) (by omega) (by omega)) (Ev.ite_false (by omega) (Ev.ite_true rfl ?_))
    have w : wrap64 (endM a (l.take i) + l[i].f0.length + 1) = endM a (l.take (i + 1)) := by
      rw [zeU l i hlt, zd0]
      exact zdW (by omega) (by omega)
    rw [w]
    exact ih (i + 1) (by omega)
theorem zgh (l : List S48) (a : Int) (h0 : 0 ≤ a) (h1 : a ≤ 1000000000) (hl : l.length ≤ 4398046511104) (he : ∀ m ∈ l, m.f0.length ≤ 100) : Ev (fun k => zaV.f k (mkM a l) a) (endM a l) :=
  zgg l a h0 h1 hl he l.length 0 (by omega)
theorem zgB (v : Int) (l : List S48) (a : Int) (h0 : 0 ≤ a) (h1 : a ≤ 1000000000) (hl : l.length ≤ 4398046511104) (he : ∀ m ∈ l, m.f0.length ≤ 100) : Ev (fun k => zbE.f k v l a) (endM a l, mkM a l) := by
  simp only [zbE.f]
  exact Ev.bind (zgd l a h0 h1 hl he) (Ev.now _)
theorem zgD (v : Int) (l : List S48) (a : Int) (h0 : 0 ≤ a) (h1 : a ≤ 1000000000) (hl : l.length ≤ 4398046511104) (he : ∀ m ∈ l, m.f0.length ≤ 100) : Ev (fun k => zbs.f k v (mkM a l) a) (endM a l) := by
  have := (ze7 l a he).1
  simp only [zbs.f]
  exact Ev.bind (zgh l a h0 h1 hl he) (Ev.ite_false (by omega) (Ev.now _))
theorem zgl (l : List S48) (hl : l.length ≤ 4398046511104) (he : ∀ m ∈ l, m.f0.length ≤ 1048576) (d : Nat) : ∀ (i : Nat), i + d = l.length → Ev (fun k => zaP.l0 k l l i) true := by
  induction d with
  | zero =>
    intro i hi
    exact Ev.step (fun k => by rw [zaP.l0]) (Ev.ite_false (by omega) (Ev.now _))
  | succ d ih =>
    intro i hi
    have hlt : i < l.length := by omega
    have hlt' : (i : Int) < (l.length : Int) := by omega
    have hx := he _ (List.getElem_mem hlt)
    have w1 : wrap64 ((i : Int) + 1) = ((i + 1 : Nat) : Int) := wr1 (by omega)
    refine Ev.step (fun k => by simp only [zaP.l0, zb4.f]; rfl) ?_
    rw [ze0 l i hlt, w1]
    exact Ev.ite_true hlt' (Ev.ite_true (Int.natCast_nonneg _) (Ev.ite_true hlt' (Ev.bind (Ev.bind (zdZ _ hx) (Ev.ite_true (by first | rfl | trivial) (Ev.ite_true (by first | rfl | trivial) (Ev.now _)))) (Ev.ite_true (by first | rfl | trivial) (ih (i + 1) (by omega))))))
theorem zfQ (v : Int) (l : List S48) (hl : l.length ≤ 4398046511104) (he : ∀ m ∈ l, m.f0.length ≤ 1048576) : Ev (fun k => zbB.f k v l v l) true := by
  simp only [zbB.f, zaP.f]
  exact Ev.ite_true (by first | rfl | trivial) (Ev.bind (Ev.ite_true (by first | rfl | trivial) (zgl l hl he l.length 0 (by omega))) (Ev.ite_true rfl (Ev.now _)))
theorem zly (a : Int) : wrap64 (wrap64 a) = wrap64 a := by unfold wrap64; omega
theorem zlz (a b : Int) : wrap64 (wrap64 a + b) = wrap64 (a + b) := by unfold wrap64; omega
theorem zlA : wrap64 0 = 0 := by unfold wrap64; omega
def shB (p o : List Int) : Bool := isP p && isP o && inR p o
theorem zkY {p q : List Int} (hp : p ∈ allP) (hq : q ∈ allP) : Ev (fun k => zaL.f k p q) (inR p q) ∧ Ev (fun k => zaJ.f k p q) (inR p q) := by
  have a := zdo zkZ hq
  simp only [zeH, List.all_eq_true, Bool.and_eq_true, decide_eq_true_eq] at a
  obtain ⟨a1, a2⟩ := a p hp
  exact ⟨Ev.of (zaL.mono _ _) a1, Ev.of (zaJ.mono _ _) a2⟩
theorem zhM (p q : List Int) (h1 : p.length ≤ 1048576) (h2 : q.length ≤ 1048576) : Ev (fun k => zaL.f k p q) (shB p q) := by
  by_cases a : isP p = true
  · by_cases b : isP q = true
    · rw [show shB p q = inR p q by simp [shB, a, b]]
      exact (zkY (zdp a) (zdp b)).1
    · rw [show shB p q = false by simp [shB, b]]
      simp only [zaL.f]
      exact Ev.bind (zeh p h1) (Ev.ite_true a (Ev.bind (zeh q h2) (Ev.ite_false b (Ev.step (fun k => by rw [zaL.j0]) (Ev.ite_true rfl (Ev.now _))))))
  · rw [show shB p q = false by simp [shB, a]]
    simp only [zaL.f]
    exact Ev.bind (zeh p h1) (Ev.ite_false a (Ev.step (fun k => by rw [zaL.j0]) (Ev.ite_true rfl (Ev.now _))))
theorem zgf (p q : List Int) (h1 : p.length ≤ 1048576) (h2 : q.length ≤ 1048576) : Ev (fun k => zaJ.f k p q) (shB p q) := by
  by_cases a : isP p = true
  · by_cases b : isP q = true
    · rw [show shB p q = inR p q by simp [shB, a, b]]
      exact (zkY (zdp a) (zdp b)).2
    · rw [show shB p q = false by simp [shB, b]]
      simp only [zaJ.f]
      refine Ev.bind (zeo p h1) (Ev.ite_true a (Ev.bind (zeo q h2) ?_))
      rw [Bool.eq_false_iff.2 b]
      exact Ev.step (fun k => by rw [zaJ.j0]) (Ev.ite_true (c := (!false) = true) rfl (Ev.now _))
  · rw [show shB p q = false by simp [shB, a]]
    simp only [zaJ.f]
    exact Ev.bind (zeo p h1) (Ev.ite_false a (Ev.step (fun k => by rw [zaJ.j0]) (Ev.ite_true rfl (Ev.now _))))
theorem zeV (o p : List Int) (h1 : p.length ≤ 1048576) (h2 : o.length ≤ 1048576) : Ev (fun k => za9.f k o p) (shB p o) := by
  simp only [za9.f]; exact Ev.bind (zhM p o h1 h2) (Ev.now _)
theorem ze6 (o p : List Int) (h1 : p.length ≤ 1048576) (h2 : o.length ≤ 1048576) : Ev (fun k => za1.f k o p) (shB p o) := by
  simp only [za1.f]; exact Ev.bind (zgf p o h1 h2) (Ev.now _)
theorem zc1 {p : List Int} (h : p ∈ allP) : p.length ≤ 1048576 := by
  have := zhj (zct h); omega
theorem zkR {q : List Int} (hq : q ∈ allP) (k : Nat) (hk : (k : Int) ≤ q.sum) : ∃ L, Ev (fun f => zbe.f f q (k : Int)) L ∧ L.Perm ((allP.filter fun p => hsR p q).filter fun p => decide (p.sum = q.sum - (k : Int))) := by
  have a := zdo zkS hq
  have hs := (zel hq).2
  simp only [zeE] at a
  have b := zdo a (x := k) (List.mem_range.2 (by omega))
  rw [decide_eq_true hk] at b
  simp only [Bool.not_true, Bool.false_or] at b
  split at b
  · rename_i L hL
    exact ⟨L, Ev.of (zbe.mono _ _) hL, List.isPerm_iff.1 b⟩
  · cases b
theorem zf1 : ∀ (L M : List (List Int)), zhD L = some M → M.length = L.length ∧ ∀ (i : Nat) (h : i < L.length) (h' : i < M.length), zbj.f 30 L[i] = some M[i]
  | [], M, h => by
    simp only [zhD, Option.some.injEq] at h
    subst h
    exact ⟨rfl, fun i h => by simp at h⟩
  | x :: L, M, h => by
    simp only [zhD] at h
    split at h
    · rename_i y N hy hN
      simp only [Option.some.injEq] at h
      subst h
      obtain ⟨h1, h2⟩ := zf1 L N hN
      refine ⟨by simp [h1], fun i hi hi' => ?_⟩
      cases i with
      | zero => exact hy
      | succ i => exact h2 i (by simpa using hi) (by simpa using hi')
    · cases h
theorem zkP {p o : List Int} (hp : p ∈ allP) (ho : o ∈ allP) (hin : inR p o = true) (k : Nat) (hk : (k : Int) ≤ o.sum - p.sum) : ∃ (L M : List (List Int)), Ev (fun f => zaw.f f p o (k : Int) 0) L ∧ L.length ≤ 1000 ∧ M.length = L.length ∧ (∀ (i : Nat) (h : i < L.length) (h' : i < M.length), Ev (fun f => zbj.f f L[i]) M[i]) ∧
    M.Perm ((allP.filter fun q => hsR p q && inR q o).filter fun q => decide (q.sum = p.sum + (k : Int))) := by
  have a := zdo zkQ ho
  have hs := (zel ho).2
  have hs2 := (zel hp).1
  simp only [zdl] at a
  have b := zdo a hp
  rw [hin] at b
  simp only [Bool.not_true, Bool.false_or] at b
  have c := zdo b (x := k) (List.mem_range.2 (by omega))
  rw [decide_eq_true hk] at c
  simp only [Bool.not_true, Bool.false_or] at c
  split at c
  · rename_i L hL
    simp only [Bool.and_eq_true, decide_eq_true_eq] at c
    obtain ⟨c1, c2⟩ := c
    split at c2
    · rename_i M hM
      obtain ⟨h1, h2⟩ := zf1 L M hM
      exact ⟨L, M, Ev.of (zaw.mono _ _ _ _) hL, c1, h1, fun i h h' => Ev.of (zbj.mono _) (h2 i h h'), List.isPerm_iff.1 c2⟩
    · cases c2
  · cases c
theorem zeN (l : List (List Int)) (i : Nat) (h : i < l.length) : zbX l (i : Int) = l[i] := by
  simp [zbX, List.getD_eq_getElem?_getD, h]
theorem ziM {q p : List Int} (hq : q ∈ allP) (hp : p ∈ allP) : Ev (fun k => zbo.f k q p) (if inR p q = true then q.sum - p.sum else -1) := by
  have b1 := zel hp
  have b2 := zel hq
  have e : shB p q = inR p q := by simp [shB, zct hp, zct hq]
  have h := ze6 q p (zc1 hp) (zc1 hq)
  rw [e] at h
  simp only [zbo.f]
  refine Ev.bind h ?_
  by_cases c : inR p q = true
  · rw [if_pos c]
    refine Ev.ite_true c (Ev.bind (zft (zct hq)) (Ev.bind (zft (zct hp)) ?_))
    rw [zdW (x := q.sum - p.sum) (by omega) (by omega)]
    exact Ev.now _
  · rw [if_neg c]
    exact Ev.ite_false c (Ev.now _)
def kS (k : Nat) (x : S48) : S48 := ⟨x.f0 ++ [(k : Int)], x.f1⟩
structure SP (n : Nat) (p q : List Int) (R : List S48) : Prop where
  ord : Desc R
  len : ∀ x ∈ R, x.f0.length = n
  val : ∀ x ∈ R, x.f1 = ((cB x.f0 p q : Nat) : Int) ∧ cB x.f0 p q ≠ 0
  all : ∀ w : List Int, w.length = n → cB w p q ≠ 0 → ∃ x ∈ R, x.f0 = w
theorem SP.uniq {n : Nat} {p q : List Int} {a b : List S48} (ha : SP n p q a) (hb : SP n p q b) : a = b := by
  have key : ∀ {a b : List S48}, SP n p q a → SP n p q b → ∀ x, x ∈ a → x ∈ b := by
    intro a b ha hb x hx
    obtain ⟨v1, v2⟩ := ha.val x hx
    obtain ⟨y, hy, e⟩ := hb.all x.f0 (ha.len x hx) v2
    obtain ⟨u1, _⟩ := hb.val y hy
    rw [e, ← v1] at u1
    have : y = x := by
      cases x; cases y
      simp only at e u1
      rw [e, u1]
    exact this ▸ hy
  exact zgH ha.ord hb.ord (fun x => ⟨key ha hb x, key hb ha x⟩)
theorem zg5 {l : List S48} (h : Desc l) : ∀ x ∈ l, fat x.f0 l = [x.f1] := by
  induction l with
  | nil => intro x hx; cases hx
  | cons y l ih =>
    unfold Desc at h
    rw [List.pairwise_cons] at h
    intro x hx
    have e0 : fat x.f0 (y :: l) = fat x.f0 [y] ++ fat x.f0 l := zcP x.f0 [y] l
    rcases List.mem_cons.1 hx with e | hx
    · subst e
      rw [e0, zc3, zdT (fun z hz e => by
        have := h.1 z hz
        rw [e] at this
        exact zcA _ this)]
      rfl
    · rw [e0, zcH (fun e => by
        have := h.1 x hx
        rw [e] at this
        exact zcA _ this), List.nil_append]
      exact ih h.2 x hx
theorem SP.sum {n : Nat} {p q : List Int} {R : List S48} (h : SP n p q R) (w : List Int) (hw : w.length = n) : (fat w R).sum = ((cB w p q : Nat) : Int) := by
  by_cases c : cB w p q = 0
  · rw [c, zdT (fun x hx e => by
      have := (h.val x hx).2
      rw [e] at this
      exact this c)]
    rfl
  · obtain ⟨x, hx, e⟩ := h.all w hw c
    rw [← e, zg5 h.ord x hx, (h.val x hx).1]
    simp
theorem zhm (k : Nat) (ws : List Int) (k' : Int) (t : List S48) : fat (ws ++ [k']) (t.map (kS k)) = if k' = (k : Int) then fat ws t else [] := by
  induction t with
  | nil => simp [fat]
  | cons x t ih =>
    have e0 : fat (ws ++ [k']) ((x :: t).map (kS k)) = fat (ws ++ [k']) [kS k x] ++ fat (ws ++ [k']) (t.map (kS k)) := by rw [List.map_cons]; exact zcP _ [kS k x] _
    have e1 : fat ws (x :: t) = fat ws [x] ++ fat ws t := zcP ws [x] t
    rw [e0, ih]
    by_cases c : k' = (k : Int)
    · rw [if_pos c, if_pos c, e1]
      by_cases d : x.f0 = ws
      · subst d
        have : (kS k x).f0 = x.f0 ++ [k'] := by rw [c]; rfl
        rw [← this, zc3, zc3]
        rfl
      · rw [zcH d, zcH (show (kS k x).f0 ≠ ws ++ [k'] from fun e => d (List.append_cancel_right (bs := [k']) (by rw [← show (kS k x).f0 = x.f0 ++ [k'] by rw [c]; rfl]; exact e)))]
    · rw [if_neg c, if_neg c, zcH (show (kS k x).f0 ≠ ws ++ [k'] from fun e => c (by
        have := congrArg (fun l => l.getLast?) e
        simp [kS] at this
        exact this.symm))]
      rfl
theorem zga (l : List Int) (B : Nat) (h : l.sum = ((B : Nat) : Int)) (hB : B < 9223372036854775808) : val l = l.sum := by
  unfold val
  split
  · rfl
  · exact zdW (by omega) (by omega)
theorem SP.zkV {n : Nat} (hn : n ≤ 4) {p q : List Int} {out r : List S48} (hc : Can out r) (hl : ∀ x ∈ out, x.f0.length = n) (hs : ∀ w : List Int, w.length = n → (fat w out).sum = ((cB w p q : Nat) : Int)) : SP n p q (r.filter nz) := by
  have small : ∀ w : List Int, w.length = n → cB w p q < 9223372036854775808 := fun w hw => by
    have h1 := zko w p q
    have h2 : 97 ^ w.length ≤ 97 ^ 4 := Nat.pow_le_pow_right (by omega) (by omega)
    have h3 : (97 : Nat) ^ 4 = 88529281 := by decide
    omega
  have lr : ∀ x ∈ r, x.f0.length = n := fun x hx => by
    obtain ⟨y, hy, e⟩ := hc.sub x hx
    rw [← e]; exact hl y hy
  have vr : ∀ x ∈ r, x.f1 = ((cB x.f0 p q : Nat) : Int) := fun x hx => by
    rw [hc.val x hx, zga _ _ (hs x.f0 (lr x hx)) (small _ (lr x hx)), hs x.f0 (lr x hx)]
  refine ⟨hc.ord.filter _, fun x hx => lr x (List.mem_filter.1 hx).1, fun x hx => ?_, fun w hw h => ?_⟩
  · obtain ⟨h1, h2⟩ := List.mem_filter.1 hx
    refine ⟨vr x h1, fun e => ?_⟩
    have := vr x h1
    rw [e] at this
    simp [nz, this] at h2
  · have hne : fat w out ≠ [] := fun e => by
      have := hs w hw
      rw [e] at this
      simp only [List.sum_nil] at this
      omega
    obtain ⟨y, hy, e⟩ : ∃ y ∈ out, y.f0 = w := by
      refine Classical.byContradiction fun hc2 => hne (zdT (fun y hy e => hc2 ⟨y, hy, e⟩))
    obtain ⟨x, hx, e2⟩ := hc.all y hy
    rw [e] at e2
    refine ⟨x, List.mem_filter.2 ⟨hx, ?_⟩, e2⟩
    have := vr x hx
    rw [e2] at this
    simp only [nz, Bool.not_eq_true', beq_eq_false_iff_ne, ne_eq]
    omega
theorem Can.self {l : List S48} (h : Desc l) : Can l l := ⟨h, fun x hx => by rw [zg5 h x hx, val_one], fun x hx => ⟨x, hx, rfl⟩, fun x hx => ⟨x, hx, rfl⟩⟩
theorem w_l2 (n c k : Int) (kk : Nat) (L : List (List Int)) (il i : Int) (t : List S48) (q p : List Int) (ht : ∀ x ∈ t, x.f0.length ≤ 100) (htl : t.length < 4398046511104) (res : List S48) (hk : k = (kk : Int)) (d : Nat) :
    ∀ (j : Nat) (out : List S48), j + d = t.length → out.length + d < 4398046511104 → Ev (fun f => zar.l1 f n (out ++ (t.drop j).map (kS kk)) k c k L il (wrap64 (i + 1)) q p) res →
    Ev (fun f => zar.l2 f n out k c k L il i t (t.length : Int) (j : Int) q p) res := by
  induction d with
  | zero =>
    intro j out hj ho h
    rw [List.drop_of_length_le (by omega), List.map_nil, List.append_nil] at h
    exact Ev.step (fun f => by rw [zar.l2]) (Ev.ite_false (by omega) h)
  | succ d ih =>
    intro j out hj ho h
    have hlt : j < t.length := by omega
    have hx := ht _ (List.getElem_mem hlt)
    refine Ev.step (fun f => by rw [zar.l2]) (Ev.ite_true (by omega) (Ev.ite_true (by omega) (Ev.ite_true (by omega) ?_)))
    rw [zbY t j hlt, ziJ _ (by omega), wr1 (by omega)]
    simp only [Option.bind_some]
    refine Ev.ite_true (by simp; omega) (Ev.ite_true (by simp; omega) ?_)
    rw [List.drop_eq_getElem_cons hlt, List.map_cons] at h
    refine ih (j + 1) _ (by omega) (by simp; omega) ?_
    rw [List.append_assoc]
    have e : [(⟨t[j].f0 ++ [k], t[j].f1⟩ : S48)] ++ (t.drop (j + 1)).map (kS kk) = kS kk t[j] :: (t.drop (j + 1)).map (kS kk) := by
      rw [hk]; rfl
    rw [e]; exact h
def Wok (p : List Int) (n : Nat) (q : List Int) (r : List S48) : Prop := r.length ≤ 97 ^ n ∧ SP n p q r
theorem w_l1 {p : List Int} (hp : p ∈ allP) (n : Nat) (hn : n + 1 ≤ 4) (IH : ∀ q, q ∈ allP → inR p q = true → ∃ r, Ev (fun f => zar.f f q p (n : Int)) r ∧ Wok p n q r) (q : List Int) (c : Int) (k : Nat) (hk : k ≤ 9) (L : List (List Int)) (hL : L.length ≤ 97) (hmem : ∀ x ∈ L, x ∈ allP) (d : Nat) :
    ∀ (i : Nat) (out : List S48), i + d = L.length → out.length + d * 97 ^ n < 4398046511104 → (∀ x ∈ out, x.f0.length = n + 1) →
    ∃ out' : List S48, (∀ res, Ev (fun f => zar.l0 f ((n + 1 : Nat) : Int) out' c ((k + 1 : Nat) : Int) q p) res → Ev (fun f => zar.l1 f ((n + 1 : Nat) : Int) out (k : Int) c (k : Int) L (L.length : Int) (i : Int) q p) res) ∧
      out'.length ≤ out.length + d * 97 ^ n ∧ (∀ (ws : List Int) (k' : Int), ws.length = n → (fat (ws ++ [k']) out').sum = (fat (ws ++ [k']) out).sum + (if k' = (k : Int) then ((sumN (L.drop i) (fun r => cB ws p r) : Nat) : Int) else 0)) ∧ ∀ x ∈ out', x.f0.length = n + 1 := by
  have hpow : 97 ^ n ≤ 97 ^ 3 := Nat.pow_le_pow_right (by omega) (by omega)
  have hpow3 : (97 : Nat) ^ 3 = 912673 := by decide
  have hpos : 0 < 97 ^ n := Nat.pow_pos (by omega)
  induction d with
  | zero =>
    intro i out hi ho hs
    refine ⟨out, fun res h => Ev.step (fun f => by rw [zar.l1]) (Ev.ite_false (by omega) ?_), by omega, fun ws k' _ => by rw [List.drop_of_length_le (by omega), zgW]; simp, hs⟩
    rw [wr1 (by omega)]; exact h
  | succ d ih =>
    intro i out hi ho hs
    have hlt : i < L.length := by omega
    have hm := hmem _ (List.getElem_mem hlt)
    have hin := zgf p L[i] (zc1 hp) (zc1 hm)
    rw [show shB p L[i] = inR p L[i] by simp [shB, zct hp, zct hm]] at hin
    have hd : ∀ ws : List Int, sumN (L.drop i) (fun r => cB ws p r) = cB ws p L[i] + sumN (L.drop (i + 1)) (fun r => cB ws p r) := fun ws => by rw [List.drop_eq_getElem_cons hlt, zck]
    have hmul : (d + 1) * 97 ^ n = d * 97 ^ n + 97 ^ n := Nat.succ_mul d (97 ^ n)
    by_cases g : inR p L[i] = true
    · obtain ⟨t, t1, t2, t3⟩ := IH _ hm g
      obtain ⟨o', o1, o2, o3, o4⟩ := ih (i + 1) (out ++ t.map (kS k)) (by omega) (by simp; omega) (fun x hx => by
        rcases List.mem_append.1 hx with h | h
        · exact hs x h
        · obtain ⟨y, hy, rfl⟩ := List.mem_map.1 h
          have := t3.len y hy
          simp [kS]; omega)
      refine ⟨o', fun res h => ?_, by simp at o2; omega, fun ws k' hw => ?_, o4⟩
      · refine Ev.step (fun f => by rw [zar.l1]) (Ev.ite_true (by omega) (Ev.ite_true (by omega) (Ev.ite_true (by omega) ?_)))
        rw [zeN L i hlt, show wrap64 (((n + 1 : Nat) : Int) - 1) = (n : Int) by unfold wrap64; omega]
        refine Ev.bind hin (Ev.ite_true g (Ev.bind t1 ?_))
        refine w_l2 _ c (k : Int) k L _ (i : Int) t q p (fun x hx => by have := t3.len x hx; omega) (by omega) res rfl t.length 0 out (by omega) (by omega) ?_
        rw [List.drop_zero, wr1 (by omega)]
        exact o1 res h
      · rw [o3 ws k' hw, zcP, List.sum_append, zhm, hd ws]
        by_cases c2 : k' = (k : Int)
        · rw [if_pos c2, if_pos c2, if_pos c2, t3.sum ws hw, Int.natCast_add]; omega
        · rw [if_neg c2, if_neg c2, if_neg c2]; simp
    · obtain ⟨o', o1, o2, o3, o4⟩ := ih (i + 1) out (by omega) (by omega) hs
      refine ⟨o', fun res h => ?_, by omega, fun ws k' hw => ?_, o4⟩
      · refine Ev.step (fun f => by rw [zar.l1]) (Ev.ite_true (by omega) (Ev.ite_true (by omega) (Ev.ite_true (by omega) ?_)))
        rw [zeN L i hlt, wr1 (by omega)]
        exact Ev.bind hin (Ev.ite_false g (o1 res h))
      · have e0 : cB ws p L[i] = 0 := Classical.byContradiction fun h => g (zeO L[i] hm ws p hp h).1
        rw [o3 ws k' hw, hd ws, e0, Nat.zero_add]
theorem ziw (F : List (List Int)) (g : List Int → Nat) (j : Nat) : (F.filter fun x => decide (g x < j + 1)).length = (F.filter fun x => decide (g x < j)).length + (F.filter fun x => decide (g x = j)).length := by
  have h := zhd g (fun _ => 1) F j
  have one : ∀ l : List (List Int), sumN l (fun _ => 1) = l.length := by
    intro l
    induction l with
    | nil => rfl
    | cons x l ih => rw [zck, ih, List.length_cons]; omega
  rw [one, one, one] at h
  exact h
theorem zj9 {n : Nat} {w : List Int} (h : w.length = n + 1) : ∃ (ws : List Int) (k : Int), w = ws ++ [k] ∧ ws.length = n := by
  have hne : w ≠ [] := fun e => by rw [e] at h; simp at h
  exact ⟨w.dropLast, w.getLast hne, (List.dropLast_concat_getLast hne).symm, by rw [List.length_dropLast]; omega⟩
theorem zkL {p : List Int} (hp : p ∈ allP) : ∀ n : Nat, n ≤ 4 → ∀ q, q ∈ allP → inR p q = true → ∃ r, Ev (fun f => zar.f f q p (n : Int)) r ∧ Wok p n q r
  | 0, _, q, hq, hin => by
    have hc := ziM hq hp
    rw [if_pos hin] at hc
    have hle := zfs hp hq hin
    by_cases h : p.sum = q.sum
    · refine ⟨[(⟨[], 1⟩ : S48)], Ev.step (fun f => by rw [zar.f]) (Ev.ite_true (c := ((0 : Nat) : Int) = 0) rfl (Ev.bind hc (Ev.ite_true (c := q.sum - p.sum = 0) (by omega) (Ev.now _)))), by simp, ⟨List.pairwise_singleton _ _, ?_, ?_, ?_⟩⟩
      · intro x hx
        rw [List.mem_singleton.1 hx]; rfl
      · intro x hx
        rw [List.mem_singleton.1 hx, hle.2 h]
        simp [cB]
      · intro w hw _
        exact ⟨_, List.mem_singleton_self _, (List.length_eq_zero_iff.1 hw).symm⟩
    · refine ⟨[], Ev.step (fun f => by rw [zar.f]) (Ev.ite_true (c := ((0 : Nat) : Int) = 0) rfl (Ev.bind hc (Ev.ite_false (c := q.sum - p.sum = 0) (by omega) (Ev.now _)))), by simp, ⟨List.Pairwise.nil, fun x hx => (by cases hx), fun x hx => (by cases hx), fun w hw hne => ?_⟩⟩
      have : p ≠ q := fun e => h (by rw [e])
      rw [List.length_eq_zero_iff.1 hw] at hne
      simp [cB, this] at hne
  | n + 1, hn, q, hq, hin => by
    have IH := zkL hp n (by omega)
    have hc := ziM hq hp
    rw [if_pos hin] at hc
    have b1 := zel hp
    have b2 := zel hq
    have hle := (zfs hp hq hin).1
    have hpow : 97 ^ n ≤ 97 ^ 3 := Nat.pow_le_pow_right (by omega) (by omega)
    have hpow3 : (97 : Nat) ^ 3 = 912673 := by decide
    have hall : allP.length = 97 := zg8
    have hF : (allP.filter fun r => hsR r q).length ≤ 97 := by have := List.length_filter_le (fun r => hsR r q) allP; omega
    have wc : wrap64 (q.sum - p.sum + 1) = q.sum - p.sum + 1 := zdW (by omega) (by omega)
    -- what comes of all that can be taken off
    have tot : ∀ (ws : List Int) (k' : Int), 0 ≤ k' → cB (ws ++ [k']) p q = sumN ((allP.filter fun r => hsR r q).filter fun r => decide (r.sum = q.sum - k')) (fun r => cB ws p r) := by
      intro ws k' _
      rw [ziN k' ws p q hp hq, zcr, zcr]
      refine zcn (fun r _ => ?_)
      unfold zdJ
      by_cases h1 : hsR r q = true
      · rw [if_pos h1]
        by_cases h2 : r.sum = q.sum - k'
        · rw [if_pos (by simp [h1]; omega), if_pos (by simpa using h2)]
        · rw [if_neg (by simp [h1]; omega), if_neg (by simpa using h2)]
      · rw [if_neg h1, if_neg (by simp [h1])]
    have tot0 : ∀ (ws : List Int) (k' : Int), ws.length = n → ¬ (0 ≤ k' ∧ k' ≤ q.sum - p.sum) → cB (ws ++ [k']) p q = 0 := by
      intro ws k' _ hk
      refine Classical.byContradiction fun h => hk ?_
      obtain ⟨_, h2, h3⟩ := zeO q hq (ws ++ [k']) p hp h
      have h4 := h2 k' (List.mem_append_right _ (List.mem_singleton_self _))
      have h5 : 0 ≤ ws.sum := by
        have : ∀ l : List Int, (∀ w ∈ l, 0 ≤ w) → 0 ≤ l.sum := by
          intro l
          induction l with
          | nil => intro _; simp
          | cons x l ih =>
            intro h
            have h1 := h x List.mem_cons_self
            have h2 := ih (fun w hw => h w (List.mem_cons_of_mem _ hw))
            rw [List.sum_cons]; omega
        exact this ws (fun w hw => h2 w (List.mem_append_left _ hw))
      rw [List.sum_append, List.sum_cons, List.sum_nil] at h3
      omega
    -- the sum over what was taken off so far
    have loop : ∀ (d j : Nat) (out : List S48), (j : Int) + d = q.sum - p.sum + 1 →
        out.length ≤ ((allP.filter fun r => hsR r q).filter fun r => decide ((q.sum - r.sum).toNat < j)).length * 97 ^ n → (∀ (ws : List Int) (k' : Int), ws.length = n → (fat (ws ++ [k']) out).sum = if 0 ≤ k' ∧ k' < (j : Int) then ((cB (ws ++ [k']) p q : Nat) : Int) else 0) → (∀ x ∈ out, x.f0.length = n + 1) →
        ∃ r, Ev (fun f => zar.l0 f ((n + 1 : Nat) : Int) out (q.sum - p.sum + 1) (j : Int) q p) r ∧ Wok p (n + 1) q r := by
      intro d
      induction d with
      | zero =>
        intro j out hj ho hs hx
        have hlen : out.length ≤ 97 * 97 ^ n := Nat.le_trans ho (Nat.mul_le_mul_right _ (Nat.le_trans (List.length_filter_le _ _) hF))
        obtain ⟨r, r1, r2, r3⟩ := zg6 ((n + 1 : Nat) : Int) out ⟨by omega, fun x h => by have := hx x h; omega⟩ (by omega) (n + 1) hx
        refine ⟨r.filter nz, Ev.step (fun f => by rw [zar.l0]) (Ev.ite_false (by omega) (Ev.bind r1 (Ev.now _))), ?_, SP.zkV hn r2 hx (fun w hw => ?_)⟩
        · have := List.length_filter_le nz r
          rw [Nat.pow_succ, Nat.mul_comm]; omega
        · obtain ⟨ws, k', rfl, hws⟩ := zj9 hw
          rw [hs ws k' hws]
          split
          · rfl
          · rw [tot0 ws k' hws (by omega)]; rfl
      | succ d ihd =>
        intro j out hj ho hs hx
        obtain ⟨L, l1, l2⟩ := zkR hq j (by omega)
        have l2' := l2
        have e : ((allP.filter fun r => hsR r q).filter fun r => decide (r.sum = q.sum - (j : Int))) = ((allP.filter fun r => hsR r q).filter fun r => decide ((q.sum - r.sum).toNat = j)) := by
          refine List.filter_congr (fun r hr => ?_)
          obtain ⟨hr1, hr2⟩ := List.mem_filter.1 hr
          simp only [Bool.and_eq_true, hsR] at hr2
          have := (zfs hr1 hq hr2.1).1
          rw [decide_eq_decide]; omega
        rw [e] at l2
        have hlg := ziw (allP.filter fun r => hsR r q) (fun r => (q.sum - r.sum).toNat) j
        have hl := l2.length_eq
        have hall2 : ((allP.filter fun r => hsR r q).filter fun r => decide ((q.sum - r.sum).toNat < j + 1)).length ≤ 97 := Nat.le_trans (List.length_filter_le _ _) hF
        have hb : out.length + L.length * 97 ^ n ≤ ((allP.filter fun r => hsR r q).filter fun r => decide ((q.sum - r.sum).toNat < j + 1)).length * 97 ^ n := by
          rw [hlg, Nat.add_mul, hl]; omega
        have hb2 : ((allP.filter fun r => hsR r q).filter fun r => decide ((q.sum - r.sum).toNat < j + 1)).length * 97 ^ n ≤ 97 * 97 ^ n := Nat.mul_le_mul_right _ hall2
        obtain ⟨out', o1, o2, o3, o4⟩ := w_l1 hp n hn IH q (q.sum - p.sum + 1) j (by omega) L (by omega) (fun x h => (List.mem_filter.1 (List.mem_filter.1 (l2.mem_iff.1 h)).1).1) L.length 0 out (by omega) (by omega) hx
        obtain ⟨r, r1, r2⟩ := ihd (j + 1) out' (by omega) (by omega) (fun ws k' hw => by
          rw [o3 ws k' hw, hs ws k' hw, List.drop_zero, zf4 l2']
          by_cases c1 : k' = (j : Int)
          · rw [if_pos c1, if_neg (by omega), if_pos (by omega), tot ws k' (by omega), c1]; simp
          · rw [if_neg c1, Int.add_zero]
            by_cases c2 : 0 ≤ k' ∧ k' < (j : Int)
            · rw [if_pos c2, if_pos (by omega)]
            · rw [if_neg c2, if_neg (by omega)]) o4
        exact ⟨r, Ev.step (fun f => by rw [zar.l0]) (Ev.ite_true (by omega) (Ev.bind l1 (o1 r r1))), r2⟩
    have e0 : ((allP.filter fun r => hsR r q).filter fun r => decide ((q.sum - r.sum).toNat < 0)) = [] := List.filter_eq_nil_iff.2 (fun r _ => by simp)
    obtain ⟨r, r1, r2⟩ := loop (q.sum - p.sum + 1).toNat 0 [] (by omega) (by rw [e0]; simp) (fun ws k' _ => by rw [if_neg (by omega)]; simp [fat]) (fun x hx => (by cases hx))
    refine ⟨r, Ev.step (fun f => by rw [zar.f]) (Ev.ite_false (by omega) (Ev.bind hc ?_)), r2⟩
    rw [wc]
    exact r1
def wts : Nat → Nat → List (List Int)
  | 0, 0 => [[]]
  | 0, _ + 1 => []
  | n + 1, s => (List.range (s + 1)).reverse.flatMap fun k => (wts n (s - k)).map fun w => (k : Int) :: w
theorem zhz : ∀ (n s : Nat) (w : List Int), w.length = n → (∀ x ∈ w, 0 ≤ x) → w.sum = (s : Int) → w ∈ wts n s
  | 0, s, w, hl, _, hs => by
    rw [List.length_eq_zero_iff.1 hl] at hs ⊢
    have : s = 0 := by simp only [List.sum_nil] at hs; omega
    subst this
    exact List.mem_singleton_self _
  | n + 1, s, [], hl, _, _ => by simp at hl
  | n + 1, s, x :: w, hl, h0, hs => by
    have h1 := h0 x List.mem_cons_self
    have h2 : 0 ≤ w.sum := by
      have : ∀ l : List Int, (∀ w ∈ l, 0 ≤ w) → 0 ≤ l.sum := by
        intro l
        induction l with
        | nil => intro _; simp
        | cons x l ih =>
          intro h
          have h1 := h x List.mem_cons_self
          have h2 := ih (fun w hw => h w (List.mem_cons_of_mem _ hw))
          rw [List.sum_cons]; omega
      exact this w (fun y hy => h0 y (List.mem_cons_of_mem _ hy))
    rw [List.sum_cons] at hs
    obtain ⟨m, rfl⟩ : ∃ m : Nat, x = (m : Int) := ⟨x.toNat, by omega⟩
    refine List.mem_flatMap.2 ⟨m, List.mem_reverse.2 (List.mem_range.2 (by omega)), List.mem_map.2 ⟨w, zhz n (s - m) w (by simpa using hl) (fun y hy => h0 y (List.mem_cons_of_mem _ hy)) (by omega), rfl⟩⟩
theorem zhy : ∀ (n s : Nat) (w : List Int), w ∈ wts n s → w.length = n ∧ (∀ x ∈ w, 0 ≤ x ∧ x ≤ (s : Int)) ∧ w.sum = (s : Int)
  | 0, 0, w, h => by
    rw [List.mem_singleton.1 h]
    exact ⟨rfl, fun x hx => (by cases hx), rfl⟩
  | 0, s + 1, w, h => by cases h
  | n + 1, s, w, h => by
    obtain ⟨k, hk, h2⟩ := List.mem_flatMap.1 h
    obtain ⟨v, hv, rfl⟩ := List.mem_map.1 h2
    have hk' := List.mem_range.1 (List.mem_reverse.1 hk)
    obtain ⟨a1, a2, a3⟩ := zhy n (s - k) v hv
    refine ⟨by simp [a1], fun x hx => ?_, by rw [List.sum_cons, a3]; omega⟩
    rcases List.mem_cons.1 hx with rfl | hx
    · omega
    · have := a2 x hx; omega
theorem zgU : ∀ n s : Nat, (wts n s).Pairwise fun x y => cmpL y x < 0
  | 0, 0 => List.pairwise_singleton _ _
  | 0, s + 1 => List.Pairwise.nil
  | n + 1, s => by
    show ((List.range (s + 1)).reverse.flatMap fun k => (wts n (s - k)).map fun w => (k : Int) :: w).Pairwise fun x y => cmpL y x < 0
    rw [List.pairwise_flatMap]
    refine ⟨fun k _ => ?_, ?_⟩
    · rw [List.pairwise_map]
      exact (zgU n (s - k)).imp (fun {a b} h => by simp only [cmpL, if_true]; exact h)
    · rw [List.pairwise_reverse]
      refine List.pairwise_lt_range.imp (fun {a b} h x hx y hy => ?_)
      obtain ⟨v, _, rfl⟩ := List.mem_map.1 hx
      obtain ⟨u, _, rfl⟩ := List.mem_map.1 hy
      have h1 : ¬ (a : Int) = (b : Int) := by omega
      have h2 : (a : Int) < (b : Int) := by omega
      simp only [cmpL, if_neg h1, if_pos h2]
      omega
set_option maxRecDepth 100000 in
theorem zk : (List.range 10).all (fun s => (List.range' 1 4).all fun v => decide (zaD.f 400 (v : Int) (s : Int) = some (wts v s)) && decide ((wts v s).length ≤ 1000)) = true := by decide +kernel
theorem zkK {n s : Nat} (h1 : 1 ≤ n) (h2 : n ≤ 4) (h3 : s ≤ 9) : Ev (fun k => zaD.f k (n : Int) (s : Int)) (wts n s) ∧ (wts n s).length ≤ 1000 := by
  have a := zdo (zdo zk (List.mem_range.2 (show s < 10 by omega))) (List.mem_range'_1.2 ⟨h1, by omega⟩)
  simp only [Bool.and_eq_true, decide_eq_true_eq] at a
  exact ⟨Ev.of (zaD.mono _ _) a.1, a.2⟩
theorem zhA (w : List Int) (hl : w.length ≤ 9) (h : ∀ x ∈ w, 0 ≤ x ∧ x ≤ 9) (d : Nat) : ∀ i : Nat, i + d = w.length → Ev (fun k => za2.l0 k w i) true := by
  induction d with
  | zero =>
    intro i hi
    refine Ev.step (fun k => by rw [za2.l0]) (Ev.ite_false (by omega) ?_)
    rw [decide_eq_true (show (w.length : Int) ≤ 9 by omega)]
    exact Ev.now _
  | succ d ih =>
    intro i hi
    have hlt : i < w.length := by omega
    have hx := h _ (List.getElem_mem hlt)
    refine Ev.step (fun k => by rw [za2.l0]) (Ev.ite_true (by omega) (Ev.ite_true (by omega) ?_))
    rw [zdd w i hlt, zg1, wr1 (by omega)]
    simp only [Option.bind_some]
    exact Ev.ite_true (by rw [decide_eq_true_eq]; exact hx) (ih (i + 1) (by omega))
theorem zja (w p q : List Int) (h : w.length ≤ 4) : cB w p q < 9223372036854775808 := by
  have h1 := zko w p q
  have h2 : 97 ^ w.length ≤ 97 ^ 4 := Nat.pow_le_pow_right (by omega) (by omega)
  have h3 : (97 : Nat) ^ 4 = 88529281 := by decide
  omega
theorem zkm {o : List Int} (ho : o ∈ allP) (ws : List Int) (hw : ws.length ≤ 4) (h0 : ∀ x ∈ ws, 0 ≤ x) (d : Nat) : ∀ (i : Nat) (p : List Int), i + d = ws.length → p ∈ allP → inR p o = true → p.sum + (ws.drop i).sum = o.sum →
    Ev (fun k => zaT.f k p o ws (i : Int)) ((cB (ws.drop i) p o : Nat) : Int) := by
  induction d with
  | zero =>
    intro i p hi hp hin hs
    rw [List.drop_of_length_le (by omega)] at hs ⊢
    simp only [List.sum_nil, Int.add_zero] at hs
    have e := (zfs hp ho hin).2 hs
    refine Ev.step (fun k => by rw [zaT.f]) (Ev.ite_true (by omega) (Ev.bind (zd4 (zct hp)) (Ev.bind (zd4 (zct ho)) ?_)))
    rw [show (p.sum == o.sum) = true by simpa using hs]
    simp only [zcU.f, if_true, Option.bind_some, cB, if_pos e]
    exact Ev.now _
  | succ d ih =>
    intro i p hi hp hin hs
    have hlt : i < ws.length := by omega
    have hk0 := h0 _ (List.getElem_mem hlt)
    have hdr : ws.drop i = ws[i] :: ws.drop (i + 1) := List.drop_eq_getElem_cons hlt
    have hrest : 0 ≤ (ws.drop (i + 1)).sum := by
      have : ∀ l : List Int, (∀ w ∈ l, 0 ≤ w) → 0 ≤ l.sum := by
        intro l
        induction l with
        | nil => intro _; simp
        | cons x l ih =>
          intro h
          have h1 := h x List.mem_cons_self
          have h2 := ih (fun w hw => h w (List.mem_cons_of_mem _ hw))
          rw [List.sum_cons]; omega
      exact this _ (fun w hw => h0 w (List.mem_of_mem_drop hw))
    rw [hdr, List.sum_cons] at hs
    have b1 := zel hp
    have b2 := zel ho
    obtain ⟨c, hc⟩ : ∃ c : Nat, ws[i] = (c : Int) := ⟨ws[i].toNat, by omega⟩
    obtain ⟨L, M, l1, l2, l3, l4, l5⟩ := zkP hp ho hin c (by omega)
    have hmem : ∀ q ∈ M, q ∈ allP ∧ inR q o = true ∧ hsR p q = true ∧ q.sum = p.sum + (c : Int) := fun q hq => by
      have h1 := List.mem_filter.1 (l5.mem_iff.1 hq)
      have h2 := List.mem_filter.1 h1.1
      simp only [Bool.and_eq_true] at h2
      exact ⟨h2.1, h2.2.2, h2.2.1, of_decide_eq_true h1.2⟩
    have fin : sumN M (fun q => cB (ws.drop (i + 1)) q o) = cB (ws.drop i) p o := by
      rw [zf4 l5, hdr, zcr, zcr]
      show _ = sumN allP (fun r => if zdJ ws[i] p r = true then cB (ws.drop (i + 1)) r o else 0)
      refine zcn (fun r hr => ?_)
      unfold zdJ
      by_cases h1 : hsR p r = true
      · by_cases h3 : r.sum = p.sum + (c : Int)
        · by_cases h2 : inR r o = true
          · rw [if_pos (by simp [h1, h2]), if_pos (by simpa using h3), if_pos (by simp [h1]; omega)]
          · rw [if_neg (by simp [h2]), if_pos (by simp [h1]; omega)]
            exact (Classical.byContradiction fun h4 => h2 (zeO o ho _ r hr (fun e => h4 e.symm)).1)
        · rw [if_neg (show ¬ (hsR p r && decide (p.sum + ws[i] = r.sum)) = true by simp [h1]; omega)]
          by_cases h2 : (hsR p r && inR r o) = true
          · rw [if_pos h2, if_neg (by simpa using h3)]
          · rw [if_neg h2]
      · rw [if_neg (by simp [h1]), if_neg (by simp [h1])]
    have tot := zja (ws.drop i) p o (by rw [List.length_drop]; omega)
    have row : ∀ (d j : Nat) (a : Int), j + d = L.length → wrap64 (a + ((sumN (M.drop j) (fun q => cB (ws.drop (i + 1)) q o) : Nat) : Int)) = ((cB (ws.drop i) p o : Nat) : Int) → wrap64 a = a →
        Ev (fun k => zaT.l0 k o ws (i : Int) a L (j : Int)) ((cB (ws.drop i) p o : Nat) : Int) := by
      intro d
      induction d with
      | zero =>
        intro j a hj ha hw
        refine Ev.step (fun k => by rw [zaT.l0]) (Ev.ite_false (by omega) ?_)
        rw [List.drop_of_length_le (by omega), zgW] at ha
        simp only [Int.natCast_zero, Int.add_zero] at ha
        rw [hw] at ha
        rw [ha]; exact Ev.now _
      | succ d ihd =>
        intro j a hj ha hw
        have hlt : j < L.length := by omega
        have hlm : j < M.length := by omega
        obtain ⟨q1, q2, q3, q4⟩ := hmem _ (List.getElem_mem hlm)
        refine Ev.step (fun k => by rw [zaT.l0]) (Ev.ite_true (by omega) (Ev.ite_true (by omega) ?_))
        rw [zeN L j hlt, wr1 (by omega), wr1 (by omega)]
        refine Ev.bind (l4 j hlt hlm) (Ev.bind (ih (i + 1) _ (by omega) q1 q2 (by omega)) ?_)
        refine ihd (j + 1) _ (by omega) ?_ (zly _)
        rw [List.drop_eq_getElem_cons hlm, zck] at ha
        rw [← ha, zlz, Int.natCast_add, Int.add_assoc]
    refine Ev.step (fun k => by rw [zaT.f]) (Ev.ite_false (by omega) (Ev.ite_true (by omega) (Ev.ite_true (by omega) ?_)))
    rw [zdd ws i hlt, hc]
    refine Ev.bind l1 (row L.length 0 0 (by omega) ?_ zlA)
    rw [List.drop_zero, fin, Int.zero_add]
    exact zdW (by omega) (by omega)
theorem zke {p o : List Int} (hp : p ∈ allP) (ho : o ∈ allP) (hin : inR p o = true) {n s : Nat} (hn : n ≤ 4) (hs : p.sum + (s : Int) = o.sum) {w : List Int} (hw : w ∈ wts n s) : Ev (fun k => zbm.f k o p w) ((cB w p o : Nat) : Int) := by
  obtain ⟨a1, a2, a3⟩ := zhy n s w hw
  have b1 := zel hp
  have b2 := zel ho
  have h := zeV o p (zc1 hp) (zc1 ho)
  rw [show shB p o = true by simp [shB, zct hp, zct ho, hin]] at h
  simp only [zbm.f, za2.f]
  have h2 := zkm ho w (by omega) (fun x hx => (a2 x hx).1) w.length 0 p (by omega) hp hin (by rw [List.drop_zero]; omega)
  rw [List.drop_zero] at h2
  exact Ev.bind h (Ev.ite_true rfl (Ev.bind (zhA w (by omega) (fun x hx => by have := a2 x hx; omega) w.length 0 (by omega)) (Ev.ite_true rfl (Ev.bind h2 (Ev.now _)))))
def mkT (p o : List Int) (W : List (List Int)) : List S48 := (W.filter fun w => decide (cB w p o ≠ 0)).map fun w => (⟨w, ((cB w p o : Nat) : Int)⟩ : S48)
theorem zjM {p o : List Int} (hp : p ∈ allP) (ho : o ∈ allP) {n s : Nat} (hs : p.sum + (s : Int) = o.sum) : SP n p o (mkT p o (wts n s)) := by
  refine ⟨?_, fun x hx => ?_, fun x hx => ?_, fun w hw hne => ?_⟩
  · unfold Desc mkT
    rw [List.pairwise_map]
    exact (zgU n s).filter _
  · obtain ⟨w, hw, rfl⟩ := List.mem_map.1 hx
    exact (zhy n s w (List.mem_filter.1 hw).1).1
  · obtain ⟨w, hw, rfl⟩ := List.mem_map.1 hx
    exact ⟨rfl, of_decide_eq_true (List.mem_filter.1 hw).2⟩
  · obtain ⟨_, h2, h3⟩ := zeO o ho w p hp hne
    exact ⟨⟨w, ((cB w p o : Nat) : Int)⟩, List.mem_map.2 ⟨w, List.mem_filter.2 ⟨zhz n s w hw h2 (by omega), by simpa using hne⟩, rfl⟩, rfl⟩
theorem zj8 {p o : List Int} (hp : p ∈ allP) (ho : o ∈ allP) (hin : inR p o = true) {n s : Nat} (hn : n ≤ 4) (hs : p.sum + (s : Int) = o.sum) (hW : (wts n s).length ≤ 1000) (d : Nat) : ∀ (i : Nat), i + d = (wts n s).length →
    Ev (fun k => zax.l0 k (wts n s) (i : Int) o p (n : Int) (mkT p o ((wts n s).take i))) ((n : Int), mkT p o (wts n s), true) := by
  induction d with
  | zero =>
    intro i hi
    have sp := zjM (n := n) hp ho hs
    rw [List.take_of_length_le (by omega)]
    exact Ev.step (fun k => by rw [zax.l0]) (Ev.ite_false (by omega) (Ev.ite_true (zeA (n := n) sp.ord sp.len) (Ev.now _)))
  | succ d ih =>
    intro i hi
    have hlt : i < (wts n s).length := by omega
    have hk := zke hp ho hin hn hs (List.getElem_mem hlt)
    have hlen : (mkT p o ((wts n s).take i)).length ≤ 1000 := by
      unfold mkT
      rw [List.length_map]
      have h1 := List.length_filter_le (fun w => decide (cB w p o ≠ 0)) ((wts n s).take i)
      have h2 : ((wts n s).take i).length ≤ 1000 := by rw [List.length_take]; omega
      omega
    have e : mkT p o ((wts n s).take (i + 1)) = mkT p o ((wts n s).take i) ++ (if cB (wts n s)[i] p o ≠ 0 then [(⟨(wts n s)[i], ((cB (wts n s)[i] p o : Nat) : Int)⟩ : S48)] else []) := by
      unfold mkT
      rw [List.take_succ_eq_append_getElem hlt, List.filter_append, List.map_append]
      congr 1
      by_cases c : cB (wts n s)[i] p o ≠ 0
      · rw [if_pos c, List.filter_cons_of_pos (by simpa using c)]; rfl
      · rw [if_neg c, List.filter_cons_of_neg (by simpa using c)]; rfl
    have h := ih (i + 1) (by omega)
    rw [e] at h
    refine Ev.step (fun k => by rw [zax.l0]) (Ev.ite_true (by omega) (Ev.ite_true (by omega) ?_))
    rw [zeN _ i hlt, wr1 (by omega)]
    refine Ev.bind hk ?_
    by_cases c : cB (wts n s)[i] p o ≠ 0
    · rw [if_pos c] at h
      exact Ev.ite_true (by omega) (Ev.ite_true (by omega) h)
    · rw [if_neg c, List.append_nil] at h
      exact Ev.ite_false (by omega) h
theorem zhN {p o : List Int} (hp : p ∈ allP) (ho : o ∈ allP) (hin : inR p o = true) {n : Nat} (h1 : 1 ≤ n) (hn : n ≤ 4) :
    ∃ R : List S48, Ev (fun k => zax.f k o p (n : Int)) ((n : Int), R, true) ∧ Ev (fun k => zaN.f k o p (n : Int)) ((n : Int), R, true) ∧ SP n p o R ∧ R.length ≤ 1000 := by
  have b1 := zel hp
  have b2 := zel ho
  have hle := (zfs hp ho hin).1
  have e : shB p o = true := by simp [shB, zct hp, zct ho, hin]
  obtain ⟨s, hs⟩ : ∃ s : Nat, o.sum - p.sum = (s : Int) := ⟨(o.sum - p.sum).toNat, by omega⟩
  obtain ⟨w1, w2⟩ := zkK (n := n) (s := s) h1 hn (by omega)
  have sp := zjM (n := n) hp ho (show p.sum + (s : Int) = o.sum by omega)
  have hlen : (mkT p o (wts n s)).length ≤ 1000 := by
    unfold mkT
    rw [List.length_map]
    have := List.length_filter_le (fun w => decide (cB w p o ≠ 0)) (wts n s)
    omega
  refine ⟨mkT p o (wts n s), ?_, ?_, sp, hlen⟩
  · have h := zeV o p (zc1 hp) (zc1 ho)
    rw [e] at h
    have hc : Ev (fun k => zbF.f k o p) (s : Int) := by
      simp only [zbF.f]
      refine Ev.bind h (Ev.ite_true rfl (Ev.bind (zd4 (zct ho)) (Ev.bind (zd4 (zct hp)) ?_)))
      rw [zdW (x := o.sum - p.sum) (by omega) (by omega), hs]
      exact Ev.now _
    simp only [zax.f, zg1, Option.bind_some]
    refine Ev.bind h (Ev.ite_true rfl ?_)
    rw [decide_eq_true (show (1 : Int) ≤ n ∧ (n : Int) ≤ 4 by omega)]
    refine Ev.step (fun k => by rw [zax.j0]) (Ev.ite_false (by simp) (Ev.bind hc (Ev.bind w1 ?_)))
    exact zj8 hp ho hin hn (by omega) w2 (wts n s).length 0 (by omega)
  · have h := ze6 o p (zc1 hp) (zc1 ho)
    rw [e] at h
    obtain ⟨r, r1, r2, r3⟩ := zkL hp n hn o ho hin
    have er : r = mkT p o (wts n s) := r3.uniq sp
    rw [er] at r1
    obtain ⟨r', c1, c2, c3⟩ := zg6 (n : Int) (mkT p o (wts n s)) ⟨by omega, fun x hx => by have := sp.len x hx; omega⟩ (by omega) n sp.len
    have er' : r' = mkT p o (wts n s) := c2.uniq (Can.self sp.ord)
    have ez : (mkT p o (wts n s)).filter nz = mkT p o (wts n s) := List.filter_eq_self.2 (fun x hx => by
      obtain ⟨v1, v2⟩ := sp.val x hx
      simp only [nz, Bool.not_eq_true', beq_eq_false_iff_ne, ne_eq]
      omega)
    rw [er', ez] at c1
    simp only [zaN.f, zfF, Option.bind_some]
    refine Ev.bind h (Ev.ite_true rfl ?_)
    rw [decide_eq_true (show (1 : Int) ≤ n ∧ (n : Int) ≤ 4 by omega)]
    refine Ev.step (fun k => by rw [zaN.j0]) (Ev.ite_false (by simp) (Ev.bind r1 (Ev.bind c1 ?_)))
    exact Ev.now _
theorem same (o p : List Int) (n : Int) (h1 : o.length ≤ 1048576) (h2 : p.length ≤ 1048576) : ∃ (v : Int) (R : List S48) (b : Bool), Ev (fun k => zax.f k o p n) (v, R, b) ∧ Ev (fun k => zaN.f k o p n) (v, R, b) ∧ R.length ≤ 1000 ∧ ∀ x ∈ R, x.f0.length ≤ 4 := by
  by_cases c : shB p o = true ∧ 1 ≤ n ∧ n ≤ 4
  · obtain ⟨c1, c2, c3⟩ := c
    obtain ⟨m, rfl⟩ : ∃ m : Nat, n = (m : Int) := ⟨n.toNat, by omega⟩
    simp only [shB, Bool.and_eq_true] at c1
    obtain ⟨R, r1, r2, r3, r4⟩ := zhN (zdp c1.1.1) (zdp c1.1.2) c1.2 (n := m) (by omega) (by omega)
    exact ⟨_, R, _, r1, r2, r4, fun x hx => by have := r3.len x hx; omega⟩
  · have s1 := zeV o p h2 h1
    have i1 := ze6 o p h2 h1
    refine ⟨0, [], false, ?_, ?_, by simp, fun x hx => (by cases hx)⟩
    · simp only [zax.f, zg1, Option.bind_some]
      refine Ev.bind s1 ?_
      by_cases d : shB p o = true
      · refine Ev.ite_true d ?_
        rw [decide_eq_false (show ¬ ((1 : Int) ≤ n ∧ n ≤ 4) from fun h => c ⟨d, h⟩)]
        exact Ev.step (fun k => by rw [zax.j0]) (Ev.ite_true (by simp) (Ev.now _))
      · exact Ev.ite_false d (Ev.step (fun k => by rw [zax.j0]) (Ev.ite_true rfl (Ev.now _)))
    · simp only [zaN.f, zfF, Option.bind_some]
      refine Ev.bind i1 ?_
      by_cases d : shB p o = true
      · refine Ev.ite_true d ?_
        rw [decide_eq_false (show ¬ ((1 : Int) ≤ n ∧ n ≤ 4) from fun h => c ⟨d, h⟩)]
        exact Ev.step (fun k => by rw [zaN.j0]) (Ev.ite_true (by simp) (Ev.now _))
      · exact Ev.ite_false d (Ev.step (fun k => by rw [zaN.j0]) (Ev.ite_true rfl (Ev.now _)))
theorem zeK : zap.Pure := by
  intro o p n h1 h2 h3
  apply Ev.rounds
  simp only [zap.f, zcq.f, zb3.f]
  by_cases hl : o.length + p.length ≤ 1048576
  · obtain ⟨v, R, b, hs, hi, hR, hR2⟩ := same o p n (by omega) (by omega)
    have w1 : wrap64 (1048576 - (o.length : Int)) = 1048576 - (o.length : Int) := zdW (by omega) (by omega)
    have w2 : wrap64 (1048576 - (o.length : Int) - (p.length : Int)) = 1048576 - (o.length : Int) - (p.length : Int) := zdW (by omega) (by omega)
    have ht : Ev (fun k => zbp.f k o p) (o, p) := by
      simp only [zbp.f]
      exact Ev.bind (zf2 o (by omega)) (Ev.bind (zf2 p (by omega)) (Ev.now _))
    have he : Ev (fun k => zbM.f k o p o p) true := by
      simp only [zbM.f]
      exact Ev.bind (zdZ o (by omega)) (Ev.ite_true rfl (Ev.bind (zdZ p (by omega)) (Ev.ite_true rfl (Ev.now _))))
    have hm : Ev (fun k => zbG.f k o p 1) (1 + o.length + p.length, zdF 1 o.length, zdF (1 + o.length) p.length) := by
      simp only [zbG.f]
      exact Ev.bind (zdY 1 o (by omega) (by omega) (by omega)) (Ev.bind (zdY (1 + o.length) p (by omega) (by omega) (by omega)) (Ev.now _))
    have hq := zfQ v R (by omega) (fun m hm => by have := hR2 m hm; omega)
    have hmp := zgB v R 1 (by omega) (by omega) (by omega) (fun m hm => by have := hR2 m hm; omega)
    have hhp := zgD v R 1 (by omega) (by omega) (by omega) (fun m hm => by have := hR2 m hm; omega)
    have hge := (ze7 R 1 (fun m hm => by have := hR2 m hm; omega)).1
    rw [w1, if_neg (by omega)]
    simp only [Option.bind_some]
    rw [if_neg (by omega), w2, if_neg (by omega)]
    simp only [Option.bind_some]
    rw [if_neg (by omega)]
    simp only [Option.bind_some]
    refine Ev.ite_false (by omega) (Ev.bind ht (Ev.bind hs (Ev.bind ht (Ev.bind hi (Ev.bind hq (Ev.ite_true rfl ?_))))))
    refine Ev.step (fun k => by rw [zap.j0]) (Ev.ite_false (by simp) (Ev.bind ht (Ev.bind he (Ev.ite_true rfl (Ev.bind hm ?_)))))
    refine Ev.ite_false (show ¬ ((1 : Int) + o.length + p.length < 0) by omega) (Ev.bind hq (Ev.ite_true rfl ?_))
    refine Ev.step (fun k => by rw [zap.j1]) (Ev.ite_false (by simp) (Ev.bind hmp ?_))
    refine Ev.bind hhp (Ev.ite_false (by omega) (Ev.ite_true rfl (Ev.bind ht (Ev.bind hi (Ev.bind hq (Ev.ite_true rfl ?_))))))
    refine Ev.step (fun k => by rw [zap.j2]) (Ev.ite_false (by simp) (Ev.bind hhp ?_))
    exact Ev.ite_false (by omega) (Ev.ite_true rfl (Ev.now _))
  · have ml : maxLen ≤ 9223372036854775807 := by decide
    have a1 := h1.1
    have a2 := h2.1
    have w1 : wrap64 (1048576 - (o.length : Int)) = 1048576 - (o.length : Int) := zdW (by omega) (by omega)
    rw [w1]
    by_cases c : 1048576 - (o.length : Int) < 0
    · rw [if_pos c]
      simp only [Option.bind_some]
      rw [if_pos (show (-1 : Int) < 0 by omega)]
      simp only [Option.bind_some]
      exact Ev.ite_true (by omega) (Ev.now _)
    · have w2 : wrap64 (1048576 - (o.length : Int) - (p.length : Int)) = 1048576 - (o.length : Int) - (p.length : Int) := zdW (by omega) (by omega)
      rw [if_neg c]
      simp only [Option.bind_some]
      rw [if_neg c, w2, if_pos (by omega)]
      simp only [Option.bind_some]
      rw [if_pos (show (-1 : Int) < 0 by omega)]
      simp only [Option.bind_some]
      exact Ev.ite_true (by omega) (Ev.now _)
end Go.Proofs.Ytneipehcmmigeaa.Pure
