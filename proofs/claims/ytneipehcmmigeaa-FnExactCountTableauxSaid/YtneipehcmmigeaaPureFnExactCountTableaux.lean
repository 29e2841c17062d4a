/- The program's CountTableaux answers as the reference's for every shape of at most 2^20 numbers and every number, and leaves its argument alone; above that length the law says nothing. No condition. -/
import Derived.Test.YtneipehcmmigeaaPFnExactCountTableauxx15
import Derived.Test.YtneipehcmmigeaaVFnExactCountTableaux
set_option linter.unusedVariables false
set_option linter.unusedSimpArgs false
namespace Go.Proofs.Ytneipehcmmigeaa
open Go.ChangeShapes Go.WideShapes
theorem PrintWords.sized_ints {H : Type} {enc : TypeId × Value → H} {P : Program} {W : World} {base : Nat} {spare : Nat → Bool} {held : Bool} {t e : TypeId} {k : IntKind} {a : Option Addr} {len cap : Nat} {d : DataW H} {ps : List MemPlace} {ts : List TypeId} {ds : List (DataW H)} {j : Nat}
    (hsz : (DataW.weightsEach P ts ds).all (· ≤ reachBytes) = true) (ht : ts[j]? = some t) (hd : ds[j]? = some d) (hu : P.underlying t = some (.slice e)) (he : P.underlying e = some (.int k)) (hc : P.cellsOf e = 1) {B : Nat} (hB : P.bytesOf e = B)
    (h : DataW.Trod enc P W base spare held t (.slice a len cap) d ps) : len * B ≤ 140737488351232 :=
  Go.Proofs.YtneipehcmmigeaaW.PrintWords.sized_ints hsz ht hd hu he hc hB h
end Go.Proofs.Ytneipehcmmigeaa
namespace Go.Proofs.Ytneipehcmmigeaa.Pure
open Go.RowKit Go.Proofs.Ytneipehcmmigeaa.PFnExactCountTableaux Go.Proofs.YtneipehcmmigeaaW.PrintWords Go.Proofs.YtneipehcmmigeaaW.PrintLast

theorem wr_in {x : Int} (h : -9223372036854775808 ≤ x) (h' : x ≤ 9223372036854775807) : wrap64 x = x := by unfold wrap64; omega
theorem wr1 {i : Nat} (h : i < 4611686018427387904) : wrap64 ((i : Int) + 1) = ((i + 1 : Nat) : Int) := by unfold wrap64; omega
theorem Ev.ite_true {α : Type} {c : Prop} [Decidable c] {g f : Nat → Option α} {r : α} (hc : c) (h : Ev g r) : Ev (fun k => if c then g k else f k) r := by
  obtain ⟨K, h⟩ := h
  exact ⟨K, fun k hk => (if_pos hc).trans (h k hk)⟩
theorem Ev.ite_false {α : Type} {c : Prop} [Decidable c] {g f : Nat → Option α} {r : α} (hc : ¬ c) (h : Ev f r) : Ev (fun k => if c then g k else f k) r := by
  obtain ⟨K, h⟩ := h
  exact ⟨K, fun k hk => (if_neg hc).trans (h k hk)⟩
theorem rd_nat (l : List Int) (i : Nat) (h : i < l.length) : rd l (i : Int) = l[i] := by
  simp [rd, List.getD_eq_getElem?_getD, h]
/-- A statement that holds of all members of a list that can be run through. -/
theorem of_all {α : Type} {p : α → Bool} {l : List α} (h : l.all p = true) {x : α} (hx : x ∈ l) : p x = true := List.all_eq_true.mp h x hx
/-- Both answer, and alike. -/
def both {α : Type} [DecidableEq α] (a b : Option α) : Bool := match a, b with
  | some x, some y => decide (x = y)
  | _, _ => false
theorem both_ev {α : Type} [DecidableEq α] {f g : Nat → Option α} (hf : ∀ k, LeO (f k) (f (k + 1))) (hg : ∀ k, LeO (g k) (g (k + 1))) {n m : Nat} (h : both (f n) (g m) = true) : ∃ r, Ev f r ∧ Ev g r := by
  unfold both at h
  split at h
  · rename_i x y hx hy
    have e := of_decide_eq_true h
    subst e
    exact ⟨x, Ev.of hf hx, Ev.of hg hy⟩
  · cases h
theorem take_set_succ {α : Type} (y : List α) (i : Nat) (v : α) (h : i < y.length) : (y.set i v).take (i + 1) = y.take i ++ [v] := by
  rw [List.take_succ_eq_append_getElem (by simpa using h)]
  simp only [List.getElem_set_self]
  congr 1
  apply List.ext_getElem?
  intro j
  simp only [List.getElem?_take, List.getElem?_set]
  by_cases h : j < i
  · rw [if_pos h, if_neg (by omega), if_pos h]
  · rw [if_neg h, if_neg h]

theorem dropc {α : Type} (l : List α) (i : Nat) (h : i < l.length) : l.drop i = l[i] :: l.drop (i + 1) := List.drop_eq_getElem_cons h

/-! slices.Compare over whole numbers. -/
def cmpL : List Int → List Int → Int
  | [], [] => 0
  | [], _ :: _ => -1
  | _ :: _, [] => 1
  | x :: xs, y :: ys => if x = y then cmpL xs ys else if x < y then -1 else 1
theorem cmpInt_f (x y : Int) : cmp_Compare_int.f x y = some (if x = y then 0 else if x < y then -1 else 1) := by
  simp only [cmp_Compare_int.f, cmp_isNaN_int.f, Option.bind_some, bne_self_eq_false]
  by_cases e : x = y
  · subst e; simp
  · by_cases g : x < y
    · simp [e, g]
    · have : y < x := by omega
      simp [e, g, this]
theorem compare_l0 (a b : List Int) (ha : a.length ≤ 1048576) (hb : b.length ≤ 1048576) (d : Nat) : ∀ (i : Nat), i + d = a.length → i ≤ b.length → Ev (fun k => slices_Compare_int_int.l0 k a b a a.length i) (cmpL (a.drop i) (b.drop i)) := by
  induction d with
  | zero =>
    intro i hi hb'
    refine Ev.step (fun k => by simp only [slices_Compare_int_int.l0]; rfl) (Ev.ite_false (by omega) ?_)
    rw [List.drop_of_length_le (l := a) (by omega)]
    by_cases h : i < b.length
    · rw [dropc b i h]
      exact Ev.ite_true (by omega) (Ev.now _)
    · rw [List.drop_of_length_le (l := b) (by omega)]
      exact Ev.ite_false (by omega) (Ev.now _)
  | succ d ih =>
    intro i hi hb'
    have hlt : i < a.length := by omega
    have hlt' : (i : Int) < (a.length : Int) := by omega
    have w1 : wrap64 ((i : Int) + 1) = ((i + 1 : Nat) : Int) := wr1 (by omega)
    rw [dropc a i hlt]
    refine Ev.step (fun k => by simp only [slices_Compare_int_int.l0]; rfl) (Ev.ite_true hlt' (Ev.ite_true (Int.natCast_nonneg _) (Ev.ite_true hlt' ?_)))
    by_cases h : i < b.length
    · have h' : (i : Int) < (b.length : Int) := by omega
      rw [dropc b i h, rd_nat a i hlt, rd_nat b i h, w1, cmpInt_f]
      simp only [Option.bind_some]
      refine Ev.ite_false (by omega) (Ev.ite_true h' ?_)
      by_cases e : a[i] = b[i]
      · simp only [cmpL, if_pos e]
        refine Ev.ite_true (by trivial) ?_
        exact ih (i + 1) (by omega) (by omega)
      · simp only [cmpL, if_neg e]
        refine Ev.ite_false (by split <;> omega) (Ev.now _)
    · rw [List.drop_of_length_le (l := b) (by omega)]
      exact Ev.ite_true (by omega) (Ev.now _)
theorem compare_ev (a b : List Int) (ha : a.length ≤ 1048576) (hb : b.length ≤ 1048576) : Ev (fun k => slices_Compare_int_int.f k a b) (cmpL a b) := by
  simp only [slices_Compare_int_int.f]
  exact compare_l0 a b ha hb a.length 0 (by omega) (by omega)

theorem ev_one {α : Type} {f : Nat → Option α} {x y : α} (hx : Ev f x) (hy : Ev f y) : x = y := by
  obtain ⟨K, h1⟩ := hx
  obtain ⟨M, h2⟩ := hy
  have a := h1 (max K M) (Nat.le_max_left _ _)
  have b := h2 (max K M) (Nat.le_max_right _ _)
  rw [a] at b
  exact Option.some.inj b

/-! Go's stable sort over rows of monomials: it ends, and its result is a permutation. -/
theorem rdT_nat (l : List S48) (i : Nat) (h : i < l.length) : rd_T48 l (i : Int) = l[i] := by
  simp [rd_T48, List.getD_eq_getElem?_getD, h]
def okS (l : List S48) : Prop := l.length ≤ 4398046511104 ∧ ∀ x ∈ l, x.f0.length ≤ 1048576
theorem okS_perm {l r : List S48} (h : okS l) (p : r.Perm l) : okS r := ⟨by rw [p.length_eq]; exact h.1, fun x hx => h.2 x (p.mem_iff.1 hx)⟩
theorem cmpS_ev {l : List S48} (h : okS l) {i j : Nat} (hi : i < l.length) (hj : j < l.length) : Ev (fun k => impl_ordered_1.f k l[i].f0 l[i].f1 l[j].f0 l[j].f1) (cmpL l[j].f0 l[i].f0) := by
  simp only [impl_ordered_1.f]
  exact Ev.bind (compare_ev _ _ (h.2 _ (List.getElem_mem hj)) (h.2 _ (List.getElem_mem hi))) (Ev.now _)
theorem swapS {l : List S48} {i j : Nat} (hi : i < l.length) (hj : j < l.length) : ((l.set ((i : Nat) : Int).toNat (⟨(rd_T48 l (j : Int)).f0, (rd_T48 l (j : Int)).f1⟩ : S48)).set ((j : Nat) : Int).toNat (⟨(rd_T48 l (i : Int)).f0, (rd_T48 l (i : Int)).f1⟩ : S48)).Perm l := by
  rw [Int.toNat_natCast, Int.toNat_natCast, rdT_nat l i hi, rdT_nat l j hj]
  exact List.set_set_perm hi hj
theorem wrm1S {j : Nat} (h0 : 0 < j) (h : j < 4611686018427387904) : wrap64 ((j : Int) - 1) = ((j - 1 : Nat) : Int) := by unfold wrap64; omega
theorem wrA {i j : Nat} (h : i + j < 4611686018427387904) : wrap64 ((i : Int) + (j : Int)) = ((i + j : Nat) : Int) := by unfold wrap64; omega
theorem wrS {i j : Nat} (h0 : j ≤ i) (h : i < 4611686018427387904) : wrap64 ((i : Int) - (j : Int)) = ((i - j : Nat) : Int) := by unfold wrap64; omega
theorem halfS {i j : Nat} (h : i + j < 4611686018427387904) : wrap64 (IntKind.u64.wrap (wrap64 ((i : Int) + (j : Int))) / 2) = (((i + j) / 2 : Nat) : Int) := by
  rw [wrA h, IntKind.wrap_u64]
  have e : (((i + j : Nat) : Int) % 18446744073709551616) = ((i + j : Nat) : Int) := by omega
  rw [e]
  unfold wrap64; omega
-- insertion sort
theorem insS_l1 (a b i : Nat) (hb : b < 4611686018427387904) (d : Nat) : ∀ (j : Nat) (l : List S48), a + d = j → okS l → j < l.length →
    (∀ l', okS l' → l'.length = l.length → ∃ r, Ev (fun k => slices_insertionSortCmpFunc_Mono__impl_ordered_1.l0 k l' a b ((i + 1 : Nat) : Int)) r ∧ r.Perm l') →
    i < b → ∃ r, Ev (fun k => slices_insertionSortCmpFunc_Mono__impl_ordered_1.l1 k l a b i j) r ∧ r.Perm l := by
  induction d with
  | zero =>
    intro j l hj hl hjl H hib
    obtain ⟨r, h1, h2⟩ := H l hl rfl
    refine ⟨r, Ev.step (fun k => by rw [slices_insertionSortCmpFunc_Mono__impl_ordered_1.l1]) (Ev.ite_false (by omega) ?_), h2⟩
    rw [wr1 (by omega)]
    exact h1
  | succ d ih =>
    intro j l hj hl hjl H hib
    have h9 := hl.1
    have hc := cmpS_ev hl (i := j) (j := j - 1) (by omega) (by omega)
    by_cases c : cmpL l[j - 1].f0 l[j].f0 < 0
    · have hp := swapS (l := l) (i := j) (j := j - 1) (by omega) (by omega)
      obtain ⟨r, h1, h2⟩ := ih (j - 1) _ (by omega) (okS_perm hl hp) (by rw [hp.length_eq]; omega) (fun l' h' e => H l' h' (by rw [e, hp.length_eq])) hib
      refine ⟨r, Ev.step (fun k => by rw [slices_insertionSortCmpFunc_Mono__impl_ordered_1.l1]) (Ev.ite_true (by omega) (Ev.ite_true (by omega) (Ev.ite_true (by omega) ?_))), h2.trans hp⟩
      rw [wrm1S (by omega) (by omega)]
      refine Ev.ite_true (by omega) (Ev.ite_true (by omega) (Ev.bind (a := cmpL l[j - 1].f0 l[j].f0) ?_ (Ev.ite_true c h1)))
      rw [rdT_nat l j hjl, rdT_nat l (j - 1) (by omega)]
      exact hc
    · obtain ⟨r, h1, h2⟩ := H l hl rfl
      refine ⟨r, Ev.step (fun k => by rw [slices_insertionSortCmpFunc_Mono__impl_ordered_1.l1]) (Ev.ite_true (by omega) (Ev.ite_true (by omega) (Ev.ite_true (by omega) ?_))), h2⟩
      rw [wrm1S (by omega) (by omega), wr1 (by omega)]
      refine Ev.ite_true (by omega) (Ev.ite_true (by omega) (Ev.bind (a := cmpL l[j - 1].f0 l[j].f0) ?_ (Ev.ite_false c h1)))
      rw [rdT_nat l j hjl, rdT_nat l (j - 1) (by omega)]
      exact hc
theorem insS_l0 (a b : Nat) (hb : b < 4611686018427387904) (d : Nat) : ∀ (i : Nat) (l : List S48), i + d = b ∨ (d = 0 ∧ b ≤ i) → a < i → okS l → b ≤ l.length → ∃ r, Ev (fun k => slices_insertionSortCmpFunc_Mono__impl_ordered_1.l0 k l a b i) r ∧ r.Perm l := by
  induction d with
  | zero =>
    intro i l hi hai hl hbl
    exact ⟨l, Ev.step (fun k => by rw [slices_insertionSortCmpFunc_Mono__impl_ordered_1.l0]) (Ev.ite_false (by omega) (Ev.now _)), List.Perm.refl _⟩
  | succ d ih =>
    intro i l hi hai hl hbl
    obtain ⟨r, h1, h2⟩ := insS_l1 a b i hb (i - a) i l (by omega) hl (by omega) (fun l' h' e => ih (i + 1) l' (by omega) (by omega) h' (by omega)) (by omega)
    exact ⟨r, Ev.step (fun k => by rw [slices_insertionSortCmpFunc_Mono__impl_ordered_1.l0]) (Ev.ite_true (by omega) h1), h2⟩
theorem insS_ev (a b : Nat) (l : List S48) (hl : okS l) (hb : b ≤ l.length) (hab : a ≤ b) : ∃ r, Ev (fun k => slices_insertionSortCmpFunc_Mono__impl_ordered_1.f k l a b) r ∧ r.Perm l := by
  have h9 := hl.1
  simp only [slices_insertionSortCmpFunc_Mono__impl_ordered_1.f]
  rw [wr1 (by omega)]
  by_cases h : a + 1 ≤ b
  · exact insS_l0 a b (by omega) (b - (a + 1)) (a + 1) l (by omega) (by omega) hl hb
  · exact insS_l0 a b (by omega) 0 (a + 1) l (by omega) (by omega) hl hb
-- the swap of two stretches, and the rotation
theorem swapR_l0 (a b n : Nat) (d : Nat) : ∀ (i : Nat) (l : List S48), i + d = n → okS l → a + n ≤ l.length → b + n ≤ l.length → ∃ r, Ev (fun k => slices_swapRangeCmpFunc_Mono__impl_ordered_1.l0 k l a b n i) r ∧ r.Perm l := by
  induction d with
  | zero =>
    intro i l hi hl ha hb
    exact ⟨l, Ev.step (fun k => by rw [slices_swapRangeCmpFunc_Mono__impl_ordered_1.l0]) (Ev.ite_false (by omega) (Ev.now _)), List.Perm.refl _⟩
  | succ d ih =>
    intro i l hi hl ha hb
    have h9 := hl.1
    have hp := swapS (l := l) (i := a + i) (j := b + i) (by omega) (by omega)
    obtain ⟨r, h1, h2⟩ := ih (i + 1) _ (by omega) (okS_perm hl hp) (by rw [hp.length_eq]; omega) (by rw [hp.length_eq]; omega)
    refine ⟨r, Ev.step (fun k => by rw [slices_swapRangeCmpFunc_Mono__impl_ordered_1.l0]) (Ev.ite_true (by omega) ?_), h2.trans hp⟩
    rw [wrA (by omega), wrA (by omega), wr1 (by omega)]
    exact Ev.ite_true (by omega) (Ev.ite_true (by omega) (Ev.ite_true (by omega) (Ev.ite_true (by omega) h1)))
theorem swapR_ev (a b n : Nat) (l : List S48) (hl : okS l) (ha : a + n ≤ l.length) (hb : b + n ≤ l.length) : ∃ r, Ev (fun k => slices_swapRangeCmpFunc_Mono__impl_ordered_1.f k l a b n) r ∧ r.Perm l := by
  simp only [slices_swapRangeCmpFunc_Mono__impl_ordered_1.f]
  exact swapR_l0 a b n n 0 l (by omega) hl ha hb
theorem rotS_l0 (m : Nat) : ∀ (s i j : Nat) (l : List S48), i + j ≤ s → 0 < i → 0 < j → i ≤ m → okS l → m + j ≤ l.length → ∃ r, Ev (fun k => slices_rotateCmpFunc_Mono__impl_ordered_1.l0 k l m i j) r ∧ r.Perm l
  | 0, i, j, l, hs, hi, _, _, _, _ => by omega
  | s + 1, i, j, l, hs, hi, hj, him, hl, hml => by
    have h9 := hl.1
    by_cases e : i = j
    · subst e
      obtain ⟨r, h1, h2⟩ := swapR_ev (m - i) m i l hl (by omega) (by omega)
      refine ⟨r, Ev.step (fun k => by rw [slices_rotateCmpFunc_Mono__impl_ordered_1.l0]) (Ev.ite_true rfl ?_), h2⟩
      rw [wrS him (by omega)]
      exact Ev.bind h1 (Ev.now _)
    · by_cases g : j < i
      · obtain ⟨r, h1, h2⟩ := swapR_ev (m - i) m j l hl (by omega) (by omega)
        obtain ⟨r', h3, h4⟩ := rotS_l0 m s (i - j) j r (by omega) (by omega) hj (by omega) (okS_perm hl h2) (by rw [h2.length_eq]; exact hml)
        refine ⟨r', Ev.step (fun k => by rw [slices_rotateCmpFunc_Mono__impl_ordered_1.l0]) (Ev.ite_false (by omega) (Ev.ite_true (by omega) ?_)), h4.trans h2⟩
        rw [wrS him (by omega), wrS (by omega) (by omega)]
        exact Ev.bind h1 h3
      · obtain ⟨r, h1, h2⟩ := swapR_ev (m - i) (m + j - i) i l hl (by omega) (by omega)
        obtain ⟨r', h3, h4⟩ := rotS_l0 m s i (j - i) r (by omega) hi (by omega) him (okS_perm hl h2) (by rw [h2.length_eq]; omega)
        refine ⟨r', Ev.step (fun k => by rw [slices_rotateCmpFunc_Mono__impl_ordered_1.l0]) (Ev.ite_false (by omega) (Ev.ite_false (by omega) ?_)), h4.trans h2⟩
        rw [wrS him (by omega), wrA (by omega), wrS (by omega) (by omega), wrS (by omega) (by omega)]
        exact Ev.bind h1 h3
theorem rotS_ev (a m b : Nat) (l : List S48) (hl : okS l) (h1 : a < m) (h2 : m < b) (h3 : b ≤ l.length) : ∃ r, Ev (fun k => slices_rotateCmpFunc_Mono__impl_ordered_1.f k l a m b) r ∧ r.Perm l := by
  have h9 := hl.1
  simp only [slices_rotateCmpFunc_Mono__impl_ordered_1.f]
  rw [wrS (by omega) (by omega), wrS (by omega) (by omega)]
  exact rotS_l0 m (b - a) (m - a) (b - m) l (by omega) (by omega) (by omega) (by omega) hl (by omega)
-- symMerge
theorem symS_l1 (i : Nat) (hi : 0 < i) (d : Nat) : ∀ (j : Nat) (l : List S48), j + d = i - 1 ∨ (d = 0 ∧ i - 1 ≤ j) → okS l → i ≤ l.length → ∃ r, Ev (fun k => slices_symMergeCmpFunc_Mono__impl_ordered_1.l1 k l i j) r ∧ r.Perm l := by
  induction d with
  | zero =>
    intro j l hj hl hil
    have h9 := hl.1
    refine ⟨l, Ev.step (fun k => by rw [slices_symMergeCmpFunc_Mono__impl_ordered_1.l1]) ?_, List.Perm.refl _⟩
    rw [wrm1S hi (by omega)]
    exact Ev.ite_false (by omega) (Ev.now _)
  | succ d ih =>
    intro j l hj hl hil
    have h9 := hl.1
    have hp := swapS (l := l) (i := j) (j := j + 1) (by omega) (by omega)
    obtain ⟨r, h1, h2⟩ := ih (j + 1) _ (by omega) (okS_perm hl hp) (by rw [hp.length_eq]; omega)
    refine ⟨r, Ev.step (fun k => by rw [slices_symMergeCmpFunc_Mono__impl_ordered_1.l1]) ?_, h2.trans hp⟩
    rw [wrm1S hi (by omega), wr1 (by omega)]
    exact Ev.ite_true (by omega) (Ev.ite_true (by omega) (Ev.ite_true (by omega) (Ev.ite_true (by omega) (Ev.ite_true (by omega) h1))))
theorem symS_l0 (a : Nat) : ∀ (s i j : Nat) (l : List S48), j - i ≤ s → 0 < i → okS l → a < l.length → i ≤ l.length → j ≤ l.length → ∃ r, Ev (fun k => slices_symMergeCmpFunc_Mono__impl_ordered_1.l0 k l a i j) r ∧ r.Perm l
  | s, i, j, l, hs, hi, hl, ha, hil, hj => by
    have h9 := hl.1
    by_cases c : i < j
    · cases s with
      | zero => omega
      | succ s =>
        have hh : (i + j) / 2 < l.length := by omega
        have hc := cmpS_ev hl hh ha
        by_cases g : cmpL l[a].f0 l[(i + j) / 2].f0 < 0
        · obtain ⟨r, h1, h2⟩ := symS_l0 a s ((i + j) / 2 + 1) j l (by omega) (by omega) hl ha (by omega) hj
          refine ⟨r, Ev.step (fun k => by rw [slices_symMergeCmpFunc_Mono__impl_ordered_1.l0]) (Ev.ite_true (by omega) ?_), h2⟩
          rw [halfS (by omega), wr1 (by omega)]
          refine Ev.ite_true (by omega) (Ev.ite_true (by omega) (Ev.ite_true (by omega) (Ev.ite_true (by omega) (Ev.bind (a := cmpL l[a].f0 l[(i + j) / 2].f0) ?_ (Ev.ite_true g h1)))))
          rw [rdT_nat l _ hh, rdT_nat l a ha]
          exact hc
        · obtain ⟨r, h1, h2⟩ := symS_l0 a s i ((i + j) / 2) l (by omega) hi hl ha hil (by omega)
          refine ⟨r, Ev.step (fun k => by rw [slices_symMergeCmpFunc_Mono__impl_ordered_1.l0]) (Ev.ite_true (by omega) ?_), h2⟩
          rw [halfS (by omega)]
          refine Ev.ite_true (by omega) (Ev.ite_true (by omega) (Ev.ite_true (by omega) (Ev.ite_true (by omega) (Ev.bind (a := cmpL l[a].f0 l[(i + j) / 2].f0) ?_ (Ev.ite_false g h1)))))
          rw [rdT_nat l _ hh, rdT_nat l a ha]
          exact hc
    · obtain ⟨r, h1, h2⟩ := if h : a ≤ i - 1 then symS_l1 i hi (i - 1 - a) a l (by omega) hl hil else symS_l1 i hi 0 a l (by omega) hl hil
      exact ⟨r, Ev.step (fun k => by rw [slices_symMergeCmpFunc_Mono__impl_ordered_1.l0]) (Ev.ite_false (by omega) h1), h2⟩
theorem symS_l3 (i : Nat) (d : Nat) : ∀ (j : Nat) (l : List S48), i + d = j ∨ (d = 0 ∧ j ≤ i) → okS l → j < l.length → ∃ r, Ev (fun k => slices_symMergeCmpFunc_Mono__impl_ordered_1.l3 k l i j) r ∧ r.Perm l := by
  induction d with
  | zero =>
    intro j l hj hl hjl
    exact ⟨l, Ev.step (fun k => by rw [slices_symMergeCmpFunc_Mono__impl_ordered_1.l3]) (Ev.ite_false (by omega) (Ev.now _)), List.Perm.refl _⟩
  | succ d ih =>
    intro j l hj hl hjl
    have h9 := hl.1
    have hp := swapS (l := l) (i := j) (j := j - 1) (by omega) (by omega)
    obtain ⟨r, h1, h2⟩ := ih (j - 1) _ (by omega) (okS_perm hl hp) (by rw [hp.length_eq]; omega)
    refine ⟨r, Ev.step (fun k => by rw [slices_symMergeCmpFunc_Mono__impl_ordered_1.l3]) (Ev.ite_true (by omega) ?_), h2.trans hp⟩
    rw [wrm1S (by omega) (by omega)]
    exact Ev.ite_true (by omega) (Ev.ite_true (by omega) (Ev.ite_true (by omega) (Ev.ite_true (by omega) h1)))
theorem symS_l2 (m : Nat) : ∀ (s i j : Nat) (l : List S48), j - i ≤ s → okS l → m < l.length → i ≤ l.length → j ≤ l.length → ∃ r, Ev (fun k => slices_symMergeCmpFunc_Mono__impl_ordered_1.l2 k l m i j) r ∧ r.Perm l
  | s, i, j, l, hs, hl, hm, hil, hj => by
    have h9 := hl.1
    by_cases c : i < j
    · cases s with
      | zero => omega
      | succ s =>
        have hh : (i + j) / 2 < l.length := by omega
        have hc := cmpS_ev hl hm hh
        by_cases g : cmpL l[(i + j) / 2].f0 l[m].f0 < 0
        · obtain ⟨r, h1, h2⟩ := symS_l2 m s i ((i + j) / 2) l (by omega) hl hm hil (by omega)
          refine ⟨r, Ev.step (fun k => by rw [slices_symMergeCmpFunc_Mono__impl_ordered_1.l2]) (Ev.ite_true (by omega) ?_), h2⟩
          rw [halfS (by omega)]
          refine Ev.ite_true (by omega) (Ev.ite_true (by omega) (Ev.ite_true (by omega) (Ev.ite_true (by omega) (Ev.bind (a := cmpL l[(i + j) / 2].f0 l[m].f0) ?_ (Ev.ite_true g h1)))))
          rw [rdT_nat l _ hh, rdT_nat l m hm]
          exact hc
        · obtain ⟨r, h1, h2⟩ := symS_l2 m s ((i + j) / 2 + 1) j l (by omega) hl hm (by omega) hj
          refine ⟨r, Ev.step (fun k => by rw [slices_symMergeCmpFunc_Mono__impl_ordered_1.l2]) (Ev.ite_true (by omega) ?_), h2⟩
          rw [halfS (by omega), wr1 (by omega)]
          refine Ev.ite_true (by omega) (Ev.ite_true (by omega) (Ev.ite_true (by omega) (Ev.ite_true (by omega) (Ev.bind (a := cmpL l[(i + j) / 2].f0 l[m].f0) ?_ (Ev.ite_false g h1)))))
          rw [rdT_nat l _ hh, rdT_nat l m hm]
          exact hc
    · obtain ⟨r, h1, h2⟩ := if h : i ≤ m then symS_l3 i (m - i) m l (by omega) hl hm else symS_l3 i 0 m l (by omega) hl hm
      exact ⟨r, Ev.step (fun k => by rw [slices_symMergeCmpFunc_Mono__impl_ordered_1.l2]) (Ev.ite_false (by omega) h1), h2⟩
def SymOk (n : Nat) : Prop := ∀ (a m b : Nat) (l : List S48), b - a ≤ n → a < m → m < b → okS l → b ≤ l.length → ∃ r, Ev (fun k => slices_symMergeCmpFunc_Mono__impl_ordered_1.f k l a m b) r ∧ r.Perm l
theorem symS_j8 {n : Nat} (H : SymOk n) (a b mid st en : Nat) (l : List S48) (bl : Bool) (hbl : bl = true → a < st ∧ st < mid) (hn1 : mid - a ≤ n) (hn2 : b - mid ≤ n) (hl : okS l) (hb : b ≤ l.length) (hmb : mid ≤ b) :
    ∃ r, Ev (fun k => slices_symMergeCmpFunc_Mono__impl_ordered_1.j8 k l a b mid st en bl) r ∧ r.Perm l := by
  have tail : ∀ l', l'.Perm l → ∃ r, Ev (fun k => if (mid : Int) < (en : Int) then (if (en : Int) < (b : Int) then ((slices_symMergeCmpFunc_Mono__impl_ordered_1.f k l' mid en b).bind fun t => some t) else some l') else some l') r ∧ r.Perm l := by
    intro l' hp
    by_cases c1 : mid < en
    · by_cases c2 : en < b
      · obtain ⟨r, h1, h2⟩ := H mid en b l' hn2 c1 c2 (okS_perm hl hp) (by rw [hp.length_eq]; exact hb)
        exact ⟨r, Ev.ite_true (by omega) (Ev.ite_true (by omega) (Ev.bind h1 (Ev.now _))), h2.trans hp⟩
      · exact ⟨l', Ev.ite_true (by omega) (Ev.ite_false (by omega) (Ev.now _)), hp⟩
    · exact ⟨l', Ev.ite_false (by omega) (Ev.now _), hp⟩
  cases bl with
  | true =>
    obtain ⟨g1, g2⟩ := hbl rfl
    obtain ⟨r, h1, h2⟩ := H a st mid l hn1 g1 g2 hl (by omega)
    obtain ⟨r', h3, h4⟩ := tail r h2
    exact ⟨r', Ev.step (fun k => by rw [slices_symMergeCmpFunc_Mono__impl_ordered_1.j8]) (Ev.ite_true rfl (Ev.bind h1 h3)), h4⟩
  | false =>
    obtain ⟨r', h3, h4⟩ := tail l (List.Perm.refl _)
    exact ⟨r', Ev.step (fun k => by rw [slices_symMergeCmpFunc_Mono__impl_ordered_1.j8]) (Ev.ite_false (by simp) h3), h4⟩
theorem symS_j7 {n : Nat} (H : SymOk n) (a b mid st en : Nat) (l : List S48) (hn1 : mid - a ≤ n) (hn2 : b - mid ≤ n) (hl : okS l) (hb : b ≤ l.length) (hmb : mid ≤ b) :
    ∃ r, Ev (fun k => slices_symMergeCmpFunc_Mono__impl_ordered_1.j7 k l a b mid st en) r ∧ r.Perm l := by
  by_cases c : a < st
  · obtain ⟨r, h1, h2⟩ := symS_j8 H a b mid st en l (decide ((st : Int) < (mid : Int))) (fun h => ⟨c, by rw [decide_eq_true_eq] at h; omega⟩) hn1 hn2 hl hb hmb
    exact ⟨r, Ev.step (fun k => by rw [slices_symMergeCmpFunc_Mono__impl_ordered_1.j7]) (Ev.ite_true (by omega) h1), h2⟩
  · obtain ⟨r, h1, h2⟩ := symS_j8 H a b mid st en l false (by simp) hn1 hn2 hl hb hmb
    exact ⟨r, Ev.step (fun k => by rw [slices_symMergeCmpFunc_Mono__impl_ordered_1.j7]) (Ev.ite_false (by omega) h1), h2⟩
theorem symS_j6 {n : Nat} (H : SymOk n) (a m b mid st en : Nat) (l : List S48) (bl : Bool) (hbl : bl = true → st < m ∧ m < en) (hen : en ≤ b) (hn1 : mid - a ≤ n) (hn2 : b - mid ≤ n) (hl : okS l) (hb : b ≤ l.length) (hmb : mid ≤ b) :
    ∃ r, Ev (fun k => slices_symMergeCmpFunc_Mono__impl_ordered_1.j6 k l a m b mid st en bl) r ∧ r.Perm l := by
  cases bl with
  | true =>
    obtain ⟨g1, g2⟩ := hbl rfl
    obtain ⟨r, h1, h2⟩ := rotS_ev st m en l hl g1 g2 (by omega)
    obtain ⟨r', h3, h4⟩ := symS_j7 H a b mid st en r hn1 hn2 (okS_perm hl h2) (by rw [h2.length_eq]; exact hb) hmb
    exact ⟨r', Ev.step (fun k => by rw [slices_symMergeCmpFunc_Mono__impl_ordered_1.j6]) (Ev.ite_true rfl (Ev.bind h1 h3)), h4.trans h2⟩
  | false =>
    obtain ⟨r, h1, h2⟩ := symS_j7 H a b mid st en l hn1 hn2 hl hb hmb
    exact ⟨r, Ev.step (fun k => by rw [slices_symMergeCmpFunc_Mono__impl_ordered_1.j6]) (Ev.ite_false (by simp) h1), h2⟩
theorem symS_l4 {n : Nat} (H : SymOk n) (a m b mid : Nat) (hn1 : mid - a ≤ n) (hn2 : b - mid ≤ n) (hmb : mid ≤ b) : ∀ (s i j : Nat) (l : List S48), j - i ≤ s → okS l → b ≤ l.length → i ≤ mid + m → mid + m ≤ b + i → j ≤ mid + m → j ≤ b → (i ≤ j) →
    ∃ r, Ev (fun k => slices_symMergeCmpFunc_Mono__impl_ordered_1.l4 k l a m b mid ((mid + m : Nat) : Int) i j ((mid + m - 1 : Nat) : Int)) r ∧ r.Perm l
  | s, i, j, l, hs, hl, hb, hi1, hi2, hj1, hj2, hij => by
    have h9 := hl.1
    by_cases c : i < j
    · cases s with
      | zero => omega
      | succ s =>
        have hh : (i + j) / 2 < l.length := by omega
        have hq : mid + m - 1 - (i + j) / 2 < l.length := by omega
        have hc := cmpS_ev hl hq hh
        by_cases g : cmpL l[(i + j) / 2].f0 l[mid + m - 1 - (i + j) / 2].f0 < 0
        · obtain ⟨r, h1, h2⟩ := symS_l4 H a m b mid hn1 hn2 hmb s i ((i + j) / 2) l (by omega) hl hb hi1 hi2 (by omega) (by omega) (by omega)
          refine ⟨r, Ev.step (fun k => by rw [slices_symMergeCmpFunc_Mono__impl_ordered_1.l4]) (Ev.ite_true (by omega) ?_), h2⟩
          rw [halfS (by omega), wrS (by omega) (by omega)]
          refine Ev.ite_true (by omega) (Ev.ite_true (by omega) (Ev.ite_true (by omega) (Ev.ite_true (by omega) (Ev.bind (a := cmpL l[(i + j) / 2].f0 l[mid + m - 1 - (i + j) / 2].f0) ?_ (Ev.ite_true g h1)))))
          rw [rdT_nat l _ hh, rdT_nat l _ hq]
          exact hc
        · obtain ⟨r, h1, h2⟩ := symS_l4 H a m b mid hn1 hn2 hmb s ((i + j) / 2 + 1) j l (by omega) hl hb (by omega) (by omega) hj1 hj2 (by omega)
          refine ⟨r, Ev.step (fun k => by rw [slices_symMergeCmpFunc_Mono__impl_ordered_1.l4]) (Ev.ite_true (by omega) ?_), h2⟩
          rw [halfS (by omega), wrS (by omega) (by omega), wr1 (by omega)]
          refine Ev.ite_true (by omega) (Ev.ite_true (by omega) (Ev.ite_true (by omega) (Ev.ite_true (by omega) (Ev.bind (a := cmpL l[(i + j) / 2].f0 l[mid + m - 1 - (i + j) / 2].f0) ?_ (Ev.ite_false g h1)))))
          rw [rdT_nat l _ hh, rdT_nat l _ hq]
          exact hc
    · by_cases c2 : i < m
      · obtain ⟨r, h1, h2⟩ := symS_j6 H a m b mid i (mid + m - i) l (decide ((m : Int) < ((mid + m - i : Nat) : Int))) (fun h => ⟨c2, by rw [decide_eq_true_eq] at h; omega⟩) (by omega) hn1 hn2 hl hb hmb
        refine ⟨r, Ev.step (fun k => by rw [slices_symMergeCmpFunc_Mono__impl_ordered_1.l4]) (Ev.ite_false (by omega) (Ev.ite_true (by omega) ?_)), h2⟩
        rw [wrS (by omega) (by omega)]
        exact h1
      · obtain ⟨r, h1, h2⟩ := symS_j6 H a m b mid i (mid + m - i) l false (by simp) (by omega) hn1 hn2 hl hb hmb
        refine ⟨r, Ev.step (fun k => by rw [slices_symMergeCmpFunc_Mono__impl_ordered_1.l4]) (Ev.ite_false (by omega) (Ev.ite_false (by omega) ?_)), h2⟩
        rw [wrS (by omega) (by omega)]
        exact h1
theorem symS_all : ∀ n, SymOk n
  | 0 => fun a m b l hn h1 h2 _ _ => by omega
  | n + 1 => fun a m b l hn h1 h2 hl hb => by
    have H := symS_all n
    have h9 := hl.1
    by_cases c1 : m - a = 1
    · obtain ⟨r, g1, g2⟩ := symS_l0 a (b - m) m b l (by omega) (by omega) hl (by omega) (by omega) hb
      refine ⟨r, Ev.step (fun k => by rw [slices_symMergeCmpFunc_Mono__impl_ordered_1.f]) ?_, g2⟩
      rw [wrS (by omega) (by omega)]
      exact Ev.ite_true (by omega) g1
    · by_cases c2 : b - m = 1
      · obtain ⟨r, g1, g2⟩ := symS_l2 m (m - a) a m l (by omega) hl (by omega) (by omega) (by omega)
        refine ⟨r, Ev.step (fun k => by rw [slices_symMergeCmpFunc_Mono__impl_ordered_1.f]) ?_, g2⟩
        rw [wrS (by omega) (by omega), wrS (by omega) (by omega)]
        exact Ev.ite_false (by omega) (Ev.ite_true (by omega) g1)
      · by_cases c3 : (a + b) / 2 < m
        · obtain ⟨r, g1, g2⟩ := symS_l4 H a m b ((a + b) / 2) (by omega) (by omega) (by omega) ((a + b) / 2) ((a + b) / 2 + m - b) ((a + b) / 2) l (by omega) hl hb (by omega) (by omega) (by omega) (by omega) (by omega)
          refine ⟨r, Ev.step (fun k => by rw [slices_symMergeCmpFunc_Mono__impl_ordered_1.f]) ?_, g2⟩
          rw [wrS (by omega) (by omega), wrS (by omega) (by omega), halfS (by omega), wrA (by omega), wrS (by omega) (by omega)]
          refine Ev.ite_false (by omega) (Ev.ite_false (by omega) (Ev.ite_true (by omega) (Ev.step (fun k => by rw [slices_symMergeCmpFunc_Mono__impl_ordered_1.j4]) ?_)))
          rw [wrm1S (by omega) (by omega)]
          exact g1
        · obtain ⟨r, g1, g2⟩ := symS_l4 H a m b ((a + b) / 2) (by omega) (by omega) (by omega) m a m l (by omega) hl hb (by omega) (by omega) (by omega) (by omega) (by omega)
          refine ⟨r, Ev.step (fun k => by rw [slices_symMergeCmpFunc_Mono__impl_ordered_1.f]) ?_, g2⟩
          rw [wrS (by omega) (by omega), wrS (by omega) (by omega), halfS (by omega), wrA (by omega)]
          refine Ev.ite_false (by omega) (Ev.ite_false (by omega) (Ev.ite_false (by omega) (Ev.step (fun k => by rw [slices_symMergeCmpFunc_Mono__impl_ordered_1.j4]) ?_)))
          rw [wrm1S (by omega) (by omega)]
          exact g1
theorem symS_ev (a m b : Nat) (l : List S48) (h1 : a < m) (h2 : m < b) (hl : okS l) (hb : b ≤ l.length) : ∃ r, Ev (fun k => slices_symMergeCmpFunc_Mono__impl_ordered_1.f k l a m b) r ∧ r.Perm l := symS_all (b - a) a m b l (Nat.le_refl _) h1 h2 hl hb
-- the whole
theorem stS_l2 (n bs : Nat) (hbs : 0 < bs) (hbn : bs < n) (H : ∀ l, okS l → l.length = n → ∃ r, Ev (fun k => slices_stableCmpFunc_Mono__impl_ordered_1.l1 k l n ((bs * 2 : Nat) : Int)) r ∧ r.Perm l) : ∀ (s a : Nat) (l : List S48), n + 2 * bs - a ≤ s → a ≤ n → okS l → l.length = n → ∃ r, Ev (fun k => slices_stableCmpFunc_Mono__impl_ordered_1.l2 k l n bs a ((a + 2 * bs : Nat) : Int)) r ∧ r.Perm l
  | 0, a, l, hs, ha, _, _ => by omega
  | s + 1, a, l, hs, ha, hl, hn => by
    have h9 := hl.1
    have w2 : wrap64 (2 * (bs : Int)) = ((2 * bs : Nat) : Int) := by unfold wrap64; omega
    have w3 : wrap64 ((bs : Int) * 2) = ((bs * 2 : Nat) : Int) := by unfold wrap64; omega
    by_cases c : a + 2 * bs ≤ n
    · obtain ⟨r, h1, h2⟩ := symS_ev a (a + bs) (a + 2 * bs) l (by omega) (by omega) hl (by omega)
      obtain ⟨r', h3, h4⟩ := stS_l2 n bs hbs hbn H s (a + 2 * bs) r (by omega) c (okS_perm hl h2) (by rw [h2.length_eq]; exact hn)
      refine ⟨r', Ev.step (fun k => by rw [slices_stableCmpFunc_Mono__impl_ordered_1.l2]) (Ev.ite_true (by omega) ?_), h4.trans h2⟩
      rw [wrA (by omega), w2, wrA (by omega)]
      exact Ev.bind h1 h3
    · by_cases c2 : a + bs < n
      · obtain ⟨r, h1, h2⟩ := symS_ev a (a + bs) n l (by omega) c2 hl (by omega)
        obtain ⟨r', h3, h4⟩ := H r (okS_perm hl h2) (by rw [h2.length_eq]; exact hn)
        refine ⟨r', Ev.step (fun k => by rw [slices_stableCmpFunc_Mono__impl_ordered_1.l2]) (Ev.ite_false (by omega) ?_), h4.trans h2⟩
        rw [wrA (by omega), w3]
        exact Ev.ite_true (by omega) (Ev.bind h1 h3)
      · obtain ⟨r', h3, h4⟩ := H l hl hn
        refine ⟨r', Ev.step (fun k => by rw [slices_stableCmpFunc_Mono__impl_ordered_1.l2]) (Ev.ite_false (by omega) ?_), h4⟩
        rw [wrA (by omega), w3]
        exact Ev.ite_false (by omega) h3
theorem stS_l1 (n : Nat) : ∀ (s bs : Nat) (l : List S48), n - bs ≤ s → 0 < bs → okS l → l.length = n → bs ≤ 2 * n + 20 → ∃ r, Ev (fun k => slices_stableCmpFunc_Mono__impl_ordered_1.l1 k l n bs) r ∧ r.Perm l
  | s, bs, l, hs, hbs, hl, hn, hb2 => by
    have h9 := hl.1
    by_cases c : bs < n
    · cases s with
      | zero => omega
      | succ s =>
        obtain ⟨r, h1, h2⟩ := stS_l2 n bs hbs c (fun l' hl' hn' => stS_l1 n s (bs * 2) l' (by omega) (by omega) hl' hn' (by omega)) (n + 2 * bs) 0 l (by omega) (by omega) hl hn
        refine ⟨r, Ev.step (fun k => by rw [slices_stableCmpFunc_Mono__impl_ordered_1.l1]) (Ev.ite_true (by omega) ?_), h2⟩
        rw [show wrap64 (2 * (bs : Int)) = ((0 + 2 * bs : Nat) : Int) by unfold wrap64; omega]
        exact h1
    · exact ⟨l, Ev.step (fun k => by rw [slices_stableCmpFunc_Mono__impl_ordered_1.l1]) (Ev.ite_false (by omega) (Ev.now _)), List.Perm.refl _⟩
theorem stS_l0 (n : Nat) : ∀ (s a : Nat) (l : List S48), n + 20 - a ≤ s → a ≤ n → okS l → l.length = n → ∃ r, Ev (fun k => slices_stableCmpFunc_Mono__impl_ordered_1.l0 k l n 20 a ((a + 20 : Nat) : Int)) r ∧ r.Perm l
  | 0, a, l, hs, ha, _, _ => by omega
  | s + 1, a, l, hs, ha, hl, hn => by
    have h9 := hl.1
    by_cases c : a + 20 ≤ n
    · obtain ⟨r, h1, h2⟩ := insS_ev a (a + 20) l hl (by omega) (by omega)
      obtain ⟨r', h3, h4⟩ := stS_l0 n s (a + 20) r (by omega) c (okS_perm hl h2) (by rw [h2.length_eq]; exact hn)
      refine ⟨r', Ev.step (fun k => by rw [slices_stableCmpFunc_Mono__impl_ordered_1.l0]) (Ev.ite_true (by omega) ?_), h4.trans h2⟩
      rw [show wrap64 (((a + 20 : Nat) : Int) + 20) = ((a + 20 + 20 : Nat) : Int) by unfold wrap64; omega]
      exact Ev.bind h1 h3
    · obtain ⟨r, h1, h2⟩ := insS_ev a n l hl (by omega) ha
      obtain ⟨r', h3, h4⟩ := stS_l1 n n 20 r (by omega) (by omega) (okS_perm hl h2) (by rw [h2.length_eq]; exact hn) (by omega)
      exact ⟨r', Ev.step (fun k => by rw [slices_stableCmpFunc_Mono__impl_ordered_1.l0]) (Ev.ite_false (by omega) (Ev.bind h1 h3)), h4.trans h2⟩
theorem sortS_ev (l : List S48) (hl : okS l) : ∃ r, Ev (fun k => slices_SortStableFunc_Mono__impl_ordered_1.f k l) r ∧ r.Perm l := by
  obtain ⟨r, h1, h2⟩ := stS_l0 l.length (l.length + 20) 0 l (by omega) (by omega) hl rfl
  refine ⟨r, ?_, h2⟩
  simp only [slices_SortStableFunc_Mono__impl_ordered_1.f, slices_stableCmpFunc_Mono__impl_ordered_1.f]
  exact Ev.bind h1 (Ev.now _)

theorem equal_l0 (a b : List Int) (hl : a.length ≤ 1048576) (hab : a.length = b.length) (d : Nat) : ∀ (i k : Nat), i + d = a.length → a.take i = b.take i → d < k → slices_Equal_int_int.l0 k a b (a.length : Int) i = some (decide (a = b)) := by
  induction d with
  | zero =>
    intro i k hi ht hk
    obtain ⟨k, rfl⟩ : ∃ m, k = m + 1 := ⟨k - 1, by omega⟩
    simp only [slices_Equal_int_int.l0]
    rw [if_neg (by omega)]
    obtain rfl : i = a.length := by omega
    rw [List.take_of_length_le (by omega), List.take_of_length_le (by omega)] at ht
    rw [decide_eq_true ht]
  | succ d ih =>
    intro i k hi ht hk
    obtain ⟨k, rfl⟩ : ∃ m, k = m + 1 := ⟨k - 1, by omega⟩
    have hlt : i < a.length := by omega
    have hlt' : i < b.length := by omega
    simp only [slices_Equal_int_int.l0]
    rw [if_pos (by omega), if_pos (by omega), if_pos (by omega), if_pos (by omega), wr1 (by omega), rd_nat a i hlt, rd_nat b i hlt']
    by_cases h : a[i] = b[i]
    · rw [if_pos h]
      refine ih (i + 1) k (by omega) ?_ (by omega)
      rw [List.take_succ_eq_append_getElem hlt, List.take_succ_eq_append_getElem hlt', ht, h]
    · rw [if_neg h, decide_eq_false]
      intro e
      subst e
      exact h rfl
theorem equal_ev (a b : List Int) (hl : a.length ≤ 1048576) : Ev (fun k => slices_Equal_int_int.f k a b) (decide (a = b)) := by
  refine ⟨a.length + 1, fun k hk => ?_⟩
  show slices_Equal_int_int.f k a b = _
  unfold slices_Equal_int_int.f
  by_cases h : (a.length : Int) = (b.length : Int)
  · rw [if_pos h]
    exact equal_l0 a b hl (by omega) a.length 0 k (by omega) (by simp) (by omega)
  · rw [if_neg h, decide_eq_false]
    intro e
    subst e
    exact h rfl

theorem clone_f (l : List Int) (hl : l.length ≤ 1048576) : slices_Clone_int_int.f l = some l := by
  simp only [slices_Clone_int_int.f, Option.bind_some, List.nil_append, List.length_nil]
  rw [if_pos (by omega)]

/-! impl.ordered keeps the sum of the factors (up to 2^64). -/
def fsum (l : List S48) : Int := (l.map fun x => x.f1).sum
theorem fsum_cons (x : S48) (l : List S48) : fsum (x :: l) = x.f1 + fsum l := by simp only [fsum, List.map_cons, List.sum_cons]
theorem fsum_append (a b : List S48) : fsum (a ++ b) = fsum a + fsum b := by simp [fsum]
theorem sum_perm_int : ∀ {a b : List Int}, a.Perm b → a.sum = b.sum
  | _, _, .nil => rfl
  | _, _, .cons x h => by simp [sum_perm_int h]
  | _, _, .swap x y l => by simp; omega
  | _, _, .trans h1 h2 => (sum_perm_int h1).trans (sum_perm_int h2)
theorem fsum_perm {a b : List S48} (h : a.Perm b) : fsum a = fsum b := sum_perm_int (h.map _)
theorem wcong (x : Int) : ∃ z, wrap64 x = x + 18446744073709551616 * z := ⟨-((x + 9223372036854775808) / 18446744073709551616), by unfold wrap64; omega⟩
theorem wr_eq {x y z : Int} (h : x = y + 18446744073709551616 * z) : wrap64 x = wrap64 y := by unfold wrap64; omega
-- DeleteFunc: what is no nought
def nz (x : S48) : Bool := !(x.f1 == 0)
theorem idxS_l0 (l : List S48) (hl : l.length ≤ 4398046511104) (d : Nat) : ∀ (i : Nat), i + d = l.length → (∀ j (h : j < l.length), j < i → nz l[j] = true) →
    ∃ r, Ev (fun k => slices_IndexFunc_Mono__impl_ordered_2.l0 k l l.length i) r ∧ ((r = -1 ∧ ∀ j (h : j < l.length), nz l[j] = true) ∨ ∃ m : Nat, r = (m : Int) ∧ ∃ h : m < l.length, nz l[m] = false ∧ ∀ j (h : j < l.length), j < m → nz l[j] = true) := by
  induction d with
  | zero =>
    intro i hi H
    exact ⟨-1, Ev.step (fun k => by rw [slices_IndexFunc_Mono__impl_ordered_2.l0]) (Ev.ite_false (by omega) (Ev.now _)), .inl ⟨rfl, fun j h => H j h (by omega)⟩⟩
  | succ d ih =>
    intro i hi H
    have hlt : i < l.length := by omega
    by_cases c : nz l[i] = true
    · obtain ⟨r, h1, h2⟩ := ih (i + 1) (by omega) (fun j h hj => by
        by_cases e : j = i
        · subst e; exact c
        · exact H j h (by omega))
      refine ⟨r, Ev.step (fun k => by rw [slices_IndexFunc_Mono__impl_ordered_2.l0]) (Ev.ite_true (by omega) (Ev.ite_true (by omega) (Ev.ite_true (by omega) ?_))), h2⟩
      rw [rdT_nat l i hlt, wr1 (by omega)]
      simp only [impl_ordered_2.f, Option.bind_some]
      exact Ev.ite_false (by simpa [nz] using c) h1
    · refine ⟨(i : Int), Ev.step (fun k => by rw [slices_IndexFunc_Mono__impl_ordered_2.l0]) (Ev.ite_true (by omega) (Ev.ite_true (by omega) (Ev.ite_true (by omega) ?_))), .inr ⟨i, rfl, hlt, by simpa using c, fun j h hj => H j h hj⟩⟩
      rw [rdT_nat l i hlt]
      simp only [impl_ordered_2.f, Option.bind_some]
      exact Ev.ite_true (by simpa [nz] using c) (Ev.now _)
theorem delS_l0 (o : List S48) (ho : o.length ≤ 4398046511104) (d : Nat) : ∀ (i j : Nat) (l : List S48), j + d = o.length → i ≤ j → l.length = o.length → l.take i = (o.take j).filter nz → l.drop j = o.drop j →
    Ev (fun k => slices_DeleteFunc_Mono__impl_ordered_2.l0 k l i j) (o.filter nz) := by
  induction d with
  | zero =>
    intro i j l hj hij hl h1 h2
    refine Ev.step (fun k => by rw [slices_DeleteFunc_Mono__impl_ordered_2.l0]) (Ev.ite_false (by omega) (Ev.ite_true (by omega) (Ev.ite_true (by omega) ?_)))
    rw [Int.toNat_natCast, h1, List.take_of_length_le (by omega)]
    exact Ev.now _
  | succ d ih =>
    intro i j l hj hij hl h1 h2
    have hlt : j < l.length := by omega
    have hlo : j < o.length := by omega
    have e : l[j] = o[j] := by
      have := congrArg (fun q => q[0]?) h2
      simpa [List.getElem?_drop, hlt, hlo] using this
    have e2 : (o.take (j + 1)).filter nz = (o.take j).filter nz ++ (if nz o[j] = true then [o[j]] else []) := by
      rw [List.take_succ_eq_append_getElem hlo, List.filter_append]
      congr 1
      by_cases c : nz o[j] = true <;> simp [c]
    have h3 : l.drop (j + 1) = o.drop (j + 1) := by
      have := congrArg (fun q => q.drop 1) h2
      simpa using this
    refine Ev.step (fun k => by rw [slices_DeleteFunc_Mono__impl_ordered_2.l0]) (Ev.ite_true (by omega) (Ev.ite_true (by omega) ?_))
    rw [rdT_nat l j hlt, wr1 (by omega), wr1 (by omega), Int.toNat_natCast]
    simp only [impl_ordered_2.f, Option.bind_some]
    by_cases c : nz o[j] = true
    · refine Ev.ite_false (by rw [e]; simpa [nz] using c) (Ev.ite_true (by omega) (Ev.ite_true (by omega) ?_))
      refine ih (i + 1) (j + 1) _ (by omega) (by omega) (by simpa using hl) ?_ ?_
      · rw [take_set_succ l i _ (by omega), h1, e2, if_pos c, e]
      · rw [List.drop_set_of_lt (by omega)]; exact h3
    · refine Ev.ite_true (by rw [e]; simpa [nz] using c) ?_
      exact ih i (j + 1) l (by omega) (by omega) hl (by rw [h1, e2, if_neg c, List.append_nil]) h3
theorem deleteS_ev (l : List S48) (hl : l.length ≤ 4398046511104) : Ev (fun k => slices_DeleteFunc_Mono__impl_ordered_2.f k l) (l.filter nz) := by
  obtain ⟨r, h1, h2⟩ := idxS_l0 l hl l.length 0 (by omega) (fun j _ h => by omega)
  simp only [slices_DeleteFunc_Mono__impl_ordered_2.f, slices_IndexFunc_Mono__impl_ordered_2.f]
  refine Ev.bind h1 ?_
  rcases h2 with ⟨rfl, h⟩ | ⟨m, rfl, hm, hz, h⟩
  · refine Ev.ite_true rfl ?_
    rw [List.filter_eq_self.2 (fun x hx => by obtain ⟨j, hj, rfl⟩ := List.getElem_of_mem hx; exact h j hj)]
    exact Ev.now _
  · refine Ev.ite_false (by omega) ?_
    rw [wr1 (by omega)]
    have e : (l.take m).filter nz = l.take m := List.filter_eq_self.2 (fun x hx => by
      obtain ⟨j, hj, rfl⟩ := List.getElem_of_mem hx
      simp only [List.length_take] at hj
      rw [List.getElem_take]
      exact h j (by omega) (by omega))
    refine delS_l0 l hl (l.length - (m + 1)) m (m + 1) l (by omega) (by omega) rfl ?_ rfl
    rw [List.take_succ_eq_append_getElem hm, List.filter_append, e]
    simp [hz]
theorem fsum_nz (l : List S48) : fsum (l.filter nz) = fsum l := by
  induction l with
  | nil => rfl
  | cons x l ih =>
    have e : fsum (x :: l) = x.f1 + fsum l := by simp [fsum]
    by_cases c : nz x = true
    · rw [List.filter_cons_of_pos c]
      have e2 : fsum (x :: l.filter nz) = x.f1 + fsum (l.filter nz) := by simp [fsum]
      rw [e, e2, ih]
    · rw [List.filter_cons_of_neg c, e, ih]
      simp [nz] at c
      omega
-- the merging of equal ones
theorem fsum_set (l : List S48) (i : Nat) (h : i < l.length) (x : S48) : fsum (l.set i x) = fsum l - l[i].f1 + x.f1 := by
  have a : l.set i x = l.take i ++ x :: l.drop (i + 1) := by rw [List.set_eq_take_append_cons_drop, if_pos h]
  have b : l = l.take i ++ l[i] :: l.drop (i + 1) := by
    rw [← List.drop_eq_getElem_cons h, List.take_append_drop]
  have e1 : fsum (l.set i x) = fsum (l.take i) + (x.f1 + fsum (l.drop (i + 1))) := by rw [a, fsum_append, fsum_cons]
  have e2 : fsum l = fsum (l.take i) + (l[i].f1 + fsum (l.drop (i + 1))) := by
    conv => lhs; rw [b]
    rw [fsum_append, fsum_cons]
  omega
theorem ord_l0 (v : Int) (xs : List S48) (hx : okS xs) (d : Nat) : ∀ (i : Nat) (out : List S48), i + d = xs.length → out.length ≤ i → (∀ x ∈ out, x.f0.length ≤ 1048576) → (∃ z, fsum out + fsum (xs.drop i) = fsum xs + 18446744073709551616 * z) →
    (∀ x ∈ out, ∃ y ∈ xs, x.f0 = y.f0) →
    ∃ r : List S48, Ev (fun k => impl_ordered.l0 k xs xs.length i v out) (v, r) ∧ r.length ≤ xs.length ∧ (∃ z, fsum r = fsum xs + 18446744073709551616 * z) ∧ ∀ x ∈ r, ∃ y ∈ xs, x.f0 = y.f0 := by
  induction d with
  | zero =>
    intro i out hi ho hs hf hm
    have h9 := hx.1
    obtain ⟨z, hz⟩ := hf
    have hd : fsum (xs.drop i) = 0 := by rw [List.drop_of_length_le (by omega)]; rfl
    refine ⟨out.filter nz, Ev.step (fun k => by rw [impl_ordered.l0]) (Ev.ite_false (by omega) (Ev.bind (deleteS_ev out (by omega)) (Ev.now _))), ?_, ⟨z, by rw [fsum_nz]; omega⟩, fun x hx => hm x (List.mem_filter.1 hx).1⟩
    have := List.length_filter_le nz out
    omega
  | succ d ih =>
    intro i out hi ho hs hf hm
    have h9 := hx.1
    have hlt : i < xs.length := by omega
    obtain ⟨z, hz⟩ := hf
    have hxi := hx.2 _ (List.getElem_mem hlt)
    have hd : fsum (xs.drop i) = xs[i].f1 + fsum (xs.drop (i + 1)) := by rw [List.drop_eq_getElem_cons hlt, fsum_cons]
    have add : ∃ r : List S48, Ev (fun k => impl_ordered.l0 k xs xs.length ((i + 1 : Nat) : Int) v (out ++ [(⟨xs[i].f0, xs[i].f1⟩ : S48)])) (v, r) ∧ r.length ≤ xs.length ∧ (∃ z, fsum r = fsum xs + 18446744073709551616 * z) ∧ ∀ x ∈ r, ∃ y ∈ xs, x.f0 = y.f0 := by
      refine ih (i + 1) _ (by omega) (by simp; omega) (fun x hx => ?_) ⟨z, ?_⟩ (fun x hx => ?_)
      · rcases List.mem_append.1 hx with h | h
        · exact hs x h
        · rw [List.mem_singleton.1 h]; exact hxi
      · rw [fsum_append]
        have : fsum [(⟨xs[i].f0, xs[i].f1⟩ : S48)] = xs[i].f1 := by simp [fsum]
        omega
      · rcases List.mem_append.1 hx with h | h
        · exact hm x h
        · exact ⟨xs[i], List.getElem_mem hlt, by rw [List.mem_singleton.1 h]⟩
    by_cases c : out.length = 0
    · obtain ⟨r, h1, h2⟩ := add
      refine ⟨r, Ev.step (fun k => by rw [impl_ordered.l0]) (Ev.ite_true (by omega) (Ev.ite_true (by omega) (Ev.ite_true (by omega) ?_))), h2⟩
      rw [show wrap64 ((out.length : Int) - 1) = -1 by unfold wrap64; omega, rdT_nat xs i hlt, clone_f _ hxi, wr1 (by omega)]
      simp only [Option.bind_some]
      exact Ev.ite_false (by omega) (Ev.ite_true (by omega) h1)
    · have hlast : out.length - 1 < out.length := by omega
      have heq := equal_ev out[out.length - 1].f0 xs[i].f0 (hs _ (List.getElem_mem hlast))
      have w : wrap64 ((out.length : Int) - 1) = ((out.length - 1 : Nat) : Int) := wrm1S (by omega) (by omega)
      by_cases e : out[out.length - 1].f0 = xs[i].f0
      · rw [decide_eq_true e] at heq
        obtain ⟨y, hy⟩ := wcong (out[out.length - 1].f1 + xs[i].f1)
        obtain ⟨r, h1, h2⟩ := ih (i + 1) (out.set (out.length - 1) (⟨out[out.length - 1].f0, wrap64 (out[out.length - 1].f1 + xs[i].f1)⟩ : S48)) (by omega) (by simp; omega) (fun x hx => by
            rcases List.mem_or_eq_of_mem_set hx with h | rfl
            · exact hs x h
            · show out[out.length - 1].f0.length ≤ _
              exact hs _ (List.getElem_mem hlast)) ⟨z + y, by
            rw [fsum_set _ _ hlast]
            simp only []
            omega⟩ (fun x hx => by
            rcases List.mem_or_eq_of_mem_set hx with h | rfl
            · exact hm x h
            · show ∃ y ∈ xs, out[out.length - 1].f0 = y.f0
              exact hm _ (List.getElem_mem hlast))
        refine ⟨r, Ev.step (fun k => by rw [impl_ordered.l0]) (Ev.ite_true (by omega) (Ev.ite_true (by omega) (Ev.ite_true (by omega) ?_))), h2⟩
        rw [w, rdT_nat xs i hlt, rdT_nat out _ hlast, wr1 (by omega), Int.toNat_natCast]
        exact Ev.ite_true (by omega) (Ev.ite_true (by omega) (Ev.ite_true (by omega) (Ev.bind heq (Ev.ite_true rfl h1))))
      · rw [decide_eq_false e] at heq
        obtain ⟨r, h1, h2⟩ := add
        refine ⟨r, Ev.step (fun k => by rw [impl_ordered.l0]) (Ev.ite_true (by omega) (Ev.ite_true (by omega) (Ev.ite_true (by omega) ?_))), h2⟩
        rw [w, rdT_nat xs i hlt, rdT_nat out _ hlast, wr1 (by omega), clone_f _ hxi]
        simp only [Option.bind_some]
        exact Ev.ite_true (by omega) (Ev.ite_true (by omega) (Ev.ite_true (by omega) (Ev.bind heq (Ev.ite_false (by simp) (Ev.ite_true (by omega) h1)))))
theorem ordered_ev (v : Int) (l : List S48) (hl : okS l) (hl2 : l.length < 4398046511104) : ∃ r : List S48, Ev (fun k => impl_ordered.f k v l) (v, r) ∧ r.length ≤ l.length ∧ (∃ z, fsum r = fsum l + 18446744073709551616 * z) ∧ ∀ x ∈ r, ∃ y ∈ l, x.f0 = y.f0 := by
  obtain ⟨s, h1, h2⟩ := sortS_ev l hl
  have hs := okS_perm hl h2
  obtain ⟨r, g1, g2, ⟨z, g3⟩, g4⟩ := ord_l0 v s hs s.length 0 [] (by omega) (by simp) (by simp) ⟨0, by simp [fsum]⟩ (by simp)
  refine ⟨r, ?_, by rw [← h2.length_eq]; exact g2, ⟨z, by rw [← fsum_perm h2]; exact g3⟩, fun x hx => ?_⟩
  · simp only [impl_ordered.f, slices_Clone_Mono.f, Option.bind_some, List.nil_append, List.length_nil]
    rw [if_pos (by omega)]
    simp only [Option.bind_some]
    rw [h2.length_eq] at g1
    exact Ev.bind h1 g1
  · obtain ⟨y, hy, e⟩ := g4 x hx
    exact ⟨y, h2.mem_iff.1 hy, e⟩

/-! Partitions: a plain test, and all of them. -/
def isPF (prev s : Int) : List Int → Bool
  | [] => true
  | x :: xs => if 1 ≤ x ∧ x ≤ 9 ∧ x ≤ prev ∧ s + x ≤ 9 then isPF x (s + x) xs else false
def isP (l : List Int) : Bool := isPF 9 0 l
/-- All lists of numbers of at most 'prev' that add to 's' at most 9. -/
def genP : Nat → Nat → Nat → List (List Int)
  | 0, _, _ => [[]]
  | n + 1, prev, s => [] :: (List.range' 1 (min prev (9 - s))).flatMap fun x => (genP n x (s + x)).map fun r => (x : Int) :: r
theorem mem_genP : ∀ (n prev s : Nat) (l : List Int), 9 < n + s → s ≤ 9 → isPF prev s l = true → l ∈ genP n prev s
  | 0, prev, s, l, h1, h2, _ => by omega
  | n + 1, prev, s, [], _, _, _ => by simp [genP]
  | n + 1, prev, s, x :: xs, h1, h2, h => by
    simp only [isPF] at h
    split at h
    · rename_i hc
      obtain ⟨c1, c2, c3, c4⟩ := hc
      obtain ⟨m, rfl⟩ : ∃ m : Nat, x = (m : Int) := ⟨x.toNat, by omega⟩
      have e : (s : Int) + (m : Int) = ((s + m : Nat) : Int) := by omega
      rw [e] at h
      have ih := mem_genP n m (s + m) xs (by omega) (by omega) h
      simp only [genP, List.mem_cons, List.mem_flatMap]
      refine Or.inr ⟨m, ?_, ?_⟩
      · simp only [List.mem_range'_1]; omega
      · exact List.mem_map.2 ⟨xs, ih, rfl⟩
    · cases h
def allP : List (List Int) := genP 10 9 0
theorem mem_allP {l : List Int} (h : isP l = true) : l ∈ allP := mem_genP 10 9 0 l (by omega) (by omega) h
theorem isPF_length : ∀ (l : List Int) (prev s : Int), isPF prev s l = true → s + l.length ≤ 9 ∨ l = []
  | [], _, _, _ => .inr rfl
  | x :: xs, prev, s, h => by
    simp only [isPF] at h
    split at h
    · rename_i hc
      rcases isPF_length xs x (s + x) h with h1 | rfl
      · left; simp only [List.length_cons]; omega
      · left; simp; omega
    · cases h
theorem isP_length {l : List Int} (h : isP l = true) : l.length ≤ 9 := by
  rcases isPF_length l 9 0 h with h | rfl
  · omega
  · simp
/-- What stands at place i, and behind it. -/
theorem drop_cons (l : List Int) (i : Nat) (h : i < l.length) : l.drop i = l[i] :: l.drop (i + 1) := List.drop_eq_getElem_cons h
def prevOf (l : List Int) (i : Nat) : Int := if i = 0 then 9 else l.getD (i - 1) 0
theorem prevOf_succ (l : List Int) (i : Nat) (h : i < l.length) : prevOf l (i + 1) = l[i] := by simp [prevOf, h]

/-! Horizontal strips among the partitions of at most 9. -/
def inR : List Int → List Int → Bool
  | [], _ => true
  | _ :: _, [] => false
  | x :: xs, y :: ys => decide (x ≤ y) && inR xs ys
def hsR (p q : List Int) : Bool := inR p q && inR q.tail p
theorem inR_trans : ∀ (a b c : List Int), inR a b = true → inR b c = true → inR a c = true
  | [], _, _, _, _ => rfl
  | _ :: _, [], _, h, _ => by simp [inR] at h
  | _ :: _, _ :: _, [], _, h => by simp [inR] at h
  | x :: a, y :: b, z :: c, h1, h2 => by
    simp only [inR, Bool.and_eq_true, decide_eq_true_eq] at h1 h2 ⊢
    exact ⟨by omega, inR_trans a b c h1.2 h2.2⟩
def insOk (q : List Int) : Bool := allP.all fun p => decide (spec_IsInside.f 60 p q = some (inR p q)) && decide (impl_IsInside.f 60 p q = some (inR p q))
def remOk (q : List Int) : Bool := (List.range 10).all fun k => !decide ((k : Int) ≤ q.sum) || match impl_RemoveHorizontal.f 300 q (k : Int) with
  | some L => L.isPerm ((allP.filter fun p => hsR p q).filter fun p => decide (p.sum = q.sum - (k : Int)))
  | none => false
def trims : List (List Int) → Option (List (List Int))
  | [] => some []
  | x :: L => match spec_l7Trim.f 30 x, trims L with
    | some y, some M => some (y :: M)
    | _, _ => none
def strOk (o : List Int) : Bool := allP.all fun p => !inR p o || (List.range 10).all fun k => !decide ((k : Int) ≤ o.sum - p.sum) || match spec_l7Strips.f 300 p o (k : Int) 0 with
  | some L => decide (L.length ≤ 1000) && match trims L with
    | some M => M.isPerm ((allP.filter fun q => hsR p q && inR q o).filter fun q => decide (q.sum = p.sum + (k : Int)))
    | none => false
  | none => false

/-! The finite checks, in pieces. -/
set_option maxRecDepth 100000 in
theorem rpartsI0 : ((allP.drop 0).take 10).all insOk = true := by decide +kernel
set_option maxRecDepth 100000 in
theorem rpartsI10 : ((allP.drop 10).take 10).all insOk = true := by decide +kernel
set_option maxRecDepth 100000 in
theorem rpartsI20 : ((allP.drop 20).take 10).all insOk = true := by decide +kernel
set_option maxRecDepth 100000 in
theorem rpartsI30 : ((allP.drop 30).take 10).all insOk = true := by decide +kernel
set_option maxRecDepth 100000 in
theorem rpartsI40 : ((allP.drop 40).take 10).all insOk = true := by decide +kernel
set_option maxRecDepth 100000 in
theorem rpartsI50 : ((allP.drop 50).take 10).all insOk = true := by decide +kernel
set_option maxRecDepth 100000 in
theorem rpartsI60 : ((allP.drop 60).take 10).all insOk = true := by decide +kernel
set_option maxRecDepth 100000 in
theorem rpartsI70 : ((allP.drop 70).take 10).all insOk = true := by decide +kernel
set_option maxRecDepth 100000 in
theorem rpartsI80 : ((allP.drop 80).take 10).all insOk = true := by decide +kernel
set_option maxRecDepth 100000 in
theorem rpartsI90 : ((allP.drop 90).take 10).all insOk = true := by decide +kernel
set_option maxRecDepth 100000 in
theorem insAll : allP.all insOk = true := by
  have e : allP = ((allP.drop 0).take 10 ++ ((allP.drop 10).take 10 ++ ((allP.drop 20).take 10 ++ ((allP.drop 30).take 10 ++ ((allP.drop 40).take 10 ++ ((allP.drop 50).take 10 ++ ((allP.drop 60).take 10 ++ ((allP.drop 70).take 10 ++ ((allP.drop 80).take 10 ++ ((allP.drop 90).take 10 ++ [])))))))))) := by decide +kernel
  rw [e]
  simp only [List.all_append, List.all_nil, Bool.and_true, rpartsI0, rpartsI10, rpartsI20, rpartsI30, rpartsI40, rpartsI50, rpartsI60, rpartsI70, rpartsI80, rpartsI90]
set_option maxRecDepth 100000 in
theorem rpartsR0 : ((allP.drop 0).take 10).all remOk = true := by decide +kernel
set_option maxRecDepth 100000 in
theorem rpartsR10 : ((allP.drop 10).take 10).all remOk = true := by decide +kernel
set_option maxRecDepth 100000 in
theorem rpartsR20 : ((allP.drop 20).take 10).all remOk = true := by decide +kernel
set_option maxRecDepth 100000 in
theorem rpartsR30 : ((allP.drop 30).take 10).all remOk = true := by decide +kernel
set_option maxRecDepth 100000 in
theorem rpartsR40 : ((allP.drop 40).take 10).all remOk = true := by decide +kernel
set_option maxRecDepth 100000 in
theorem rpartsR50 : ((allP.drop 50).take 10).all remOk = true := by decide +kernel
set_option maxRecDepth 100000 in
theorem rpartsR60 : ((allP.drop 60).take 10).all remOk = true := by decide +kernel
set_option maxRecDepth 100000 in
theorem rpartsR70 : ((allP.drop 70).take 10).all remOk = true := by decide +kernel
set_option maxRecDepth 100000 in
theorem rpartsR80 : ((allP.drop 80).take 10).all remOk = true := by decide +kernel
set_option maxRecDepth 100000 in
theorem rpartsR90 : ((allP.drop 90).take 10).all remOk = true := by decide +kernel
set_option maxRecDepth 100000 in
theorem remAll : allP.all remOk = true := by
  have e : allP = ((allP.drop 0).take 10 ++ ((allP.drop 10).take 10 ++ ((allP.drop 20).take 10 ++ ((allP.drop 30).take 10 ++ ((allP.drop 40).take 10 ++ ((allP.drop 50).take 10 ++ ((allP.drop 60).take 10 ++ ((allP.drop 70).take 10 ++ ((allP.drop 80).take 10 ++ ((allP.drop 90).take 10 ++ [])))))))))) := by decide +kernel
  rw [e]
  simp only [List.all_append, List.all_nil, Bool.and_true, rpartsR0, rpartsR10, rpartsR20, rpartsR30, rpartsR40, rpartsR50, rpartsR60, rpartsR70, rpartsR80, rpartsR90]
set_option maxRecDepth 100000 in
theorem rpartsS0 : ((allP.drop 0).take 5).all strOk = true := by decide +kernel
set_option maxRecDepth 100000 in
theorem rpartsS5 : ((allP.drop 5).take 5).all strOk = true := by decide +kernel
set_option maxRecDepth 100000 in
theorem rpartsS10 : ((allP.drop 10).take 5).all strOk = true := by decide +kernel
set_option maxRecDepth 100000 in
theorem rpartsS15 : ((allP.drop 15).take 5).all strOk = true := by decide +kernel
set_option maxRecDepth 100000 in
theorem rpartsS20 : ((allP.drop 20).take 5).all strOk = true := by decide +kernel
set_option maxRecDepth 100000 in
theorem rpartsS25 : ((allP.drop 25).take 5).all strOk = true := by decide +kernel
set_option maxRecDepth 100000 in
theorem rpartsS30 : ((allP.drop 30).take 5).all strOk = true := by decide +kernel
set_option maxRecDepth 100000 in
theorem rpartsS35 : ((allP.drop 35).take 5).all strOk = true := by decide +kernel
set_option maxRecDepth 100000 in
theorem rpartsS40 : ((allP.drop 40).take 5).all strOk = true := by decide +kernel
set_option maxRecDepth 100000 in
theorem rpartsS45 : ((allP.drop 45).take 5).all strOk = true := by decide +kernel
set_option maxRecDepth 100000 in
theorem rpartsS50 : ((allP.drop 50).take 5).all strOk = true := by decide +kernel
set_option maxRecDepth 100000 in
theorem rpartsS55 : ((allP.drop 55).take 5).all strOk = true := by decide +kernel
set_option maxRecDepth 100000 in
theorem rpartsS60 : ((allP.drop 60).take 5).all strOk = true := by decide +kernel
set_option maxRecDepth 100000 in
theorem rpartsS65 : ((allP.drop 65).take 5).all strOk = true := by decide +kernel
set_option maxRecDepth 100000 in
theorem rpartsS70 : ((allP.drop 70).take 5).all strOk = true := by decide +kernel
set_option maxRecDepth 100000 in
theorem rpartsS75 : ((allP.drop 75).take 5).all strOk = true := by decide +kernel
set_option maxRecDepth 100000 in
theorem rpartsS80 : ((allP.drop 80).take 5).all strOk = true := by decide +kernel
set_option maxRecDepth 100000 in
theorem rpartsS85 : ((allP.drop 85).take 5).all strOk = true := by decide +kernel
set_option maxRecDepth 100000 in
theorem rpartsS90 : ((allP.drop 90).take 5).all strOk = true := by decide +kernel
set_option maxRecDepth 100000 in
theorem rpartsS95 : ((allP.drop 95).take 5).all strOk = true := by decide +kernel
set_option maxRecDepth 100000 in
theorem strAll : allP.all strOk = true := by
  have e : allP = ((allP.drop 0).take 5 ++ ((allP.drop 5).take 5 ++ ((allP.drop 10).take 5 ++ ((allP.drop 15).take 5 ++ ((allP.drop 20).take 5 ++ ((allP.drop 25).take 5 ++ ((allP.drop 30).take 5 ++ ((allP.drop 35).take 5 ++ ((allP.drop 40).take 5 ++ ((allP.drop 45).take 5 ++ ((allP.drop 50).take 5 ++ ((allP.drop 55).take 5 ++ ((allP.drop 60).take 5 ++ ((allP.drop 65).take 5 ++ ((allP.drop 70).take 5 ++ ((allP.drop 75).take 5 ++ ((allP.drop 80).take 5 ++ ((allP.drop 85).take 5 ++ ((allP.drop 90).take 5 ++ ((allP.drop 95).take 5 ++ [])))))))))))))))))))) := by decide +kernel
  rw [e]
  simp only [List.all_append, List.all_nil, Bool.and_true, rpartsS0, rpartsS5, rpartsS10, rpartsS15, rpartsS20, rpartsS25, rpartsS30, rpartsS35, rpartsS40, rpartsS45, rpartsS50, rpartsS55, rpartsS60, rpartsS65, rpartsS70, rpartsS75, rpartsS80, rpartsS85, rpartsS90, rpartsS95]

/-! Chains of horizontal strips: counted from above and from below. -/
theorem inR_refl : ∀ a : List Int, inR a a = true
  | [] => rfl
  | x :: a => by simp [inR, inR_refl a]
def sumN {α : Type} (l : List α) (f : α → Nat) : Nat := (l.map f).sum
theorem sumN_nil {α : Type} (f : α → Nat) : sumN [] f = 0 := rfl
theorem sumN_cons {α : Type} (x : α) (l : List α) (f : α → Nat) : sumN (x :: l) f = f x + sumN l f := by simp [sumN]
theorem sumN_perm {α : Type} {a b : List α} (h : a.Perm b) (f : α → Nat) : sumN a f = sumN b f := (h.map f).sum_nat
theorem sumN_congr {α : Type} {l : List α} {f g : α → Nat} (h : ∀ x ∈ l, f x = g x) : sumN l f = sumN l g := by
  unfold sumN; rw [List.map_congr_left h]
theorem sumN_add {α : Type} (f g : α → Nat) : ∀ l : List α, sumN l (fun x => f x + g x) = sumN l f + sumN l g
  | [] => rfl
  | x :: l => by rw [sumN_cons, sumN_cons, sumN_cons, sumN_add f g l]; omega
theorem sumN_zero {α : Type} : ∀ l : List α, sumN l (fun _ => 0) = 0
  | [] => rfl
  | x :: l => by rw [sumN_cons, sumN_zero l]
theorem sumN_swap {α β : Type} (f : α → β → Nat) (m : List β) : ∀ l : List α, sumN l (fun x => sumN m (fun y => f x y)) = sumN m (fun y => sumN l (fun x => f x y))
  | [] => (sumN_zero m).symm
  | x :: l => by
    rw [sumN_cons, sumN_swap f m l, ← sumN_add]
    exact sumN_congr (fun y _ => (sumN_cons x l (fun x => f x y)).symm)
theorem sumN_mul {α : Type} (c : Nat) (f : α → Nat) : ∀ l : List α, sumN l (fun x => c * f x) = c * sumN l f
  | [] => rfl
  | x :: l => by rw [sumN_cons, sumN_cons, sumN_mul c f l, Nat.mul_add]
theorem sumN_filter {α : Type} (p : α → Bool) (f : α → Nat) : ∀ l : List α, sumN (l.filter p) f = sumN l (fun x => if p x = true then f x else 0)
  | [] => rfl
  | x :: l => by
    by_cases h : p x = true
    · rw [List.filter_cons_of_pos h, sumN_cons, sumN_cons, if_pos h, sumN_filter p f l]
    · rw [List.filter_cons_of_neg h, sumN_cons, if_neg h, sumN_filter p f l, Nat.zero_add]
theorem sumN_one {α : Type} [DecidableEq α] (a : α) (f : α → Nat) : ∀ l : List α, l.Nodup → a ∈ l → sumN l (fun x => if x = a then f x else 0) = f a
  | x :: l, hn, ha => by
    rw [List.nodup_cons] at hn
    rw [sumN_cons]
    by_cases h : x = a
    · subst h
      rw [if_pos rfl, sumN_congr (g := fun _ => 0) (fun y hy => if_neg (show ¬ y = x from fun e => hn.1 (e ▸ hy))), sumN_zero, Nat.add_zero]
    · rw [if_neg h, Nat.zero_add]
      exact sumN_one a f l hn.2 ((List.mem_cons.1 ha).resolve_left (fun e => h e.symm))
def tG (A : List (List Int)) : Nat → List Int → List Int → Nat
  | 0, p, q => if p = q then 1 else 0
  | n + 1, p, q => sumN A (fun r => if hsR r q = true then tG A n p r else 0)
theorem tG_in (A : List (List Int)) : ∀ (n : Nat) (p q : List Int), tG A n p q ≠ 0 → inR p q = true
  | 0, p, q, h => by
    simp only [tG] at h
    split at h
    · rename_i e; subst e; exact inR_refl p
    · exact absurd rfl h
  | n + 1, p, q, h => by
    simp only [tG] at h
    have : ∃ r, hsR r q = true ∧ tG A n p r ≠ 0 := by
      refine Classical.byContradiction fun hc => h ?_
      rw [sumN_congr (g := fun _ => 0) (fun r _ => by
        by_cases h1 : hsR r q = true
        · rw [if_pos h1]
          exact Classical.byContradiction fun h2 => hc ⟨r, h1, h2⟩
        · rw [if_neg h1]), sumN_zero]
    obtain ⟨r, h1, h2⟩ := this
    simp only [hsR, Bool.and_eq_true] at h1
    exact inR_trans _ _ _ (tG_in A n p r h2) h1.1
theorem tG_below (A : List (List Int)) (hA : A.Nodup) : ∀ (n : Nat) (p q : List Int), p ∈ A → q ∈ A → tG A (n + 1) p q = sumN A (fun r => if hsR p r = true then tG A n r q else 0)
  | 0, p, q, hp, hq => by
    have e1 : tG A 1 p q = if hsR p q = true then 1 else 0 := by
      simp only [tG]
      rw [sumN_congr (g := fun r => if r = p then (if hsR r q = true then 1 else 0) else 0) (fun r _ => by
        by_cases h : r = p
        · subst h; simp
        · rw [if_neg h, if_neg (show ¬ p = r from fun e => h e.symm), ite_self])]
      exact sumN_one p (fun r => if hsR r q = true then 1 else 0) A hA hp
    rw [e1]
    simp only [tG]
    rw [sumN_congr (g := fun r => if r = q then (if hsR p r = true then 1 else 0) else 0) (fun r _ => by
      by_cases h : r = q
      · subst h; simp
      · rw [if_neg h, if_neg h, ite_self])]
    exact (sumN_one q (fun r => if hsR p r = true then 1 else 0) A hA hq).symm
  | n + 1, p, q, hp, hq => by
    have e1 : tG A (n + 2) p q = sumN A (fun s => if hsR s q = true then sumN A (fun r => if hsR p r = true then tG A n r s else 0) else 0) := by
      show sumN A (fun s => if hsR s q = true then tG A (n + 1) p s else 0) = _
      exact sumN_congr (fun s hs => by rw [tG_below A hA n p s hp hs])
    rw [e1]
    have e2 : ∀ r, (if hsR p r = true then tG A (n + 1) r q else 0) = sumN A (fun s => if hsR p r = true then (if hsR s q = true then tG A n r s else 0) else 0) := fun r => by
      by_cases h : hsR p r = true
      · simp only [if_pos h]; rfl
      · simp only [if_neg h]; exact (sumN_zero A).symm
    rw [sumN_congr (fun r _ => e2 r), sumN_swap]
    refine sumN_congr (fun s _ => ?_)
    by_cases h : hsR s q = true
    · simp only [if_pos h]
    · simp only [if_neg h]
      rw [sumN_congr (g := fun _ => 0) (fun r _ => by split <;> rfl), sumN_zero]
theorem allP_nodup : allP.Nodup := by decide +kernel
def tN (n : Nat) (p q : List Int) : Nat := tG allP n p q
theorem tN_in (n : Nat) (p q : List Int) (h : tN n p q ≠ 0) : inR p q = true := tG_in allP n p q h
theorem tN_below (n : Nat) (p q : List Int) (hp : p ∈ allP) (hq : q ∈ allP) : tN (n + 1) p q = sumN allP (fun r => if hsR p r = true then tN n r q else 0) := tG_below allP allP_nodup n p q hp hq
theorem tN_above (n : Nat) (p q : List Int) : tN (n + 1) p q = sumN allP (fun r => if hsR r q = true then tN n p r else 0) := rfl
-- sums by grades
theorem sumN_grade {α : Type} (g : α → Nat) (f : α → Nat) (F : List α) (j : Nat) : sumN (F.filter fun x => decide (g x < j + 1)) f = sumN (F.filter fun x => decide (g x < j)) f + sumN (F.filter fun x => decide (g x = j)) f := by
  rw [sumN_filter, sumN_filter, sumN_filter, ← sumN_add]
  refine sumN_congr (fun x _ => ?_)
  simp only [decide_eq_true_eq]
  by_cases h : g x < j
  · rw [if_pos (by omega), if_pos h, if_neg (by omega)]; omega
  · by_cases h2 : g x = j
    · rw [if_pos (by omega), if_neg h, if_pos h2]; omega
    · rw [if_neg (by omega), if_neg h, if_neg h2]
theorem psumT {p : List Int} (h : p ∈ allP) : 0 ≤ p.sum ∧ p.sum ≤ 9 := by
  have a : allP.all (fun p => decide (0 ≤ p.sum ∧ p.sum ≤ 9)) = true := by decide +kernel
  exact of_decide_eq_true (of_all a h)
theorem isP_allP {p : List Int} (h : p ∈ allP) : isP p = true := by
  have a : allP.all (fun p => isP p) = true := by decide +kernel
  exact of_all a h
set_option maxRecDepth 100000 in
theorem inR_sum : (allP.all fun q => allP.all fun p => !inR p q || (decide (p.sum ≤ q.sum) && (!decide (p.sum = q.sum) || decide (p = q)))) = true := by decide +kernel
theorem inR_le {p q : List Int} (hp : p ∈ allP) (hq : q ∈ allP) (h : inR p q = true) : p.sum ≤ q.sum ∧ (p.sum = q.sum → p = q) := by
  have a := of_all (of_all inR_sum hq) hp
  rw [h] at a
  simp only [Bool.not_true, Bool.false_or, Bool.and_eq_true, Bool.or_eq_true, Bool.not_eq_true', decide_eq_false_iff_not, decide_eq_true_eq] at a
  exact ⟨a.1, fun e => a.2.resolve_left (fun n => n e)⟩

theorem toIntS_l0 (l : List Int) (hl : l.length ≤ 1048576) (d : Nat) : ∀ (i : Nat) (y : List Int) (k : Nat), i + d = l.length → y.length = l.length → y.take i = l.take i → d < k → laws_toIntS.l0 k l y i = some l := by
  induction d with
  | zero =>
    intro i y k hi hy ht hk
    obtain ⟨k, rfl⟩ : ∃ m, k = m + 1 := ⟨k - 1, by omega⟩
    simp only [laws_toIntS.l0]
    rw [if_neg (by omega)]
    obtain rfl : i = l.length := by omega
    rw [List.take_of_length_le (by omega), List.take_of_length_le (by omega)] at ht
    rw [ht]
  | succ d ih =>
    intro i y k hi hy ht hk
    obtain ⟨k, rfl⟩ : ∃ m, k = m + 1 := ⟨k - 1, by omega⟩
    have hlt : i < l.length := by omega
    simp only [laws_toIntS.l0]
    rw [if_pos (by omega), if_pos (by omega), if_pos (by omega), wr1 (by omega), rd_nat l i hlt]
    refine ih (i + 1) _ k (by omega) (by simpa using hy) ?_ (by omega)
    rw [Int.toNat_natCast, take_set_succ y i _ (by omega), ht, List.take_succ_eq_append_getElem hlt]
theorem toIntS_ev (l : List Int) (hl : l.length ≤ 1048576) : Ev (fun k => laws_toIntS.f k l) l := by
  refine ⟨l.length + 1, fun k hk => ?_⟩
  show laws_toIntS.f k l = some l
  unfold laws_toIntS.f
  rw [if_pos (by omega), if_pos (by omega)]
  exact toIntS_l0 l hl l.length 0 _ k (by omega) (by simp) (by simp) (by omega)

theorem eqIntS_l0 (a b : List Int) (hl : a.length ≤ 1048576) (hab : a.length = b.length) (d : Nat) : ∀ (i k : Nat), i + d = a.length → a.take i = b.take i → d < k → laws_eqIntS.l0 k a b i = some (decide (a = b)) := by
  induction d with
  | zero =>
    intro i k hi ht hk
    obtain ⟨k, rfl⟩ : ∃ m, k = m + 1 := ⟨k - 1, by omega⟩
    simp only [laws_eqIntS.l0]
    rw [if_neg (by omega)]
    obtain rfl : i = a.length := by omega
    rw [List.take_of_length_le (by omega), List.take_of_length_le (by omega)] at ht
    rw [decide_eq_true ht]
  | succ d ih =>
    intro i k hi ht hk
    obtain ⟨k, rfl⟩ : ∃ m, k = m + 1 := ⟨k - 1, by omega⟩
    have hlt : i < a.length := by omega
    have hlt' : i < b.length := by omega
    simp only [laws_eqIntS.l0]
    rw [if_pos (by omega), if_pos (by omega), if_pos (by omega), wr1 (by omega), rd_nat a i hlt, rd_nat b i hlt']
    by_cases h : a[i] = b[i]
    · rw [if_pos h]
      refine ih (i + 1) k (by omega) ?_ (by omega)
      rw [List.take_succ_eq_append_getElem hlt, List.take_succ_eq_append_getElem hlt', ht, h]
    · rw [if_neg h, decide_eq_false]
      intro e
      subst e
      exact h rfl
theorem eqIntS_ev (a b : List Int) (hl : a.length ≤ 1048576) : Ev (fun k => laws_eqIntS.f k a b) (decide (a = b)) := by
  refine ⟨a.length + 1, fun k hk => ?_⟩
  show laws_eqIntS.f k a b = _
  unfold laws_eqIntS.f
  by_cases h : (a.length : Int) = (b.length : Int)
  · rw [if_pos h]
    exact eqIntS_l0 a b hl (by omega) a.length 0 k (by omega) (by simp) (by omega)
  · rw [if_neg h, decide_eq_false]
    intro e
    subst e
    exact h rfl
theorem eqIntS_self (a : List Int) (hl : a.length ≤ 1048576) : Ev (fun k => laws_eqIntS.f k a a) true := by
  have h := eqIntS_ev a a hl
  rwa [decide_eq_true rfl] at h

-- The size of a partition, -1 for what is none.
def szB (p : List Int) : Int := if isP p = true then p.sum else -1
theorem factsize : allP.all (fun p => decide (spec_l2Size.f 20 p = some p.sum) && decide (impl_sum.f 20 p = some p.sum)) = true := by decide +kernel
theorem specL2_ev {p : List Int} (h : isP p = true) : Ev (fun k => spec_l2Size.f k p) p.sum := by
  have a := of_all factsize (mem_allP h)
  simp only [Bool.and_eq_true, decide_eq_true_eq] at a
  exact Ev.of (spec_l2Size.mono p) a.1
theorem implSum_ev {p : List Int} (h : isP p = true) : Ev (fun k => impl_sum.f k p) p.sum := by
  have a := of_all factsize (mem_allP h)
  simp only [Bool.and_eq_true, decide_eq_true_eq] at a
  exact Ev.of (impl_sum.mono p) a.2

theorem within_f (x a b : Int) : impl_within.f x a b = some (decide (a ≤ x ∧ x ≤ b)) := by
  unfold impl_within.f
  by_cases h : a ≤ x
  · rw [if_pos h]; congr 1; by_cases h2 : x ≤ b
    · rw [decide_eq_true h2, decide_eq_true ⟨h, h2⟩]
    · rw [decide_eq_false h2, decide_eq_false (by omega)]
  · rw [if_neg h, decide_eq_false (by omega)]

theorem l1In_f (x a b : Int) : spec_l1In.f x a b = some (decide (a ≤ x ∧ x ≤ b)) := by
  unfold spec_l1In.f
  by_cases h : x ≥ a
  · rw [if_pos h]; congr 1; by_cases h2 : x ≤ b
    · rw [decide_eq_true h2, decide_eq_true ⟨h, h2⟩]
    · rw [decide_eq_false h2, decide_eq_false (by omega)]
  · rw [if_neg h, decide_eq_false (by omega)]

theorem specIsP_l0 (l : List Int) (hl : l.length ≤ 1048576) (d : Nat) : ∀ (i k : Nat) (s : Int), i + d = l.length → 0 ≤ s → s ≤ 9 → 2 * d < k → spec_IsPartition.l0 k l s i = some (isPF (prevOf l i) s (l.drop i)) := by
  induction d with
  | zero =>
    intro i k s hi h0 h9 hk
    obtain ⟨k, rfl⟩ : ∃ m, k = m + 1 := ⟨k - 1, by omega⟩
    simp only [spec_IsPartition.l0]
    rw [if_neg (by omega), List.drop_of_length_le (by omega)]
    rfl
  | succ d ih =>
    intro i k s hi h0 h9 hk
    obtain ⟨k, rfl⟩ : ∃ m, k = m + 2 := ⟨k - 2, by omega⟩
    have hlt : i < l.length := by omega
    simp only [spec_IsPartition.l0]
    rw [if_pos (by omega), if_pos (by omega), rd_nat l i hlt, l1In_f, drop_cons l i hlt]
    simp only [Option.bind_some, isPF]
    have hj : ∀ b : Bool, (b = true ↔ ¬ (1 ≤ l[i] ∧ l[i] ≤ 9 ∧ l[i] ≤ prevOf l i)) →
        spec_IsPartition.j1 (k + 1) l s i b = some (if 1 ≤ l[i] ∧ l[i] ≤ 9 ∧ l[i] ≤ prevOf l i ∧ s + l[i] ≤ 9 then isPF l[i] (s + l[i]) (l.drop (i + 1)) else false) := by
      intro b hb
      simp only [spec_IsPartition.j1]
      by_cases hc : 1 ≤ l[i] ∧ l[i] ≤ 9 ∧ l[i] ≤ prevOf l i
      · rw [if_neg (fun h => hb.1 h hc), if_pos (by omega), if_pos (by omega), rd_nat l i hlt, wr_in (by omega) (by omega), wr1 (by omega)]
        by_cases h9' : s + l[i] > 9
        · rw [if_pos h9', if_neg (by omega)]
        · rw [if_neg h9', if_pos ⟨hc.1, hc.2.1, hc.2.2, by omega⟩, ih (i + 1) k _ (by omega) (by omega) (by omega) (by omega), prevOf_succ l i hlt]
      · rw [if_pos (hb.2 hc), if_neg (fun h => hc ⟨h.1, h.2.1, h.2.2.1⟩)]
    by_cases h1 : 1 ≤ l[i] ∧ l[i] ≤ 9
    · rw [if_pos (decide_eq_true h1)]
      by_cases hi0 : i = 0
      · subst hi0
        rw [if_neg (by omega)]
        exact hj false (by simp [prevOf]; omega)
      · have e : wrap64 ((i : Int) - 1) = ((i - 1 : Nat) : Int) := by unfold wrap64; omega
        rw [if_pos (by omega), e, if_pos (by omega), if_pos (by omega), rd_nat l (i - 1) (by omega)]
        refine hj _ ?_
        have hp : prevOf l i = l[i - 1] := by simp [prevOf, hi0]; rw [List.getElem?_eq_getElem (by omega)]; rfl
        rw [hp, decide_eq_true_iff]; omega
    · rw [if_neg (by simp; omega)]
      exact hj true (by simp; omega)
theorem specIsP_ev (l : List Int) (hl : l.length ≤ 1048576) : Ev (fun k => spec_IsPartition.f k l) (isP l) := by
  refine ⟨2 * l.length + 1, fun k hk => ?_⟩
  have h := specIsP_l0 l hl l.length 0 k 0 (by omega) (by omega) (by omega) (by omega)
  simpa [spec_IsPartition.f, isP, prevOf] using h

theorem implIsP_l0 (l : List Int) (hl : l.length ≤ 1048576) (d : Nat) : ∀ (i k : Nat) (s : Int), i + d = l.length → 0 ≤ s → s ≤ 9 → 2 * d < k → impl_IsPartition.l0 k l s l l.length i = some (isPF (prevOf l i) s (l.drop i)) := by
  induction d with
  | zero =>
    intro i k s hi h0 h9 hk
    obtain ⟨k, rfl⟩ : ∃ m, k = m + 1 := ⟨k - 1, by omega⟩
    simp only [impl_IsPartition.l0]
    rw [if_neg (by omega), List.drop_of_length_le (by omega)]
    rfl
  | succ d ih =>
    intro i k s hi h0 h9 hk
    obtain ⟨k, rfl⟩ : ∃ m, k = m + 2 := ⟨k - 2, by omega⟩
    have hlt : i < l.length := by omega
    simp only [impl_IsPartition.l0]
    rw [if_pos (by omega), if_pos (by omega), if_pos (by omega), rd_nat l i hlt, within_f, drop_cons l i hlt]
    simp only [Option.bind_some, isPF]
    have hj : ∀ b : Bool, (b = true ↔ ¬ (1 ≤ l[i] ∧ l[i] ≤ 9 ∧ l[i] ≤ prevOf l i)) →
        impl_IsPartition.j1 (k + 1) l s l[i] l l.length i b = some (if 1 ≤ l[i] ∧ l[i] ≤ 9 ∧ l[i] ≤ prevOf l i ∧ s + l[i] ≤ 9 then isPF l[i] (s + l[i]) (l.drop (i + 1)) else false) := by
      intro b hb
      simp only [impl_IsPartition.j1]
      by_cases hc : 1 ≤ l[i] ∧ l[i] ≤ 9 ∧ l[i] ≤ prevOf l i
      · rw [if_neg (fun h => hb.1 h hc), wr_in (x := s + l[i]) (by omega) (by omega), wr1 (by omega)]
        by_cases h9' : s + l[i] > 9
        · rw [if_pos h9', if_neg (by omega)]
        · rw [if_neg h9', if_pos ⟨hc.1, hc.2.1, hc.2.2, by omega⟩, ih (i + 1) k _ (by omega) (by omega) (by omega) (by omega), prevOf_succ l i hlt]
      · rw [if_pos (hb.2 hc), if_neg (fun h => hc ⟨h.1, h.2.1, h.2.2.1⟩)]
    by_cases h1 : 1 ≤ l[i] ∧ l[i] ≤ 9
    · rw [if_pos (decide_eq_true h1)]
      by_cases hi0 : i = 0
      · subst hi0
        rw [if_neg (by omega)]
        exact hj false (by simp [prevOf]; omega)
      · have e : wrap64 ((i : Int) - 1) = ((i - 1 : Nat) : Int) := by unfold wrap64; omega
        rw [if_pos (by omega), e, if_pos (by omega), if_pos (by omega), rd_nat l (i - 1) (by omega)]
        refine hj _ ?_
        have hp : prevOf l i = l[i - 1] := by simp [prevOf, hi0]; rw [List.getElem?_eq_getElem (by omega)]; rfl
        rw [hp, decide_eq_true_iff]; omega
    · rw [if_neg (by simp; omega)]
      exact hj true (by simp; omega)
theorem implIsP_ev (l : List Int) (hl : l.length ≤ 1048576) : Ev (fun k => impl_IsPartition.f k l) (isP l) := by
  refine ⟨2 * l.length + 1, fun k hk => ?_⟩
  have h := implIsP_l0 l hl l.length 0 k 0 (by omega) (by omega) (by omega) (by omega)
  simpa [impl_IsPartition.f, isP, prevOf] using h

theorem widem (a : Int) : wrap64 (wrap64 a) = wrap64 a := by unfold wrap64; omega
theorem wadd1 (a b : Int) : wrap64 (wrap64 a + b) = wrap64 (a + b) := by unfold wrap64; omega
theorem w64_1 : wrap64 1 = 1 := by unfold wrap64; omega
theorem w64_0 : wrap64 0 = 0 := by unfold wrap64; omega
theorem wadd (a b : Int) : wrap64 (wrap64 a + wrap64 b) = wrap64 (a + b) := by unfold wrap64; omega
def shB (p o : List Int) : Bool := isP p && isP o && inR p o
theorem insAt {p q : List Int} (hp : p ∈ allP) (hq : q ∈ allP) : Ev (fun k => spec_IsInside.f k p q) (inR p q) ∧ Ev (fun k => impl_IsInside.f k p q) (inR p q) := by
  have a := of_all insAll hq
  simp only [insOk, List.all_eq_true, Bool.and_eq_true, decide_eq_true_eq] at a
  obtain ⟨a1, a2⟩ := a p hp
  exact ⟨Ev.of (spec_IsInside.mono _ _) a1, Ev.of (impl_IsInside.mono _ _) a2⟩
theorem specIn_ev (p q : List Int) (h1 : p.length ≤ 1048576) (h2 : q.length ≤ 1048576) : Ev (fun k => spec_IsInside.f k p q) (shB p q) := by
  by_cases a : isP p = true
  · by_cases b : isP q = true
    · rw [show shB p q = inR p q by simp [shB, a, b]]
      exact (insAt (mem_allP a) (mem_allP b)).1
    · rw [show shB p q = false by simp [shB, b]]
      simp only [spec_IsInside.f]
      exact Ev.bind (specIsP_ev p h1) (Ev.ite_true a (Ev.bind (specIsP_ev q h2) (Ev.ite_false b (Ev.step (fun k => by rw [spec_IsInside.j0]) (Ev.ite_true rfl (Ev.now _))))))
  · rw [show shB p q = false by simp [shB, a]]
    simp only [spec_IsInside.f]
    exact Ev.bind (specIsP_ev p h1) (Ev.ite_false a (Ev.step (fun k => by rw [spec_IsInside.j0]) (Ev.ite_true rfl (Ev.now _))))
theorem implIn_ev (p q : List Int) (h1 : p.length ≤ 1048576) (h2 : q.length ≤ 1048576) : Ev (fun k => impl_IsInside.f k p q) (shB p q) := by
  by_cases a : isP p = true
  · by_cases b : isP q = true
    · rw [show shB p q = inR p q by simp [shB, a, b]]
      exact (insAt (mem_allP a) (mem_allP b)).2
    · rw [show shB p q = false by simp [shB, b]]
      simp only [impl_IsInside.f]
      refine Ev.bind (implIsP_ev p h1) (Ev.ite_true a (Ev.bind (implIsP_ev q h2) ?_))
      rw [Bool.eq_false_iff.2 b]
      exact Ev.step (fun k => by rw [impl_IsInside.j0]) (Ev.ite_true (c := (!false) = true) rfl (Ev.now _))
  · rw [show shB p q = false by simp [shB, a]]
    simp only [impl_IsInside.f]
    exact Ev.bind (implIsP_ev p h1) (Ev.ite_false a (Ev.step (fun k => by rw [impl_IsInside.j0]) (Ev.ite_true rfl (Ev.now _))))
theorem specSh_ev (o p : List Int) (h1 : p.length ≤ 1048576) (h2 : o.length ≤ 1048576) : Ev (fun k => spec_IsShape.f k o p) (shB p o) := by
  simp only [spec_IsShape.f]; exact Ev.bind (specIn_ev p o h1 h2) (Ev.now _)
theorem implSh_ev (o p : List Int) (h1 : p.length ≤ 1048576) (h2 : o.length ≤ 1048576) : Ev (fun k => impl_IsShape.f k o p) (shB p o) := by
  simp only [impl_IsShape.f]; exact Ev.bind (implIn_ev p o h1 h2) (Ev.now _)
theorem len_allP {p : List Int} (h : p ∈ allP) : p.length ≤ 1048576 := by
  have := isP_length (isP_allP h); omega
-- the strips that are taken off
theorem rem_ev {q : List Int} (hq : q ∈ allP) (k : Nat) (hk : (k : Int) ≤ q.sum) : ∃ L, Ev (fun f => impl_RemoveHorizontal.f f q (k : Int)) L ∧ L.Perm ((allP.filter fun p => hsR p q).filter fun p => decide (p.sum = q.sum - (k : Int))) := by
  have a := of_all remAll hq
  have hs := (psumT hq).2
  simp only [remOk] at a
  have b := of_all a (x := k) (List.mem_range.2 (by omega))
  rw [decide_eq_true hk] at b
  simp only [Bool.not_true, Bool.false_or] at b
  split at b
  · rename_i L hL
    exact ⟨L, Ev.of (impl_RemoveHorizontal.mono _ _) hL, List.isPerm_iff.1 b⟩
  · cases b
-- the strips that are laid on
theorem trims_get : ∀ (L M : List (List Int)), trims L = some M → M.length = L.length ∧ ∀ (i : Nat) (h : i < L.length) (h' : i < M.length), spec_l7Trim.f 30 L[i] = some M[i]
  | [], M, h => by
    simp only [trims, Option.some.injEq] at h
    subst h
    exact ⟨rfl, fun i h => by simp at h⟩
  | x :: L, M, h => by
    simp only [trims] at h
    split at h
    · rename_i y N hy hN
      simp only [Option.some.injEq] at h
      subst h
      obtain ⟨h1, h2⟩ := trims_get L N hN
      refine ⟨by simp [h1], fun i hi hi' => ?_⟩
      cases i with
      | zero => exact hy
      | succ i => exact h2 i (by simpa using hi) (by simpa using hi')
    · cases h
theorem str_ev {p o : List Int} (hp : p ∈ allP) (ho : o ∈ allP) (hin : inR p o = true) (k : Nat) (hk : (k : Int) ≤ o.sum - p.sum) : ∃ (L M : List (List Int)), Ev (fun f => spec_l7Strips.f f p o (k : Int) 0) L ∧ L.length ≤ 1000 ∧ M.length = L.length ∧ (∀ (i : Nat) (h : i < L.length) (h' : i < M.length), Ev (fun f => spec_l7Trim.f f L[i]) M[i]) ∧
    M.Perm ((allP.filter fun q => hsR p q && inR q o).filter fun q => decide (q.sum = p.sum + (k : Int))) := by
  have a := of_all strAll ho
  have hs := (psumT ho).2
  have hs2 := (psumT hp).1
  simp only [strOk] at a
  have b := of_all a hp
  rw [hin] at b
  simp only [Bool.not_true, Bool.false_or] at b
  have c := of_all b (x := k) (List.mem_range.2 (by omega))
  rw [decide_eq_true hk] at c
  simp only [Bool.not_true, Bool.false_or] at c
  split at c
  · rename_i L hL
    simp only [Bool.and_eq_true, decide_eq_true_eq] at c
    obtain ⟨c1, c2⟩ := c
    split at c2
    · rename_i M hM
      obtain ⟨h1, h2⟩ := trims_get L M hM
      exact ⟨L, M, Ev.of (spec_l7Strips.mono _ _ _ _) hL, c1, h1, fun i h h' => Ev.of (spec_l7Trim.mono _) (h2 i h h'), List.isPerm_iff.1 c2⟩
    · cases c2
  · cases c
theorem rdL_nat' (l : List (List Int)) (i : Nat) (h : i < l.length) : rd_L1 l (i : Int) = l[i] := by
  simp [rd_L1, List.getD_eq_getElem?_getD, h]
theorem num_all (o : List Int) (ho : o ∈ allP) : ∀ (n : Nat), n ≤ 6 → ∀ p, p ∈ allP → inR p o = true → Ev (fun k => spec_l7Number.f k p o (n : Int)) (wrap64 ((tN n p o : Nat) : Int))
  | 0, _, p, hp, hin => by
    have s1 := specL2_ev (isP_allP hp)
    have s2 := specL2_ev (isP_allP ho)
    refine Ev.step (fun k => by rw [spec_l7Number.f]) (Ev.ite_true (c := ((0 : Nat) : Int) = 0) rfl (Ev.bind s1 (Ev.bind s2 ?_)))
    have hle := inR_le hp ho hin
    have e : wrap64 ((tN 0 p o : Nat) : Int) = if p.sum = o.sum then 1 else 0 := by
      by_cases h : p.sum = o.sum
      · rw [if_pos h, hle.2 h]
        simp [tN, tG, w64_1]
      · rw [if_neg h]
        have : p ≠ o := fun e => h (by rw [e])
        simp [tN, tG, this, w64_0]
    rw [e]
    simp only [spec_l1Bit.f]
    by_cases h : p.sum = o.sum
    · rw [if_pos h, show (p.sum == o.sum) = true by simpa using h]
      simp only [if_true, Option.bind_some]
      exact Ev.now _
    · rw [if_neg h, show (p.sum == o.sum) = false by simpa using h]
      simp only [Bool.false_eq_true, if_false, Option.bind_some]
      exact Ev.now _
  | n + 1, hn, p, hp, hin => by
    have s1 := specL2_ev (isP_allP hp)
    have s2 := specL2_ev (isP_allP ho)
    have b1 := psumT hp
    have b2 := psumT ho
    have hle := (inR_le hp ho hin).1
    have ih := num_all o ho n (by omega)
    have wn : wrap64 (((n + 1 : Nat) : Int) - 1) = (n : Int) := by unfold wrap64; omega
    have ws : wrap64 (o.sum - p.sum) = o.sum - p.sum := wr_in (by omega) (by omega)
    -- the list of one k
    have row : ∀ (L M : List (List Int)) (c : Nat) (s : Int) (res : Int), L.length ≤ 1000 → M.length = L.length → (∀ (i : Nat) (h : i < L.length) (h' : i < M.length), Ev (fun f => spec_l7Trim.f f L[i]) M[i]) → (∀ q ∈ M, q ∈ allP ∧ inR q o = true) →
        ∀ (d i : Nat) (a : Int), i + d = L.length → wrap64 (a + ((sumN (M.drop i) (fun q => tN n q o) : Nat) : Int)) = s → Ev (fun k => spec_l7Number.l0 k p o ((n + 1 : Nat) : Int) s ((c + 1 : Nat) : Int)) res → wrap64 a = a → c ≤ 100 →
        Ev (fun k => spec_l7Number.l1 k p o ((n + 1 : Nat) : Int) a (c : Int) L (i : Int)) res := by
      intro L M c s res hL hM ht hin2 d
      induction d with
      | zero =>
        intro i a hi ha hres hw hc
        refine Ev.step (fun k => by rw [spec_l7Number.l1]) (Ev.ite_false (by omega) ?_)
        rw [List.drop_of_length_le (by omega), sumN_nil] at ha
        rw [wr1 (by omega)]
        simp only [Int.natCast_zero, Int.add_zero] at ha
        rw [hw] at ha
        rw [ha]; exact hres
      | succ d ihd =>
        intro i a hi ha hres hw hc
        have hlt : i < L.length := by omega
        have hlm : i < M.length := by omega
        obtain ⟨hq1, hq2⟩ := hin2 _ (List.getElem_mem hlm)
        refine Ev.step (fun k => by rw [spec_l7Number.l1]) (Ev.ite_true (by omega) (Ev.ite_true (by omega) ?_))
        rw [rdL_nat' L i hlt, wn, wr1 (by omega)]
        refine Ev.bind (ht i hlt hlm) (Ev.bind (ih _ hq1 hq2) ?_)
        refine ihd (i + 1) _ (by omega) ?_ hres (widem _) hc
        rw [List.drop_eq_getElem_cons hlm, sumN_cons] at ha
        rw [← ha]
        have e1 := wadd a ((tN n M[i] o : Nat) : Int)
        rw [hw] at e1
        rw [e1, wadd1, Int.natCast_add, Int.add_assoc]
    -- over all k
    have all : ∀ (d j : Nat) (a : Int), (j : Int) + d = o.sum - p.sum + 1 → a = wrap64 ((sumN ((allP.filter fun q => hsR p q && inR q o).filter fun q => decide ((q.sum - p.sum).toNat < j)) (fun q => tN n q o) : Nat) : Int) →
        Ev (fun k => spec_l7Number.l0 k p o ((n + 1 : Nat) : Int) a (j : Int)) (wrap64 ((sumN (allP.filter fun q => hsR p q && inR q o) (fun q => tN n q o) : Nat) : Int)) := by
      intro d
      induction d with
      | zero =>
        intro j a hj ha
        refine Ev.step (fun k => by rw [spec_l7Number.l0]) (Ev.bind s2 (Ev.bind s1 ?_))
        rw [ws]
        refine Ev.ite_false (by omega) ?_
        have e : ((allP.filter fun q => hsR p q && inR q o).filter fun q => decide ((q.sum - p.sum).toNat < j)) = allP.filter fun q => hsR p q && inR q o := by
          refine List.filter_eq_self.2 (fun q hq => ?_)
          obtain ⟨hq1, hq2⟩ := List.mem_filter.1 hq
          simp only [Bool.and_eq_true] at hq2
          have := (inR_le hq1 ho hq2.2).1
          rw [decide_eq_true_eq]; omega
        rw [ha, e]
        exact Ev.now _
      | succ d ihd =>
        intro j a hj ha
        obtain ⟨L, M, l1, l2, l3, l4, l5⟩ := str_ev hp ho hin j (by omega)
        have hmem : ∀ q ∈ M, q ∈ allP ∧ inR q o = true := fun q hq => by
          have h1 := List.mem_filter.1 (l5.mem_iff.1 hq)
          have h2 := List.mem_filter.1 h1.1
          simp only [Bool.and_eq_true] at h2
          exact ⟨h2.1, h2.2.2⟩
        refine Ev.step (fun k => by rw [spec_l7Number.l0]) (Ev.bind s2 (Ev.bind s1 ?_))
        rw [ws]
        refine Ev.ite_true (by omega) (Ev.bind l1 ?_)
        refine row L M j _ _ l2 l3 l4 hmem L.length 0 a (by omega) rfl ?_ (by rw [ha, widem]) (by omega)
        refine ihd (j + 1) _ (by omega) ?_
        rw [List.drop_zero, sumN_perm l5, sumN_grade, ha]
        have e : ((allP.filter fun q => hsR p q && inR q o).filter fun q => decide (q.sum = p.sum + (j : Int))) = ((allP.filter fun q => hsR p q && inR q o).filter fun q => decide ((q.sum - p.sum).toNat = j)) := by
          refine List.filter_congr (fun q hq => ?_)
          obtain ⟨hq1, hq2⟩ := List.mem_filter.1 hq
          simp only [Bool.and_eq_true, hsR] at hq2
          have := (inR_le hp hq1 hq2.1.1).1
          rw [decide_eq_decide]; omega
        rw [e, wadd1, Int.natCast_add]
    have fin : sumN (allP.filter fun q => hsR p q && inR q o) (fun q => tN n q o) = tN (n + 1) p o := by
      rw [tN_below n p o hp ho, sumN_filter]
      refine sumN_congr (fun q _ => ?_)
      by_cases h1 : hsR p q = true
      · by_cases h2 : inR q o = true
        · rw [if_pos (by simp [h1, h2]), if_pos h1]
        · rw [if_neg (by simp [h2]), if_pos h1]
          exact (Classical.byContradiction fun h3 => h2 (tN_in n q o (fun e => h3 e.symm)))
      · rw [if_neg (by simp [h1]), if_neg h1]
    rw [← fin]
    refine Ev.step (fun k => by rw [spec_l7Number.f]) (Ev.ite_false (by omega) ?_)
    exact all (o.sum - p.sum + 1).toNat 0 0 (by omega) (by
      have e : ((allP.filter fun q => hsR p q && inR q o).filter fun q => decide ((q.sum - p.sum).toNat < 0)) = [] := by
        refine List.filter_eq_nil_iff.2 (fun q _ => by simp)
      rw [e, sumN_nil]; unfold wrap64; omega)
-- the program's side
theorem cell_ev {q p : List Int} (hq : q ∈ allP) (hp : p ∈ allP) : Ev (fun k => impl_CellCount.f k q p) (if inR p q = true then q.sum - p.sum else -1) := by
  have b1 := psumT hp
  have b2 := psumT hq
  have e : shB p q = inR p q := by simp [shB, isP_allP hp, isP_allP hq]
  have h := implSh_ev q p (len_allP hp) (len_allP hq)
  rw [e] at h
  simp only [impl_CellCount.f]
  refine Ev.bind h ?_
  by_cases c : inR p q = true
  · rw [if_pos c]
    refine Ev.ite_true c (Ev.bind (implSum_ev (isP_allP hq)) (Ev.bind (implSum_ev (isP_allP hp)) ?_))
    rw [wr_in (x := q.sum - p.sum) (by omega) (by omega)]
    exact Ev.now _
  · rw [if_neg c]
    exact Ev.ite_false c (Ev.now _)
def kS (k : Nat) (x : S48) : S48 := ⟨x.f0 ++ [(k : Int)], x.f1⟩
theorem fsum_kS (k : Nat) (t : List S48) : fsum (t.map (kS k)) = fsum t := by
  simp [fsum, Function.comp_def, kS]
theorem w_l2 (n c k : Int) (kk : Nat) (L : List (List Int)) (il i : Int) (t : List S48) (q p : List Int) (ht : ∀ x ∈ t, x.f0.length ≤ 100) (htl : t.length < 4398046511104) (res : List S48) (hk : k = (kk : Int)) (d : Nat) :
    ∀ (j : Nat) (out : List S48), j + d = t.length → out.length + d < 4398046511104 → Ev (fun f => impl_weightsOf.l1 f n (out ++ (t.drop j).map (kS kk)) k c k L il (wrap64 (i + 1)) q p) res →
    Ev (fun f => impl_weightsOf.l2 f n out k c k L il i t (t.length : Int) (j : Int) q p) res := by
  induction d with
  | zero =>
    intro j out hj ho h
    rw [List.drop_of_length_le (by omega), List.map_nil, List.append_nil] at h
    exact Ev.step (fun f => by rw [impl_weightsOf.l2]) (Ev.ite_false (by omega) h)
  | succ d ih =>
    intro j out hj ho h
    have hlt : j < t.length := by omega
    have hx := ht _ (List.getElem_mem hlt)
    refine Ev.step (fun f => by rw [impl_weightsOf.l2]) (Ev.ite_true (by omega) (Ev.ite_true (by omega) (Ev.ite_true (by omega) ?_)))
    rw [rdT_nat t j hlt, clone_f _ (by omega), wr1 (by omega)]
    simp only [Option.bind_some]
    refine Ev.ite_true (by simp; omega) (Ev.ite_true (by simp; omega) ?_)
    rw [List.drop_eq_getElem_cons hlt, List.map_cons] at h
    refine ih (j + 1) _ (by omega) (by simp; omega) ?_
    rw [List.append_assoc]
    have e : [(⟨t[j].f0 ++ [k], t[j].f1⟩ : S48)] ++ (t.drop (j + 1)).map (kS kk) = kS kk t[j] :: (t.drop (j + 1)).map (kS kk) := by
      rw [hk]; rfl
    rw [e]; exact h
def Wok (p : List Int) (n : Nat) (q : List Int) (r : List S48) : Prop := r.length ≤ 97 ^ n ∧ (∃ z, fsum r = ((tN n p q : Nat) : Int) + 18446744073709551616 * z) ∧ ∀ x ∈ r, x.f0.length ≤ n
theorem w_l1 {p : List Int} (hp : p ∈ allP) (n : Nat) (hn : n + 1 ≤ 6) (IH : ∀ q, q ∈ allP → inR p q = true → ∃ r, Ev (fun f => impl_weightsOf.f f q p (n : Int)) r ∧ Wok p n q r) (q : List Int) (c : Int) (k : Nat) (hk : k ≤ 9) (L : List (List Int)) (hL : L.length ≤ 97) (hmem : ∀ x ∈ L, x ∈ allP) (d : Nat) :
    ∀ (i : Nat) (out : List S48), i + d = L.length → out.length + d * 97 ^ n < 4398046511104 → (∀ x ∈ out, x.f0.length ≤ n + 1) →
    ∃ out' : List S48, (∀ res, Ev (fun f => impl_weightsOf.l0 f ((n + 1 : Nat) : Int) out' c ((k + 1 : Nat) : Int) q p) res → Ev (fun f => impl_weightsOf.l1 f ((n + 1 : Nat) : Int) out (k : Int) c (k : Int) L (L.length : Int) (i : Int) q p) res) ∧
      out'.length ≤ out.length + d * 97 ^ n ∧ (∃ z, fsum out' = fsum out + ((sumN (L.drop i) (fun r => tN n p r) : Nat) : Int) + 18446744073709551616 * z) ∧ ∀ x ∈ out', x.f0.length ≤ n + 1 := by
  have hpow : 97 ^ n ≤ 97 ^ 5 := Nat.pow_le_pow_right (by omega) (by omega)
  have hpow5 : (97 : Nat) ^ 5 = 8587340257 := by decide
  have hpos : 0 < 97 ^ n := Nat.pow_pos (by omega)
  induction d with
  | zero =>
    intro i out hi ho hs
    refine ⟨out, fun res h => Ev.step (fun f => by rw [impl_weightsOf.l1]) (Ev.ite_false (by omega) ?_), by omega, ⟨0, by rw [List.drop_of_length_le (by omega), sumN_nil]; omega⟩, hs⟩
    rw [wr1 (by omega)]; exact h
  | succ d ih =>
    intro i out hi ho hs
    have hlt : i < L.length := by omega
    have hm := hmem _ (List.getElem_mem hlt)
    have hin := implIn_ev p L[i] (len_allP hp) (len_allP hm)
    rw [show shB p L[i] = inR p L[i] by simp [shB, isP_allP hp, isP_allP hm]] at hin
    have hd : sumN (L.drop i) (fun r => tN n p r) = tN n p L[i] + sumN (L.drop (i + 1)) (fun r => tN n p r) := by rw [List.drop_eq_getElem_cons hlt, sumN_cons]
    have hmul : (d + 1) * 97 ^ n = d * 97 ^ n + 97 ^ n := Nat.succ_mul d (97 ^ n)
    by_cases g : inR p L[i] = true
    · obtain ⟨t, t1, t2, ⟨z, t3⟩, t4⟩ := IH _ hm g
      obtain ⟨o', o1, o2, ⟨z', o3⟩, o4⟩ := ih (i + 1) (out ++ t.map (kS k)) (by omega) (by simp; omega) (fun x hx => by
        rcases List.mem_append.1 hx with h | h
        · exact hs x h
        · obtain ⟨y, hy, rfl⟩ := List.mem_map.1 h
          have := t4 y hy
          simp [kS]; omega)
      refine ⟨o', fun res h => ?_, by simp at o2; omega, ⟨z + z', ?_⟩, o4⟩
      · refine Ev.step (fun f => by rw [impl_weightsOf.l1]) (Ev.ite_true (by omega) (Ev.ite_true (by omega) (Ev.ite_true (by omega) ?_)))
        rw [rdL_nat' L i hlt, show wrap64 (((n + 1 : Nat) : Int) - 1) = (n : Int) by unfold wrap64; omega]
        refine Ev.bind hin (Ev.ite_true g (Ev.bind t1 ?_))
        refine w_l2 _ c (k : Int) k L _ (i : Int) t q p (fun x hx => by have := t4 x hx; omega) (by omega) res rfl t.length 0 out (by omega) (by omega) ?_
        rw [List.drop_zero, wr1 (by omega)]
        exact o1 res h
      · rw [o3, fsum_append, fsum_kS, t3, hd, Int.natCast_add]
        omega
    · obtain ⟨o', o1, o2, ⟨z', o3⟩, o4⟩ := ih (i + 1) out (by omega) (by omega) hs
      refine ⟨o', fun res h => ?_, by omega, ⟨z', ?_⟩, o4⟩
      · refine Ev.step (fun f => by rw [impl_weightsOf.l1]) (Ev.ite_true (by omega) (Ev.ite_true (by omega) (Ev.ite_true (by omega) ?_)))
        rw [rdL_nat' L i hlt, wr1 (by omega)]
        exact Ev.bind hin (Ev.ite_false g (o1 res h))
      · have e0 : tN n p L[i] = 0 := Classical.byContradiction fun h => g (tN_in n p L[i] h)
        rw [o3, hd, e0, Nat.zero_add]
theorem len_grade (F : List (List Int)) (g : List Int → Nat) (j : Nat) : (F.filter fun x => decide (g x < j + 1)).length = (F.filter fun x => decide (g x < j)).length + (F.filter fun x => decide (g x = j)).length := by
  have h := sumN_grade g (fun _ => 1) F j
  have one : ∀ l : List (List Int), sumN l (fun _ => 1) = l.length := by
    intro l
    induction l with
    | nil => rfl
    | cons x l ih => rw [sumN_cons, ih, List.length_cons]; omega
  rw [one, one, one] at h
  exact h
theorem w_all {p : List Int} (hp : p ∈ allP) : ∀ n : Nat, n ≤ 6 → ∀ q, q ∈ allP → inR p q = true → ∃ r, Ev (fun f => impl_weightsOf.f f q p (n : Int)) r ∧ Wok p n q r
  | 0, _, q, hq, hin => by
    have hc := cell_ev hq hp
    rw [if_pos hin] at hc
    have hle := inR_le hp hq hin
    by_cases h : p.sum = q.sum
    · refine ⟨[(⟨[], 1⟩ : S48)], Ev.step (fun f => by rw [impl_weightsOf.f]) (Ev.ite_true (c := ((0 : Nat) : Int) = 0) rfl (Ev.bind hc (Ev.ite_true (c := q.sum - p.sum = 0) (by omega) (Ev.now _)))), by simp, ⟨0, ?_⟩, by simp⟩
      rw [hle.2 h]
      simp [fsum, tN, tG]
    · refine ⟨[], Ev.step (fun f => by rw [impl_weightsOf.f]) (Ev.ite_true (c := ((0 : Nat) : Int) = 0) rfl (Ev.bind hc (Ev.ite_false (c := q.sum - p.sum = 0) (by omega) (Ev.now _)))), by simp, ⟨0, ?_⟩, by simp⟩
      have : p ≠ q := fun e => h (by rw [e])
      simp [fsum, tN, tG, this]
  | n + 1, hn, q, hq, hin => by
    have IH := w_all hp n (by omega)
    have hc := cell_ev hq hp
    rw [if_pos hin] at hc
    have b1 := psumT hp
    have b2 := psumT hq
    have hle := (inR_le hp hq hin).1
    have hpow : 97 ^ n ≤ 97 ^ 5 := Nat.pow_le_pow_right (by omega) (by omega)
    have hpow5 : (97 : Nat) ^ 5 = 8587340257 := by decide
    have hall : allP.length = 97 := by decide +kernel
    have hF : (allP.filter fun r => hsR r q).length ≤ 97 := by have := List.length_filter_le (fun r => hsR r q) allP; omega
    have wc : wrap64 (q.sum - p.sum + 1) = q.sum - p.sum + 1 := wr_in (by omega) (by omega)
    -- the sum over what was taken off so far
    have loop : ∀ (d j : Nat) (out : List S48), (j : Int) + d = q.sum - p.sum + 1 →
        out.length ≤ ((allP.filter fun r => hsR r q).filter fun r => decide ((q.sum - r.sum).toNat < j)).length * 97 ^ n → (∃ z, fsum out = ((sumN ((allP.filter fun r => hsR r q).filter fun r => decide ((q.sum - r.sum).toNat < j)) (fun r => tN n p r) : Nat) : Int) + 18446744073709551616 * z) → (∀ x ∈ out, x.f0.length ≤ n + 1) →
        ∃ r, Ev (fun f => impl_weightsOf.l0 f ((n + 1 : Nat) : Int) out (q.sum - p.sum + 1) (j : Int) q p) r ∧ Wok p (n + 1) q r := by
      intro d
      induction d with
      | zero =>
        intro j out hj ho hs hx
        have hlen : out.length ≤ 97 * 97 ^ n := Nat.le_trans ho (Nat.mul_le_mul_right _ (Nat.le_trans (List.length_filter_le _ _) hF))
        obtain ⟨z, hz⟩ := hs
        obtain ⟨r, r1, r2, ⟨z', r3⟩, r4⟩ := ordered_ev ((n + 1 : Nat) : Int) out ⟨by omega, fun x h => by have := hx x h; omega⟩ (by omega)
        refine ⟨r, Ev.step (fun f => by rw [impl_weightsOf.l0]) (Ev.ite_false (by omega) (Ev.bind r1 (Ev.now _))), ?_, ⟨z + z', ?_⟩, fun x h => ?_⟩
        · rw [Nat.pow_succ, Nat.mul_comm]; omega
        · have e : sumN ((allP.filter fun r => hsR r q).filter fun r => decide ((q.sum - r.sum).toNat < j)) (fun r => tN n p r) = tN (n + 1) p q := by
            rw [tN_above, sumN_filter, sumN_filter]
            refine sumN_congr (fun r hr => ?_)
            by_cases h1 : hsR r q = true
            · rw [if_pos h1, if_pos h1]
              by_cases h2 : decide ((q.sum - r.sum).toNat < j) = true
              · rw [if_pos h2]
              · rw [if_neg h2]
                rw [decide_eq_true_eq] at h2
                refine (Classical.byContradiction fun h3 => ?_)
                have h4 := tN_in n p r (fun e => h3 e.symm)
                have h5 := (inR_le hp hr h4).1
                omega
            · rw [if_neg h1, if_neg h1]
          rw [r3, hz, e]; omega
        · obtain ⟨y, hy, e⟩ := r4 x h
          rw [e]; exact hx y hy
      | succ d ihd =>
        intro j out hj ho hs hx
        obtain ⟨L, l1, l2⟩ := rem_ev hq j (by omega)
        have e : ((allP.filter fun r => hsR r q).filter fun r => decide (r.sum = q.sum - (j : Int))) = ((allP.filter fun r => hsR r q).filter fun r => decide ((q.sum - r.sum).toNat = j)) := by
          refine List.filter_congr (fun r hr => ?_)
          obtain ⟨hr1, hr2⟩ := List.mem_filter.1 hr
          simp only [Bool.and_eq_true, hsR] at hr2
          have := (inR_le hr1 hq hr2.1).1
          rw [decide_eq_decide]; omega
        rw [e] at l2
        have hlg := len_grade (allP.filter fun r => hsR r q) (fun r => (q.sum - r.sum).toNat) j
        have hsg := sumN_grade (fun r : List Int => (q.sum - r.sum).toNat) (fun r => tN n p r) (allP.filter fun r => hsR r q) j
        have hl := l2.length_eq
        have hall2 : ((allP.filter fun r => hsR r q).filter fun r => decide ((q.sum - r.sum).toNat < j + 1)).length ≤ 97 := Nat.le_trans (List.length_filter_le _ _) hF
        have hb : out.length + L.length * 97 ^ n ≤ ((allP.filter fun r => hsR r q).filter fun r => decide ((q.sum - r.sum).toNat < j + 1)).length * 97 ^ n := by
          rw [hlg, Nat.add_mul, hl]; omega
        have hb2 : ((allP.filter fun r => hsR r q).filter fun r => decide ((q.sum - r.sum).toNat < j + 1)).length * 97 ^ n ≤ 97 * 97 ^ n := Nat.mul_le_mul_right _ hall2
        obtain ⟨out', o1, o2, ⟨z', o3⟩, o4⟩ := w_l1 hp n hn IH q (q.sum - p.sum + 1) j (by omega) L (by omega) (fun x h => (List.mem_filter.1 (List.mem_filter.1 (l2.mem_iff.1 h)).1).1) L.length 0 out (by omega) (by omega) hx
        obtain ⟨z, hz⟩ := hs
        obtain ⟨r, r1, r2⟩ := ihd (j + 1) out' (by omega) (by omega) ⟨z + z', by rw [o3, hz, List.drop_zero, sumN_perm l2, hsg, Int.natCast_add]; omega⟩ o4
        exact ⟨r, Ev.step (fun f => by rw [impl_weightsOf.l0]) (Ev.ite_true (by omega) (Ev.bind l1 (o1 r r1))), r2⟩
    have e0 : ((allP.filter fun r => hsR r q).filter fun r => decide ((q.sum - r.sum).toNat < 0)) = [] := List.filter_eq_nil_iff.2 (fun r _ => by simp)
    obtain ⟨r, r1, r2⟩ := loop (q.sum - p.sum + 1).toNat 0 [] (by omega) (by rw [e0]; simp) ⟨0, by rw [e0, sumN_nil]; simp [fsum]⟩ (by simp)
    refine ⟨r, Ev.step (fun f => by rw [impl_weightsOf.f]) (Ev.ite_false (by omega) (Ev.bind hc ?_)), r2⟩
    rw [wc]
    exact r1
theorem cnt_l0 (t : List S48) (ht : t.length < 4398046511104) (d : Nat) : ∀ (i : Nat) (a : Int), i + d = t.length → wrap64 a = a → Ev (fun k => impl_CountTableaux.l0 k a t (t.length : Int) (i : Int)) (wrap64 (a + fsum (t.drop i))) := by
  induction d with
  | zero =>
    intro i a hi ha
    refine Ev.step (fun k => by rw [impl_CountTableaux.l0]) (Ev.ite_false (by omega) ?_)
    rw [List.drop_of_length_le (by omega), show fsum [] = 0 from rfl, Int.add_zero, ha]
    exact Ev.now _
  | succ d ih =>
    intro i a hi ha
    have hlt : i < t.length := by omega
    refine Ev.step (fun k => by rw [impl_CountTableaux.l0]) (Ev.ite_true (by omega) (Ev.ite_true (by omega) (Ev.ite_true (by omega) ?_)))
    rw [rdT_nat t i hlt, wr1 (by omega)]
    have h := ih (i + 1) (wrap64 (a + t[i].f1)) (by omega) (widem _)
    rw [wadd1] at h
    rw [List.drop_eq_getElem_cons hlt, fsum_cons, ← Int.add_assoc]
    exact h
theorem same (o p : List Int) (n : Int) (h1 : o.length ≤ 1048576) (h2 : p.length ≤ 1048576) : ∃ r, Ev (fun k => spec_CountTableaux.f k o p n) r ∧ Ev (fun k => impl_CountTableaux.f k o p n) r := by
  have s1 := specSh_ev o p h2 h1
  have i1 := implSh_ev o p h2 h1
  simp only [spec_CountTableaux.f, impl_CountTableaux.f, within_f, l1In_f, Option.bind_some]
  by_cases c : shB p o = true
  · by_cases hn : 0 ≤ n ∧ n ≤ 6
    · obtain ⟨m, rfl⟩ : ∃ m : Nat, n = (m : Int) := ⟨n.toNat, by omega⟩
      have hb := c
      simp only [shB, Bool.and_eq_true] at hb
      have hp := mem_allP hb.1.1
      have ho := mem_allP hb.1.2
      have a := num_all o ho m (by omega) p hp hb.2
      obtain ⟨t, t1, t2, ⟨z, t3⟩, t4⟩ := w_all hp m (by omega) o ho hb.2
      have hpow : 97 ^ m ≤ 97 ^ 6 := Nat.pow_le_pow_right (by omega) (by omega)
      have hpow6 : (97 : Nat) ^ 6 = 832972004929 := by decide
      have b := cnt_l0 t (by omega) t.length 0 0 (by omega) w64_0
      rw [List.drop_zero, Int.zero_add, wr_eq t3] at b
      refine ⟨_, Ev.bind s1 (Ev.ite_true c (Ev.ite_true (by rw [decide_eq_true_eq]; exact hn) (Ev.bind a (Ev.now _)))), Ev.bind i1 (Ev.ite_true c (Ev.step (fun k => by rw [impl_CountTableaux.j0]) (Ev.ite_false (by simp; omega) (Ev.bind t1 b))))⟩
    · refine ⟨-1, Ev.bind s1 (Ev.ite_true c (Ev.ite_false (by rw [decide_eq_true_eq]; exact hn) (Ev.now _))), Ev.bind i1 (Ev.ite_true c (Ev.step (fun k => by rw [impl_CountTableaux.j0]) (Ev.ite_true (by simp; omega) (Ev.now _))))⟩
  · exact ⟨-1, Ev.bind s1 (Ev.ite_false c (Ev.now _)), Ev.bind i1 (Ev.ite_false c (Ev.step (fun k => by rw [impl_CountTableaux.j0]) (Ev.ite_true rfl (Ev.now _))))⟩
theorem FnExactCountTableaux : laws_FnExactCountTableaux.Pure := by
  intro o p n h1 h2 h3
  apply Ev.rounds
  simp only [laws_FnExactCountTableaux.f, laws_szShape.f, laws_szIntS.f]
  by_cases hl : o.length + p.length ≤ 1048576
  · obtain ⟨r, hs, hi⟩ := same o p n (by omega) (by omega)
    have w1 : wrap64 (1048576 - (o.length : Int)) = 1048576 - (o.length : Int) := wr_in (by omega) (by omega)
    have w2 : wrap64 (1048576 - (o.length : Int) - (p.length : Int)) = 1048576 - (o.length : Int) - (p.length : Int) := wr_in (by omega) (by omega)
    have ht : Ev (fun k => laws_toShape.f k o p) (o, p) := by
      simp only [laws_toShape.f]
      exact Ev.bind (toIntS_ev o (by omega)) (Ev.bind (toIntS_ev p (by omega)) (Ev.now _))
    have he : Ev (fun k => laws_eqShape.f k o p o p) true := by
      simp only [laws_eqShape.f]
      exact Ev.bind (eqIntS_self o (by omega)) (Ev.ite_true rfl (Ev.bind (eqIntS_self p (by omega)) (Ev.ite_true rfl (Ev.now _))))
    rw [w1, if_neg (by omega)]
    simp only [Option.bind_some]
    rw [if_neg (by omega), w2, if_neg (by omega)]
    simp only [Option.bind_some]
    rw [if_neg (by omega)]
    simp only [Option.bind_some]
    exact Ev.ite_false (by omega) (Ev.bind ht (Ev.bind hs (Ev.bind ht (Ev.bind hi (Ev.ite_true rfl (Ev.bind ht (Ev.bind he (Ev.ite_true rfl (Ev.now _)))))))))
  · have ml : maxLen ≤ 9223372036854775807 := by decide
    have a1 := h1.1
    have a2 := h2.1
    have w1 : wrap64 (1048576 - (o.length : Int)) = 1048576 - (o.length : Int) := wr_in (by omega) (by omega)
    rw [w1]
    by_cases c : 1048576 - (o.length : Int) < 0
    · rw [if_pos c]
      simp only [Option.bind_some]
      rw [if_pos (show (-1 : Int) < 0 by omega)]
      simp only [Option.bind_some]
      exact Ev.ite_true (by omega) (Ev.now _)
    · have w2 : wrap64 (1048576 - (o.length : Int) - (p.length : Int)) = 1048576 - (o.length : Int) - (p.length : Int) := wr_in (by omega) (by omega)
      rw [if_neg c]
      simp only [Option.bind_some]
      rw [if_neg c, w2, if_pos (by omega)]
      simp only [Option.bind_some]
      rw [if_pos (show (-1 : Int) < 0 by omega)]
      simp only [Option.bind_some]
      exact Ev.ite_true (by omega) (Ev.now _)

end Go.Proofs.Ytneipehcmmigeaa.Pure
