/- Raising undoes lowering on a drawn word, keeps its recording tableau, and ends with a lattice word; what the program tells of drawn words is what the reference tells. No condition. -/
import Derived.Test.YtnfcdaojglicfaaPFnOperatorsx12
import Derived.Test.YtnfcdaojglicfaaVFnOperators
set_option linter.unusedVariables false
set_option linter.unusedSimpArgs false
namespace Go.Proofs.Ytnfcdaojglicfaa
open Go.ChangeShapes Go.WideShapes
theorem PrintWords.sized_ints {H : Type} {enc : TypeId × Value → H} {P : Program} {W : World} {base : Nat} {spare : Nat → Bool} {held : Bool} {t e : TypeId} {k : IntKind} {a : Option Addr} {len cap : Nat} {d : DataW H} {ps : List MemPlace} {ts : List TypeId} {ds : List (DataW H)} {j : Nat}
    (hsz : (DataW.weightsEach P ts ds).all (· ≤ reachBytes) = true) (ht : ts[j]? = some t) (hd : ds[j]? = some d) (hu : P.underlying t = some (.slice e)) (he : P.underlying e = some (.int k)) (hc : P.cellsOf e = 1) {B : Nat} (hB : P.bytesOf e = B)
    (h : DataW.Trod enc P W base spare held t (.slice a len cap) d ps) : len * B ≤ 140737488351232 :=
  Go.Proofs.YtnfcdaojglicfaaW.PrintWords.sized_ints hsz ht hd hu he hc hB h
end Go.Proofs.Ytnfcdaojglicfaa
namespace Go.Proofs.Ytnfcdaojglicfaa.Pure
open Go.RowKit Go.Proofs.Ytnfcdaojglicfaa.PFnOperators Go.Proofs.YtnfcdaojglicfaaW.PrintWords Go.Proofs.YtnfcdaojglicfaaW.PrintLast

theorem wr_in {x : Int} (h : -9223372036854775808 ≤ x) (h' : x ≤ 9223372036854775807) : wrap64 x = x := by unfold wrap64; omega
theorem wr1 {i : Nat} (h : i < 4611686018427387904) : wrap64 ((i : Int) + 1) = ((i + 1 : Nat) : Int) := by unfold wrap64; omega
theorem Ev.ite_true {α : Type} {c : Prop} [Decidable c] {g f : Nat → Option α} {r : α} (hc : c) (h : Ev g r) : Ev (fun k => if c then g k else f k) r := by
  obtain ⟨K, h⟩ := h
  exact ⟨K, fun k hk => (if_pos hc).trans (h k hk)⟩
theorem Ev.ite_false {α : Type} {c : Prop} [Decidable c] {g f : Nat → Option α} {r : α} (hc : ¬ c) (h : Ev f r) : Ev (fun k => if c then g k else f k) r := by
  obtain ⟨K, h⟩ := h
  exact ⟨K, fun k hk => (if_neg hc).trans (h k hk)⟩
theorem rd_nat (l : List Int) (i : Nat) (h : i < l.length) : rd l (i : Int) = l[i] := by
  simp [rd, List.getD_eq_getElem?_getD, h]
/-- A statement that holds of all members of a list that can be run through. -/
theorem of_all {α : Type} {p : α → Bool} {l : List α} (h : l.all p = true) {x : α} (hx : x ∈ l) : p x = true := List.all_eq_true.mp h x hx
/-- Both answer, and alike. -/
def both {α : Type} [DecidableEq α] (a b : Option α) : Bool := match a, b with
  | some x, some y => decide (x = y)
  | _, _ => false
theorem both_ev {α : Type} [DecidableEq α] {f g : Nat → Option α} (hf : ∀ k, LeO (f k) (f (k + 1))) (hg : ∀ k, LeO (g k) (g (k + 1))) {n m : Nat} (h : both (f n) (g m) = true) : ∃ r, Ev f r ∧ Ev g r := by
  unfold both at h
  split at h
  · rename_i x y hx hy
    have e := of_decide_eq_true h
    subst e
    exact ⟨x, Ev.of hf hx, Ev.of hg hy⟩
  · cases h
theorem take_set_succ {α : Type} (y : List α) (i : Nat) (v : α) (h : i < y.length) : (y.set i v).take (i + 1) = y.take i ++ [v] := by
  rw [List.take_succ_eq_append_getElem (by simpa using h)]
  simp only [List.getElem_set_self]
  congr 1
  apply List.ext_getElem?
  intro j
  simp only [List.getElem?_take, List.getElem?_set]
  by_cases h : j < i
  · rw [if_pos h, if_neg (by omega), if_pos h]
  · rw [if_neg h, if_neg h]

/-! Words: a plain test. -/
def okL (x : Int) : Bool := decide (1 ≤ x ∧ x ≤ 9)
def isW (l : List Int) : Bool := decide (l.length ≤ 9) && l.all okL
theorem isW_length {l : List Int} (h : isW l = true) : l.length ≤ 9 := by
  simp only [isW, Bool.and_eq_true, decide_eq_true_eq] at h; exact h.1
theorem isW_mem {l : List Int} (h : isW l = true) {x : Int} (hx : x ∈ l) : 1 ≤ x ∧ x ≤ 9 := by
  simp only [isW, Bool.and_eq_true, List.all_eq_true] at h; simpa [okL] using h.2 x hx
theorem isW_get {l : List Int} (h : isW l = true) (i : Nat) (hi : i < l.length) : 1 ≤ l[i] ∧ l[i] ≤ 9 := isW_mem h (List.getElem_mem hi)
theorem dropc {α : Type} (l : List α) (i : Nat) (h : i < l.length) : l.drop i = l[i] :: l.drop (i + 1) := List.drop_eq_getElem_cons h

theorem l1In_f (x a b : Int) : spec_l1In.f x a b = some (decide (a ≤ x ∧ x ≤ b)) := by
  unfold spec_l1In.f
  by_cases h : x ≥ a
  · rw [if_pos h]; congr 1; by_cases h2 : x ≤ b
    · rw [decide_eq_true h2, decide_eq_true ⟨h, h2⟩]
    · rw [decide_eq_false h2, decide_eq_false (by omega)]
  · rw [if_neg h, decide_eq_false (by omega)]

theorem specIsW_l0 (l : List Int) (hl : l.length ≤ 1048576) (d : Nat) : ∀ (i k : Nat), i + d = l.length → d < k → spec_IsWord.l0 k l i = some (decide (l.length ≤ 9) && (l.drop i).all okL) := by
  induction d with
  | zero =>
    intro i k hi hk
    obtain ⟨k, rfl⟩ : ∃ m, k = m + 1 := ⟨k - 1, by omega⟩
    simp only [spec_IsWord.l0]
    rw [if_neg (by omega), List.drop_of_length_le (by omega)]
    simp
    omega
  | succ d ih =>
    intro i k hi hk
    obtain ⟨k, rfl⟩ : ∃ m, k = m + 1 := ⟨k - 1, by omega⟩
    have hlt : i < l.length := by omega
    simp only [spec_IsWord.l0]
    rw [if_pos (by omega), if_pos (by omega), rd_nat l i hlt, l1In_f, dropc l i hlt]
    simp only [Option.bind_some, List.all_cons]
    by_cases h : 1 ≤ l[i] ∧ l[i] ≤ 9
    · rw [if_pos (decide_eq_true h), wr1 (by omega), ih (i + 1) k (by omega) (by omega)]
      simp [okL, h]
    · rw [if_neg (by simpa using h)]
      have : okL l[i] = false := decide_eq_false h
      simp [this]
theorem specIsW_ev (l : List Int) (hl : l.length ≤ 1048576) : Ev (fun k => spec_IsWord.f k l) (isW l) := by
  refine ⟨l.length + 1, fun k hk => ?_⟩
  have h := specIsW_l0 l hl l.length 0 k (by omega) (by omega)
  simpa [spec_IsWord.f, isW] using h

theorem within_f (x a b : Int) : impl_within.f x a b = some (decide (a ≤ x ∧ x ≤ b)) := by
  unfold impl_within.f
  by_cases h : a ≤ x
  · rw [if_pos h]; congr 1; by_cases h2 : x ≤ b
    · rw [decide_eq_true h2, decide_eq_true ⟨h, h2⟩]
    · rw [decide_eq_false h2, decide_eq_false (by omega)]
  · rw [if_neg h, decide_eq_false (by omega)]

theorem isWord1_f (x : Int) : impl_IsWord_1.f x = some (!okL x) := by
  unfold impl_IsWord_1.f
  rw [within_f]
  rfl
theorem implIsW_l0 (l : List Int) (hl : l.length ≤ 1048576) (d : Nat) : ∀ (i k : Nat), i + d = l.length → d < k → ∃ r, slices_IndexFunc_int_int__impl_IsWord_1.l0 k l l.length i = some r ∧ decide (r ≥ 0) = !((l.drop i).all okL) := by
  induction d with
  | zero =>
    intro i k hi hk
    obtain ⟨k, rfl⟩ : ∃ m, k = m + 1 := ⟨k - 1, by omega⟩
    simp only [slices_IndexFunc_int_int__impl_IsWord_1.l0]
    rw [if_neg (by omega), List.drop_of_length_le (by omega)]
    exact ⟨_, rfl, by simp⟩
  | succ d ih =>
    intro i k hi hk
    obtain ⟨k, rfl⟩ : ∃ m, k = m + 1 := ⟨k - 1, by omega⟩
    have hlt : i < l.length := by omega
    simp only [slices_IndexFunc_int_int__impl_IsWord_1.l0]
    rw [if_pos (by omega), if_pos (by omega), if_pos (by omega), rd_nat l i hlt, isWord1_f, dropc l i hlt]
    simp only [Option.bind_some, List.all_cons]
    cases h : okL l[i]
    · rw [if_pos (by rfl)]
      exact ⟨_, rfl, by simp⟩
    · rw [if_neg (by simp), wr1 (by omega)]
      obtain ⟨r, h1, h2⟩ := ih (i + 1) k (by omega) (by omega)
      exact ⟨r, h1, by simpa using h2⟩
theorem implIsW_ev (l : List Int) (hl : l.length ≤ 1048576) : Ev (fun k => impl_IsWord.f k l) (isW l) := by
  refine ⟨l.length + 1, fun k hk => ?_⟩
  show impl_IsWord.f k l = _
  obtain ⟨r, h, h2⟩ := implIsW_l0 l hl l.length 0 k (by omega) (by omega)
  have h' : slices_IndexFunc_int_int__impl_IsWord_1.l0 k l l.length 0 = some r := h
  unfold impl_IsWord.f slices_ContainsFunc_int_int__impl_IsWord_1.f slices_IndexFunc_int_int__impl_IsWord_1.f
  simp only [h', Option.bind_some, h2]
  by_cases h9 : (l.length : Int) ≤ 9
  · rw [if_pos h9]; simp [isW]; omega
  · rw [if_neg h9]; simp [isW]; omega

/-- The free places of a word, as both texts find them. -/
def freeM (a : Int) : Nat → List Int → List Int → List Int → List Int × List Int
  | _, low, high, [] => (low, high)
  | i, low, high, x :: xs => if x = a + 1 then freeM a (i + 1) low (high ++ [(i : Int)]) xs
    else if x = a then (if high.length > 0 then freeM a (i + 1) low (high.take (high.length - 1)) xs else freeM a (i + 1) (low ++ [(i : Int)]) high xs)
    else freeM a (i + 1) low high xs
theorem specFree_l0 (l : List Int) (a : Int) (hl : l.length ≤ 9) (ha : 1 ≤ a ∧ a ≤ 8) (d : Nat) : ∀ (i k : Nat) (low high : List Int), i + d = l.length → low.length ≤ i → high.length ≤ i → 2 * d < k →
    spec_l26Free.l0 k l a low high i = some (freeM a i low high (l.drop i)) := by
  induction d with
  | zero =>
    intro i k low high hi h1 h2 hk
    obtain ⟨k, rfl⟩ : ∃ m, k = m + 1 := ⟨k - 1, by omega⟩
    simp only [spec_l26Free.l0]
    rw [if_neg (by omega), List.drop_of_length_le (by omega)]
    rfl
  | succ d ih =>
    intro i k low high hi h1 h2 hk
    obtain ⟨k, rfl⟩ : ∃ m, k = m + 2 := ⟨k - 2, by omega⟩
    have hlt : i < l.length := by omega
    have ih' := fun low high h1 h2 => ih (i + 1) k low high (by omega) h1 h2 (by omega)
    have ih2 := fun low high h1 h2 => ih (i + 1) (k + 1) low high (by omega) h1 h2 (by omega)
    rw [spec_l26Free.l0, if_pos (by omega), if_pos (by omega), rd_nat l i hlt, dropc l i hlt, wr_in (x := a + 1) (by omega) (by omega)]
    simp only [freeM]
    by_cases hx : l[i] = a + 1
    · rw [if_pos hx, if_pos hx, if_pos (by omega), wr1 (by omega), ih2 _ _ (by omega) (by simp; omega)]
    · rw [if_neg hx, if_neg hx]
      by_cases hx2 : l[i] = a
      · rw [if_pos hx2, if_pos hx2]
        simp only [spec_l26Free.j1]
        by_cases hh : high.length > 0
        · have e : wrap64 ((high.length : Int) - 1) = ((high.length - 1 : Nat) : Int) := by unfold wrap64; omega
          rw [if_pos (by rw [decide_eq_true_eq]; omega), e, if_pos (by omega), if_pos (by omega), if_pos hh, wr1 (by omega), Int.toNat_natCast, ih' _ _ (by omega) (by simp; omega)]
        · rw [if_neg (by rw [decide_eq_true_eq]; omega), if_pos (by omega), if_pos (by omega), rd_nat l i hlt, if_pos hx2, if_pos (by omega), if_neg hh, wr1 (by omega), ih' _ _ (by simp; omega) (by omega)]
      · rw [if_neg hx2, if_neg hx2]
        simp only [spec_l26Free.j1]
        rw [if_neg (by simp), if_pos (by omega), if_pos (by omega), rd_nat l i hlt, if_neg hx2, wr1 (by omega), ih' _ _ (by omega) (by omega)]
theorem implFree_l0 (l : List Int) (a : Int) (hl : l.length ≤ 9) (ha : 1 ≤ a ∧ a ≤ 8) (d : Nat) : ∀ (i k : Nat) (low high : List Int), i + d = l.length → low.length ≤ i → high.length ≤ i → 2 * d < k →
    impl_free.l0 k a low high l l.length i = some ((freeM a i low high (l.drop i)).1, (freeM a i low high (l.drop i)).2, true) := by
  induction d with
  | zero =>
    intro i k low high hi h1 h2 hk
    obtain ⟨k, rfl⟩ : ∃ m, k = m + 1 := ⟨k - 1, by omega⟩
    simp only [impl_free.l0]
    rw [if_neg (by omega), List.drop_of_length_le (by omega)]
    rfl
  | succ d ih =>
    intro i k low high hi h1 h2 hk
    obtain ⟨k, rfl⟩ : ∃ m, k = m + 2 := ⟨k - 2, by omega⟩
    have hlt : i < l.length := by omega
    have ih' := fun low high h1 h2 => ih (i + 1) k low high (by omega) h1 h2 (by omega)
    have ih2 := fun low high h1 h2 => ih (i + 1) (k + 1) low high (by omega) h1 h2 (by omega)
    rw [impl_free.l0, if_pos (by omega), if_pos (by omega), if_pos (by omega), rd_nat l i hlt, dropc l i hlt, wr_in (x := a + 1) (by omega) (by omega)]
    simp only [freeM]
    by_cases hx : l[i] = a + 1
    · rw [if_pos hx, if_pos hx, if_pos (by omega), wr1 (by omega), ih2 _ _ (by omega) (by simp; omega)]
    · rw [if_neg hx, if_neg hx]
      by_cases hx2 : l[i] = a
      · rw [if_pos hx2, if_pos hx2]
        simp only [impl_free.j2]
        by_cases hh : high.length > 0
        · have e : wrap64 ((high.length : Int) - 1) = ((high.length - 1 : Nat) : Int) := by unfold wrap64; omega
          rw [if_pos (by rw [decide_eq_true_eq]; omega), e, if_pos (by omega), if_pos (by omega), if_pos hh, wr1 (by omega), Int.toNat_natCast, ih' _ _ (by omega) (by simp; omega)]
        · rw [if_neg (by rw [decide_eq_true_eq]; omega), if_pos hx2, if_pos (by omega), if_neg hh, wr1 (by omega), ih' _ _ (by simp; omega) (by omega)]
      · rw [if_neg hx2, if_neg hx2]
        simp only [impl_free.j2]
        rw [if_neg (by simp), if_neg hx2, wr1 (by omega), ih' _ _ (by omega) (by omega)]
def fineB (l : List Int) (a : Int) : Bool := isW l && decide (1 ≤ a ∧ a ≤ 8)
def lowM (l : List Int) (a : Int) : List Int := (freeM a 0 [] [] l).1
def highM (l : List Int) (a : Int) : List Int := (freeM a 0 [] [] l).2
theorem specFine_ev (l : List Int) (a : Int) (hl : l.length ≤ 1048576) : Ev (fun k => spec_l26Fine.f k l a) (fineB l a) := by
  simp only [spec_l26Fine.f]
  refine Ev.bind (specIsW_ev l hl) ?_
  cases h : isW l
  · exact Ev.ite_false (by simp) (by simpa [fineB, h] using Ev.now false)
  · exact Ev.ite_true rfl (by simpa [fineB, h, l1In_f] using Ev.now _)
theorem specFree_ev (l : List Int) (a : Int) (hf : fineB l a = true) : Ev (fun k => spec_l26Free.f k l a) (lowM l a, highM l a) := by
  simp only [fineB, Bool.and_eq_true, decide_eq_true_eq] at hf
  have h9 := isW_length hf.1
  refine ⟨2 * l.length + 1, fun k hk => ?_⟩
  have h := specFree_l0 l a h9 hf.2 l.length 0 k [] [] (by omega) (by simp) (by simp) (by omega)
  simpa [spec_l26Free.f, lowM, highM] using h
theorem implFree_ev (l : List Int) (a : Int) (hl : l.length ≤ 1048576) : Ev (fun k => impl_free.f k l a) (if fineB l a = true then (lowM l a, highM l a, true) else ([], [], false)) := by
  simp only [impl_free.f]
  refine Ev.bind (implIsW_ev l hl) ?_
  cases h : isW l
  · rw [if_neg (by simp [fineB, h])]
    refine Ev.ite_false (by simp) ?_
    exact Ev.step (f := fun _ => some _) (fun k => by simp only [impl_free.j0]; rfl) (Ev.now _)
  · refine Ev.ite_true rfl ?_
    simp only [within_f, Option.bind_some]
    by_cases ha : 1 ≤ a ∧ a ≤ 8
    · rw [if_pos (by simp [fineB, h, ha])]
      have h9 := isW_length h
      refine ⟨2 * l.length + 2, fun k hk => ?_⟩
      obtain ⟨k, rfl⟩ : ∃ m, k = m + 1 := ⟨k - 1, by omega⟩
      have hh := implFree_l0 l a h9 ha l.length 0 k [] [] (by omega) (by simp) (by simp) (by omega)
      simp only [impl_free.j0, decide_eq_true ha]
      rw [if_neg (by simp)]
      simpa [lowM, highM] using hh
    · rw [if_neg (by simp [fineB, h]; omega)]
      refine Ev.step (f := fun _ => some ([], [], false)) (fun k => ?_) (Ev.now _)
      simp only [impl_free.j0, decide_eq_false ha]
      rfl

/-- The free places are places of the word. -/
theorem freeM_bound (a : Int) : ∀ (xs : List Int) (i : Nat) (low high : List Int), (∀ x ∈ low, 0 ≤ x ∧ x < i) → (∀ x ∈ high, 0 ≤ x ∧ x < i) →
    (∀ x ∈ (freeM a i low high xs).1, 0 ≤ x ∧ x < i + xs.length) ∧ (∀ x ∈ (freeM a i low high xs).2, 0 ≤ x ∧ x < i + xs.length)
  | [], i, low, high, h1, h2 => by simpa [freeM] using ⟨h1, h2⟩
  | x :: xs, i, low, high, h1, h2 => by
    have w1 : ∀ x ∈ low, 0 ≤ x ∧ x < ((i + 1 : Nat) : Int) := fun x hx => by have := h1 x hx; omega
    have w2 : ∀ x ∈ high, 0 ≤ x ∧ x < ((i + 1 : Nat) : Int) := fun x hx => by have := h2 x hx; omega
    have s1 : ∀ x ∈ low ++ [(i : Int)], 0 ≤ x ∧ x < ((i + 1 : Nat) : Int) := fun x hx => by
      rcases List.mem_append.1 hx with h | h
      · exact w1 x h
      · rw [List.mem_singleton] at h; omega
    have s2 : ∀ x ∈ high ++ [(i : Int)], 0 ≤ x ∧ x < ((i + 1 : Nat) : Int) := fun x hx => by
      rcases List.mem_append.1 hx with h | h
      · exact w2 x h
      · rw [List.mem_singleton] at h; omega
    have t2 : ∀ x ∈ high.take (high.length - 1), 0 ≤ x ∧ x < ((i + 1 : Nat) : Int) := fun x hx => w2 x (List.mem_of_mem_take hx)
    have e : ((i + 1 : Nat) : Int) + (xs.length : Int) = (i : Int) + ((x :: xs).length : Nat) := by simp; omega
    simp only [freeM]
    rw [← e]
    split
    · exact freeM_bound a xs (i + 1) low _ w1 s2
    · split
      · split
        · exact freeM_bound a xs (i + 1) low _ w1 t2
        · exact freeM_bound a xs (i + 1) _ high s1 w2
      · exact freeM_bound a xs (i + 1) low high w1 w2
theorem lowM_bound (l : List Int) (a : Int) : ∀ x ∈ lowM l a, 0 ≤ x ∧ x < l.length := by
  have h := (freeM_bound a l 0 [] [] (by simp) (by simp)).1
  simpa [lowM] using h
theorem highM_bound (l : List Int) (a : Int) : ∀ x ∈ highM l a, 0 ≤ x ∧ x < l.length := by
  have h := (freeM_bound a l 0 [] [] (by simp) (by simp)).2
  simpa [highM] using h
theorem freeM_len (a : Int) : ∀ (xs : List Int) (i : Nat) (low high : List Int),
    (freeM a i low high xs).1.length + (freeM a i low high xs).2.length ≤ low.length + high.length + xs.length
  | [], i, low, high => by simp [freeM]
  | x :: xs, i, low, high => by
    simp only [freeM]
    split
    · have := freeM_len a xs (i + 1) low (high ++ [(i : Int)]); simp at this ⊢; omega
    · split
      · split
        · have := freeM_len a xs (i + 1) low (high.take (high.length - 1)); simp at this ⊢; omega
        · have := freeM_len a xs (i + 1) (low ++ [(i : Int)]) high; simp at this ⊢; omega
      · have := freeM_len a xs (i + 1) low high; simp at this ⊢; omega
theorem lowHigh_len (l : List Int) (a : Int) : (lowM l a).length + (highM l a).length ≤ l.length := by
  have := freeM_len a l 0 [] []; simpa [lowM, highM] using this

theorem clone_f (l : List Int) (hl : l.length ≤ 1048576) : slices_Clone_int_int.f l = some l := by
  simp only [slices_Clone_int_int.f, Option.bind_some, List.nil_append, List.length_nil]
  rw [if_pos (by omega)]

-- Raising a word: what both texts answer at a word, and that the sum of the letters falls.
theorem freeM_high (a : Int) (P : Int → Prop) : ∀ (xs : List Int) (i : Nat) (low high : List Int), (∀ x ∈ high, P x) → (∀ (j : Nat) (h : j < xs.length), xs[j] = a + 1 → P ((i + j : Nat) : Int)) → ∀ x ∈ (freeM a i low high xs).2, P x
  | [], i, low, high, h1, h2 => by simpa [freeM] using h1
  | x :: xs, i, low, high, h1, h2 => by
    have hn : ∀ (j : Nat) (h : j < xs.length), xs[j] = a + 1 → P ((i + 1 + j : Nat) : Int) := fun j h e => by
      have := h2 (j + 1) (by simpa using h) (by simpa using e)
      rwa [show i + (j + 1) = i + 1 + j by omega] at this
    simp only [freeM]
    split
    · rename_i hx
      refine freeM_high a P xs (i + 1) low _ (fun y hy => ?_) hn
      rcases List.mem_append.1 hy with h | h
      · exact h1 y h
      · rw [List.mem_singleton] at h; subst h; simpa using h2 0 (by simp) (by simpa using hx)
    · split
      · split
        · exact freeM_high a P xs (i + 1) low _ (fun y hy => h1 y (List.mem_of_mem_take hy)) hn
        · exact freeM_high a P xs (i + 1) _ high h1 hn
      · exact freeM_high a P xs (i + 1) low high h1 hn
theorem highM_val (l : List Int) (a : Int) : ∀ x ∈ highM l a, ∃ j : Nat, x = (j : Int) ∧ ∃ h : j < l.length, l[j] = a + 1 :=
  freeM_high a (fun x => ∃ j : Nat, x = (j : Int) ∧ ∃ h : j < l.length, l[j] = a + 1) l 0 [] [] (by simp) (fun j h e => ⟨j, by simp, h, e⟩)
theorem sum_set_int : ∀ (l : List Int) (j : Nat) (h : j < l.length) (v : Int), (l.set j v).sum = l.sum - l[j] + v
  | x :: xs, 0, _, v => by simp; omega
  | x :: xs, j + 1, h, v => by
    have := sum_set_int xs j (by simpa using h) v
    simp only [List.set_cons_succ, List.sum_cons, List.getElem_cons_succ, this]; omega
theorem isW_set {l : List Int} (h : isW l = true) (j : Nat) (v : Int) (hv : 1 ≤ v ∧ v ≤ 9) : isW (l.set j v) = true := by
  simp only [isW, Bool.and_eq_true, decide_eq_true_eq, List.all_eq_true] at h ⊢
  refine ⟨by simpa using h.1, fun x hx => ?_⟩
  rcases List.mem_or_eq_of_mem_set hx with h1 | rfl
  · exact h.2 x h1
  · exact decide_eq_true hv
theorem isW_sum : ∀ {l : List Int}, l.all okL = true → 0 ≤ l.sum
  | [], _ => by simp
  | x :: xs, h => by
    simp only [List.all_cons, Bool.and_eq_true] at h
    have := isW_sum h.2
    have h1 := h.1
    simp only [okL, decide_eq_true_eq] at h1
    simp only [List.sum_cons]; omega
theorem raise_ev (l : List Int) (a : Int) (h : fineB l a = true) : ∃ r : List Int × Bool, Ev (fun k => spec_RaiseWord.f k l a) r ∧ Ev (fun k => impl_RaiseWord.f k l a) r ∧ (r.2 = true → isW r.1 = true ∧ r.1.sum < l.sum) := by
  have hf := h
  simp only [fineB, Bool.and_eq_true, decide_eq_true_eq] at hf
  have h9 := isW_length hf.1
  have hl : l.length ≤ 1048576 := by omega
  have hi := implFree_ev l a hl
  rw [if_pos h] at hi
  have hsp := specFree_ev l a h
  have hb := highM_bound l a
  have hv := highM_val l a
  generalize lowM l a = low at *
  generalize highM l a = high at *
  by_cases h0 : high.length = 0
  · refine ⟨([], false), ?_, ?_, by simp⟩
    · simp only [spec_RaiseWord.f]
      refine Ev.bind (specFine_ev l a hl) (Ev.ite_true h (Ev.bind hsp ?_))
      exact Ev.ite_true (by simp only [h0]; rfl) (Ev.now _)
    · simp only [impl_RaiseWord.f]
      exact Ev.bind hi (Ev.ite_true (by simp only [h0]; rfl) (Ev.now _))
  · have hg : rd high 0 = high[0]'(by omega) := rd_nat high 0 (by omega)
    have hm := hb _ (List.getElem_mem (l := high) (n := 0) (by omega))
    obtain ⟨j, hj, hj1, hj2⟩ := hv _ (List.getElem_mem (l := high) (n := 0) (by omega))
    refine ⟨(l.set (high[0]'(by omega)).toNat a, true), ?_, ?_, fun _ => ⟨isW_set hf.1 _ _ (by omega), ?_⟩⟩
    · simp only [spec_RaiseWord.f]
      refine Ev.bind (specFine_ev l a hl) (Ev.ite_true h (Ev.bind hsp ?_))
      simp only [Option.bind_some, List.nil_append, List.length_nil, hg]
      refine Ev.ite_false (by omega) (Ev.ite_true (by omega) (Ev.ite_true (by omega) (Ev.ite_true (by omega) (Ev.ite_true (by omega) (Ev.now _)))))
    · simp only [impl_RaiseWord.f, impl_with.f, clone_f l hl]
      refine Ev.bind hi ?_
      simp only [Option.bind_some, hg]
      refine Ev.ite_false (by omega) (Ev.ite_true (by omega) ?_)
      rw [if_pos (by omega), if_pos (by omega)]
      exact Ev.now _
    · rw [hj, Int.toNat_natCast]
      show (l.set j a).sum < l.sum
      rw [sum_set_int l j hj1 a, hj2]; omega

/-! Row insertion of a word and of the word that is lowered at k: the same rows grow. -/
def rowIns : List Int → Int → List Int × Option Int
  | [], x => ([x], none)
  | y :: r, x => if y ≤ x then (y :: (rowIns r x).1, (rowIns r x).2) else (x :: r, some y)
def rowW : List Int → List (Option Int) → List (Option Int)
  | _, [] => []
  | R, none :: w => none :: rowW R w
  | R, some x :: w => (rowIns R x).2 :: rowW (rowIns R x).1 w
theorem rowIns_skip (x : Int) (M : List Int) : ∀ L : List Int, (∀ y ∈ L, y ≤ x) → rowIns (L ++ M) x = (L ++ (rowIns M x).1, (rowIns M x).2)
  | [], _ => rfl
  | y :: L, h => by
    have h1 : y ≤ x := h y (by simp)
    have ih := rowIns_skip x M L (fun z hz => h z (by simp [hz]))
    simp only [List.cons_append, rowIns, if_pos h1, ih]
theorem rowIns_in (x k : Int) (hx : x < k) : ∀ L : List Int, (∀ y ∈ L, y < k) → ¬ (∀ y ∈ L, y ≤ x) → ∃ L' z, z < k ∧ (∀ y ∈ L', y < k) ∧ ∀ M, rowIns (L ++ M) x = (L' ++ M, some z)
  | [], _, h => absurd (by simp) h
  | y :: L, hk, h => by
    by_cases h1 : y ≤ x
    · have h2 : ¬ ∀ z ∈ L, z ≤ x := fun hh => h (by
        intro z hz
        rcases List.mem_cons.1 hz with rfl | hz
        · exact h1
        · exact hh z hz)
      obtain ⟨L', z, hz, hL, e⟩ := rowIns_in x k hx L (fun z hz => hk z (by simp [hz])) h2
      refine ⟨y :: L', z, hz, ?_, fun M => ?_⟩
      · intro v hv
        rcases List.mem_cons.1 hv with rfl | hv
        · exact hk v (by simp)
        · exact hL v hv
      · simp only [List.cons_append, rowIns, if_pos h1, e M]
    · refine ⟨x :: L, y, hk y (by simp), ?_, fun M => ?_⟩
      · intro v hv
        rcases List.mem_cons.1 hv with rfl | hv
        · exact hx
        · exact hk v (by simp [hv])
      · simp only [List.cons_append, rowIns, if_neg h1]
def bl (k : Int) (a b : Nat) (L G : List Int) : List Int := L ++ (List.replicate a k ++ (List.replicate b (k + 1) ++ G))
theorem pop_G (k x : Int) (hx : x ≤ k + 1) : ∀ G : List Int, (∀ y ∈ G, k + 1 < y) → rowIns G x = (x :: G.tail, G.head?)
  | [], _ => rfl
  | g :: G, h => by
    have := h g (by simp)
    simp only [rowIns, if_neg (show ¬ g ≤ x by omega), List.tail_cons, List.head?_cons]
theorem head_neutral {k : Int} {G : List Int} (h : ∀ y ∈ G, k + 1 < y) : G.head? ≠ some k ∧ G.head? ≠ some (k + 1) := by
  cases G with
  | nil => simp
  | cons g G => have := h g (by simp); simp; omega
theorem tail_gt {k : Int} {G : List Int} (h : ∀ y ∈ G, k + 1 < y) : ∀ y ∈ G.tail, k + 1 < y := fun y hy => h y (List.mem_of_mem_tail hy)
theorem ins_hi (k x : Int) (hx : k + 1 < x) (G : List Int) (h : ∀ y ∈ G, k + 1 < y) : (∀ y ∈ (rowIns G x).1, k + 1 < y) ∧ (rowIns G x).2 ≠ some k ∧ (rowIns G x).2 ≠ some (k + 1) := by
  induction G with
  | nil => simp [rowIns]; omega
  | cons g G ih =>
    have h1 := h g (by simp)
    have ih := ih (fun y hy => h y (by simp [hy]))
    by_cases c : g ≤ x
    · simp only [rowIns, if_pos c]
      refine ⟨fun y hy => ?_, ih.2⟩
      rcases List.mem_cons.1 hy with rfl | hy
      · exact h1
      · exact ih.1 y hy
    · simp only [rowIns, if_neg c]
      refine ⟨fun y hy => ?_, by simp; omega, by simp; omega⟩
      rcases List.mem_cons.1 hy with rfl | hy
      · exact hx
      · exact h y (by simp [hy])
-- the steps of a row in blocks
theorem st_kk (k : Int) (a b : Nat) (L G : List Int) (hL : ∀ y ∈ L, y < k) (hG : ∀ y ∈ G, k + 1 < y) : rowIns (bl k a b L G) (k + 1) = (bl k a (b + 1) L G.tail, G.head?) := by
  unfold bl
  rw [rowIns_skip _ _ L (fun y hy => by have := hL y hy; omega), rowIns_skip _ _ (List.replicate a k) (fun y hy => by rw [List.eq_of_mem_replicate hy]; omega), rowIns_skip _ _ (List.replicate b (k + 1)) (fun y hy => by rw [List.eq_of_mem_replicate hy]; omega), pop_G k _ (by omega) G hG]
  simp [List.replicate_succ']
theorem st_k0 (k : Int) (a : Nat) (L G : List Int) (hL : ∀ y ∈ L, y < k) (hG : ∀ y ∈ G, k + 1 < y) : rowIns (bl k a 0 L G) k = (bl k (a + 1) 0 L G.tail, G.head?) := by
  unfold bl
  rw [rowIns_skip _ _ L (fun y hy => by have := hL y hy; omega), rowIns_skip _ _ (List.replicate a k) (fun y hy => by rw [List.eq_of_mem_replicate hy]; omega)]
  simp only [List.replicate_zero, List.nil_append]
  rw [pop_G k _ (by omega) G hG]
  simp [List.replicate_succ']
theorem st_ks (k : Int) (a b : Nat) (L G : List Int) (hL : ∀ y ∈ L, y < k) : rowIns (bl k a (b + 1) L G) k = (bl k (a + 1) b L G, some (k + 1)) := by
  unfold bl
  rw [rowIns_skip _ _ L (fun y hy => by have := hL y hy; omega), rowIns_skip _ _ (List.replicate a k) (fun y hy => by rw [List.eq_of_mem_replicate hy]; omega)]
  simp only [List.replicate_succ (n := b), List.cons_append, rowIns, if_neg (show ¬ k + 1 ≤ k by omega)]
  simp [List.replicate_succ']
theorem st_gt (k x : Int) (hx : k + 1 < x) (a b : Nat) (L G : List Int) (hL : ∀ y ∈ L, y < k) : rowIns (bl k a b L G) x = (bl k a b L (rowIns G x).1, (rowIns G x).2) := by
  unfold bl
  rw [rowIns_skip _ _ L (fun y hy => by have := hL y hy; omega), rowIns_skip _ _ (List.replicate a k) (fun y hy => by rw [List.eq_of_mem_replicate hy]; omega), rowIns_skip _ _ (List.replicate b (k + 1)) (fun y hy => by rw [List.eq_of_mem_replicate hy]; omega)]
theorem st_lt_a (k x : Int) (hx : x < k) (a b : Nat) (L G : List Int) (h : ∀ y ∈ L, y ≤ x) : rowIns (bl k (a + 1) b L G) x = (bl k a b (L ++ [x]) G, some k) := by
  unfold bl
  rw [rowIns_skip _ _ L h]
  simp [List.replicate_succ, rowIns, show ¬ k ≤ x by omega]
theorem st_lt_b (k x : Int) (hx : x < k) (b : Nat) (L G : List Int) (h : ∀ y ∈ L, y ≤ x) : rowIns (bl k 0 (b + 1) L G) x = (bl k 0 b (L ++ [x]) G, some (k + 1)) := by
  unfold bl
  rw [rowIns_skip _ _ L h]
  simp [List.replicate_succ, rowIns, show ¬ k + 1 ≤ x by omega]
theorem st_lt_0 (k x : Int) (hx : x < k) (L G : List Int) (h : ∀ y ∈ L, y ≤ x) (hG : ∀ y ∈ G, k + 1 < y) : rowIns (bl k 0 0 L G) x = (bl k 0 0 (L ++ [x]) G.tail, G.head?) := by
  unfold bl
  rw [rowIns_skip _ _ L h]
  simp only [List.replicate_zero, List.nil_append]
  rw [pop_G k _ (by omega) G hG]
  simp
theorem st_lt_in (k x : Int) (hx : x < k) (L : List Int) (hL : ∀ y ∈ L, y < k) (h : ¬ ∀ y ∈ L, y ≤ x) : ∃ L' z, z < k ∧ (∀ y ∈ L', y < k) ∧ ∀ a b G, rowIns (bl k a b L G) x = (bl k a b L' G, some z) := by
  obtain ⟨L', z, hz, h1, h2⟩ := rowIns_in x k hx L hL h
  exact ⟨L', z, hz, h1, fun a b G => by unfold bl; exact h2 _⟩
theorem snoc_lt {k x : Int} (hx : x < k) {L : List Int} (hL : ∀ y ∈ L, y < k) : ∀ y ∈ L ++ [x], y < k := by
  intro y hy
  rcases List.mem_append.1 hy with hy | hy
  · exact hL y hy
  · rw [List.mem_singleton.1 hy]; exact hx
def upd (k : Int) (p : Nat) (y : Option Int) : Nat := if y = some k then p - 1 else if y = some (k + 1) then p + 1 else p
def Mat (k : Int) : Nat → List (Option Int) → Prop
  | _, [] => True
  | p, y :: u => (y = some k → 0 < p) ∧ Mat k (upd k p y) u
def Low (k : Int) : Nat → List (Option Int) → List (Option Int) → Prop
  | p, y :: u, y' :: u' => (y = y' ∧ Low k (upd k p y) u u') ∨ (y = some k ∧ y' = some (k + 1) ∧ p = 0 ∧ u = u' ∧ Mat k 0 u)
  | _, _, _ => False
theorem upd_k (k : Int) (p : Nat) : upd k p (some k) = p - 1 := by simp [upd]
theorem upd_kk (k : Int) (p : Nat) : upd k p (some (k + 1)) = p + 1 := by
  have h : ¬ (k + 1 = k) := by omega
  simp [upd, h]
theorem upd_o {k : Int} {y : Option Int} (h : y ≠ some k ∧ y ≠ some (k + 1)) (p : Nat) : upd k p y = p := by simp [upd, h.1, h.2]
theorem ne_lt {k z : Int} (h : z < k) : (some z : Option Int) ≠ some k ∧ (some z : Option Int) ≠ some (k + 1) := by simp; omega
theorem ne_gt {k z : Int} (h : k + 1 < z) : (some z : Option Int) ≠ some k ∧ (some z : Option Int) ≠ some (k + 1) := by simp; omega
theorem ne_none {k : Int} : (none : Option Int) ≠ some k ∧ (none : Option Int) ≠ some (k + 1) := by simp
theorem Mat_o {k : Int} {y : Option Int} (h : y ≠ some k ∧ y ≠ some (k + 1)) {p : Nat} {u : List (Option Int)} (hu : Mat k p u) : Mat k p (y :: u) := by
  refine ⟨fun e => absurd e h.1, ?_⟩
  rw [upd_o h]; exact hu
theorem Mat_t {k : Int} {y : Option Int} (h : y ≠ some k ∧ y ≠ some (k + 1)) {p : Nat} {u : List (Option Int)} (hu : Mat k p (y :: u)) : Mat k p u := by
  have := hu.2
  rwa [upd_o h] at this
theorem post (k : Int) : ∀ (w : List (Option Int)) (a b : Nat) (L G : List Int) (p q : Nat), (∀ y ∈ L, y < k) → (∀ y ∈ G, k + 1 < y) → b ≤ p → a + (p - b) ≤ q → Mat k p w → Mat k q (rowW (bl k a b L G) w)
  | [], _, _, _, _, _, _, _, _, _, _, _ => trivial
  | none :: w, a, b, L, G, p, q, hL, hG, h1, h2, hm => Mat_o ne_none (post k w a b L G p q hL hG h1 h2 (Mat_t ne_none hm))
  | some x :: w, a, b, L, G, p, q, hL, hG, h1, h2, hm => by
    simp only [rowW]
    by_cases hx : x < k
    · have hm := Mat_t (ne_lt hx) hm
      by_cases hl : ∀ y ∈ L, y ≤ x
      · cases a with
        | succ a =>
          rw [st_lt_a k x hx a b L G hl]
          refine ⟨fun _ => by omega, ?_⟩
          rw [upd_k]
          exact post k w a b _ G p (q - 1) (snoc_lt hx hL) hG h1 (by omega) hm
        | zero =>
          cases b with
          | succ b =>
            rw [st_lt_b k x hx b L G hl]
            refine ⟨fun e => ?_, ?_⟩
            · simp at e; omega
            rw [upd_kk]
            exact post k w 0 b _ G p (q + 1) (snoc_lt hx hL) hG (by omega) (by omega) hm
          | zero =>
            rw [st_lt_0 k x hx L G hl hG]
            exact Mat_o (head_neutral hG) (post k w 0 0 _ _ p q (snoc_lt hx hL) (tail_gt hG) h1 h2 hm)
      · obtain ⟨L', z, hz, hL', e⟩ := st_lt_in k x hx L hL hl
        rw [e]
        exact Mat_o (ne_lt hz) (post k w a b L' G p q hL' hG h1 h2 hm)
    · by_cases hk : x = k
      · subst hk
        have hp := hm.1 rfl
        have hm := hm.2
        rw [upd_k] at hm
        cases b with
        | succ b =>
          rw [st_ks x a b L G hL]
          refine ⟨fun e => ?_, ?_⟩
          · simp at e; omega
          rw [upd_kk]
          exact post x w (a + 1) b L G (p - 1) (q + 1) hL hG (by omega) (by omega) hm
        | zero =>
          rw [st_k0 x a L G hL hG]
          exact Mat_o (head_neutral hG) (post x w (a + 1) 0 L _ (p - 1) q hL (tail_gt hG) (by omega) (by omega) hm)
      · by_cases hkk : x = k + 1
        · subst hkk
          have hm := hm.2
          rw [upd_kk] at hm
          rw [st_kk k a b L G hL hG]
          exact Mat_o (head_neutral hG) (post k w a (b + 1) L _ (p + 1) q hL (tail_gt hG) (by omega) (by omega) hm)
        · have hx : k + 1 < x := by omega
          have hm := Mat_t (ne_gt hx) hm
          obtain ⟨g1, g2⟩ := ins_hi k x hx G hG
          rw [st_gt k x hx a b L G hL]
          exact Mat_o g2 (post k w a b L _ p q hL g1 h1 h2 hm)
theorem Low_o {k : Int} {y : Option Int} (h : y ≠ some k ∧ y ≠ some (k + 1)) {q : Nat} {u u' : List (Option Int)} (hu : u = u' ∨ Low k q u u') : y :: u = y :: u' ∨ Low k q (y :: u) (y :: u') := by
  rcases hu with rfl | hu
  · exact .inl rfl
  · right; left; exact ⟨rfl, by rw [upd_o h]; exact hu⟩
theorem Low_s {k : Int} {y : Option Int} {q q' : Nat} (e : upd k q y = q') {u u' : List (Option Int)} (hu : u = u' ∨ Low k q' u u') : y :: u = y :: u' ∨ Low k q (y :: u) (y :: u') := by
  rcases hu with rfl | hu
  · exact .inl rfl
  · right; left; exact ⟨rfl, by rw [e]; exact hu⟩
theorem mid (k : Int) : ∀ (w : List (Option Int)) (A B : Nat) (L G : List Int) (q : Nat), (∀ y ∈ L, y < k) → (∀ y ∈ G, k + 1 < y) → q ≤ A → Mat k B w → rowW (bl k (A + 1) B L G) w = rowW (bl k A (B + 1) L G) w ∨ Low k q (rowW (bl k (A + 1) B L G) w) (rowW (bl k A (B + 1) L G) w)
  | [], _, _, _, _, _, _, _, _, _ => .inl rfl
  | none :: w, A, B, L, G, q, hL, hG, h1, hm => Low_o ne_none (mid k w A B L G q hL hG h1 (Mat_t ne_none hm))
  | some x :: w, A, B, L, G, q, hL, hG, h1, hm => by
    simp only [rowW]
    by_cases hx : x < k
    · have hm := Mat_t (ne_lt hx) hm
      by_cases hl : ∀ y ∈ L, y ≤ x
      · rw [st_lt_a k x hx A B L G hl]
        cases A with
        | succ A =>
          rw [st_lt_a k x hx A (B + 1) L G hl]
          exact Low_s (upd_k k q) (mid k w A B _ G (q - 1) (snoc_lt hx hL) hG (by omega) hm)
        | zero =>
          rw [st_lt_b k x hx B L G hl]
          right; right
          exact ⟨rfl, rfl, by omega, rfl, post k w 0 B _ G B 0 (snoc_lt hx hL) hG (by omega) (by omega) hm⟩
      · obtain ⟨L', z, hz, hL', e⟩ := st_lt_in k x hx L hL hl
        rw [e, e]
        exact Low_o (ne_lt hz) (mid k w A B L' G q hL' hG h1 hm)
    · by_cases hk : x = k
      · subst hk
        have hp := hm.1 rfl
        have hm := hm.2
        rw [upd_k] at hm
        cases B with
        | zero => omega
        | succ B =>
          rw [st_ks x (A + 1) B L G hL, st_ks x A (B + 1) L G hL]
          exact Low_s (upd_kk x q) (mid x w (A + 1) B L G (q + 1) hL hG (by omega) hm)
      · by_cases hkk : x = k + 1
        · subst hkk
          have hm := hm.2
          rw [upd_kk] at hm
          rw [st_kk k (A + 1) B L G hL hG, st_kk k A (B + 1) L G hL hG]
          exact Low_o (head_neutral hG) (mid k w A (B + 1) L _ q hL (tail_gt hG) h1 hm)
        · have hx : k + 1 < x := by omega
          have hm := Mat_t (ne_gt hx) hm
          obtain ⟨g1, g2⟩ := ins_hi k x hx G hG
          rw [st_gt k x hx (A + 1) B L G hL, st_gt k x hx A (B + 1) L G hL]
          exact Low_o g2 (mid k w A B L _ q hL g1 h1 hm)
theorem pre (k : Int) : ∀ (w w' : List (Option Int)) (a b : Nat) (L G : List Int) (p q : Nat), (∀ y ∈ L, y < k) → (∀ y ∈ G, k + 1 < y) → b ≤ p → q ≤ a + (p - b) → Low k p w w' → rowW (bl k a b L G) w = rowW (bl k a b L G) w' ∨ Low k q (rowW (bl k a b L G) w) (rowW (bl k a b L G) w')
  | [], _, _, _, _, _, _, _, _, _, _, _, h => by simp [Low] at h
  | _ :: _, [], _, _, _, _, _, _, _, _, _, _, h => by simp [Low] at h
  | y :: w, y' :: w', a, b, L, G, p, q, hL, hG, h1, h2, h => by
    rcases h with ⟨rfl, h⟩ | ⟨rfl, rfl, rfl, rfl, hm⟩
    · cases y with
      | none =>
        rw [upd_o ne_none] at h
        exact Low_o ne_none (pre k w w' a b L G p q hL hG h1 h2 h)
      | some x =>
        simp only [rowW]
        by_cases hx : x < k
        · rw [upd_o (ne_lt hx)] at h
          by_cases hl : ∀ y ∈ L, y ≤ x
          · cases a with
            | succ a =>
              rw [st_lt_a k x hx a b L G hl]
              exact Low_s (upd_k k q) (pre k w w' a b _ G p (q - 1) (snoc_lt hx hL) hG h1 (by omega) h)
            | zero =>
              cases b with
              | succ b =>
                rw [st_lt_b k x hx b L G hl]
                exact Low_s (upd_kk k q) (pre k w w' 0 b _ G p (q + 1) (snoc_lt hx hL) hG (by omega) (by omega) h)
              | zero =>
                rw [st_lt_0 k x hx L G hl hG]
                exact Low_o (head_neutral hG) (pre k w w' 0 0 _ _ p q (snoc_lt hx hL) (tail_gt hG) h1 h2 h)
          · obtain ⟨L', z, hz, hL', e⟩ := st_lt_in k x hx L hL hl
            rw [e]
            exact Low_o (ne_lt hz) (pre k w w' a b L' G p q hL' hG h1 h2 h)
        · by_cases hk : x = k
          · subst hk
            rw [upd_k] at h
            cases b with
            | succ b =>
              rw [st_ks x a b L G hL]
              exact Low_s (upd_kk x q) (pre x w w' (a + 1) b L G (p - 1) (q + 1) hL hG (by omega) (by omega) h)
            | zero =>
              rw [st_k0 x a L G hL hG]
              exact Low_o (head_neutral hG) (pre x w w' (a + 1) 0 L _ (p - 1) q hL (tail_gt hG) (by omega) (by omega) h)
          · by_cases hkk : x = k + 1
            · subst hkk
              rw [upd_kk] at h
              rw [st_kk k a b L G hL hG]
              exact Low_o (head_neutral hG) (pre k w w' a (b + 1) L _ (p + 1) q hL (tail_gt hG) (by omega) (by omega) h)
            · have hx : k + 1 < x := by omega
              rw [upd_o (ne_gt hx)] at h
              obtain ⟨g1, g2⟩ := ins_hi k x hx G hG
              rw [st_gt k x hx a b L G hL]
              exact Low_o g2 (pre k w w' a b L _ p q hL g1 h1 h2 h)
    · obtain rfl : b = 0 := by omega
      simp only [rowW]
      rw [st_k0 k a L G hL hG, st_kk k a 0 L G hL hG]
      exact Low_o (head_neutral hG) (mid k w a 0 L _ q hL (tail_gt hG) (by omega) hm)
theorem Low_blank {k : Int} : ∀ (p : Nat) (w w' : List (Option Int)), Low k p w w' → w.map Option.isNone = w'.map Option.isNone
  | _, [], _, h => by simp [Low] at h
  | _, _ :: _, [], h => by simp [Low] at h
  | p, y :: w, y' :: w', h => by
    rcases h with ⟨rfl, h⟩ | ⟨rfl, rfl, rfl, rfl, hm⟩
    · simp [Low_blank _ w w' h]
    · simp
def ins : List (List Int) → Int → List (List Int) × Nat
  | [], x => ([[x]], 0)
  | R :: T, x => match (rowIns R x).2 with
    | none => ((rowIns R x).1 :: T, 0)
    | some y => ((rowIns R x).1 :: (ins T y).1, (ins T y).2 + 1)
def run : List (List Int) → List (Option Int) → List (Option Nat)
  | _, [] => []
  | T, none :: w => none :: run T w
  | T, some x :: w => some (ins T x).2 :: run (ins T x).1 w
def comb : List Bool → List Bool → List (Option Nat) → List (Option Nat)
  | y :: w, o :: os, r :: rs => (if y then none else if o then some 0 else r.map (· + 1)) :: comb w os rs
  | _, _, _ => []
theorem run_cons : ∀ (w : List (Option Int)) (R : List Int) (T : List (List Int)), run (R :: T) w = comb (w.map Option.isNone) ((rowW R w).map Option.isNone) (run T (rowW R w))
  | [], _, _ => by simp [run, comb]
  | none :: w, R, T => by simp [run, rowW, comb, run_cons w R T]
  | some x :: w, R, T => by
    simp only [run, rowW, ins]
    cases h : (rowIns R x).2 with
    | none => simp [run, comb, run_cons w]
    | some y => simp [run, comb, run_cons w]
theorem run_nil : ∀ w : List (Option Int), run [] w = run [[]] w
  | [] => rfl
  | none :: w => by simp [run, run_nil w]
  | some x :: w => by simp [run, ins, rowIns]
def cnt (w : List (Option Int)) : Nat := w.countP Option.isSome
theorem cnt_le : ∀ (w : List (Option Int)) (R : List Int), cnt (rowW R w) ≤ cnt w
  | [], _ => by simp [rowW, cnt]
  | none :: w, R => by have := cnt_le w R; simpa [rowW, cnt] using this
  | some x :: w, R => by
    have := cnt_le w (rowIns R x).1
    simp only [rowW, cnt, List.countP_cons] at *
    split <;> simp <;> omega
theorem cnt_lt : ∀ (w : List (Option Int)), 0 < cnt w → cnt (rowW [] w) < cnt w
  | [], h => by simp [cnt] at h
  | none :: w, h => by
    have h : 0 < cnt w := by simpa [cnt] using h
    have := cnt_lt w h
    simpa [rowW, cnt] using this
  | some x :: w, _ => by
    have := cnt_le w [x]
    simp only [rowW, rowIns, cnt, List.countP_cons] at *
    simp; omega
theorem Low_cnt {k : Int} : ∀ (p : Nat) (w w' : List (Option Int)), Low k p w w' → 0 < cnt w
  | _, [], _, h => by simp [Low] at h
  | _, _ :: _, [], h => by simp [Low] at h
  | p, y :: w, y' :: w', h => by
    rcases h with ⟨rfl, h⟩ | ⟨rfl, rfl, rfl, rfl, hm⟩
    · have := Low_cnt _ w w' h
      simp only [cnt, List.countP_cons] at *
      omega
    · simp [cnt]
theorem runs (k : Int) : ∀ (n : Nat) (w w' : List (Option Int)), cnt w ≤ n → Low k 0 w w' → run [] w = run [] w'
  | 0, w, w', hn, h => by have := Low_cnt _ _ _ h; omega
  | n + 1, w, w', hn, h => by
    have hp := pre k w w' 0 0 [] [] 0 0 (by simp) (by simp) (by omega) (by omega) h
    have e : bl k 0 0 [] [] = [] := by simp [bl]
    rw [e] at hp
    have hc := cnt_lt w (Low_cnt _ _ _ h)
    rw [run_nil, run_nil, run_cons, run_cons, Low_blank _ _ _ h]
    rcases hp with hp | hp
    · rw [hp]
    · rw [Low_blank _ _ _ hp, runs k n _ _ (by omega) hp]

/-! The free places of a lowered, raised or reflected word. -/
theorem freeM_add (a : Int) : ∀ (xs : List Int) (i : Nat) (lo low high : List Int), freeM a i (lo ++ low) high xs = (lo ++ (freeM a i low high xs).1, (freeM a i low high xs).2)
  | [], _, _, _, _ => rfl
  | x :: xs, i, lo, low, high => by
    simp only [freeM]
    split
    · exact freeM_add a xs _ lo low _
    · split
      · split
        · exact freeM_add a xs _ lo low _
        · rw [List.append_assoc]; exact freeM_add a xs _ lo _ _
      · exact freeM_add a xs _ lo low _
theorem freeM_low (a : Int) (xs : List Int) (i : Nat) (low high : List Int) : freeM a i low high xs = (low ++ (freeM a i [] high xs).1, (freeM a i [] high xs).2) := by
  have := freeM_add a xs i low [] high
  simpa using this
theorem take_pred_cons (h0 : Int) (high : List Int) (h : 0 < high.length) : (h0 :: high).take ((h0 :: high).length - 1) = h0 :: high.take (high.length - 1) := by
  cases high with
  | nil => simp at h
  | cons y ys => simp
-- no new lows: a place below the others stays, and all numbers a are matched
theorem freeM_under (a h0 : Int) : ∀ (xs : List Int) (i : Nat) (high : List Int), (freeM a i [] high xs).1 = [] → freeM a i [] (h0 :: high) xs = ([], h0 :: (freeM a i [] high xs).2) ∧ Mat a high.length (xs.map some)
  | [], _, _, _ => ⟨rfl, trivial⟩
  | x :: xs, i, high, h => by
    simp only [freeM] at h ⊢
    by_cases c1 : x = a + 1
    · rw [if_pos c1] at h ⊢
      rw [if_pos c1]
      obtain ⟨h1, h2⟩ := freeM_under a h0 xs (i + 1) _ h
      refine ⟨h1, fun e => by simp at e; omega, ?_⟩
      rw [c1, upd_kk]
      simpa using h2
    · rw [if_neg c1] at h ⊢
      rw [if_neg c1]
      by_cases c2 : x = a
      · rw [if_pos c2] at h ⊢
        rw [if_pos c2]
        by_cases c3 : high.length > 0
        · rw [if_pos c3] at h ⊢
          rw [if_pos (by simp), take_pred_cons h0 high c3]
          obtain ⟨h1, h2⟩ := freeM_under a h0 xs (i + 1) _ h
          refine ⟨h1, fun _ => c3, ?_⟩
          rw [c2, upd_k]
          have e : (high.take (high.length - 1)).length = high.length - 1 := by simp
          rwa [e] at h2
        · rw [if_neg c3, List.nil_append, freeM_low] at h
          simp at h
      · rw [if_neg c2] at h ⊢
        rw [if_neg c2]
        obtain ⟨h1, h2⟩ := freeM_under a h0 xs (i + 1) _ h
        exact ⟨h1, Mat_o ⟨by simpa using c2, by simpa using c1⟩ h2⟩
-- lowering: the last free a becomes a + 1
theorem freeM_lower (a : Int) : ∀ (xs : List Int) (i : Nat) (high m : List Int) (j : Int), (freeM a i [] high xs).1 = m ++ [j] →
    ∃ n : Nat, j = ((i + n : Nat) : Int) ∧ xs[n]? = some a ∧ freeM a i [] high (xs.set n (a + 1)) = (m, j :: (freeM a i [] high xs).2) ∧ Low a high.length (xs.map some) ((xs.set n (a + 1)).map some)
  | [], _, _, m, j, h => by simp [freeM] at h
  | x :: xs, i, high, m, j, h => by
    simp only [freeM] at h ⊢
    by_cases c1 : x = a + 1
    · rw [if_pos c1] at h ⊢
      obtain ⟨n, h1, h2, h3, h4⟩ := freeM_lower a xs (i + 1) _ m j h
      refine ⟨n + 1, by omega, by simpa using h2, ?_, ?_⟩
      · simp only [List.set_cons_succ, freeM, if_pos c1]; exact h3
      · refine .inl ⟨rfl, ?_⟩
        rw [c1, upd_kk]
        simpa using h4
    · rw [if_neg c1] at h ⊢
      by_cases c2 : x = a
      · rw [if_pos c2] at h ⊢
        by_cases c3 : high.length > 0
        · rw [if_pos c3] at h ⊢
          obtain ⟨n, h1, h2, h3, h4⟩ := freeM_lower a xs (i + 1) _ m j h
          refine ⟨n + 1, by omega, by simpa using h2, ?_, ?_⟩
          · simp only [List.set_cons_succ, freeM, if_neg c1, if_pos c2, if_pos c3]; exact h3
          · refine .inl ⟨rfl, ?_⟩
            rw [c2, upd_k]
            have e : (high.take (high.length - 1)).length = high.length - 1 := by simp
            rwa [e] at h4
        · rw [if_neg c3] at h ⊢
          have h0 : high = [] := List.eq_nil_of_length_eq_zero (by omega)
          subst h0
          rw [freeM_low] at h
          by_cases c4 : (freeM a (i + 1) [] [] xs).1 = []
          · rw [c4] at h
            simp only [List.nil_append, List.append_nil] at h
            have hm : m = [] ∧ (i : Int) = j := by
              cases m with
              | nil => simpa using h
              | cons y ys => simp at h
            obtain ⟨rfl, rfl⟩ := hm
            obtain ⟨u1, u2⟩ := freeM_under a (i : Int) xs (i + 1) [] c4
            refine ⟨0, by simp, by simp [c2], ?_, .inr ⟨by rw [c2], rfl, rfl, rfl, u2⟩⟩
            simp only [List.set_cons_zero, freeM, if_true, List.nil_append]
            rw [u1, freeM_low a xs (i + 1) [(i : Int)] []]
          · obtain ⟨m', j', e⟩ : ∃ m' j', (freeM a (i + 1) [] [] xs).1 = m' ++ [j'] := ⟨_, _, (List.dropLast_concat_getLast c4).symm⟩
            rw [e, List.nil_append, ← List.append_assoc] at h
            obtain ⟨hm, hj⟩ := List.append_inj' h rfl
            simp only [List.cons.injEq, and_true] at hj
            subst hj
            obtain ⟨n, h1, h2, h3, h4⟩ := freeM_lower a xs (i + 1) [] m' j' e
            refine ⟨n + 1, by omega, by simpa using h2, ?_, .inl ⟨rfl, ?_⟩⟩
            · simp only [List.set_cons_succ, freeM, if_neg c1, if_pos c2, if_neg c3, List.nil_append]
              rw [freeM_low, h3, ← hm, freeM_low a xs (i + 1) [(i : Int)] []]
            · rw [c2, upd_k]
              simpa using h4
      · rw [if_neg c2] at h ⊢
        obtain ⟨n, h1, h2, h3, h4⟩ := freeM_lower a xs (i + 1) _ m j h
        refine ⟨n + 1, by omega, by simpa using h2, ?_, ?_⟩
        · simp only [List.set_cons_succ, freeM, if_neg c1, if_neg c2]; exact h3
        · refine .inl ⟨rfl, ?_⟩
          rw [upd_o ⟨by simpa using c2, by simpa using c1⟩]
          exact h4
-- what is left of the numbers a + 1: a first part of the old ones, then new ones
theorem freeM_top (a : Int) : ∀ (xs : List Int) (i : Nat) (high : List Int), ∃ t H, (freeM a i [] high xs).2 = high.take t ++ H ∧ ∀ y ∈ H, (i : Int) ≤ y
  | [], _, high => ⟨high.length, [], by simp [freeM], by simp⟩
  | x :: xs, i, high => by
    simp only [freeM]
    have up : ∀ {H : List Int}, (∀ y ∈ H, ((i + 1 : Nat) : Int) ≤ y) → ∀ y ∈ H, (i : Int) ≤ y := fun h y hy => by have := h y hy; omega
    split
    · obtain ⟨t, H, h1, h2⟩ := freeM_top a xs (i + 1) (high ++ [(i : Int)])
      rw [List.take_append, List.append_assoc] at h1
      refine ⟨t, _, h1, fun y hy => ?_⟩
      rcases List.mem_append.1 hy with hy | hy
      · have := List.mem_of_mem_take hy; simp at this; omega
      · exact up h2 y hy
    · split
      · split
        · obtain ⟨t, H, h1, h2⟩ := freeM_top a xs (i + 1) (high.take (high.length - 1))
          rw [List.take_take] at h1
          exact ⟨_, H, h1, up h2⟩
        · rw [freeM_low]
          obtain ⟨t, H, h1, h2⟩ := freeM_top a xs (i + 1) high
          exact ⟨t, H, h1, up h2⟩
      · obtain ⟨t, H, h1, h2⟩ := freeM_top a xs (i + 1) high
        exact ⟨t, H, h1, up h2⟩
theorem freeM_bottom (a h0 : Int) : ∀ (xs : List Int) (i : Nat) (high H : List Int), h0 < i → (freeM a i [] (h0 :: high) xs).2 = h0 :: H → (freeM a i [] (h0 :: high) xs).1 = [] ∧ freeM a i [] high xs = ([], H)
  | [], _, high, H, _, h => by simp only [freeM, List.cons.injEq, true_and] at h; simp [freeM, h]
  | x :: xs, i, high, H, hi, h => by
    simp only [freeM] at h ⊢
    by_cases c1 : x = a + 1
    · rw [if_pos c1] at h ⊢
      rw [if_pos c1]
      exact freeM_bottom a h0 xs (i + 1) _ H (by omega) h
    · rw [if_neg c1] at h ⊢
      rw [if_neg c1]
      by_cases c2 : x = a
      · rw [if_pos c2, if_pos (by simp)] at h ⊢
        rw [if_pos c2]
        by_cases c3 : high.length > 0
        · rw [take_pred_cons h0 high c3] at h ⊢
          rw [if_pos c3]
          exact freeM_bottom a h0 xs (i + 1) _ H (by omega) h
        · have e : high = [] := List.eq_nil_of_length_eq_zero (by omega)
          subst e
          simp only [List.length_cons, List.length_nil, Nat.zero_add, Nat.sub_self, List.take_zero] at h
          obtain ⟨t, H', h1, h2⟩ := freeM_top a xs (i + 1) []
          rw [h1] at h
          simp only [List.take_nil, List.nil_append] at h
          have := h2 h0 (by rw [h]; simp)
          omega
      · rw [if_neg c2] at h ⊢
        rw [if_neg c2]
        exact freeM_bottom a h0 xs (i + 1) _ H (by omega) h
-- raising: the first free a + 1 becomes a
theorem freeM_raise (a h0 : Int) : ∀ (xs : List Int) (i : Nat) (high H : List Int), (i : Int) ≤ h0 → (∀ y ∈ high, y < (i : Int)) → (freeM a i [] high xs).2 = h0 :: H →
    ∃ n : Nat, h0 = ((i + n : Nat) : Int) ∧ xs[n]? = some (a + 1) ∧ freeM a i [] high (xs.set n a) = ((freeM a i [] high xs).1 ++ [h0], H)
  | [], i, high, H, hi, hh, h => by
    simp only [freeM] at h
    have := hh h0 (by rw [h]; simp)
    omega
  | x :: xs, i, high, H, hi, hh, h => by
    simp only [freeM] at h ⊢
    by_cases c1 : x = a + 1
    · rw [if_pos c1] at h ⊢
      by_cases c0 : h0 = (i : Int)
      · subst c0
        have e : high = [] := by
          cases high with
          | nil => rfl
          | cons y ys =>
            obtain ⟨t, H', h1, h2⟩ := freeM_top a xs (i + 1) (y :: ys ++ [(i : Int)])
            rw [h1] at h
            cases t with
            | zero =>
              simp only [List.take_zero, List.nil_append] at h
              have := h2 (i : Int) (by rw [h]; simp)
              omega
            | succ t =>
              simp only [List.cons_append, List.take_succ_cons, List.cons.injEq] at h
              have := hh y (by simp)
              omega
        subst e
        simp only [List.nil_append] at h ⊢
        obtain ⟨u1, u2⟩ := freeM_bottom a (i : Int) xs (i + 1) [] H (by omega) h
        refine ⟨0, by simp, by simp [c1], ?_⟩
        rw [u1]
        simp only [List.set_cons_zero, freeM, if_true]
        rw [if_neg (show ¬ a = a + 1 by omega), if_neg (by simp), freeM_low, u2]
        simp
      · obtain ⟨n, h1, h2, h3⟩ := freeM_raise a h0 xs (i + 1) _ H (by omega) (by
          intro y hy
          rcases List.mem_append.1 hy with hy | hy
          · have := hh y hy; omega
          · rw [List.mem_singleton.1 hy]; omega) h
        refine ⟨n + 1, by omega, by simpa using h2, ?_⟩
        simp only [List.set_cons_succ, freeM, if_pos c1]; exact h3
    · rw [if_neg c1] at h ⊢
      have up : ∀ y ∈ high, y < ((i + 1 : Nat) : Int) := fun y hy => by have := hh y hy; omega
      by_cases c2 : x = a
      · rw [if_pos c2] at h ⊢
        by_cases c3 : high.length > 0
        · rw [if_pos c3] at h ⊢
          by_cases c0 : h0 = (i : Int)
          · subst c0
            obtain ⟨t, H', h1, h2⟩ := freeM_top a xs (i + 1) (high.take (high.length - 1))
            rw [h1] at h
            have hm : (i : Int) ∈ (high.take (high.length - 1)).take t ++ H' := by rw [h]; simp
            rcases List.mem_append.1 hm with hm | hm
            · have := hh _ (List.mem_of_mem_take (List.mem_of_mem_take hm)); omega
            · have := h2 _ hm; omega
          obtain ⟨n, h1, h2, h3⟩ := freeM_raise a h0 xs (i + 1) _ H (by omega) (fun y hy => up y (List.mem_of_mem_take hy)) h
          refine ⟨n + 1, by omega, by simpa using h2, ?_⟩
          simp only [List.set_cons_succ, freeM, if_neg c1, if_pos c2, if_pos c3]; exact h3
        · rw [if_neg c3] at h ⊢
          rw [freeM_low] at h
          rw [freeM_low]
          by_cases c0 : h0 = (i : Int)
          · subst c0
            obtain ⟨t, H', h1, h2⟩ := freeM_top a xs (i + 1) high
            rw [h1] at h
            have hm : (i : Int) ∈ high.take t ++ H' := by rw [h]; simp
            rcases List.mem_append.1 hm with hm | hm
            · have := hh _ (List.mem_of_mem_take hm); omega
            · have := h2 _ hm; omega
          obtain ⟨n, h1, h2, h3⟩ := freeM_raise a h0 xs (i + 1) _ H (by omega) up h
          refine ⟨n + 1, by omega, by simpa using h2, ?_⟩
          simp only [List.set_cons_succ, freeM, if_neg c1, if_pos c2, if_neg c3]
          rw [freeM_low, h3]
          simp
      · rw [if_neg c2] at h ⊢
        by_cases c0 : h0 = (i : Int)
        · subst c0
          obtain ⟨t, H', h1, h2⟩ := freeM_top a xs (i + 1) high
          rw [h1] at h
          have hm : (i : Int) ∈ high.take t ++ H' := by rw [h]; simp
          rcases List.mem_append.1 hm with hm | hm
          · have := hh _ (List.mem_of_mem_take hm); omega
          · have := h2 _ hm; omega
        obtain ⟨n, h1, h2, h3⟩ := freeM_raise a h0 xs (i + 1) _ H (by omega) up h
        refine ⟨n + 1, by omega, by simpa using h2, ?_⟩
        simp only [List.set_cons_succ, freeM, if_neg c1, if_neg c2]; exact h3
-- the free places are all different, and behind the low ones come the high ones
theorem freeM_nodup (a : Int) : ∀ (xs : List Int) (i : Nat) (low high : List Int), (low ++ high).Nodup → (∀ y ∈ low ++ high, y < (i : Int)) → ((freeM a i low high xs).1 ++ (freeM a i low high xs).2).Nodup
  | [], _, _, _, h, _ => h
  | x :: xs, i, low, high, h, hb => by
    have hi : (i : Int) ∉ low ++ high := fun hm => by have := hb _ hm; omega
    have up : ∀ y ∈ low ++ high, y < ((i + 1 : Nat) : Int) := fun y hy => by have := hb y hy; omega
    simp only [freeM]
    split
    · refine freeM_nodup a xs (i + 1) low _ ?_ ?_
      · rw [← List.append_assoc, List.nodup_append]
        exact ⟨h, by simp, fun y hy z hz => by rw [List.mem_singleton.1 hz]; rintro rfl; exact hi hy⟩
      · intro y hy
        rw [← List.append_assoc] at hy
        rcases List.mem_append.1 hy with hy | hy
        · exact up y hy
        · rw [List.mem_singleton.1 hy]; omega
    · split
      · split
        · refine freeM_nodup a xs (i + 1) low _ ?_ ?_
          · exact List.Sublist.nodup (List.Sublist.append_left (List.take_sublist _ _) _) h
          · intro y hy
            refine up y ?_
            rcases List.mem_append.1 hy with hy | hy
            · exact List.mem_append_left _ hy
            · exact List.mem_append_right _ (List.mem_of_mem_take hy)
        · refine freeM_nodup a xs (i + 1) _ high ?_ ?_
          · rw [List.nodup_append] at h ⊢
            refine ⟨?_, h.2.1, ?_⟩
            · rw [List.nodup_append]
              exact ⟨h.1, by simp, fun y hy z hz => by rw [List.mem_singleton.1 hz]; rintro rfl; exact hi (List.mem_append_left _ hy)⟩
            · intro y hy z hz
              rcases List.mem_append.1 hy with hy | hy
              · exact h.2.2 y hy z hz
              · rw [List.mem_singleton.1 hy]; rintro rfl; exact hi (List.mem_append_right _ hz)
          · intro y hy
            rcases List.mem_append.1 hy with hy | hy
            · rcases List.mem_append.1 hy with hy | hy
              · exact up y (List.mem_append_left _ hy)
              · rw [List.mem_singleton.1 hy]; omega
            · exact up y (List.mem_append_right _ hy)
      · exact freeM_nodup a xs (i + 1) low high h up
-- what a word's end has of a + 1 and a
theorem freeM_count (a : Int) : ∀ (xs : List Int) (i : Nat) (low high : List Int), high.length + xs.count (a + 1) ≤ (freeM a i low high xs).2.length + xs.count a
  | [], _, _, _ => by simp [freeM]
  | x :: xs, i, low, high => by
    simp only [freeM, List.count_cons, beq_iff_eq]
    by_cases c1 : x = a + 1
    · have := freeM_count a xs (i + 1) low (high ++ [(i : Int)])
      rw [if_pos c1, if_pos c1, if_neg (show ¬ x = a by omega)]
      simp only [List.length_append, List.length_singleton] at this
      omega
    · rw [if_neg c1, if_neg c1]
      by_cases c2 : x = a
      · rw [if_pos c2, if_pos c2]
        split
        · have := freeM_count a xs (i + 1) low (high.take (high.length - 1))
          simp only [List.length_take] at this
          omega
        · have := freeM_count a xs (i + 1) (low ++ [(i : Int)]) high
          omega
      · rw [if_neg c2, if_neg c2]
        have := freeM_count a xs (i + 1) low high
        omega
theorem freeM_suffix (a : Int) : ∀ (xs ys : List Int) (i : Nat) (low high : List Int), (freeM a i low high (xs ++ ys)).2 = [] → ys.count (a + 1) ≤ ys.count a
  | [], ys, i, low, high, h => by
    have := freeM_count a ys i low high
    rw [List.nil_append] at h
    rw [h] at this
    simp at this
    omega
  | x :: xs, ys, i, low, high, h => by
    simp only [List.cons_append, freeM] at h
    split at h
    · exact freeM_suffix a xs ys _ _ _ h
    · split at h
      · split at h
        · exact freeM_suffix a xs ys _ _ _ h
        · exact freeM_suffix a xs ys _ _ _ h
      · exact freeM_suffix a xs ys _ _ _ h

/-! Setting the free places of a word: raising, lowering and reflecting are all of this kind. -/
def setAll (v : Int) (F : List Int) (w : List Int) : List Int := F.foldl (fun y x => y.set x.toNat v) w
theorem setAll_len (v : Int) : ∀ (F w : List Int), (setAll v F w).length = w.length
  | [], _ => rfl
  | x :: F, w => by
    have := setAll_len v F (w.set x.toNat v)
    simpa [setAll] using this
theorem setAll_get (v : Int) : ∀ (F w : List Int), (∀ x ∈ F, 0 ≤ x) → ∀ (n : Nat), n < w.length → (setAll v F w)[n]? = if (n : Int) ∈ F then some v else w[n]?
  | [], _, _, n, _ => by simp [setAll]
  | x :: F, w, h, n, hn => by
    have ih := setAll_get v F (w.set x.toNat v) (fun y hy => h y (by simp [hy])) n (by simpa using hn)
    have hx := h x (by simp)
    show (setAll v F (w.set x.toNat v))[n]? = _
    rw [ih]
    by_cases c : (n : Int) ∈ F
    · rw [if_pos c, if_pos (by simp [c])]
    · rw [if_neg c]
      by_cases c2 : (n : Int) = x
      · rw [if_pos (by simp [c2]), show x.toNat = n by omega, List.getElem?_set_self hn]
      · rw [if_neg (by simp [c, c2]), List.getElem?_set_ne (by omega)]
/-- The free places F of w, the first m of them set to a, the others to a + 1. -/
def wset (a : Int) (F w : List Int) (m : Nat) : List Int := setAll (a + 1) (F.drop m) (setAll a (F.take m) w)
theorem wset_len (a : Int) (F w : List Int) (m : Nat) : (wset a F w m).length = w.length := by
  unfold wset; rw [setAll_len, setAll_len]
theorem wset_get (a : Int) (F w : List Int) (hF : ∀ x ∈ F, 0 ≤ x) (m n : Nat) (hn : n < w.length) : (wset a F w m)[n]? = if (n : Int) ∈ F.drop m then some (a + 1) else if (n : Int) ∈ F.take m then some a else w[n]? := by
  unfold wset
  rw [setAll_get _ _ _ (fun x hx => hF x (List.mem_of_mem_drop hx)) n (by rw [setAll_len]; exact hn), setAll_get _ _ _ (fun x hx => hF x (List.mem_of_mem_take hx)) n hn]
theorem wset_up (a : Int) (F w : List Int) (hF : ∀ x ∈ F, 0 ≤ x ∧ x < w.length) (hd : F.Nodup) (m : Nat) (hm : m < F.length) : (wset a F w m).set F[m].toNat a = wset a F w (m + 1) := by
  apply List.ext_getElem?
  intro n
  have hF0 : ∀ x ∈ F, 0 ≤ x := fun x hx => (hF x hx).1
  by_cases hn : n < w.length
  · have e1 : F.drop m = F[m] :: F.drop (m + 1) := List.drop_eq_getElem_cons hm
    have e2 : F.take (m + 1) = F.take m ++ [F[m]] := List.take_succ_eq_append_getElem hm
    have i1 : ∀ y, y ∈ F.drop m ↔ y = F[m] ∨ y ∈ F.drop (m + 1) := fun y => by rw [e1]; exact List.mem_cons
    have i2 : ∀ y, y ∈ F.take (m + 1) ↔ y ∈ F.take m ∨ y = F[m] := fun y => by rw [e2, List.mem_append, List.mem_singleton]
    have hb := hF _ (List.getElem_mem hm)
    have hd2 : F[m] ∉ F.drop (m + 1) := by
      have : (F.drop m).Nodup := List.Sublist.nodup (List.drop_sublist m F) hd
      rw [e1, List.nodup_cons] at this
      exact this.1
    by_cases c : n = F[m].toNat
    · rw [c, List.getElem?_set_self (by rw [wset_len]; omega), wset_get a F w hF0 _ _ (by omega)]
      rw [show ((F[m].toNat : Nat) : Int) = F[m] by omega, if_neg hd2, if_pos ((i2 _).2 (.inr rfl))]
    · have c' : (n : Int) ≠ F[m] := by omega
      rw [List.getElem?_set_ne (by omega), wset_get a F w hF0 _ _ hn, wset_get a F w hF0 _ _ hn]
      simp only [i1, i2, c', false_or, or_false]
  · rw [List.getElem?_eq_none (by rw [List.length_set, wset_len]; omega), List.getElem?_eq_none (by rw [wset_len]; omega)]
theorem wset_down (a : Int) (F w : List Int) (hF : ∀ x ∈ F, 0 ≤ x ∧ x < w.length) (hd : F.Nodup) (m : Nat) (hm : m < F.length) : (wset a F w (m + 1)).set F[m].toNat (a + 1) = wset a F w m := by
  rw [← wset_up a F w hF hd m hm, List.set_set]
  apply List.ext_getElem?
  intro n
  have hF0 : ∀ x ∈ F, 0 ≤ x := fun x hx => (hF x hx).1
  have hb := hF _ (List.getElem_mem hm)
  by_cases c : n = F[m].toNat
  · rw [c, List.getElem?_set_self (by rw [wset_len]; omega), wset_get a F w hF0 _ _ (by omega), if_pos]
    rw [show ((F[m].toNat : Nat) : Int) = F[m] by omega, List.drop_eq_getElem_cons hm]
    exact List.mem_cons_self
  · rw [List.getElem?_set_ne (by omega)]
theorem freeM_lowval (a : Int) (P : Int → Prop) : ∀ (xs : List Int) (i : Nat) (low high : List Int), (∀ x ∈ low, P x) → (∀ (j : Nat) (h : j < xs.length), xs[j] = a → P ((i + j : Nat) : Int)) → ∀ x ∈ (freeM a i low high xs).1, P x
  | [], i, low, high, h1, h2 => by simpa [freeM] using h1
  | x :: xs, i, low, high, h1, h2 => by
    have hn : ∀ (j : Nat) (h : j < xs.length), xs[j] = a → P ((i + 1 + j : Nat) : Int) := fun j h e => by
      have := h2 (j + 1) (by simpa using h) (by simpa using e)
      rwa [show i + (j + 1) = i + 1 + j by omega] at this
    simp only [freeM]
    split
    · exact freeM_lowval a P xs (i + 1) low _ h1 hn
    · split
      · rename_i hx
        split
        · exact freeM_lowval a P xs (i + 1) low _ h1 hn
        · refine freeM_lowval a P xs (i + 1) _ high (fun y hy => ?_) hn
          rcases List.mem_append.1 hy with h | h
          · exact h1 y h
          · rw [List.mem_singleton] at h; subst h; simpa using h2 0 (by simp) (by simpa using hx)
      · exact freeM_lowval a P xs (i + 1) low high h1 hn
theorem lowM_val (l : List Int) (a : Int) : ∀ x ∈ lowM l a, ∃ j : Nat, x = (j : Int) ∧ ∃ h : j < l.length, l[j] = a :=
  freeM_lowval a (fun x => ∃ j : Nat, x = (j : Int) ∧ ∃ h : j < l.length, l[j] = a) l 0 [] [] (by simp) (fun j h e => ⟨j, by simp, h, e⟩)
def freeF (w : List Int) (a : Int) : List Int := lowM w a ++ highM w a
theorem freeF_bound (w : List Int) (a : Int) : ∀ x ∈ freeF w a, 0 ≤ x ∧ x < w.length := fun x hx => by
  rcases List.mem_append.1 hx with h | h
  · exact lowM_bound w a x h
  · exact highM_bound w a x h
theorem freeF_nodup (w : List Int) (a : Int) : (freeF w a).Nodup := freeM_nodup a w 0 [] [] (by simp) (by simp)
theorem wset_self (w : List Int) (a : Int) : wset a (freeF w a) w (lowM w a).length = w := by
  apply List.ext_getElem?
  intro n
  by_cases hn : n < w.length
  · rw [wset_get _ _ _ (fun x hx => (freeF_bound w a x hx).1) _ _ hn]
    unfold freeF
    rw [List.drop_left, List.take_left]
    by_cases c1 : (n : Int) ∈ highM w a
    · obtain ⟨j, hj, h, e⟩ := highM_val w a _ c1
      obtain rfl : n = j := by omega
      rw [if_pos c1, List.getElem?_eq_getElem h, e]
    · rw [if_neg c1]
      by_cases c2 : (n : Int) ∈ lowM w a
      · obtain ⟨j, hj, h, e⟩ := lowM_val w a _ c2
        obtain rfl : n = j := by omega
        rw [if_pos c2, List.getElem?_eq_getElem h, e]
      · rw [if_neg c2]
  · rw [List.getElem?_eq_none (by rw [wset_len]; omega), List.getElem?_eq_none (by omega)]
theorem free_pair (w : List Int) (a : Int) : freeM a 0 [] [] w = (lowM w a, highM w a) := rfl
theorem free_up (a : Int) (F w : List Int) (hF : ∀ x ∈ F, 0 ≤ x ∧ x < w.length) (hd : F.Nodup) (m : Nat) (hm : m < F.length) (h : freeM a 0 [] [] (wset a F w m) = (F.take m, F.drop m)) : freeM a 0 [] [] (wset a F w (m + 1)) = (F.take (m + 1), F.drop (m + 1)) := by
  have e1 : F.drop m = F[m] :: F.drop (m + 1) := List.drop_eq_getElem_cons hm
  have e2 : F.take (m + 1) = F.take m ++ [F[m]] := List.take_succ_eq_append_getElem hm
  obtain ⟨n, h1, h2, h3⟩ := freeM_raise a F[m] (wset a F w m) 0 [] (F.drop (m + 1)) (by have := hF _ (List.getElem_mem hm); omega) (by simp) (by rw [h, e1])
  rw [← wset_up a F w hF hd m hm, show F[m].toNat = n by omega, h3, h, e2]
theorem free_down (a : Int) (F w : List Int) (hF : ∀ x ∈ F, 0 ≤ x ∧ x < w.length) (hd : F.Nodup) (m : Nat) (hm : m < F.length) (h : freeM a 0 [] [] (wset a F w (m + 1)) = (F.take (m + 1), F.drop (m + 1))) : freeM a 0 [] [] (wset a F w m) = (F.take m, F.drop m) ∧ Low a 0 ((wset a F w (m + 1)).map some) ((wset a F w m).map some) := by
  have e1 : F.drop m = F[m] :: F.drop (m + 1) := List.drop_eq_getElem_cons hm
  have e2 : F.take (m + 1) = F.take m ++ [F[m]] := List.take_succ_eq_append_getElem hm
  obtain ⟨n, h1, h2, h3, h4⟩ := freeM_lower a (wset a F w (m + 1)) 0 [] (F.take m) F[m] (by rw [h, e2])
  rw [← wset_down a F w hF hd m hm, show F[m].toNat = n by omega, h3, h, e1]
  exact ⟨rfl, h4⟩
theorem free_wset (w : List Int) (a : Int) (m : Nat) (hm : m ≤ (freeF w a).length) : freeM a 0 [] [] (wset a (freeF w a) w m) = ((freeF w a).take m, (freeF w a).drop m) := by
  have hF := freeF_bound w a
  have hd := freeF_nodup w a
  have hlen : (freeF w a).length = (lowM w a).length + (highM w a).length := by simp [freeF]
  have h0 : freeM a 0 [] [] (wset a (freeF w a) w (lowM w a).length) = ((freeF w a).take (lowM w a).length, (freeF w a).drop (lowM w a).length) := by
    rw [wset_self, free_pair]; unfold freeF; rw [List.take_left, List.drop_left]
  have up : ∀ d, (lowM w a).length + d ≤ (freeF w a).length → freeM a 0 [] [] (wset a (freeF w a) w ((lowM w a).length + d)) = ((freeF w a).take ((lowM w a).length + d), (freeF w a).drop ((lowM w a).length + d)) := by
    intro d
    induction d with
    | zero => intro _; exact h0
    | succ d ih => intro h; exact free_up a _ w hF hd ((lowM w a).length + d) (by omega) (ih (by omega))
  have down : ∀ d e, e + d = (lowM w a).length → freeM a 0 [] [] (wset a (freeF w a) w e) = ((freeF w a).take e, (freeF w a).drop e) := by
    intro d
    induction d with
    | zero => intro e h; obtain rfl : e = (lowM w a).length := by omega
              exact h0
    | succ d ih => intro e h; exact (free_down a _ w hF hd e (by omega) (ih (e + 1) (by omega))).1
  by_cases c : (lowM w a).length ≤ m
  · have := up (m - (lowM w a).length) (by omega)
    rwa [show (lowM w a).length + (m - (lowM w a).length) = m by omega] at this
  · exact down ((lowM w a).length - m) m (by omega)
theorem freeF_wset (w : List Int) (a : Int) (m : Nat) (hm : m ≤ (freeF w a).length) : freeF (wset a (freeF w a) w m) a = freeF w a ∧ lowM (wset a (freeF w a) w m) a = (freeF w a).take m ∧ highM (wset a (freeF w a) w m) a = (freeF w a).drop m := by
  have h := free_wset w a m hm
  have h1 : lowM (wset a (freeF w a) w m) a = (freeF w a).take m := by unfold lowM; rw [h]
  have h2 : highM (wset a (freeF w a) w m) a = (freeF w a).drop m := by unfold highM; rw [h]
  refine ⟨?_, h1, h2⟩
  show lowM _ a ++ highM _ a = _
  rw [h1, h2, List.take_append_drop]
/-- Setting the free places again, counted from the changed word, is setting them from the first one. -/
theorem wset_wset (w : List Int) (a : Int) (m n : Nat) (F : List Int) (hF : ∀ x ∈ F, 0 ≤ x) : wset a F (wset a F w m) n = wset a F w n := by
  apply List.ext_getElem?
  intro i
  by_cases hi : i < w.length
  · rw [wset_get a F _ hF _ _ (by rw [wset_len]; exact hi), wset_get a F w hF _ _ hi, wset_get a F w hF _ _ hi]
    by_cases c1 : (i : Int) ∈ F.drop n
    · rw [if_pos c1, if_pos c1]
    · rw [if_neg c1, if_neg c1]
      by_cases c2 : (i : Int) ∈ F.take n
      · rw [if_pos c2, if_pos c2]
      · rw [if_neg c2, if_neg c2]
        have c3 : (i : Int) ∉ F := fun h => by
          rw [← List.take_append_drop n F] at h
          rcases List.mem_append.1 h with h | h
          · exact c2 h
          · exact c1 h
        rw [if_neg (fun h => c3 (List.mem_of_mem_drop h)), if_neg (fun h => c3 (List.mem_of_mem_take h))]
  · rw [List.getElem?_eq_none (by rw [wset_len, wset_len]; omega), List.getElem?_eq_none (by rw [wset_len]; omega)]

theorem l2Same_l0 (a b : List Int) (hl : a.length ≤ 1048576) (hab : a.length = b.length) (d : Nat) : ∀ (i : Nat), i + d = a.length → a.take i = b.take i → Ev (fun k => spec_l2Same.l0 k a b i) (decide (a = b)) := by
  induction d with
  | zero =>
    intro i hi ht
    refine Ev.step (fun k => by simp only [spec_l2Same.l0]; rfl) (Ev.ite_false (by omega) ?_)
    obtain rfl : i = a.length := by omega
    rw [List.take_of_length_le (by omega), List.take_of_length_le (by omega)] at ht
    rw [decide_eq_true ht]; exact Ev.now _
  | succ d ih =>
    intro i hi ht
    have hlt : i < a.length := by omega
    have hlt' : i < b.length := by omega
    have w1 : wrap64 ((i : Int) + 1) = ((i + 1 : Nat) : Int) := wr1 (by omega)
    refine Ev.step (fun k => by simp only [spec_l2Same.l0]; rfl) (Ev.ite_true (by omega) (Ev.ite_true (Int.natCast_nonneg _) (Ev.ite_true (by omega) ?_)))
    rw [w1, rd_nat a i hlt, rd_nat b i hlt']
    by_cases h : a[i] = b[i]
    · refine Ev.ite_true h (ih (i + 1) (by omega) ?_)
      rw [List.take_succ_eq_append_getElem hlt, List.take_succ_eq_append_getElem hlt', ht, h]
    · refine Ev.ite_false h ?_
      rw [decide_eq_false (by intro e; subst e; exact h rfl)]; exact Ev.now _
theorem l2Same_ev (a b : List Int) (hl : a.length ≤ 1048576) : Ev (fun k => spec_l2Same.f k a b) (decide (a = b)) := by
  simp only [spec_l2Same.f]
  by_cases h : (a.length : Int) = (b.length : Int)
  · exact Ev.ite_true h (l2Same_l0 a b hl (by omega) a.length 0 (by omega) (by simp))
  · refine Ev.ite_false h ?_
    rw [decide_eq_false (by intro e; subst e; exact h rfl)]; exact Ev.now _

/-! The recording tableau of a word hangs on the rows that grow alone. -/
theorem rdL2_nat (l : List (List Int)) (i : Nat) (h : i < l.length) : rd_L2 l (i : Int) = l[i] := by
  simp [rd_L2, List.getD_eq_getElem?_getD, h]
theorem rdL2_mid (A T : List (List Int)) (R : List Int) : rd_L2 (A ++ R :: T) (A.length : Int) = R := by
  rw [rdL2_nat _ _ (by simp)]; simp
theorem rd_mid (L M : List Int) (z : Int) : rd (L ++ z :: M) (L.length : Int) = z := by
  rw [rd_nat _ _ (by simp)]; simp
theorem set_mid {α : Type} (A T : List α) (R S : α) : (A ++ R :: T).set ((A.length : Nat) : Int).toNat S = A ++ S :: T := by
  rw [Int.toNat_natCast]; simp
theorem rowIns_len (x : Int) : ∀ R : List Int, (rowIns R x).1.length ≤ R.length + 1
  | [] => by simp [rowIns]
  | y :: R => by
    have := rowIns_len x R
    simp only [rowIns]
    split <;> simp <;> omega
theorem ins_at (p0 : List Int) (A T : List (List Int)) (x : Int) (hA : A.length + T.length ≤ 100) (res : List Int × List (List Int) × Int) : ∀ (R' L : List Int), L.length + R'.length ≤ 100 →
    ((rowIns R' x).2 = none → res = (p0, A ++ (L ++ (rowIns R' x).1) :: T, (A.length : Int))) →
    (∀ y, (rowIns R' x).2 = some y → Ev (fun k => spec_l9Insert.l0 k y ((A.length + 1 : Nat) : Int) p0 (A ++ (L ++ (rowIns R' x).1) :: T)) res) →
    Ev (fun k => spec_l9Insert.l1 k x (A.length : Int) (L.length : Int) p0 (A ++ (L ++ R') :: T)) res
  | [], L, hl, h1, _ => by
    have e := h1 rfl
    subst e
    have hlen : (A.length : Int) < ((A ++ (L ++ []) :: T).length : Int) := by simp; omega
    refine Ev.step (fun k => by simp only [spec_l9Insert.l1]; rfl) (Ev.ite_true (Int.natCast_nonneg _) (Ev.ite_true hlen ?_))
    rw [rdL2_mid, set_mid]
    simp only [List.append_nil, List.length_nil] at hl ⊢
    exact Ev.ite_false (by omega) (Ev.ite_true (by first | trivial | omega) (Ev.ite_true (by omega) (Ev.now _)))
  | z :: R', L, hl, h1, h2 => by
    simp only [List.length_cons] at hl
    have hlen : (A.length : Int) < ((A ++ (L ++ z :: R') :: T).length : Int) := by simp; omega
    have hrow : (L.length : Int) < ((L ++ z :: R').length : Int) := by simp; omega
    refine Ev.step (fun k => by simp only [spec_l9Insert.l1]; rfl) (Ev.ite_true (Int.natCast_nonneg _) (Ev.ite_true hlen ?_))
    rw [rdL2_mid, rd_mid, set_mid L R' z x, set_mid A T (L ++ z :: R') (L ++ x :: R'), wr1 (by omega), wr1 (by omega)]
    refine Ev.ite_true hrow (Ev.ite_true (Int.natCast_nonneg _) ?_)
    by_cases c : z ≤ x
    · simp only [rowIns, if_pos c] at h1 h2
      refine Ev.ite_true c ?_
      have := ins_at p0 A T x hA res R' (L ++ [z]) (by simp; omega) (by simpa using h1) (by simpa using h2)
      simpa using this
    · simp only [rowIns, if_neg c] at h1 h2
      refine Ev.ite_false c (Ev.ite_false (by omega) ?_)
      exact h2 z rfl
theorem ins_go (p0 : List Int) : ∀ (T A : List (List Int)) (x : Int), A.length + T.length ≤ 100 → (∀ R ∈ T, R.length ≤ 100) →
    Ev (fun k => spec_l9Insert.l0 k x (A.length : Int) p0 (A ++ T)) (p0, A ++ (ins T x).1, ((A.length + (ins T x).2 : Nat) : Int))
  | [], A, x, hA, _ => by
    have hlen : ¬ (A.length : Int) < ((A ++ ([] : List (List Int))).length : Int) := by simp
    have w : wrap64 (((A ++ [] ++ [[x]]).length : Int) - 1) = (A.length : Int) := by simp; unfold wrap64; simp at hA; omega
    refine Ev.step (fun k => by simp only [spec_l9Insert.l0]; rfl) (Ev.ite_false hlen (Ev.ite_true (by simp at hA ⊢; omega) ?_))
    simp only [Option.bind_some, w]
    simp only [List.append_nil, ins, Nat.add_zero]
    exact Ev.now _
  | R :: T, A, x, hA, hR => by
    have hlen : (A.length : Int) < ((A ++ R :: T).length : Int) := by simp; omega
    simp only [List.length_cons] at hA
    refine Ev.step (fun k => by simp only [spec_l9Insert.l0]; rfl) (Ev.ite_true hlen ?_)
    have hr := hR R (by simp)
    refine ins_at p0 A T x (by omega) _ R [] (by simpa using hr) (fun h => ?_) (fun y h => ?_)
    · simp [ins, h]
    · have ih := ins_go p0 T (A ++ [(rowIns R x).1]) y (by simp; omega) (fun S hS => hR S (by simp [hS]))
      simp only [ins, h]
      simp only [List.length_append, List.length_singleton, List.append_assoc, List.singleton_append, List.nil_append] at ih ⊢
      rwa [show A.length + ((ins T y).2 + 1) = A.length + 1 + (ins T y).2 by omega]
theorem copy_l0 (p0 q0 : List Int) (M : List (List Int)) (hM : M.length ≤ 100) (hR : ∀ R ∈ M, R.length ≤ 100) (d : Nat) : ∀ (i : Nat) (y : List (List Int)), i + d = M.length → y.length = i →
    Ev (fun k => spec_l5Copy.l0 k i p0 M q0 y) (q0, y ++ M.drop i) := by
  induction d with
  | zero =>
    intro i y hi hy
    refine Ev.step (fun k => by simp only [spec_l5Copy.l0]; rfl) (Ev.ite_false (by omega) ?_)
    rw [List.drop_of_length_le (by omega), List.append_nil]; exact Ev.now _
  | succ d ih =>
    intro i y hi hy
    have hlt : i < M.length := by omega
    have hr := hR _ (List.getElem_mem hlt)
    refine Ev.step (fun k => by simp only [spec_l5Copy.l0]; rfl) (Ev.ite_true (by omega) ?_)
    simp only [Option.bind_some, List.nil_append, List.length_nil]
    rw [rdL2_nat M i hlt, wr1 (by omega)]
    refine Ev.ite_true (Int.natCast_nonneg _) (Ev.ite_true (by omega) (Ev.ite_true (by omega) ?_))
    have := ih (i + 1) (y ++ [M[i]]) (by omega) (by simp; omega)
    rw [List.drop_eq_getElem_cons hlt]
    simpa using this
theorem insert_ev (M : List (List Int)) (x : Int) (hM : M.length ≤ 100) (hR : ∀ R ∈ M, R.length ≤ 100) : Ev (fun k => spec_l9Insert.f k [] M x) ([], (ins M x).1, ((ins M x).2 : Int)) := by
  simp only [spec_l9Insert.f, spec_l5Copy.f, Option.bind_some, List.nil_append, List.length_nil]
  have h := copy_l0 [] [] M hM hR M.length 0 [] (by omega) rfl
  simp only [List.drop_zero, List.nil_append] at h
  refine Ev.bind (Ev.ite_true (by omega) h) ?_
  have := ins_go [] M [] x (by simpa using hM) hR
  simpa using this
theorem ins_len : ∀ (T : List (List Int)) (x : Int), (ins T x).2 ≤ T.length ∧ (ins T x).1.length = T.length + (if (ins T x).2 = T.length then 1 else 0)
  | [], x => by simp [ins]
  | R :: T, x => by
    obtain h | ⟨y, h⟩ : (rowIns R x).2 = none ∨ ∃ y, (rowIns R x).2 = some y := by cases (rowIns R x).2 <;> simp
    · simp [ins, h]
    · obtain ⟨h1, h2⟩ := ins_len T y
      simp only [ins, h, List.length_cons, h2]
      refine ⟨by omega, ?_⟩
      split <;> split <;> omega
theorem ins_rows (n : Nat) : ∀ (T : List (List Int)) (x : Int), (∀ R ∈ T, R.length ≤ n) → ∀ R ∈ (ins T x).1, R.length ≤ n + 1
  | [], x, _, R, h => by simp only [ins, List.mem_singleton] at h; subst h; simp
  | S :: T, x, hT, R, h => by
    have hS := rowIns_len x S
    have hs := hT S (by simp)
    simp only [ins] at h
    cases hc : (rowIns S x).2 with
    | none =>
      rw [hc] at h
      rcases List.mem_cons.1 h with rfl | h
      · omega
      · have := hT R (by simp [h]); omega
    | some y =>
      rw [hc] at h
      rcases List.mem_cons.1 h with rfl | h
      · omega
      · exact ins_rows n T y (fun R hR => hT R (by simp [hR])) R h
def grow (Q : List (List Int)) (r : Nat) (v : Int) : List (List Int) := (if r = Q.length then Q ++ [[]] else Q).set r (rd_L2 (if r = Q.length then Q ++ [[]] else Q) (r : Int) ++ [v])
def qrun : Nat → List (List Int) → List (Option Nat) → List (List Int)
  | _, Q, [] => Q
  | i, Q, none :: g => qrun (i + 1) Q g
  | i, Q, some r :: g => qrun (i + 1) (grow Q r ((i + 1 : Nat) : Int)) g
theorem grow_len {Q : List (List Int)} {r : Nat} (v : Int) (_ : r ≤ Q.length) : (grow Q r v).length = Q.length + (if r = Q.length then 1 else 0) := by
  unfold grow
  rw [List.length_set]
  split <;> simp
theorem grow_rows {Q : List (List Int)} {r n : Nat} (v : Int) (h : r ≤ Q.length) (hQ : ∀ R ∈ Q, R.length ≤ n) : ∀ R ∈ grow Q r v, R.length ≤ n + 1 := by
  intro R hR
  unfold grow at hR
  by_cases c : r = Q.length
  · rw [if_pos c] at hR
    have h0 : ∀ S ∈ Q ++ [[]], S.length ≤ n := fun S hS => by
      rcases List.mem_append.1 hS with hS | hS
      · exact hQ S hS
      · rw [List.mem_singleton.1 hS]; simp
    rw [rdL2_nat _ _ (by simp; omega)] at hR
    rcases List.mem_or_eq_of_mem_set hR with hR | rfl
    · have := h0 R hR; omega
    · have := h0 _ (List.getElem_mem (l := Q ++ [[]]) (n := r) (by simp; omega)); simp only [List.length_append, List.length_singleton]; omega
  · rw [if_neg c] at hR
    rw [rdL2_nat _ _ (by omega)] at hR
    rcases List.mem_or_eq_of_mem_set hR with hR | rfl
    · have := hQ R hR; omega
    · have := hQ _ (List.getElem_mem (l := Q) (n := r) (by omega)); simp only [List.length_append, List.length_singleton]; omega
theorem both_go (w : List Int) (hw : w.length ≤ 9) (d : Nat) : ∀ (i : Nat) (M Q : List (List Int)), i + d = w.length → M.length = Q.length → M.length ≤ i → (∀ R ∈ M, R.length ≤ i) → (∀ R ∈ Q, R.length ≤ i) →
    ∃ M', Ev (fun k => spec_l9Both.l0 k w i [] M Q) ([], M', [], qrun i Q (run M ((w.drop i).map some))) := by
  induction d with
  | zero =>
    intro i M Q hi _ _ _ _
    rw [List.drop_of_length_le (by omega)]
    exact ⟨M, Ev.step (fun k => by simp only [spec_l9Both.l0]; rfl) (Ev.ite_false (by omega) (Ev.now _))⟩
  | succ d ih =>
    intro i M Q hi hMQ hMi hM hQ
    have hlt : i < w.length := by omega
    obtain ⟨g1, g2⟩ := ins_len M w[i]
    have hr := ins_rows i M w[i] hM
    have hq := grow_len ((i + 1 : Nat) : Int) (show (ins M w[i]).2 ≤ Q.length by omega)
    have hqr := grow_rows ((i + 1 : Nat) : Int) (show (ins M w[i]).2 ≤ Q.length by omega) hQ
    obtain ⟨M', hM'⟩ := ih (i + 1) (ins M w[i]).1 (grow Q (ins M w[i]).2 ((i + 1 : Nat) : Int)) (by omega) (by rw [g2, hq, hMQ]) (by rw [g2]; split <;> omega) hr hqr
    refine ⟨M', Ev.step (fun k => by simp only [spec_l9Both.l0]; rfl) (Ev.ite_true (by omega) (Ev.ite_true (Int.natCast_nonneg _) ?_))⟩
    rw [rd_nat w i hlt, wr1 (by omega), List.drop_eq_getElem_cons hlt]
    refine Ev.bind (insert_ev M w[i] (by omega) (fun R hR => by have := hM R hR; omega)) ?_
    simp only [List.map_cons, run, qrun]
    generalize (ins M w[i]).2 = r at *
    unfold grow at hM' ⊢
    by_cases c : r = Q.length
    · rw [if_pos c] at hM'
      rw [if_pos c]
      have hrl : r < (Q ++ [[]]).length := by simp; omega
      refine Ev.ite_true (by omega) (Ev.ite_true (by omega) ?_)
      simp only [Option.bind_some]
      have hs : (rd_L2 (Q ++ [[]]) (r : Int)).length < 17592186044416 := by
        rw [rdL2_nat _ _ hrl]
        rcases List.mem_append.1 (List.getElem_mem hrl) with h | h
        · have := hQ _ h; omega
        · rw [List.mem_singleton.1 h]; simp
      refine Ev.ite_true (Int.natCast_nonneg _) (Ev.ite_true (by omega) (Ev.ite_true hs ?_))
      rw [Int.toNat_natCast]
      exact hM'
    · rw [if_neg c] at hM'
      rw [if_neg c]
      have hs : (rd_L2 Q (r : Int)).length < 17592186044416 := by
        rw [rdL2_nat _ _ (by omega)]
        have := hQ _ (List.getElem_mem (l := Q) (n := r) (by omega)); omega
      refine Ev.ite_false (by omega) (Ev.ite_true (Int.natCast_nonneg _) (Ev.ite_true (by omega) (Ev.ite_true hs ?_)))
      rw [Int.toNat_natCast]
      exact hM'
def recQ (w : List Int) : List (List Int) := qrun 0 [] (run [] (w.map some))
theorem both_small (w : List Int) (d : Nat) : ∀ (i : Nat) (M Q : List (List Int)), i + d = w.length → M.length = Q.length → M.length ≤ i → (∀ R ∈ Q, R.length ≤ i) →
    (qrun i Q (run M ((w.drop i).map some))).length ≤ w.length ∧ ∀ R ∈ qrun i Q (run M ((w.drop i).map some)), R.length ≤ w.length := by
  induction d with
  | zero =>
    intro i M Q hi h1 h2 h3
    rw [List.drop_of_length_le (by omega)]
    exact ⟨by simp only [List.map_nil, run, qrun]; omega, fun R hR => by have := h3 R hR; omega⟩
  | succ d ih =>
    intro i M Q hi hMQ hMi hQ
    have hlt : i < w.length := by omega
    obtain ⟨g1, g2⟩ := ins_len M w[i]
    have hq := grow_len ((i + 1 : Nat) : Int) (show (ins M w[i]).2 ≤ Q.length by omega)
    have hqr := grow_rows ((i + 1 : Nat) : Int) (show (ins M w[i]).2 ≤ Q.length by omega) hQ
    rw [List.drop_eq_getElem_cons hlt]
    simp only [List.map_cons, run, qrun]
    exact ih (i + 1) (ins M w[i]).1 _ (by omega) (by rw [g2, hq, hMQ]) (by rw [g2]; split <;> omega) hqr
theorem record_ev (w : List Int) (hl : w.length ≤ 1048576) : Ev (fun k => spec_RecordWord.f k w) (if isW w = true then ([], recQ w, true) else ([], [], false)) := by
  simp only [spec_RecordWord.f]
  refine Ev.bind (specIsW_ev w hl) ?_
  by_cases h : isW w = true
  · rw [if_pos h]
    refine Ev.ite_true h ?_
    obtain ⟨M', hM⟩ := both_go w (isW_length h) w.length 0 [] [] (by omega) rfl (by simp) (by simp) (by simp)
    simp only [spec_l9Both.f]
    exact Ev.bind hM (Ev.now _)
  · rw [if_neg h]
    exact Ev.ite_false h (Ev.now _)
theorem recQ_small (w : List Int) : (recQ w).length ≤ w.length ∧ ∀ R ∈ recQ w, R.length ≤ w.length := by
  have := both_small w w.length 0 [] [] (by omega) rfl (by simp) (by simp)
  simpa [recQ] using this
theorem equalT_l0 (p0 q0 : List Int) (M : List (List Int)) (hM : M.length ≤ 1048576) (hR : ∀ R ∈ M, R.length ≤ 1048576) (d : Nat) : ∀ (i : Nat), i + d = M.length → Ev (fun k => spec_EqualTableau.l0 k i p0 M q0 M) true := by
  induction d with
  | zero =>
    intro i hi
    exact Ev.step (fun k => by simp only [spec_EqualTableau.l0]; rfl) (Ev.ite_false (by omega) (Ev.now _))
  | succ d ih =>
    intro i hi
    have hlt : i < M.length := by omega
    have h := l2Same_ev M[i] M[i] (hR _ (List.getElem_mem hlt))
    rw [decide_eq_true rfl] at h
    refine Ev.step (fun k => by simp only [spec_EqualTableau.l0]; rfl) (Ev.ite_true (by omega) (Ev.ite_true (Int.natCast_nonneg _) (Ev.ite_true (by omega) ?_)))
    rw [rdL2_nat M i hlt, wr1 (by omega)]
    exact Ev.bind h (Ev.ite_true rfl (ih (i + 1) (by omega)))
theorem equalT_self (M : List (List Int)) (hM : M.length ≤ 1048576) (hR : ∀ R ∈ M, R.length ≤ 1048576) : Ev (fun k => spec_EqualTableau.f k [] M [] M) true := by
  simp only [spec_EqualTableau.f]
  have h := l2Same_ev [] [] (by simp)
  rw [decide_eq_true rfl] at h
  refine Ev.bind h (Ev.ite_true rfl (Ev.step (fun k => by simp only [spec_EqualTableau.j0]; rfl) (Ev.ite_false (by simp) ?_)))
  exact equalT_l0 [] [] M hM hR M.length 0 (by omega)

theorem ev_one {α : Type} {f : Nat → Option α} {x y : α} (hx : Ev f x) (hy : Ev f y) : x = y := by
  obtain ⟨K, h1⟩ := hx
  obtain ⟨M, h2⟩ := hy
  have a := h1 (max K M) (Nat.le_max_left _ _)
  have b := h2 (max K M) (Nat.le_max_right _ _)
  rw [a] at b
  exact Option.some.inj b

/-! The operators' answers, all of one kind: the free places of a word set anew. -/
def mv (w : List Int) (a : Int) (m : Nat) : List Int := wset a (freeF w a) w m
theorem freeF_len (w : List Int) (a : Int) : (freeF w a).length = (lowM w a).length + (highM w a).length := by simp [freeF]
theorem setAll_isW {v : Int} (hv : 1 ≤ v ∧ v ≤ 9) : ∀ (F : List Int) {w : List Int}, isW w = true → isW (setAll v F w) = true
  | [], _, h => h
  | x :: F, w, h => by
    show isW (setAll v F (w.set x.toNat v)) = true
    exact setAll_isW hv F (isW_set h _ _ hv)
theorem mv_isW {w : List Int} {a : Int} (h : fineB w a = true) (m : Nat) : isW (mv w a m) = true := by
  simp only [fineB, Bool.and_eq_true, decide_eq_true_eq] at h
  exact setAll_isW (by omega) _ (setAll_isW (by omega) _ h.1)
theorem mv_fine {w : List Int} {a : Int} (h : fineB w a = true) (m : Nat) : fineB (mv w a m) a = true := by
  have h1 := mv_isW h m
  simp only [fineB, Bool.and_eq_true, decide_eq_true_eq] at h ⊢
  exact ⟨h1, h.2⟩
theorem mv_len (w : List Int) (a : Int) (m : Nat) : (mv w a m).length = w.length := wset_len _ _ _ _
theorem mv_self (w : List Int) (a : Int) : mv w a (lowM w a).length = w := wset_self w a
theorem mv_low (w : List Int) (a : Int) (m : Nat) (hm : m ≤ (freeF w a).length) : (lowM (mv w a m) a).length = m ∧ (highM (mv w a m) a).length = (freeF w a).length - m := by
  obtain ⟨_, h1, h2⟩ := freeF_wset w a m hm
  unfold mv
  rw [h1, h2]
  simp; omega
theorem mv_mv (w : List Int) (a : Int) (m n : Nat) (hm : m ≤ (freeF w a).length) : mv (mv w a m) a n = mv w a n := by
  obtain ⟨h0, _, _⟩ := freeF_wset w a m hm
  unfold mv
  rw [h0]
  exact wset_wset w a m n _ (fun x hx => (freeF_bound w a x hx).1)
theorem mv_rec (w : List Int) (a : Int) (m : Nat) (hm : m < (freeF w a).length) : recQ (mv w a (m + 1)) = recQ (mv w a m) := by
  have h := (free_down a _ w (freeF_bound w a) (freeF_nodup w a) m hm (free_wset w a (m + 1) (by omega))).2
  have hh := runs a _ _ _ (Nat.le_refl _) h
  unfold recQ mv
  rw [hh]
def lowerR (w : List Int) (a : Int) : List Int × Bool := if fineB w a = true ∧ 0 < (lowM w a).length then (mv w a ((lowM w a).length - 1), true) else ([], false)
def raiseR (w : List Int) (a : Int) : List Int × Bool := if fineB w a = true ∧ 0 < (highM w a).length then (mv w a ((lowM w a).length + 1), true) else ([], false)
def reflR (w : List Int) (a : Int) : List Int × Bool := if fineB w a = true then (mv w a (highM w a).length, true) else ([], false)
def countR (w : List Int) (a : Int) : Int × Int := if fineB w a = true then (((lowM w a).length : Int), ((highM w a).length : Int)) else (-1, -1)
theorem low_at (w : List Int) (a : Int) (h : 0 < (lowM w a).length) (x : Int) (hx : (lowM w a)[(lowM w a).length - 1]? = some x) : w.set x.toNat (a + 1) = mv w a ((lowM w a).length - 1) := by
  obtain ⟨_, hx⟩ := List.getElem?_eq_some_iff.1 hx
  rw [← hx]
  have hl := freeF_len w a
  have := wset_down a _ w (freeF_bound w a) (freeF_nodup w a) ((lowM w a).length - 1) (by omega)
  rw [show (lowM w a).length - 1 + 1 = (lowM w a).length by omega, wset_self] at this
  have e : (freeF w a)[(lowM w a).length - 1]'(by omega) = (lowM w a)[(lowM w a).length - 1]'(by omega) := by
    unfold freeF
    exact List.getElem_append_left (by omega)
  rw [e] at this
  exact this
theorem high_at (w : List Int) (a : Int) (h : 0 < (highM w a).length) (x : Int) (hx : (highM w a)[0]? = some x) : w.set x.toNat a = mv w a ((lowM w a).length + 1) := by
  obtain ⟨_, hx⟩ := List.getElem?_eq_some_iff.1 hx
  rw [← hx]
  have hl := freeF_len w a
  have := wset_up a _ w (freeF_bound w a) (freeF_nodup w a) (lowM w a).length (by omega)
  rw [wset_self] at this
  have e : (freeF w a)[(lowM w a).length]'(by omega) = (highM w a)[0]'(by omega) := by
    unfold freeF
    rw [List.getElem_append_right (by omega)]
    simp
  rw [e] at this
  exact this
theorem lower_both (l : List Int) (a : Int) (hl : l.length ≤ 1048576) : Ev (fun k => spec_LowerWord.f k l a) (lowerR l a) ∧ Ev (fun k => impl_LowerWord.f k l a) (lowerR l a) := by
  have hi := implFree_ev l a hl
  unfold lowerR
  by_cases h : fineB l a = true
  · rw [if_pos h] at hi
    have hf := h
    simp only [fineB, Bool.and_eq_true, decide_eq_true_eq] at hf
    have hsp := specFree_ev l a h
    have hb := lowM_bound l a
    have hlen := lowHigh_len l a
    have h9 := isW_length hf.1
    have hat := low_at l a
    generalize mv l a ((lowM l a).length - 1) = res at *
    generalize lowM l a = low at *
    generalize highM l a = high at *
    by_cases h0 : low.length = 0
    · rw [if_neg (by omega)]
      refine ⟨?_, ?_⟩
      · simp only [spec_LowerWord.f]
        refine Ev.bind (specFine_ev l a hl) (Ev.ite_true h (Ev.bind hsp ?_))
        exact Ev.ite_true (by simp only [h0]; rfl) (Ev.now _)
      · simp only [impl_LowerWord.f]
        exact Ev.bind hi (Ev.ite_true (by simp only [h0]; rfl) (Ev.now _))
    · rw [if_pos ⟨h, by omega⟩, ← hat (by omega) _ (List.getElem?_eq_getElem (by omega))]
      have e : wrap64 ((low.length : Int) - 1) = ((low.length - 1 : Nat) : Int) := by unfold wrap64; omega
      have hg : rd low ((low.length - 1 : Nat) : Int) = low[low.length - 1]'(by omega) := rd_nat low _ (by omega)
      have hm := hb _ (List.getElem_mem (l := low) (n := low.length - 1) (by omega))
      have e1 : wrap64 (a + 1) = a + 1 := wr_in (by omega) (by omega)
      refine ⟨?_, ?_⟩
      · simp only [spec_LowerWord.f]
        refine Ev.bind (specFine_ev l a hl) (Ev.ite_true h (Ev.bind hsp ?_))
        simp only [Option.bind_some, List.nil_append, List.length_nil, e, hg, e1]
        refine Ev.ite_false (by omega) (Ev.ite_true (by omega) (Ev.ite_true (by omega) (Ev.ite_true (by omega) (Ev.ite_true (by omega) (Ev.ite_true (by omega) (Ev.now _))))))
      · simp only [impl_LowerWord.f, impl_with.f, clone_f l hl, e, e1]
        refine Ev.bind hi ?_
        simp only [Option.bind_some, e, hg]
        refine Ev.ite_false (by omega) (Ev.ite_true (by omega) (Ev.ite_true (by omega) ?_))
        rw [if_pos (by omega), if_pos (by omega)]
        exact Ev.now _
  · rw [if_neg h] at hi
    rw [if_neg (fun g => h g.1)]
    refine ⟨?_, ?_⟩
    · simp only [spec_LowerWord.f]
      exact Ev.bind (specFine_ev l a hl) (Ev.ite_false h (Ev.now _))
    · simp only [impl_LowerWord.f]
      exact Ev.bind hi (Ev.ite_true (by simp) (Ev.now _))
theorem raise_both (l : List Int) (a : Int) (hl : l.length ≤ 1048576) : Ev (fun k => spec_RaiseWord.f k l a) (raiseR l a) ∧ Ev (fun k => impl_RaiseWord.f k l a) (raiseR l a) := by
  have hi := implFree_ev l a hl
  unfold raiseR
  by_cases h : fineB l a = true
  · rw [if_pos h] at hi
    have hf := h
    simp only [fineB, Bool.and_eq_true, decide_eq_true_eq] at hf
    have hsp := specFree_ev l a h
    have hb := highM_bound l a
    have hlen := lowHigh_len l a
    have h9 := isW_length hf.1
    have hat := high_at l a
    generalize mv l a ((lowM l a).length + 1) = res at *
    generalize lowM l a = low at *
    generalize highM l a = high at *
    by_cases h0 : high.length = 0
    · rw [if_neg (by omega)]
      refine ⟨?_, ?_⟩
      · simp only [spec_RaiseWord.f]
        refine Ev.bind (specFine_ev l a hl) (Ev.ite_true h (Ev.bind hsp ?_))
        exact Ev.ite_true (by simp only [h0]; rfl) (Ev.now _)
      · simp only [impl_RaiseWord.f]
        exact Ev.bind hi (Ev.ite_true (by simp only [h0]; rfl) (Ev.now _))
    · rw [if_pos ⟨h, by omega⟩, ← hat (by omega) _ (List.getElem?_eq_getElem (by omega))]
      have hg : rd high 0 = high[0]'(by omega) := rd_nat high 0 (by omega)
      have hm := hb _ (List.getElem_mem (l := high) (n := 0) (by omega))
      refine ⟨?_, ?_⟩
      · simp only [spec_RaiseWord.f]
        refine Ev.bind (specFine_ev l a hl) (Ev.ite_true h (Ev.bind hsp ?_))
        simp only [Option.bind_some, List.nil_append, List.length_nil, hg]
        refine Ev.ite_false (by omega) (Ev.ite_true (by omega) (Ev.ite_true (by omega) (Ev.ite_true (by omega) (Ev.ite_true (by omega) (Ev.now _)))))
      · simp only [impl_RaiseWord.f, impl_with.f, clone_f l hl]
        refine Ev.bind hi ?_
        simp only [Option.bind_some, hg]
        refine Ev.ite_false (by omega) (Ev.ite_true (by omega) ?_)
        rw [if_pos (by omega), if_pos (by omega)]
        exact Ev.now _
  · rw [if_neg h] at hi
    rw [if_neg (fun g => h g.1)]
    refine ⟨?_, ?_⟩
    · simp only [spec_RaiseWord.f]
      exact Ev.bind (specFine_ev l a hl) (Ev.ite_false h (Ev.now _))
    · simp only [impl_RaiseWord.f]
      exact Ev.bind hi (Ev.ite_true (by simp) (Ev.now _))
theorem count_both (l : List Int) (a : Int) (hl : l.length ≤ 1048576) : Ev (fun k => spec_FreeCounts.f k l a) (countR l a) ∧ Ev (fun k => impl_FreeCounts.f k l a) (countR l a) := by
  have hi := implFree_ev l a hl
  unfold countR
  by_cases h : fineB l a = true
  · rw [if_pos h] at hi
    rw [if_pos h]
    refine ⟨?_, ?_⟩
    · simp only [spec_FreeCounts.f]
      exact Ev.bind (specFine_ev l a hl) (Ev.ite_true h (Ev.bind (specFree_ev l a h) (Ev.now _)))
    · simp only [impl_FreeCounts.f]
      exact Ev.bind hi (Ev.ite_true rfl (Ev.now _))
  · rw [if_neg h] at hi
    rw [if_neg h]
    refine ⟨?_, ?_⟩
    · simp only [spec_FreeCounts.f]
      exact Ev.bind (specFine_ev l a hl) (Ev.ite_false h (Ev.now _))
    · simp only [impl_FreeCounts.f]
      exact Ev.bind hi (Ev.ite_false (by simp) (Ev.now _))
theorem refl_l0 (l : List Int) (a : Int) (high fr : List Int) (ha : 1 ≤ a ∧ a ≤ 8) (hl : l.length ≤ 9) (hfr : fr.length ≤ 9) (hq : high.length ≤ fr.length) (hb : ∀ x ∈ fr, 0 ≤ x ∧ x < l.length) (d : Nat) :
    ∀ (i : Nat) (y : List Int), i + d = fr.length → y.length = l.length →
    Ev (fun k => spec_ReflectWord.l0 k a high fr y i) (setAll (a + 1) (fr.drop (max i high.length)) (setAll a ((fr.drop i).take (high.length - i)) y), true) ∧ Ev (fun k => impl_ReflectWord.l0 k a high y fr fr.length i) (setAll (a + 1) (fr.drop (max i high.length)) (setAll a ((fr.drop i).take (high.length - i)) y), true) := by
  induction d with
  | zero =>
    intro i y hi hy
    have z1 : fr.drop i = [] := List.drop_of_length_le (by omega)
    have z2 : fr.drop (max i high.length) = [] := List.drop_of_length_le (by omega)
    rw [z1, z2, List.take_nil]
    show Ev _ (y, true) ∧ Ev _ (y, true)
    exact ⟨Ev.step (fun k => by simp only [spec_ReflectWord.l0]; rfl) (Ev.ite_false (by omega) (Ev.now _)), Ev.step (fun k => by simp only [impl_ReflectWord.l0]; rfl) (Ev.ite_false (by omega) (Ev.now _))⟩
  | succ d ih =>
    intro i y hi hy
    have hlt : i < fr.length := by omega
    have hm := hb _ (List.getElem_mem hlt)
    have e1 : wrap64 (a + 1) = a + 1 := wr_in (by omega) (by omega)
    have e0 : wrap64 (a + 0) = a := by rw [Int.add_zero]; exact wr_in (by omega) (by omega)
    by_cases h : (i : Int) ≥ (high.length : Int)
    · have ih' := ih (i + 1) (y.set fr[i].toNat (a + 1)) (by omega) (by simpa using hy)
      have g1 : fr.drop (max i high.length) = fr[i] :: fr.drop (max (i + 1) high.length) := by rw [show max i high.length = i by omega, show max (i + 1) high.length = i + 1 by omega]; exact List.drop_eq_getElem_cons hlt
      rw [show high.length - (i + 1) = 0 by omega] at ih'
      rw [g1, show high.length - i = 0 by omega]
      simp only [List.take_zero] at ih' ⊢
      refine ⟨Ev.step (fun k => by simp only [spec_ReflectWord.l0]; rfl) (Ev.ite_true (by omega) ?_), Ev.step (fun k => by simp only [impl_ReflectWord.l0]; rfl) (Ev.ite_true (by omega) ?_)⟩
      · rw [decide_eq_true h, rd_nat fr i hlt, wr1 (by omega)]
        simp only [spec_l1Bit.f, if_pos, Option.bind_some, e1]
        exact Ev.ite_true (by omega) (Ev.ite_true (by omega) (Ev.ite_true (by omega) ih'.1))
      · rw [rd_nat fr i hlt, wr1 (by omega)]
        rw [e1]
        exact Ev.ite_true (by omega) (Ev.ite_true (by omega) (Ev.ite_true (by omega) (Ev.ite_true (by omega) (Ev.bind (Ev.now _) (Ev.ite_true h (by rw [List.set_set]; exact ih'.2))))))
    · have ih' := ih (i + 1) (y.set fr[i].toNat a) (by omega) (by simpa using hy)
      have g1 : (fr.drop i).take (high.length - i) = fr[i] :: (fr.drop (i + 1)).take (high.length - (i + 1)) := by
        rw [List.drop_eq_getElem_cons hlt, show high.length - i = high.length - (i + 1) + 1 by omega, List.take_succ_cons]
      rw [show max (i + 1) high.length = high.length by omega] at ih'
      rw [g1, show max i high.length = high.length by omega]
      refine ⟨Ev.step (fun k => by simp only [spec_ReflectWord.l0]; rfl) (Ev.ite_true (by omega) ?_), Ev.step (fun k => by simp only [impl_ReflectWord.l0]; rfl) (Ev.ite_true (by omega) ?_)⟩
      · rw [decide_eq_false h, rd_nat fr i hlt, wr1 (by omega)]
        simp only [spec_l1Bit.f, Bool.false_eq_true, if_false, Option.bind_some, e0]
        exact Ev.ite_true (by omega) (Ev.ite_true (by omega) (Ev.ite_true (by omega) ih'.1))
      · rw [rd_nat fr i hlt, wr1 (by omega)]
        exact Ev.ite_true (by omega) (Ev.ite_true (by omega) (Ev.ite_true (by omega) (Ev.ite_true (by omega) (Ev.ite_false h ih'.2))))
theorem refl_both (l : List Int) (a : Int) (hl : l.length ≤ 1048576) : Ev (fun k => spec_ReflectWord.f k l a) (reflR l a) ∧ Ev (fun k => impl_ReflectWord.f k l a) (reflR l a) := by
  have hi := implFree_ev l a hl
  unfold reflR
  by_cases h : fineB l a = true
  · rw [if_pos h] at hi
    rw [if_pos h]
    have hf := h
    simp only [fineB, Bool.and_eq_true, decide_eq_true_eq] at hf
    have hsp := specFree_ev l a h
    have hlen := lowHigh_len l a
    have h9 := isW_length hf.1
    have hb := freeF_bound l a
    have hF := freeF_len l a
    obtain ⟨h1, h2⟩ := refl_l0 l a (highM l a) (freeF l a) hf.2 h9 (by omega) (by omega) hb (freeF l a).length 0 l (by omega) rfl
    have e : setAll (a + 1) ((freeF l a).drop (max 0 (highM l a).length)) (setAll a (((freeF l a).drop 0).take ((highM l a).length - 0)) l) = mv l a (highM l a).length := by
      rw [show max 0 (highM l a).length = (highM l a).length by omega]
      rfl
    rw [e] at h1 h2
    refine ⟨?_, ?_⟩
    · simp only [spec_ReflectWord.f]
      refine Ev.bind (specFine_ev l a hl) (Ev.ite_true h (Ev.bind hsp ?_))
      simp only [Option.bind_some, List.nil_append, List.length_nil]
      exact Ev.ite_true (by omega) (Ev.ite_true (by omega) (Ev.ite_true (by omega) h1))
    · simp only [impl_ReflectWord.f, clone_f l hl]
      refine Ev.bind hi (Ev.ite_true rfl ?_)
      simp only [Option.bind_some]
      exact Ev.ite_true (by omega) h2
  · rw [if_neg h] at hi
    rw [if_neg h]
    refine ⟨?_, ?_⟩
    · simp only [spec_ReflectWord.f]
      exact Ev.bind (specFine_ev l a hl) (Ev.ite_false h (Ev.now _))
    · simp only [impl_ReflectWord.f]
      exact Ev.bind hi (Ev.ite_false (by simp) (Ev.now _))
theorem raiseR_fall (l : List Int) (a : Int) (hl : l.length ≤ 1048576) (h : fineB l a = true) (hr : (raiseR l a).2 = true) : isW (raiseR l a).1 = true ∧ (raiseR l a).1.sum < l.sum := by
  obtain ⟨r, e1, _, h2⟩ := raise_ev l a h
  have e := ev_one (raise_both l a hl).1 e1
  rw [e] at hr ⊢
  exact h2 hr
theorem high_loop : ∀ (n : Nat) (l : List Int), isW l = true → l.sum < n → ∀ (d : Nat) (c : Int), 1 ≤ c → c + d = 9 → (∀ a, 1 ≤ a ∧ a < c → highM l a = []) →
    ∃ q, isW q = true ∧ recQ q = recQ l ∧ (∀ a, 1 ≤ a ∧ a < 9 → highM q a = []) ∧ Ev (fun k => spec_HighestOf.l0 k l c) (q, true) ∧ Ev (fun k => impl_HighestOf.l0 k l c) (q, true)
  | 0, l, hw, hs, _, _, _, _, _ => by
    have hw' := hw
    simp only [isW, Bool.and_eq_true] at hw'
    have := isW_sum hw'.2; omega
  | n + 1, l, hw, hs, 0, c, h1, h2, h3 => by
    refine ⟨l, hw, rfl, fun a ha => h3 a (by omega), Ev.step (fun k => by simp only [spec_HighestOf.l0]; rfl) (Ev.ite_false (by omega) (Ev.now _)), Ev.step (fun k => by simp only [impl_HighestOf.l0]; rfl) (Ev.ite_false (by omega) (Ev.now _))⟩
  | n + 1, l, hw, hs, d + 1, c, h1, h2, h3 => by
    have h9 := isW_length hw
    have hf : fineB l c = true := by simp [fineB, hw]; omega
    obtain ⟨e1, e2⟩ := raise_both l c (by omega)
    by_cases h : 0 < (highM l c).length
    · have hb : (raiseR l c).2 = true := by unfold raiseR; rw [if_pos ⟨hf, h⟩]
      have hv : (raiseR l c).1 = mv l c ((lowM l c).length + 1) := by unfold raiseR; rw [if_pos ⟨hf, h⟩]
      obtain ⟨hw', hs'⟩ := raiseR_fall l c (by omega) hf hb
      obtain ⟨q, hq, hq1, hq2, q1, q2⟩ := high_loop n (raiseR l c).1 hw' (by omega) 8 1 (by omega) (by omega) (fun a ha => by omega)
      have hF := freeF_len l c
      have hrec := mv_rec l c (lowM l c).length (by omega)
      rw [mv_self] at hrec
      refine ⟨q, hq, ?_, hq2, Ev.step (fun k => by simp only [spec_HighestOf.l0]; rfl) (Ev.ite_true (by omega) (Ev.bind e1 (Ev.ite_true hb q1))),
        Ev.step (fun k => by simp only [impl_HighestOf.l0]; rfl) (Ev.ite_true (by omega) (Ev.bind e2 (Ev.ite_true hb q2)))⟩
      rw [hq1, hv, hrec]
    · have hb : ¬ (raiseR l c).2 = true := by unfold raiseR; rw [if_neg (fun g => h g.2)]; simp
      obtain ⟨q, hq, hq1, hq2, q1, q2⟩ := high_loop (n + 1) l hw hs d (c + 1) (by omega) (by omega) (fun a ha => by
        by_cases g : a = c
        · subst g; exact List.eq_nil_of_length_eq_zero (by omega)
        · exact h3 a (by omega))
      have hc : wrap64 (c + 1) = c + 1 := wr_in (by omega) (by omega)
      refine ⟨q, hq, hq1, hq2, Ev.step (fun k => by simp only [spec_HighestOf.l0]; rfl) (Ev.ite_true (by omega) (Ev.bind e1 (Ev.ite_false hb ?_))),
        Ev.step (fun k => by simp only [impl_HighestOf.l0]; rfl) (Ev.ite_true (by omega) (Ev.bind e2 (Ev.ite_false hb ?_)))⟩
      · rw [hc]; exact q1
      · rw [hc]; exact q2
theorem high_both (l : List Int) (hl : l.length ≤ 1048576) : ∃ r : List Int × Bool, r.1.length ≤ 1048576 ∧ Ev (fun k => spec_HighestOf.f k l) r ∧ Ev (fun k => impl_HighestOf.f k l) r ∧ (r.2 = true → isW l = true ∧ isW r.1 = true ∧ recQ r.1 = recQ l ∧ ∀ a, 1 ≤ a ∧ a < 9 → highM r.1 a = []) := by
  by_cases h : isW l = true
  · obtain ⟨q, hq, g1, g2, q1, q2⟩ := high_loop (l.sum.toNat + 1) l h (by omega) 8 1 (by omega) (by omega) (fun a ha => by omega)
    have := isW_length hq
    refine ⟨(q, true), by show q.length ≤ _; omega, ?_, ?_, fun _ => ⟨h, hq, g1, g2⟩⟩
    · simp only [spec_HighestOf.f, Option.bind_some, List.nil_append, List.length_nil]
      exact Ev.bind (specIsW_ev l hl) (Ev.ite_true h (Ev.ite_true (by omega) q1))
    · simp only [impl_HighestOf.f, clone_f l hl, Option.bind_some]
      exact Ev.bind (implIsW_ev l hl) (Ev.ite_true h q2)
  · refine ⟨([], false), by simp, ?_, ?_, by simp⟩
    · simp only [spec_HighestOf.f]
      exact Ev.bind (specIsW_ev l hl) (Ev.ite_false h (Ev.now _))
    · simp only [impl_HighestOf.f]
      exact Ev.bind (implIsW_ev l hl) (Ev.ite_false h (Ev.now _))
/-! A word without free a + 1 for any a is a lattice word. -/
def cntL (w : List Int) (i : Nat) : List Int := (List.range 11).map fun v => (((w.drop i).count ((v : Nat) : Int) : Nat) : Int)
theorem cntL_rd (w : List Int) (i : Nat) (a : Int) (h : 0 ≤ a ∧ a ≤ 10) : rd (cntL w i) a = (((w.drop i).count a : Nat) : Int) := by
  have e : a = ((a.toNat : Nat) : Int) := by omega
  have hl : a.toNat < (cntL w i).length := by simp [cntL]; omega
  rw [e, rd_nat _ _ hl]
  simp [cntL]
theorem cntL_set (w : List Int) (i : Nat) (hi : i < w.length) (h : 0 ≤ w[i] ∧ w[i] ≤ 10) : (cntL w (i + 1)).set w[i].toNat (rd (cntL w (i + 1)) w[i] + 1) = cntL w i := by
  apply List.ext_getElem
  · simp [cntL]
  · intro j h1 h2
    have hj : j < 11 := by simpa [cntL] using h2
    rw [List.getElem_set]
    have e : ∀ (i j : Nat) (h : j < (cntL w i).length), (cntL w i)[j]'h = (((w.drop i).count ((j : Nat) : Int) : Nat) : Int) := fun i j h => by simp [cntL]
    rw [e i j h2, List.drop_eq_getElem_cons hi, List.count_cons]
    by_cases c : w[i].toNat = j
    · rw [if_pos c, cntL_rd w (i + 1) w[i] h, if_pos (by rw [beq_iff_eq]; omega), show w[i] = ((j : Nat) : Int) by omega]
      omega
    · rw [if_neg c, e (i + 1) j, if_neg (by rw [beq_iff_eq]; omega)]
      omega
theorem lattice_l0 (w : List Int) (hw : isW w = true) (hh : ∀ a, 1 ≤ a ∧ a < 9 → highM w a = []) : ∀ (i : Nat), i ≤ w.length → Ev (fun k => spec_IsLattice.l0 k w (cntL w i) ((i : Int) - 1)) true
  | 0, _ => by
    have h9 := isW_length hw
    have e := specIsW_ev w (by omega)
    rw [hw] at e
    exact Ev.step (fun k => by simp only [spec_IsLattice.l0]; rfl) (Ev.ite_false (by omega) (Ev.step (fun k => by simp only [spec_IsLattice.j1]; rfl) (Ev.ite_false (by simp) (Ev.bind e (Ev.now _)))))
  | i + 1, hi => by
    have h9 := isW_length hw
    have e := specIsW_ev w (by omega)
    rw [hw] at e
    have hb := isW_get hw i (by omega)
    have ih := lattice_l0 w hw hh i (by omega)
    have hlen : (cntL w (i + 1)).length = 11 := by simp [cntL]
    have hc : rd (cntL w (i + 1)) w[i] = (((w.drop (i + 1)).count w[i] : Nat) : Int) := cntL_rd _ _ _ (by omega)
    have hcl : (w.drop (i + 1)).count w[i] ≤ 9 := by
      have h1 : (w.drop (i + 1)).count w[i] ≤ (w.drop (i + 1)).length := List.count_le_length
      simp only [List.length_drop] at h1; omega
    have w1 : wrap64 (rd (cntL w (i + 1)) w[i] + 1) = rd (cntL w (i + 1)) w[i] + 1 := wr_in (by omega) (by omega)
    have w2 : wrap64 ((i : Int) - 1) = (i : Int) - 1 := wr_in (by omega) (by omega)
    have w3 : wrap64 (w[i] - 1) = w[i] - 1 := wr_in (by omega) (by omega)
    rw [show ((i + 1 : Nat) : Int) - 1 = (i : Int) by omega]
    refine Ev.step (fun k => by rw [spec_IsLattice.l0]) (Ev.ite_true (by omega) (Ev.bind e ?_))
    refine Ev.step (fun k => by rw [spec_IsLattice.j1]) (Ev.ite_true rfl (Ev.ite_true (by omega) (Ev.ite_true (by omega) ?_)))
    rw [rd_nat w i (by omega), w1, w2, w3, cntL_set w i (by omega) (by omega)]
    refine Ev.ite_true (by omega) (Ev.ite_true (by omega) ?_)
    simp only [Option.bind_some]
    by_cases c : w[i] > 1
    · have hs : (w.drop i).count (w[i] - 1 + 1) ≤ (w.drop i).count (w[i] - 1) := by
        refine freeM_suffix (w[i] - 1) (w.take i) (w.drop i) 0 [] [] ?_
        rw [List.take_append_drop]
        exact hh (w[i] - 1) (by omega)
      rw [show w[i] - 1 + 1 = w[i] by omega] at hs
      refine Ev.ite_true c (Ev.ite_true (by omega) (Ev.ite_true (by omega) (Ev.ite_false ?_ ih)))
      rw [cntL_rd _ _ _ (by omega), cntL_rd _ _ _ (by omega)]
      omega
    · exact Ev.ite_false c ih
theorem lattice_ev (w : List Int) (hw : isW w = true) (hh : ∀ a, 1 ≤ a ∧ a < 9 → highM w a = []) : Ev (fun k => spec_IsLattice.f k w) true := by
  have h9 := isW_length hw
  have h := lattice_l0 w hw hh w.length (Nat.le_refl _)
  have e : cntL w w.length = List.replicate 11 0 := by
    simp only [cntL, List.drop_length, List.count_nil]
    rfl
  rw [e] at h
  have hx : wrap64 ((w.length : Int) - 1) = (w.length : Int) - 1 := wr_in (by omega) (by omega)
  simp only [spec_IsLattice.f, hx]
  exact Ev.ite_true (by omega) h

/-! The draws: the cursor goes on, and what it yields lies in its bounds. -/
def cur (b : List Int) (i : Int) : Prop := 0 ≤ i ∧ b.length ≤ 1048576
theorem and_bound (x : Int) (m : Nat) (hm : m < 9223372036854775808) : 0 ≤ Go.bits .and .i64 x (m : Int) ∧ Go.bits .and .i64 x (m : Int) ≤ m := by
  have e : Go.bits .and .i64 x (m : Int) = IntKind.i64.wrap ((BitVec.ofInt 64 x &&& BitVec.ofInt 64 (m : Int)).toNat : Int) := rfl
  have h1 : (BitVec.ofInt 64 x &&& BitVec.ofInt 64 (m : Int)).toNat ≤ m := by
    rw [BitVec.toNat_and]
    refine Nat.le_trans Nat.and_le_right ?_
    rw [BitVec.toNat_ofInt]
    omega
  rw [e, IntKind.wrap_i64]
  generalize (BitVec.ofInt 64 x &&& BitVec.ofInt 64 (m : Int)).toNat = z at h1
  omega
theorem byte_ev (b : List Int) (i h : Int) (hc : cur b i) : ∃ x i' h', spec_l1Byte.f b i h = some (x, i', h') ∧ (0 ≤ x ∧ x ≤ 255) ∧ cur b i' := by
  unfold spec_l1Byte.f
  generalize wrap64 ((wrap64 (h * 6364136223846793005)) + 1442695040888963407) = z
  have hb := fun x => and_bound x 255 (by decide)
  by_cases c : i < (b.length : Int)
  · rw [if_pos c, if_pos hc.1]
    refine ⟨_, _, _, rfl, hb _, ?_, hc.2⟩
    have := hc.1; have := hc.2; unfold wrap64; omega
  · rw [if_neg c]
    exact ⟨_, _, _, rfl, hb _, hc⟩
theorem below_ev (b : List Int) (i h n : Int) (hc : cur b i) (hn : n ≤ 256) : ∃ x i' h', spec_l1Below.f b i h n = some (x, i', h') ∧ (0 ≤ x ∧ (0 < n → x < n) ∧ x ≤ 255) ∧ cur b i' := by
  unfold spec_l1Below.f
  by_cases c : n ≤ 0
  · rw [if_pos c]
    exact ⟨0, i, h, rfl, by omega, hc⟩
  · rw [if_neg c, if_pos hn]
    obtain ⟨x, i', h', e, hx, hc'⟩ := byte_ev b i h hc
    rw [e]
    simp only [Option.bind_some]
    rw [if_neg (by omega)]
    have h1 := Int.tmod_lt_of_pos x (show 0 < n by omega)
    have h2 := Int.tmod_nonneg n hx.1
    refine ⟨_, _, _, rfl, ⟨h2, fun _ => h1, ?_⟩, hc'⟩
    omega
theorem once_ev (b : List Int) (i h n : Int) (hc : cur b i) (hn : n ≤ 256) : ∃ x i' h', spec_l1Once.f b i h n = some (x, i', h') ∧ cur b i' := by
  obtain ⟨x, i', h', e, _, hc'⟩ := below_ev b i h n hc hn
  unfold spec_l1Once.f
  rw [e]
  exact ⟨_, _, _, rfl, hc'⟩
theorem pickInt_ev (b : List Int) (i h : Int) (l : List Int) (hc : cur b i) (h0 : 0 < l.length) (hn : l.length ≤ 256) : ∃ x i' h', spec_l1PickInt.f b i h l = some (x, i', h') ∧ x ∈ l ∧ cur b i' := by
  obtain ⟨x, i', h', e, hx, hc'⟩ := below_ev b i h l.length hc (by omega)
  unfold spec_l1PickInt.f
  rw [e]
  simp only [Option.bind_some]
  have hlt : x < (l.length : Int) := hx.2.1 (by omega)
  rw [if_pos hx.1, if_pos hlt]
  refine ⟨_, _, _, rfl, ?_, hc'⟩
  obtain ⟨m, rfl⟩ : ∃ m : Nat, x = (m : Int) := ⟨x.toNat, by omega⟩
  rw [rd_nat l m (by omega)]
  exact List.getElem_mem _
theorem new_l0 (l : List Int) (hl : l.length ≤ 1048576) (d : Nat) : ∀ (i : Nat) (x : Int), i + d = l.length → ∃ h, Ev (fun k => spec_l1New.l0 k l x i) (l, 0, h) := by
  induction d with
  | zero =>
    intro i x hi
    exact ⟨x, Ev.step (fun k => by simp only [spec_l1New.l0]; rfl) (Ev.ite_false (by omega) (Ev.now _))⟩
  | succ d ih =>
    intro i x hi
    obtain ⟨h, e⟩ := ih (i + 1) (Go.bits .and .i64 (wrap64 ((wrap64 ((wrap64 (x * 131)) + (wrap64 (rd l i)))) + 7)) 1073741823) (by omega)
    by_cases c : (i : Int) < 4000
    · refine ⟨h, Ev.step (fun k => by simp only [spec_l1New.l0]; rfl) (Ev.ite_true (by omega) (Ev.ite_true c (Ev.ite_true (Int.natCast_nonneg _) ?_)))⟩
      rw [wr1 (by omega)]
      exact e
    · exact ⟨x, Ev.step (fun k => by simp only [spec_l1New.l0]; rfl) (Ev.ite_true (by omega) (Ev.ite_false c (Ev.now _)))⟩
theorem new_ev (l : List Int) (hl : l.length ≤ 1048576) : ∃ h, Ev (fun k => spec_l1New.f k l) (l, 0, h) := by
  simp only [spec_l1New.f]
  exact new_l0 l hl l.length 0 _ (by omega)
theorem cur0 (l : List Int) (hl : l.length ≤ 1048576) : cur l 0 := ⟨by omega, hl⟩

/-! Standardizing and 'each number once'. -/
def ltC (w : List Int) (v : Int) : Nat := w.countP (fun x => decide (x < v))
def eqC (w : List Int) (v : Int) : Nat := w.countP (fun x => decide (x = v))
theorem ltC_succ (w : List Int) (v : Int) : ltC w (v + 1) = ltC w v + eqC w v := by
  induction w with
  | nil => rfl
  | cons x t ih =>
    simp only [ltC, eqC, List.countP_cons] at ih ⊢
    by_cases h1 : x < v
    · have h2 : x < v + 1 := by omega
      have h3 : ¬ x = v := by omega
      simp [h1, h2, h3]; omega
    · by_cases h3 : x = v
      · have h2 : x < v + 1 := by omega
        simp only [decide_eq_true_eq, if_neg h1, if_pos h2, if_pos h3]; omega
      · have h2 : ¬ x < v + 1 := by omega
        simp [h1, h2, h3]; omega
theorem ltC_le (w : List Int) (v : Int) : ltC w v ≤ w.length := List.countP_le_length
theorem eqC_pos {w : List Int} {v : Int} (h : v ∈ w) : 1 ≤ eqC w v := List.countP_pos_iff.2 ⟨v, h, by simp⟩
theorem eqC_none {w : List Int} {v : Int} (h : v ∉ w) : eqC w v = 0 := by
  refine List.countP_eq_zero.2 fun x hx => ?_
  simp only [decide_eq_true_eq]
  rintro rfl
  exact h hx
theorem ltC_all {w : List Int} {v : Int} (h : ∀ x ∈ w, x < v) : ltC w v = w.length := List.countP_eq_length.2 fun x hx => by simpa using h x hx
theorem ltC_none {w : List Int} {v : Int} (h : ∀ x ∈ w, v ≤ x) : ltC w v = 0 := List.countP_eq_zero.2 fun x hx => by simpa using h x hx
theorem ltC_inv {w : List Int} {v : Int} (h : ltC w v = w.length) : ∀ x ∈ w, x < v := fun x hx => by simpa using List.countP_eq_length.1 h x hx
theorem wr0 {i : Nat} (h : i < 4611686018427387904) : wrap64 ((i : Int) + 0) = (i : Int) := by unfold wrap64; omega
def rank (w : List Int) (k : Nat) (v : Int) : Nat := 1 + ltC w v + eqC (w.take k) v
def permP (w : List Int) : Prop := ∀ j : Nat, j < w.length → ((j + 1 : Nat) : Int) ∈ w
theorem permP_lt {w : List Int} (h : permP w) : ∀ j : Nat, j ≤ w.length → j ≤ ltC w ((j + 1 : Nat) : Int)
  | 0, _ => Nat.zero_le _
  | j + 1, hj => by
    have a := permP_lt h j (by omega)
    have b := eqC_pos (h j (by omega))
    have c := ltC_succ w ((j + 1 : Nat) : Int)
    have e : (((j + 1 + 1 : Nat)) : Int) = ((j + 1 : Nat) : Int) + 1 := by omega
    rw [e, c]; omega
theorem permP_lt' {w : List Int} (h : permP w) (d : Nat) : ∀ j : Nat, j + d = w.length → ltC w ((j + 1 : Nat) : Int) ≤ j := by
  induction d with
  | zero => intro j hj; have := ltC_le w ((j + 1 : Nat) : Int); omega
  | succ d ih =>
    intro j hj
    have a := ih (j + 1) (by omega)
    have b := eqC_pos (h j (by omega))
    have c := ltC_succ w ((j + 1 : Nat) : Int)
    have e : (((j + 1 + 1 : Nat)) : Int) = ((j + 1 : Nat) : Int) + 1 := by omega
    rw [e, c] at a; omega
theorem permP_eq {w : List Int} (h : permP w) (j : Nat) (hj : j ≤ w.length) : ltC w ((j + 1 : Nat) : Int) = j :=
  Nat.le_antisymm (permP_lt' h (w.length - j) j (by omega)) (permP_lt h j hj)
theorem permP_top {w : List Int} (h : permP w) : ∀ x ∈ w, x ≤ w.length := fun x hx => by
  have := ltC_inv (permP_eq h w.length (by omega)) x hx
  omega
theorem permP_rank {w : List Int} (h : permP w) (h1 : ∀ x ∈ w, 1 ≤ x) (k : Nat) (hk : k < w.length) : ((rank w k w[k] : Nat) : Int) = w[k] := by
  have a := h1 _ (List.getElem_mem hk)
  have b := permP_top h _ (List.getElem_mem hk)
  obtain ⟨j, hj⟩ : ∃ j : Nat, w[k] = ((j + 1 : Nat) : Int) := ⟨(w[k] - 1).toNat, by omega⟩
  have c := permP_eq h j (by omega)
  have c' := permP_eq h (j + 1) (by omega)
  have d := ltC_succ w ((j + 1 : Nat) : Int)
  have e : (((j + 1 + 1 : Nat)) : Int) = ((j + 1 : Nat) : Int) + 1 := by omega
  rw [e, d, c] at c'
  have f : eqC w ((j + 1 : Nat) : Int) = eqC (w.take k) ((j + 1 : Nat) : Int) + eqC (w.drop k) ((j + 1 : Nat) : Int) := by
    unfold eqC; rw [← List.countP_append, List.take_append_drop]
  have g : 1 ≤ eqC (w.drop k) ((j + 1 : Nat) : Int) := by
    refine eqC_pos ?_
    rw [← hj, dropc w k hk]
    exact List.mem_cons_self
  rw [hj]
  unfold rank
  omega
theorem first_of {α : Type} {a : α} {l : List α} (h : a ∈ l) : ∃ s t, l = s ++ a :: t ∧ a ∉ s := by
  induction l with
  | nil => simp at h
  | cons x l ih =>
    by_cases e : x = a
    · subst e; exact ⟨[], l, rfl, by simp⟩
    · rcases List.mem_cons.1 h with h | h
      · exact absurd h.symm e
      · obtain ⟨s, t, h1, h2⟩ := ih h
        refine ⟨x :: s, t, by simp [h1], ?_⟩
        intro hm
        rcases List.mem_cons.1 hm with hm | hm
        · exact e hm.symm
        · exact h2 hm
theorem rank_once {w : List Int} (hs : ∀ k (hk : k < w.length), ((rank w k w[k] : Nat) : Int) = w[k]) {v : Int} (hv : v ∈ w) : v = 1 + (ltC w v : Int) ∧ eqC w v = 1 := by
  obtain ⟨s, t, e, hn⟩ := first_of hv
  have hk : s.length < w.length := by simp [e]
  have g : w[s.length] = v := by simp [e]
  have a := hs s.length hk
  have tk : w.take s.length = s := by simp [e]
  have z : eqC s v = 0 := eqC_none hn
  rw [g] at a
  unfold rank at a
  rw [tk, z] at a
  refine ⟨by omega, ?_⟩
  have ht : v ∉ t := by
    intro ht
    obtain ⟨s', t', e', hn'⟩ := first_of ht
    have hk' : s.length + 1 + s'.length < w.length := by simp [e, e']; omega
    have e2 : w = (s ++ v :: s') ++ v :: t' := by simp [e, e']
    have hl : (s ++ v :: s').length = s.length + 1 + s'.length := by simp; omega
    have g' : w[s.length + 1 + s'.length] = v := by
      have : w[(s ++ v :: s').length]'(by omega) = v := by simp [e2]
      simpa [hl] using this
    have tk' : w.take (s.length + 1 + s'.length) = s ++ v :: s' := by
      have : w.take (s ++ v :: s').length = s ++ v :: s' := by rw [e2]; exact List.take_left
      rwa [hl] at this
    have b := hs _ hk'
    rw [g'] at b
    unfold rank at b
    rw [tk'] at b
    have c : 1 ≤ eqC (s ++ v :: s') v := eqC_pos (by simp)
    omega
  have ht0 := eqC_none ht
  unfold eqC at z ht0 ⊢
  rw [e, List.countP_append, List.countP_cons]
  simp
  omega
theorem rank_perm {w : List Int} (h1 : ∀ x ∈ w, 1 ≤ x ∧ x ≤ 9) (hs : ∀ k (hk : k < w.length), ((rank w k w[k] : Nat) : Int) = w[k]) : permP w := by
  have key : ∀ j : Nat, j ≤ w.length → ltC w ((j + 1 : Nat) : Int) = j ∧ ∀ i : Nat, i < j → ((i + 1 : Nat) : Int) ∈ w := by
    intro j
    induction j with
    | zero => intro _; exact ⟨ltC_none fun x hx => by have := h1 x hx; omega, by omega⟩
    | succ j ih =>
      intro hj
      obtain ⟨a, b⟩ := ih (by omega)
      have hm : ((j + 1 : Nat) : Int) ∈ w := by
        apply Classical.byContradiction
        intro hn
        have up : ∀ d : Nat, ltC w (((j + 1 : Nat) : Int) + (d : Int)) = j := by
          intro d
          induction d with
          | zero => simpa using a
          | succ d ihd =>
            have e : ((j + 1 : Nat) : Int) + ((d + 1 : Nat) : Int) = (((j + 1 : Nat) : Int) + (d : Int)) + 1 := by omega
            rw [e, ltC_succ, ihd]
            by_cases hd : ((j + 1 : Nat) : Int) + (d : Int) ∈ w
            · have := (rank_once hs hd).1
              rw [ihd] at this
              have d0 : d = 0 := by omega
              subst d0
              exact absurd (by simpa using hd) hn
            · rw [eqC_none hd]; rfl
        have := up 9
        rw [ltC_all fun x hx => by have := h1 x hx; omega] at this
        omega
      refine ⟨?_, ?_⟩
      · have e : (((j + 1 + 1 : Nat)) : Int) = ((j + 1 : Nat) : Int) + 1 := by omega
        rw [e, ltC_succ, a, (rank_once hs hm).2]
      · intro i hi
        by_cases h : i = j
        · rw [h]; exact hm
        · exact b i (by omega)
  exact fun j hj => (key w.length (Nat.le_refl _)).2 j hj
def permB (w : List Int) : Bool := (List.range w.length).all fun j => decide (((j + 1 : Nat) : Int) ∈ w)
theorem permB_iff (w : List Int) : permB w = true ↔ permP w := by simp [permB, permP]
def stdL (w : List Int) (n : Nat) : List Int := (List.range n).map fun k => ((rank w k (rd w k) : Nat) : Int)
theorem eqC_take_drop (w : List Int) (v : Int) (k i : Nat) (hi : i < w.length) : eqC ((w.take k).drop i) v = (if w[i] = v ∧ i < k then 1 else 0) + eqC ((w.take k).drop (i + 1)) v := by
  by_cases h : i < k
  · have hlt : i < (w.take k).length := by simp; omega
    rw [dropc _ i hlt]
    simp only [eqC, List.countP_cons, List.getElem_take]
    by_cases e : w[i] = v
    · simp [e, h]; omega
    · simp [e]
  · rw [List.drop_of_length_le (by simp; omega), List.drop_of_length_le (by simp; omega)]
    simp [h, eqC]
theorem std_l1 (w : List Int) (hl : w.length ≤ 1048576) (y : List Int) (hy : y.length ≤ 1048576) (k : Nat) (hk : k < w.length) {r : List Int}
    (hn : Ev (fun f => spec_StandardizeWord.l0 f w (y ++ [((rank w k w[k] : Nat) : Int)]) ((k + 1 : Nat) : Int)) r) (d : Nat) :
    ∀ (i n : Nat), i + d = w.length → n + ltC (w.drop i) w[k] + eqC ((w.take k).drop i) w[k] = rank w k w[k] → Ev (fun f => spec_StandardizeWord.l1 f w y k n i) r := by
  have hrk : rank w k w[k] ≤ 2097153 := by
    unfold rank
    have a := ltC_le w w[k]
    have b : eqC (w.take k) w[k] ≤ (w.take k).length := List.countP_le_length
    simp at b; omega
  induction d with
  | zero =>
    intro i n hi h
    rw [List.drop_of_length_le (by omega), List.drop_of_length_le (by simp; omega)] at h
    simp only [ltC, eqC, List.countP_nil] at h
    obtain rfl : n = rank w k w[k] := by omega
    refine Ev.step (fun k => by simp only [spec_StandardizeWord.l1]; rfl) (Ev.ite_false (by omega) (Ev.ite_true (by omega) ?_))
    rw [wr1 (i := k) (by omega)]; exact hn
  | succ d ih =>
    intro i n hi h
    have hlt : i < w.length := by omega
    have hnb : n ≤ 2097153 := by omega
    have hn1 : n < 4611686018427387904 := by omega
    rw [dropc w i hlt, eqC_take_drop w _ k i hlt] at h
    have hc : ltC (w[i] :: w.drop (i + 1)) w[k] = ltC (w.drop (i + 1)) w[k] + (if w[i] < w[k] then 1 else 0) := by
      simp only [ltC, List.countP_cons, decide_eq_true_eq]
    rw [hc] at h
    have hi' : (i : Int) < (w.length : Int) := by omega
    have hk' : (k : Int) < (w.length : Int) := by omega
    refine Ev.step (fun k => by simp only [spec_StandardizeWord.l1]; rfl) (Ev.ite_true hi' (Ev.ite_true (Int.natCast_nonneg _) (Ev.ite_true (Int.natCast_nonneg _) (Ev.ite_true hk' ?_))))
    rw [wr1 (i := i) (by omega), rd_nat w i hlt, rd_nat w k hk]
    by_cases h1 : w[i] < w[k]
    · have h2 : ¬ w[i] = w[k] := by omega
      refine Ev.ite_true h1 ?_
      simp only [spec_l1Bit.f, if_true, Option.bind_some, wr1 (i := n) hn1]
      refine ih (i + 1) (n + 1) (by omega) ?_
      rw [if_pos h1, if_neg (fun c => h2 c.1)] at h
      omega
    · refine Ev.ite_false h1 ?_
      rw [if_neg h1] at h
      by_cases h2 : w[i] = w[k]
      · refine Ev.ite_true h2 ?_
        by_cases h3 : i < k
        · have h3' : (i : Int) < (k : Int) := by omega
          simp only [spec_l1Bit.f, h3', decide_true, if_true, Option.bind_some, wr1 (i := n) hn1]
          refine ih (i + 1) (n + 1) (by omega) ?_
          rw [if_pos ⟨h2, h3⟩] at h
          omega
        · have h3' : ¬ (i : Int) < (k : Int) := by omega
          simp only [spec_l1Bit.f, h3', decide_false, if_false, Bool.false_eq_true, Option.bind_some, wr0 (i := n) hn1]
          refine ih (i + 1) n (by omega) ?_
          rw [if_neg (fun c => h3 c.2)] at h
          omega
      · refine Ev.ite_false h2 ?_
        simp only [spec_l1Bit.f, if_false, Bool.false_eq_true, Option.bind_some, wr0 (i := n) hn1]
        refine ih (i + 1) n (by omega) ?_
        rw [if_neg (fun c => h2 c.1)] at h
        omega
theorem std_l0 (w : List Int) (hw : isW w = true) (hl : w.length ≤ 1048576) (d : Nat) : ∀ (k : Nat), k + d = w.length → Ev (fun f => spec_StandardizeWord.l0 f w (stdL w k) k) (stdL w w.length) := by
  induction d with
  | zero =>
    intro k hk
    obtain rfl : k = w.length := by omega
    refine Ev.step (fun k => by simp only [spec_StandardizeWord.l0]; rfl) (Ev.ite_false (by omega) ?_)
    refine Ev.step (fun k => by simp only [spec_StandardizeWord.j1]; rfl) (Ev.ite_false (by simp) (Ev.now _))
  | succ d ih =>
    intro k hk
    have hlt : k < w.length := by omega
    refine Ev.step (fun k => by simp only [spec_StandardizeWord.l0]; rfl) (Ev.ite_true (by omega) (Ev.bind (specIsW_ev w hl) ?_))
    refine Ev.step (fun k => by simp only [spec_StandardizeWord.j1]; rfl) (Ev.ite_true hw ?_)
    have e : stdL w k ++ [((rank w k w[k] : Nat) : Int)] = stdL w (k + 1) := by
      simp [stdL, List.range_succ, rd_nat w k hlt]
    have := std_l1 w hl (stdL w k) (by simp [stdL]; omega) k hlt (r := stdL w w.length) (by rw [e]; exact ih (k + 1) (by omega)) w.length 0 1 (by omega) (by simp [rank])
    exact this
theorem std_ev (w : List Int) (hw : isW w = true) (hl : w.length ≤ 1048576) : Ev (fun f => spec_StandardizeWord.f f w) (stdL w w.length) := by
  simp only [spec_StandardizeWord.f]
  exact std_l0 w hw hl w.length 0 (by omega)

/-! The draws of words. -/
theorem l8Draw_l0 (b : List Int) (m : Int) (hm : 1 ≤ m ∧ m ≤ 200) (d : Nat) : ∀ (i h : Int) (x : List Int) (n : Int) (j : Nat), cur b i → n ≤ 20 → (j : Int) + d = max n j → x.length ≤ j → j ≤ 20 → (∀ y ∈ x, 1 ≤ y ∧ y ≤ m) →
    ∃ (r : List Int) (i' h' : Int), Ev (fun k => spec_l8Draw.l0 k m x n j b i h) (r, i', h') ∧ (r.length : Int) ≤ max n j ∧ (∀ y ∈ r, 1 ≤ y ∧ y ≤ m) ∧ cur b i' := by
  induction d with
  | zero =>
    intro i h x n j hc hn hj hx hj20 hy
    exact ⟨x, i, h, Ev.step (fun k => by simp only [spec_l8Draw.l0]; rfl) (Ev.ite_false (by omega) (Ev.now _)), by omega, hy, hc⟩
  | succ d ih =>
    intro i h x n j hc hn hj hx hj20 hy
    have hlt : (j : Int) < n := by omega
    obtain ⟨z, i1, h1, e1, hz, hc1⟩ := below_ev b i h m hc (by omega)
    have hzm := hz.2.1 (by omega)
    have hw : wrap64 (1 + z) = 1 + z := wr_in (by omega) (by omega)
    obtain ⟨r, i2, h2, e2, hr, hry, hc2⟩ := ih i1 h1 (x ++ [1 + z]) n (j + 1) hc1 hn (by omega) (by simp; omega) (by omega) (by
      intro y hyy
      rcases List.mem_append.1 hyy with hyy | hyy
      · exact hy y hyy
      · rw [List.mem_singleton.1 hyy]; omega)
    refine ⟨r, i2, h2, Ev.step (fun k => by simp only [spec_l8Draw.l0]; rfl) (Ev.ite_true hlt ?_), by omega, hry, hc2⟩
    simp only [e1, Option.bind_some, hw]
    rw [wr1 (by omega)]
    exact Ev.ite_true (by omega) e2
theorem l8Draw_ev (b : List Int) (i h n m : Int) (hc : cur b i) (h0 : 0 ≤ n ∧ n ≤ 9) (hm : 1 ≤ m ∧ m ≤ 200) : ∃ (r : List Int) (i' h' : Int), Ev (fun k => spec_l8Draw.f k b i h n m) (r, i', h') ∧ (r.length : Int) ≤ n ∧ (∀ y ∈ r, 1 ≤ y ∧ y ≤ m) ∧ cur b i' := by
  obtain ⟨z, i1, h1, e1, hz, hc1⟩ := below_ev b i h (n + 1) hc (by omega)
  have hzm := hz.2.1 (by omega)
  obtain ⟨r, i2, h2, e2, hr, hry, hc2⟩ := l8Draw_l0 b m hm z.toNat i1 h1 [] z 0 hc1 (by omega) (by omega) (by simp) (by omega) (by simp)
  refine ⟨r, i2, h2, ?_, by omega, hry, hc2⟩
  simp only [spec_l8Draw.f, wr_in (x := n + 1) (by omega) (by omega), e1, Option.bind_some]
  exact e2
theorem stdL_len (w : List Int) (n : Nat) : (stdL w n).length = n := by simp [stdL]
theorem std_no (w : List Int) (hw : ¬ isW w = true) (hl : w.length ≤ 1048576) : Ev (fun f => spec_StandardizeWord.f f w) [] := by
  simp only [spec_StandardizeWord.f]
  refine Ev.step (fun k => by simp only [spec_StandardizeWord.l0]; rfl) ?_
  by_cases h : (0 : Int) < (w.length : Int)
  · refine Ev.ite_true h (Ev.bind (specIsW_ev w hl) ?_)
    rw [Bool.eq_false_iff.2 hw]
    exact Ev.step (fun k => by simp only [spec_StandardizeWord.j1]; rfl) (Ev.ite_false (by simp) (Ev.now _))
  · exact Ev.ite_false h (Ev.step (fun k => by simp only [spec_StandardizeWord.j1]; rfl) (Ev.ite_false (by simp) (Ev.now _)))
theorem std_any (w : List Int) (hl : w.length ≤ 1048576) : ∃ r : List Int, r.length ≤ w.length ∧ Ev (fun f => spec_StandardizeWord.f f w) r := by
  by_cases hw : isW w = true
  · exact ⟨_, by rw [stdL_len]; omega, std_ev w hw hl⟩
  · exact ⟨[], by simp, std_no w hw hl⟩
theorem l8Word_ev (b : List Int) (i h : Int) (hc : cur b i) : ∃ (r : List Int) (i' h' : Int), Ev (fun k => spec_l8Word.f k b i h) (r, i', h') ∧ r.length ≤ 7 ∧ cur b i' := by
  obtain ⟨z, i1, h1, e1, hz, hc1⟩ := below_ev b i h 4 hc (by omega)
  have hz4 := hz.2.1 (by omega)
  obtain ⟨r, i2, h2, e2, hr, _, hc2⟩ := l8Draw_ev b i1 h1 7 (2 + z) hc1 (by omega) (by omega)
  obtain ⟨o, i3, h3, e3, hc3⟩ := once_ev b i2 h2 3 hc2 (by omega)
  obtain ⟨s, hs, es⟩ := std_any r (by omega)
  simp only [spec_l8Word.f, e1, Option.bind_some, wr_in (x := 2 + z) (by omega) (by omega)]
  cases o with
  | true =>
    refine ⟨s, i3, h3, Ev.bind e2 ?_, by omega, hc3⟩
    simp only [e3, Option.bind_some]
    exact Ev.ite_true (by trivial) (Ev.bind es (Ev.now _))
  | false =>
    refine ⟨r, i3, h3, Ev.bind e2 ?_, by omega, hc3⟩
    simp only [e3, Option.bind_some]
    exact Ev.ite_false (by simp) (Ev.now _)
theorem l8Bent_l0 (b : List Int) (i h : Int) (d : Nat) : ∀ (x : List Int), x.length + d = max x.length 10 → ∃ r : List Int, Ev (fun k => spec_l8Bent.l0 k x b i h) (r, i, h) ∧ r.length ≤ max x.length 10 := by
  induction d with
  | zero =>
    intro x hx
    exact ⟨x, Ev.step (fun k => by simp only [spec_l8Bent.l0]; rfl) (Ev.ite_false (by omega) (Ev.now _)), by omega⟩
  | succ d ih =>
    intro x hx
    obtain ⟨r, e, hr⟩ := ih (x ++ [1]) (by simp; omega)
    refine ⟨r, Ev.step (fun k => by simp only [spec_l8Bent.l0]; rfl) (Ev.ite_true (by omega) (Ev.ite_true (by omega) e)), ?_⟩
    simp at hr; omega
theorem l8Bent_ev (b : List Int) (i h : Int) (hc : cur b i) : ∃ (r : List Int) (i' h' : Int), Ev (fun k => spec_l8Bent.f k b i h) (r, i', h') ∧ r.length ≤ 10 ∧ cur b i' := by
  obtain ⟨w, i1, h1, e1, hw, hc1⟩ := l8Word_ev b i h hc
  obtain ⟨z, i2, h2, e2, _, hc2⟩ := below_ev b i1 h1 14 hc1 (by omega)
  simp only [spec_l8Bent.f]
  by_cases c0 : z = 0
  · obtain ⟨y, i3, h3, e3, _, hc3⟩ := pickInt_ev b i2 h2 [0, 10, (-1), 9] hc2 (by simp) (by simp)
    refine ⟨w ++ [y], i3, h3, Ev.bind e1 ?_, by simp; omega, hc3⟩
    simp only [e2, Option.bind_some]
    refine Ev.ite_true c0 ?_
    simp only [e3, Option.bind_some]
    exact Ev.ite_true (by omega) (Ev.now _)
  · by_cases c1 : z = 1
    · obtain ⟨r, e, hr⟩ := l8Bent_l0 b i2 h2 (10 - w.length) w (by omega)
      refine ⟨r, i2, h2, Ev.bind e1 ?_, by omega, hc2⟩
      simp only [e2, Option.bind_some]
      exact Ev.ite_false c0 (Ev.ite_true c1 e)
    · refine ⟨w, i2, h2, Ev.bind e1 ?_, by omega, hc2⟩
      simp only [e2, Option.bind_some]
      exact Ev.ite_false c0 (Ev.ite_false c1 (Ev.now _))

theorem sameInts_l0 (a b : List Int) (hl : a.length ≤ 1048576) (hab : a.length = b.length) (d : Nat) : ∀ (i k : Nat), i + d = a.length → a.take i = b.take i → d < k → laws_sameInts.l0 k a b i = some (decide (a = b)) := by
  induction d with
  | zero =>
    intro i k hi ht hk
    obtain ⟨k, rfl⟩ : ∃ m, k = m + 1 := ⟨k - 1, by omega⟩
    simp only [laws_sameInts.l0]
    rw [if_neg (by omega)]
    obtain rfl : i = a.length := by omega
    rw [List.take_of_length_le (by omega), List.take_of_length_le (by omega)] at ht
    rw [decide_eq_true ht]
  | succ d ih =>
    intro i k hi ht hk
    obtain ⟨k, rfl⟩ : ∃ m, k = m + 1 := ⟨k - 1, by omega⟩
    have hlt : i < a.length := by omega
    have hlt' : i < b.length := by omega
    simp only [laws_sameInts.l0]
    rw [if_pos (by omega), if_pos (by omega), if_pos (by omega), wr1 (by omega), rd_nat a i hlt, rd_nat b i hlt']
    by_cases h : a[i] = b[i]
    · rw [if_pos h]
      refine ih (i + 1) k (by omega) ?_ (by omega)
      rw [List.take_succ_eq_append_getElem hlt, List.take_succ_eq_append_getElem hlt', ht, h]
    · rw [if_neg h, decide_eq_false]
      intro e
      subst e
      exact h rfl
theorem sameInts_ev (a b : List Int) (hl : a.length ≤ 1048576) : Ev (fun k => laws_sameInts.f k a b) (decide (a = b)) := by
  refine ⟨a.length + 1, fun k hk => ?_⟩
  show laws_sameInts.f k a b = _
  unfold laws_sameInts.f
  by_cases h : (a.length : Int) = (b.length : Int)
  · rw [if_pos h]
    exact sameInts_l0 a b hl (by omega) a.length 0 k (by omega) (by simp) (by omega)
  · rw [if_neg h, decide_eq_false]
    intro e
    subst e
    exact h rfl
theorem sameInts_self (a : List Int) (hl : a.length ≤ 1048576) : Ev (fun k => laws_sameInts.f k a a) true := by
  have h := sameInts_ev a a hl
  rwa [decide_eq_true rfl] at h

theorem sameInts_at (a b : List Int) (hl : a.length ≤ 1048576) (k : Nat) (hk : a.length + 1 ≤ k) : laws_sameInts.f k a b = some (decide (a = b)) := by
  unfold laws_sameInts.f
  by_cases h : (a.length : Int) = (b.length : Int)
  · rw [if_pos h]
    exact sameInts_l0 a b hl (by omega) a.length 0 k (by omega) (by simp) (by omega)
  · rw [if_neg h, decide_eq_false]
    intro e
    subst e
    exact h rfl

theorem case_ev (l : List Int) (hl : l.length ≤ 1048576) : ∃ (w : List Int) (a : Int), Ev (fun k => spec_DrawLowerWord.f k l) (w, a) ∧ w.length ≤ 10 := by
  obtain ⟨h, e0⟩ := new_ev l hl
  obtain ⟨w, i1, h1, e1, hw, hc1⟩ := l8Bent_ev l 0 h (cur0 l hl)
  obtain ⟨y, i2, h2, e2, _, _⟩ := pickInt_ev l i1 h1 [1, 2, 1, 2, 3, 0, 9, 8] hc1 (by simp) (by simp)
  have e3 : Ev (fun k => spec_l26Case.f k l) (w, y) := by
    simp only [spec_l26Case.f]
    refine Ev.bind e0 (Ev.bind e1 ?_)
    simp only [e2, Option.bind_some]
    exact Ev.now _
  refine ⟨w, y, ?_, hw⟩
  simp only [spec_DrawLowerWord.f]
  exact Ev.bind e3 (Ev.now _)
theorem high_ev (l : List Int) (hl : l.length ≤ 1048576) : ∃ (w : List Int), Ev (fun k => spec_DrawHighestOf.f k l) w ∧ w.length ≤ 10 := by
  obtain ⟨h, e0⟩ := new_ev l hl
  obtain ⟨w, i1, h1, e1, hw, hc1⟩ := l8Bent_ev l 0 h (cur0 l hl)
  exact ⟨w, by simp only [spec_DrawHighestOf.f]; exact Ev.bind e0 (Ev.bind e1 (Ev.now _)), hw⟩
theorem rec_eq (u v : List Int) (hu : isW u = true) (h : recQ v = recQ u) : Ev (fun k => spec_EqualTableau.f k [] (recQ u) [] (recQ v)) true := by
  obtain ⟨h1, h2⟩ := recQ_small u
  have h9 := isW_length hu
  rw [h]
  exact equalT_self _ (by omega) (fun R hR => by have := h2 R hR; omega)
theorem small_R {w : List Int} {a : Int} (hw : w.length ≤ 10) : (lowerR w a).1.length ≤ 10 ∧ (raiseR w a).1.length ≤ 10 ∧ (reflR w a).1.length ≤ 10 := by
  unfold lowerR raiseR reflR
  refine ⟨?_, ?_, ?_⟩
  · split
    · rw [mv_len]; exact hw
    · simp
  · split
    · rw [mv_len]; exact hw
    · simp
  · split
    · rw [mv_len]; exact hw
    · simp
theorem fin_ev (h e : List Int) (three : Bool) (hl : h.length ≤ 10) (he : e.length ≤ 1048576) (hh : three = true → isW h = true ∧ isW e = true ∧ recQ e = recQ h ∧ ∀ a, 1 ≤ a ∧ a < 9 → highM e a = []) : Ev (fun k => laws_FnOperators.j3 k h e three) true := by
  refine Ev.step (fun k => by rw [laws_FnOperators.j3]) (Ev.bind (record_ev h (by omega)) (Ev.bind (record_ev e he) ?_))
  cases three with
  | false => exact Ev.ite_false (by simp) (Ev.now _)
  | true =>
    obtain ⟨g1, g2, g3, g4⟩ := hh rfl
    rw [if_pos g1, if_pos g2]
    exact Ev.ite_true rfl (Ev.bind (lattice_ev e g2 g4) (Ev.ite_true rfl (Ev.bind (rec_eq h e g1 g3) (Ev.now _))))
theorem FnOperators : laws_FnOperators.Pure := by
  intro l _ _ _
  apply Ev.rounds
  simp only [laws_FnOperators.f, laws_big.f, Option.bind_some]
  by_cases hl : l.length ≤ 1048576
  · refine Ev.ite_false (by rw [decide_eq_true_eq]; omega) ?_
    obtain ⟨w, a, d1, hw⟩ := case_ev l hl
    obtain ⟨h, d2, hh⟩ := high_ev l hl
    obtain ⟨r, hr, t1, t2, t3⟩ := high_both h (by omega)
    obtain ⟨lo1, lo2⟩ := lower_both w a (by omega)
    obtain ⟨ra1, ra2⟩ := raise_both w a (by omega)
    obtain ⟨co1, co2⟩ := count_both w a (by omega)
    obtain ⟨re1, re2⟩ := refl_both w a (by omega)
    obtain ⟨b1, b2, b3⟩ := small_R (a := a) hw
    have j3 := fin_ev h r.1 r.2 hh hr t3
    have hF := freeF_len w a
    have j2 : Ev (fun k => laws_FnOperators.j2 k w a (lowerR w a).2 (raiseR w a).2 (countR w a).1 (countR w a).2 (reflR w a).1 (reflR w a).2 h r.1 r.2) true := by
      refine Ev.step (fun k => by rw [laws_FnOperators.j2]) ?_
      by_cases hf : fineB w a = true
      · have e1 : reflR w a = (mv w a (highM w a).length, true) := by unfold reflR; rw [if_pos hf]
        have e2 : countR w a = (((lowM w a).length : Int), ((highM w a).length : Int)) := by unfold countR; rw [if_pos hf]
        obtain ⟨m1, m2⟩ := mv_low w a (highM w a).length (by omega)
        have f2 := mv_fine hf (highM w a).length
        obtain ⟨_, r2⟩ := refl_both (mv w a (highM w a).length) a (by rw [mv_len]; omega)
        obtain ⟨_, c2⟩ := count_both (mv w a (highM w a).length) a (by rw [mv_len]; omega)
        have e3 : reflR (mv w a (highM w a).length) a = (w, true) := by
          unfold reflR
          rw [if_pos f2, mv_mv _ _ _ _ (by omega), m2, hF, show (lowM w a).length + (highM w a).length - (highM w a).length = (lowM w a).length by omega, mv_self]
        have e4 : countR (mv w a (highM w a).length) a = (((highM w a).length : Int), ((lowM w a).length : Int)) := by
          unfold countR
          rw [if_pos f2, m1, m2, hF, show (lowM w a).length + (highM w a).length - (highM w a).length = (lowM w a).length by omega]
        have e5 : (lowerR w a).2 = decide (((lowM w a).length : Int) > 0) := by
          unfold lowerR
          by_cases g : 0 < (lowM w a).length
          · rw [if_pos ⟨hf, g⟩, decide_eq_true (by omega)]
          · rw [if_neg (fun x => g x.2), decide_eq_false (by omega)]
        have e6 : (raiseR w a).2 = decide (((highM w a).length : Int) > 0) := by
          unfold raiseR
          by_cases g : 0 < (highM w a).length
          · rw [if_pos ⟨hf, g⟩, decide_eq_true (by omega)]
          · rw [if_neg (fun x => g x.2), decide_eq_false (by omega)]
        rw [e1, e2, e5, e6]
        rw [e3] at r2
        rw [e4] at c2
        refine Ev.ite_true rfl (Ev.bind r2 (Ev.bind c2 (Ev.ite_true rfl (Ev.bind (sameInts_self w (by omega)) (Ev.ite_true rfl (Ev.ite_true rfl (Ev.ite_true rfl (Ev.ite_false (by simp) (Ev.ite_false (by simp) ?_)))))))))
        exact j3
      · have e1 : reflR w a = ([], false) := by unfold reflR; rw [if_neg hf]
        rw [e1]
        exact Ev.ite_false (by simp) j3
    have j1 : Ev (fun k => laws_FnOperators.j1 k w a (lowerR w a).2 (raiseR w a).1 (raiseR w a).2 (countR w a).1 (countR w a).2 (reflR w a).1 (reflR w a).2 h r.1 r.2) true := by
      refine Ev.step (fun k => by rw [laws_FnOperators.j1]) ?_
      by_cases hf : fineB w a = true ∧ 0 < (highM w a).length
      · have e1 : raiseR w a = (mv w a ((lowM w a).length + 1), true) := by unfold raiseR; rw [if_pos hf]
        obtain ⟨m1, m2⟩ := mv_low w a ((lowM w a).length + 1) (by omega)
        have f2 := mv_fine hf.1 ((lowM w a).length + 1)
        obtain ⟨_, r2⟩ := lower_both (mv w a ((lowM w a).length + 1)) a (by rw [mv_len]; omega)
        have e3 : lowerR (mv w a ((lowM w a).length + 1)) a = (w, true) := by
          unfold lowerR
          rw [if_pos ⟨f2, by omega⟩, mv_mv _ _ _ _ (by omega), m1, show (lowM w a).length + 1 - 1 = (lowM w a).length by omega, mv_self]
        rw [e3] at r2
        have e7 : (raiseR w a).2 = true := by rw [e1]
        rw [e7] at j2 ⊢
        rw [e1]
        exact Ev.ite_true rfl (Ev.bind r2 (Ev.ite_true rfl (Ev.bind (sameInts_self w (by omega)) (Ev.ite_true rfl j2))))
      · have e7 : (raiseR w a).2 = false := by unfold raiseR; rw [if_neg hf]
        rw [e7] at j2 ⊢
        exact Ev.ite_false (by simp) j2
    have j0 : Ev (fun k => laws_FnOperators.j0 k w a (lowerR w a).1 (lowerR w a).2 (raiseR w a).1 (raiseR w a).2 (countR w a).1 (countR w a).2 (reflR w a).1 (reflR w a).2 h r.1 r.2 false) true := by
      refine Ev.step (fun k => by rw [laws_FnOperators.j0]) (Ev.ite_false (by simp) ?_)
      by_cases hf : fineB w a = true ∧ 0 < (lowM w a).length
      · have e1 : lowerR w a = (mv w a ((lowM w a).length - 1), true) := by unfold lowerR; rw [if_pos hf]
        obtain ⟨m1, m2⟩ := mv_low w a ((lowM w a).length - 1) (by omega)
        have f2 := mv_fine hf.1 ((lowM w a).length - 1)
        obtain ⟨_, r2⟩ := raise_both (mv w a ((lowM w a).length - 1)) a (by rw [mv_len]; omega)
        have e3 : raiseR (mv w a ((lowM w a).length - 1)) a = (w, true) := by
          unfold raiseR
          rw [if_pos ⟨f2, by omega⟩, mv_mv _ _ _ _ (by omega), m1, show (lowM w a).length - 1 + 1 = (lowM w a).length by omega, mv_self]
        rw [e3] at r2
        have hwW : isW w = true := by have := hf.1; simp only [fineB, Bool.and_eq_true] at this; exact this.1
        have hmW : isW (mv w a ((lowM w a).length - 1)) = true := mv_isW hf.1 _
        have hrec := mv_rec w a ((lowM w a).length - 1) (by omega)
        rw [show (lowM w a).length - 1 + 1 = (lowM w a).length by omega, mv_self] at hrec
        have e7 : (lowerR w a).2 = true := by rw [e1]
        rw [e7] at j1 ⊢
        rw [e1]
        refine Ev.ite_true rfl (Ev.bind r2 (Ev.bind (record_ev w (by omega)) (Ev.bind (record_ev _ (by rw [mv_len]; omega)) ?_)))
        rw [if_pos hwW, if_pos hmW]
        exact Ev.ite_true rfl (Ev.bind (sameInts_self w (by omega)) (Ev.ite_true rfl (Ev.bind (rec_eq w _ hwW hrec.symm) (Ev.ite_true rfl j1))))
      · have e7 : (lowerR w a).2 = false := by unfold lowerR; rw [if_neg hf]
        rw [e7] at j1 ⊢
        exact Ev.ite_false (by simp) j1
    refine Ev.bind d1 (Ev.bind lo2 (Ev.bind lo1 (Ev.bind ra2 (Ev.bind ra1 (Ev.bind co2 (Ev.bind co1 (Ev.bind re2 (Ev.bind re1 (Ev.bind d2 (Ev.bind t2 (Ev.bind t1 ?_)))))))))))
    refine Ev.ite_false (by simp) (Ev.bind (sameInts_self _ (by omega)) (Ev.ite_true rfl (Ev.ite_false (by simp) (Ev.bind (sameInts_self _ (by omega)) (Ev.ite_true rfl (Ev.ite_true rfl (Ev.ite_true rfl (Ev.ite_false (by simp) (Ev.bind (sameInts_self _ (by omega)) (Ev.ite_true rfl (Ev.ite_false (by simp) (Ev.bind (sameInts_self _ hr) ?_))))))))))))
    exact j0
  · exact Ev.ite_true (by rw [decide_eq_true_eq]; omega) (Ev.now _)

end Go.Proofs.Ytnfcdaojglicfaa.Pure
