/- The program's CycleType answers as the reference's for every list of at most 2^20 numbers, leaves its argument alone, and its result shares no memory with argument or later result. No condition. -/
import Derived.Test.YtdjohgfelmkooaaPFnExactCycleTypex14
import Derived.Test.YtdjohgfelmkooaaVFnExactCycleType
set_option linter.unusedVariables false
set_option linter.unusedSimpArgs false
namespace Go.Proofs.Ytdjohgfelmkooaa
open Go.ChangeShapes Go.WideShapes
theorem PrintWords.sized_ints {H : Type} {enc : TypeId × Value → H} {P : Program} {W : World} {base : Nat} {spare : Nat → Bool} {held : Bool} {t e : TypeId} {k : IntKind} {a : Option Addr} {len cap : Nat} {d : DataW H} {ps : List MemPlace} {ts : List TypeId} {ds : List (DataW H)} {j : Nat}
    (hsz : (DataW.weightsEach P ts ds).all (· ≤ reachBytes) = true) (ht : ts[j]? = some t) (hd : ds[j]? = some d) (hu : P.underlying t = some (.slice e)) (he : P.underlying e = some (.int k)) (hc : P.cellsOf e = 1) {B : Nat} (hB : P.bytesOf e = B)
    (h : DataW.Trod enc P W base spare held t (.slice a len cap) d ps) : len * B ≤ 140737488351232 :=
  Go.Proofs.YtdjohgfelmkooaaW.PrintWords.sized_ints hsz ht hd hu he hc hB h
end Go.Proofs.Ytdjohgfelmkooaa
namespace Go.Proofs.Ytdjohgfelmkooaa.Pure
open Go.RowKit Go.Proofs.Ytdjohgfelmkooaa.PFnExactCycleType Go.Proofs.YtdjohgfelmkooaaW.PrintWords Go.Proofs.YtdjohgfelmkooaaW.PrintLast

theorem wr_in {x : Int} (h : -9223372036854775808 ≤ x) (h' : x ≤ 9223372036854775807) : wrap64 x = x := by unfold wrap64; omega
theorem wr1 {i : Nat} (h : i < 4611686018427387904) : wrap64 ((i : Int) + 1) = ((i + 1 : Nat) : Int) := by unfold wrap64; omega
theorem Ev.ite_true {α : Type} {c : Prop} [Decidable c] {g f : Nat → Option α} {r : α} (hc : c) (h : Ev g r) : Ev (fun k => if c then g k else f k) r := by
  obtain ⟨K, h⟩ := h
  exact ⟨K, fun k hk => (if_pos hc).trans (h k hk)⟩
theorem Ev.ite_false {α : Type} {c : Prop} [Decidable c] {g f : Nat → Option α} {r : α} (hc : ¬ c) (h : Ev f r) : Ev (fun k => if c then g k else f k) r := by
  obtain ⟨K, h⟩ := h
  exact ⟨K, fun k hk => (if_neg hc).trans (h k hk)⟩
theorem rd_nat (l : List Int) (i : Nat) (h : i < l.length) : rd l (i : Int) = l[i] := by
  simp [rd, List.getD_eq_getElem?_getD, h]
/-- A statement that holds of all members of a list that can be run through. -/
theorem of_all {α : Type} {p : α → Bool} {l : List α} (h : l.all p = true) {x : α} (hx : x ∈ l) : p x = true := List.all_eq_true.mp h x hx
/-- Both answer, and alike. -/
def both {α : Type} [DecidableEq α] (a b : Option α) : Bool := match a, b with
  | some x, some y => decide (x = y)
  | _, _ => false
theorem both_ev {α : Type} [DecidableEq α] {f g : Nat → Option α} (hf : ∀ k, LeO (f k) (f (k + 1))) (hg : ∀ k, LeO (g k) (g (k + 1))) {n m : Nat} (h : both (f n) (g m) = true) : ∃ r, Ev f r ∧ Ev g r := by
  unfold both at h
  split at h
  · rename_i x y hx hy
    have e := of_decide_eq_true h
    subst e
    exact ⟨x, Ev.of hf hx, Ev.of hg hy⟩
  · cases h
theorem take_set_succ {α : Type} (y : List α) (i : Nat) (v : α) (h : i < y.length) : (y.set i v).take (i + 1) = y.take i ++ [v] := by
  rw [List.take_succ_eq_append_getElem (by simpa using h)]
  simp only [List.getElem_set_self]
  congr 1
  apply List.ext_getElem?
  intro j
  simp only [List.getElem?_take, List.getElem?_set]
  by_cases h : j < i
  · rw [if_pos h, if_neg (by omega), if_pos h]
  · rw [if_neg h, if_neg h]

theorem toIntS_l0 (l : List Int) (hl : l.length ≤ 1048576) (d : Nat) : ∀ (i : Nat) (y : List Int) (k : Nat), i + d = l.length → y.length = l.length → y.take i = l.take i → d < k → laws_toIntS.l0 k l y i = some l := by
  induction d with
  | zero =>
    intro i y k hi hy ht hk
    obtain ⟨k, rfl⟩ : ∃ m, k = m + 1 := ⟨k - 1, by omega⟩
    simp only [laws_toIntS.l0]
    rw [if_neg (by omega)]
    obtain rfl : i = l.length := by omega
    rw [List.take_of_length_le (by omega), List.take_of_length_le (by omega)] at ht
    rw [ht]
  | succ d ih =>
    intro i y k hi hy ht hk
    obtain ⟨k, rfl⟩ : ∃ m, k = m + 1 := ⟨k - 1, by omega⟩
    have hlt : i < l.length := by omega
    simp only [laws_toIntS.l0]
    rw [if_pos (by omega), if_pos (by omega), if_pos (by omega), wr1 (by omega), rd_nat l i hlt]
    refine ih (i + 1) _ k (by omega) (by simpa using hy) ?_ (by omega)
    rw [Int.toNat_natCast, take_set_succ y i _ (by omega), ht, List.take_succ_eq_append_getElem hlt]
theorem toIntS_ev (l : List Int) (hl : l.length ≤ 1048576) : Ev (fun k => laws_toIntS.f k l) l := by
  refine ⟨l.length + 1, fun k hk => ?_⟩
  show laws_toIntS.f k l = some l
  unfold laws_toIntS.f
  rw [if_pos (by omega), if_pos (by omega)]
  exact toIntS_l0 l hl l.length 0 _ k (by omega) (by simp) (by simp) (by omega)

theorem eqIntS_l0 (a b : List Int) (hl : a.length ≤ 1048576) (hab : a.length = b.length) (d : Nat) : ∀ (i k : Nat), i + d = a.length → a.take i = b.take i → d < k → laws_eqIntS.l0 k a b i = some (decide (a = b)) := by
  induction d with
  | zero =>
    intro i k hi ht hk
    obtain ⟨k, rfl⟩ : ∃ m, k = m + 1 := ⟨k - 1, by omega⟩
    simp only [laws_eqIntS.l0]
    rw [if_neg (by omega)]
    obtain rfl : i = a.length := by omega
    rw [List.take_of_length_le (by omega), List.take_of_length_le (by omega)] at ht
    rw [decide_eq_true ht]
  | succ d ih =>
    intro i k hi ht hk
    obtain ⟨k, rfl⟩ : ∃ m, k = m + 1 := ⟨k - 1, by omega⟩
    have hlt : i < a.length := by omega
    have hlt' : i < b.length := by omega
    simp only [laws_eqIntS.l0]
    rw [if_pos (by omega), if_pos (by omega), if_pos (by omega), wr1 (by omega), rd_nat a i hlt, rd_nat b i hlt']
    by_cases h : a[i] = b[i]
    · rw [if_pos h]
      refine ih (i + 1) k (by omega) ?_ (by omega)
      rw [List.take_succ_eq_append_getElem hlt, List.take_succ_eq_append_getElem hlt', ht, h]
    · rw [if_neg h, decide_eq_false]
      intro e
      subst e
      exact h rfl
theorem eqIntS_ev (a b : List Int) (hl : a.length ≤ 1048576) : Ev (fun k => laws_eqIntS.f k a b) (decide (a = b)) := by
  refine ⟨a.length + 1, fun k hk => ?_⟩
  show laws_eqIntS.f k a b = _
  unfold laws_eqIntS.f
  by_cases h : (a.length : Int) = (b.length : Int)
  · rw [if_pos h]
    exact eqIntS_l0 a b hl (by omega) a.length 0 k (by omega) (by simp) (by omega)
  · rw [if_neg h, decide_eq_false]
    intro e
    subst e
    exact h rfl
theorem eqIntS_self (a : List Int) (hl : a.length ≤ 1048576) : Ev (fun k => laws_eqIntS.f k a a) true := by
  have h := eqIntS_ev a a hl
  rwa [decide_eq_true rfl] at h

def markL (a : Int) (n : Nat) : List Int := (List.range n).map (fun (j : Nat) => a + (j : Int))
theorem markL_length (a : Int) (n : Nat) : (markL a n).length = n := by simp [markL]
theorem markL_get (a : Int) (n i : Nat) (h : i < (markL a n).length) : (markL a n)[i] = a + i := by simp [markL]
theorem markIntS_l0 (a : Int) (n : Nat) (h0 : 0 ≤ a) (h1 : a ≤ 4611686018427387904) (hn : n ≤ 4611686018427387) (d : Nat) : ∀ (i : Nat) (y : List Int) (k : Nat), i + d = n → y.length = n → y.take i = markL a i → d < k →
    laws_markIntS.l0 k y (a + i) i = some (a + n, markL a n) := by
  induction d with
  | zero =>
    intro i y k hi hy ht hk
    obtain ⟨k, rfl⟩ : ∃ m, k = m + 1 := ⟨k - 1, by omega⟩
    simp only [laws_markIntS.l0]
    rw [if_neg (by omega)]
    obtain rfl : i = n := by omega
    rw [List.take_of_length_le (by omega)] at ht
    rw [ht]
  | succ d ih =>
    intro i y k hi hy ht hk
    obtain ⟨k, rfl⟩ : ∃ m, k = m + 1 := ⟨k - 1, by omega⟩
    simp only [laws_markIntS.l0]
    rw [if_pos (by omega), if_pos (by omega), wr1 (by omega), wr_in (x := a + i + 1) (by omega) (by omega)]
    have e : a + (i : Int) + 1 = a + ((i + 1 : Nat) : Int) := by omega
    rw [e]
    refine ih (i + 1) _ k (by omega) (by simpa using hy) ?_ (by omega)
    rw [Int.toNat_natCast, take_set_succ y i _ (by omega), ht]
    simp [markL, List.range_succ]
theorem markIntS_ev (a : Int) (l : List Int) (h0 : 0 ≤ a) (h1 : a ≤ 4611686018427387904) (hn : l.length ≤ 4611686018427387) : Ev (fun k => laws_markIntS.f k l a) (a + l.length, markL a l.length) := by
  refine ⟨l.length + 1, fun k hk => ?_⟩
  show laws_markIntS.f k l a = _
  unfold laws_markIntS.f
  have h := markIntS_l0 a l.length h0 h1 hn l.length 0 l k (by omega) rfl (by simp [markL]) (by omega)
  simpa using h
theorem heldIntS_l0 (a : Int) (n : Nat) (h0 : 0 ≤ a) (h1 : a ≤ 4611686018427387904) (hn : n ≤ 4611686018427387) (d : Nat) : ∀ (i k : Nat), i + d = n → d < k →
    laws_heldIntS.l0 k (markL a n) (a + i) i = some (a + n) := by
  induction d with
  | zero =>
    intro i k hi hk
    obtain ⟨k, rfl⟩ : ∃ m, k = m + 1 := ⟨k - 1, by omega⟩
    simp only [laws_heldIntS.l0]
    rw [if_neg (by rw [markL_length]; omega)]
    obtain rfl : i = n := by omega
    rfl
  | succ d ih =>
    intro i k hi hk
    obtain ⟨k, rfl⟩ : ∃ m, k = m + 1 := ⟨k - 1, by omega⟩
    simp only [laws_heldIntS.l0]
    have hlt : i < (markL a n).length := by rw [markL_length]; omega
    rw [if_pos (by rw [markL_length]; omega), if_pos (by omega), rd_nat _ i hlt, markL_get, if_pos rfl, wr1 (by omega), wr_in (x := a + i + 1) (by omega) (by omega)]
    have e : a + (i : Int) + 1 = a + ((i + 1 : Nat) : Int) := by omega
    rw [e]
    exact ih (i + 1) k (by omega) (by omega)
theorem heldIntS_ev (a : Int) (n : Nat) (h0 : 0 ≤ a) (h1 : a ≤ 4611686018427387904) (hn : n ≤ 4611686018427387) : Ev (fun k => laws_heldIntS.f k (markL a n) a) (a + n) := by
  refine ⟨n + 1, fun k hk => ?_⟩
  show laws_heldIntS.f k (markL a n) a = _
  unfold laws_heldIntS.f
  have h := heldIntS_l0 a n h0 h1 hn n 0 k (by omega) (by omega)
  simpa using h

/-! Words: a plain test. -/
def okL (x : Int) : Bool := decide (1 ≤ x ∧ x ≤ 9)
def isW (l : List Int) : Bool := decide (l.length ≤ 9) && l.all okL
theorem isW_length {l : List Int} (h : isW l = true) : l.length ≤ 9 := by
  simp only [isW, Bool.and_eq_true, decide_eq_true_eq] at h; exact h.1
theorem isW_mem {l : List Int} (h : isW l = true) {x : Int} (hx : x ∈ l) : 1 ≤ x ∧ x ≤ 9 := by
  simp only [isW, Bool.and_eq_true, List.all_eq_true] at h; simpa [okL] using h.2 x hx
theorem isW_get {l : List Int} (h : isW l = true) (i : Nat) (hi : i < l.length) : 1 ≤ l[i] ∧ l[i] ≤ 9 := isW_mem h (List.getElem_mem hi)
theorem dropc {α : Type} (l : List α) (i : Nat) (h : i < l.length) : l.drop i = l[i] :: l.drop (i + 1) := List.drop_eq_getElem_cons h

theorem l1In_f (x a b : Int) : spec_l1In.f x a b = some (decide (a ≤ x ∧ x ≤ b)) := by
  unfold spec_l1In.f
  by_cases h : x ≥ a
  · rw [if_pos h]; congr 1; by_cases h2 : x ≤ b
    · rw [decide_eq_true h2, decide_eq_true ⟨h, h2⟩]
    · rw [decide_eq_false h2, decide_eq_false (by omega)]
  · rw [if_neg h, decide_eq_false (by omega)]

theorem specIsW_l0 (l : List Int) (hl : l.length ≤ 1048576) (d : Nat) : ∀ (i k : Nat), i + d = l.length → d < k → spec_IsWord.l0 k l i = some (decide (l.length ≤ 9) && (l.drop i).all okL) := by
  induction d with
  | zero =>
    intro i k hi hk
    obtain ⟨k, rfl⟩ : ∃ m, k = m + 1 := ⟨k - 1, by omega⟩
    simp only [spec_IsWord.l0]
    rw [if_neg (by omega), List.drop_of_length_le (by omega)]
    simp
    omega
  | succ d ih =>
    intro i k hi hk
    obtain ⟨k, rfl⟩ : ∃ m, k = m + 1 := ⟨k - 1, by omega⟩
    have hlt : i < l.length := by omega
    simp only [spec_IsWord.l0]
    rw [if_pos (by omega), if_pos (by omega), rd_nat l i hlt, l1In_f, dropc l i hlt]
    simp only [Option.bind_some, List.all_cons]
    by_cases h : 1 ≤ l[i] ∧ l[i] ≤ 9
    · rw [if_pos (decide_eq_true h), wr1 (by omega), ih (i + 1) k (by omega) (by omega)]
      simp [okL, h]
    · rw [if_neg (by simpa using h)]
      have : okL l[i] = false := decide_eq_false h
      simp [this]
theorem specIsW_ev (l : List Int) (hl : l.length ≤ 1048576) : Ev (fun k => spec_IsWord.f k l) (isW l) := by
  refine ⟨l.length + 1, fun k hk => ?_⟩
  have h := specIsW_l0 l hl l.length 0 k (by omega) (by omega)
  simpa [spec_IsWord.f, isW] using h

theorem within_f (x a b : Int) : impl_within.f x a b = some (decide (a ≤ x ∧ x ≤ b)) := by
  unfold impl_within.f
  by_cases h : a ≤ x
  · rw [if_pos h]; congr 1; by_cases h2 : x ≤ b
    · rw [decide_eq_true h2, decide_eq_true ⟨h, h2⟩]
    · rw [decide_eq_false h2, decide_eq_false (by omega)]
  · rw [if_neg h, decide_eq_false (by omega)]

theorem isWord1_f (x : Int) : impl_IsWord_1.f x = some (!okL x) := by
  unfold impl_IsWord_1.f
  rw [within_f]
  rfl
theorem implIsW_l0 (l : List Int) (hl : l.length ≤ 1048576) (d : Nat) : ∀ (i k : Nat), i + d = l.length → d < k → ∃ r, slices_IndexFunc_int_int__impl_IsWord_1.l0 k l l.length i = some r ∧ decide (r ≥ 0) = !((l.drop i).all okL) := by
  induction d with
  | zero =>
    intro i k hi hk
    obtain ⟨k, rfl⟩ : ∃ m, k = m + 1 := ⟨k - 1, by omega⟩
    simp only [slices_IndexFunc_int_int__impl_IsWord_1.l0]
    rw [if_neg (by omega), List.drop_of_length_le (by omega)]
    exact ⟨_, rfl, by simp⟩
  | succ d ih =>
    intro i k hi hk
    obtain ⟨k, rfl⟩ : ∃ m, k = m + 1 := ⟨k - 1, by omega⟩
    have hlt : i < l.length := by omega
    simp only [slices_IndexFunc_int_int__impl_IsWord_1.l0]
    rw [if_pos (by omega), if_pos (by omega), if_pos (by omega), rd_nat l i hlt, isWord1_f, dropc l i hlt]
    simp only [Option.bind_some, List.all_cons]
    cases h : okL l[i]
    · rw [if_pos (by rfl)]
      exact ⟨_, rfl, by simp⟩
    · rw [if_neg (by simp), wr1 (by omega)]
      obtain ⟨r, h1, h2⟩ := ih (i + 1) k (by omega) (by omega)
      exact ⟨r, h1, by simpa using h2⟩
theorem implIsW_ev (l : List Int) (hl : l.length ≤ 1048576) : Ev (fun k => impl_IsWord.f k l) (isW l) := by
  refine ⟨l.length + 1, fun k hk => ?_⟩
  show impl_IsWord.f k l = _
  obtain ⟨r, h, h2⟩ := implIsW_l0 l hl l.length 0 k (by omega) (by omega)
  have h' : slices_IndexFunc_int_int__impl_IsWord_1.l0 k l l.length 0 = some r := h
  unfold impl_IsWord.f slices_ContainsFunc_int_int__impl_IsWord_1.f slices_IndexFunc_int_int__impl_IsWord_1.f
  simp only [h', Option.bind_some, h2]
  by_cases h9 : (l.length : Int) ≤ 9
  · rw [if_pos h9]; simp [isW]; omega
  · rw [if_neg h9]; simp [isW]; omega

theorem l2Same_l0 (a b : List Int) (hl : a.length ≤ 1048576) (hab : a.length = b.length) (d : Nat) : ∀ (i : Nat), i + d = a.length → a.take i = b.take i → Ev (fun k => spec_l2Same.l0 k a b i) (decide (a = b)) := by
  induction d with
  | zero =>
    intro i hi ht
    refine Ev.step (fun k => by simp only [spec_l2Same.l0]; rfl) (Ev.ite_false (by omega) ?_)
    obtain rfl : i = a.length := by omega
    rw [List.take_of_length_le (by omega), List.take_of_length_le (by omega)] at ht
    rw [decide_eq_true ht]; exact Ev.now _
  | succ d ih =>
    intro i hi ht
    have hlt : i < a.length := by omega
    have hlt' : i < b.length := by omega
    have w1 : wrap64 ((i : Int) + 1) = ((i + 1 : Nat) : Int) := wr1 (by omega)
    refine Ev.step (fun k => by simp only [spec_l2Same.l0]; rfl) (Ev.ite_true (by omega) (Ev.ite_true (Int.natCast_nonneg _) (Ev.ite_true (by omega) ?_)))
    rw [w1, rd_nat a i hlt, rd_nat b i hlt']
    by_cases h : a[i] = b[i]
    · refine Ev.ite_true h (ih (i + 1) (by omega) ?_)
      rw [List.take_succ_eq_append_getElem hlt, List.take_succ_eq_append_getElem hlt', ht, h]
    · refine Ev.ite_false h ?_
      rw [decide_eq_false (by intro e; subst e; exact h rfl)]; exact Ev.now _
theorem l2Same_ev (a b : List Int) (hl : a.length ≤ 1048576) : Ev (fun k => spec_l2Same.f k a b) (decide (a = b)) := by
  simp only [spec_l2Same.f]
  by_cases h : (a.length : Int) = (b.length : Int)
  · exact Ev.ite_true h (l2Same_l0 a b hl (by omega) a.length 0 (by omega) (by simp))
  · refine Ev.ite_false h ?_
    rw [decide_eq_false (by intro e; subst e; exact h rfl)]; exact Ev.now _

/-! Standardizing and 'each number once'. -/
def ltC (w : List Int) (v : Int) : Nat := w.countP (fun x => decide (x < v))
def eqC (w : List Int) (v : Int) : Nat := w.countP (fun x => decide (x = v))
theorem ltC_succ (w : List Int) (v : Int) : ltC w (v + 1) = ltC w v + eqC w v := by
  induction w with
  | nil => rfl
  | cons x t ih =>
    simp only [ltC, eqC, List.countP_cons] at ih ⊢
    by_cases h1 : x < v
    · have h2 : x < v + 1 := by omega
      have h3 : ¬ x = v := by omega
      simp [h1, h2, h3]; omega
    · by_cases h3 : x = v
      · have h2 : x < v + 1 := by omega
        simp only [decide_eq_true_eq, if_neg h1, if_pos h2, if_pos h3]; omega
      · have h2 : ¬ x < v + 1 := by omega
        simp [h1, h2, h3]; omega
theorem ltC_le (w : List Int) (v : Int) : ltC w v ≤ w.length := List.countP_le_length
theorem eqC_pos {w : List Int} {v : Int} (h : v ∈ w) : 1 ≤ eqC w v := List.countP_pos_iff.2 ⟨v, h, by simp⟩
theorem eqC_none {w : List Int} {v : Int} (h : v ∉ w) : eqC w v = 0 := by
  refine List.countP_eq_zero.2 fun x hx => ?_
  simp only [decide_eq_true_eq]
  rintro rfl
  exact h hx
theorem ltC_all {w : List Int} {v : Int} (h : ∀ x ∈ w, x < v) : ltC w v = w.length := List.countP_eq_length.2 fun x hx => by simpa using h x hx
theorem ltC_none {w : List Int} {v : Int} (h : ∀ x ∈ w, v ≤ x) : ltC w v = 0 := List.countP_eq_zero.2 fun x hx => by simpa using h x hx
theorem ltC_inv {w : List Int} {v : Int} (h : ltC w v = w.length) : ∀ x ∈ w, x < v := fun x hx => by simpa using List.countP_eq_length.1 h x hx
theorem wr0 {i : Nat} (h : i < 4611686018427387904) : wrap64 ((i : Int) + 0) = (i : Int) := by unfold wrap64; omega
def rank (w : List Int) (k : Nat) (v : Int) : Nat := 1 + ltC w v + eqC (w.take k) v
def permP (w : List Int) : Prop := ∀ j : Nat, j < w.length → ((j + 1 : Nat) : Int) ∈ w
theorem permP_lt {w : List Int} (h : permP w) : ∀ j : Nat, j ≤ w.length → j ≤ ltC w ((j + 1 : Nat) : Int)
  | 0, _ => Nat.zero_le _
  | j + 1, hj => by
    have a := permP_lt h j (by omega)
    have b := eqC_pos (h j (by omega))
    have c := ltC_succ w ((j + 1 : Nat) : Int)
    have e : (((j + 1 + 1 : Nat)) : Int) = ((j + 1 : Nat) : Int) + 1 := by omega
    rw [e, c]; omega
theorem permP_lt' {w : List Int} (h : permP w) (d : Nat) : ∀ j : Nat, j + d = w.length → ltC w ((j + 1 : Nat) : Int) ≤ j := by
  induction d with
  | zero => intro j hj; have := ltC_le w ((j + 1 : Nat) : Int); omega
  | succ d ih =>
    intro j hj
    have a := ih (j + 1) (by omega)
    have b := eqC_pos (h j (by omega))
    have c := ltC_succ w ((j + 1 : Nat) : Int)
    have e : (((j + 1 + 1 : Nat)) : Int) = ((j + 1 : Nat) : Int) + 1 := by omega
    rw [e, c] at a; omega
theorem permP_eq {w : List Int} (h : permP w) (j : Nat) (hj : j ≤ w.length) : ltC w ((j + 1 : Nat) : Int) = j :=
  Nat.le_antisymm (permP_lt' h (w.length - j) j (by omega)) (permP_lt h j hj)
theorem permP_top {w : List Int} (h : permP w) : ∀ x ∈ w, x ≤ w.length := fun x hx => by
  have := ltC_inv (permP_eq h w.length (by omega)) x hx
  omega
theorem permP_rank {w : List Int} (h : permP w) (h1 : ∀ x ∈ w, 1 ≤ x) (k : Nat) (hk : k < w.length) : ((rank w k w[k] : Nat) : Int) = w[k] := by
  have a := h1 _ (List.getElem_mem hk)
  have b := permP_top h _ (List.getElem_mem hk)
  obtain ⟨j, hj⟩ : ∃ j : Nat, w[k] = ((j + 1 : Nat) : Int) := ⟨(w[k] - 1).toNat, by omega⟩
  have c := permP_eq h j (by omega)
  have c' := permP_eq h (j + 1) (by omega)
  have d := ltC_succ w ((j + 1 : Nat) : Int)
  have e : (((j + 1 + 1 : Nat)) : Int) = ((j + 1 : Nat) : Int) + 1 := by omega
  rw [e, d, c] at c'
  have f : eqC w ((j + 1 : Nat) : Int) = eqC (w.take k) ((j + 1 : Nat) : Int) + eqC (w.drop k) ((j + 1 : Nat) : Int) := by
    unfold eqC; rw [← List.countP_append, List.take_append_drop]
  have g : 1 ≤ eqC (w.drop k) ((j + 1 : Nat) : Int) := by
    refine eqC_pos ?_
    rw [← hj, dropc w k hk]
    exact List.mem_cons_self
  rw [hj]
  unfold rank
  omega
theorem first_of {α : Type} {a : α} {l : List α} (h : a ∈ l) : ∃ s t, l = s ++ a :: t ∧ a ∉ s := by
  induction l with
  | nil => simp at h
  | cons x l ih =>
    by_cases e : x = a
    · subst e; exact ⟨[], l, rfl, by simp⟩
    · rcases List.mem_cons.1 h with h | h
      · exact absurd h.symm e
      · obtain ⟨s, t, h1, h2⟩ := ih h
        refine ⟨x :: s, t, by simp [h1], ?_⟩
        intro hm
        rcases List.mem_cons.1 hm with hm | hm
        · exact e hm.symm
        · exact h2 hm
theorem rank_once {w : List Int} (hs : ∀ k (hk : k < w.length), ((rank w k w[k] : Nat) : Int) = w[k]) {v : Int} (hv : v ∈ w) : v = 1 + (ltC w v : Int) ∧ eqC w v = 1 := by
  obtain ⟨s, t, e, hn⟩ := first_of hv
  have hk : s.length < w.length := by simp [e]
  have g : w[s.length] = v := by simp [e]
  have a := hs s.length hk
  have tk : w.take s.length = s := by simp [e]
  have z : eqC s v = 0 := eqC_none hn
  rw [g] at a
  unfold rank at a
  rw [tk, z] at a
  refine ⟨by omega, ?_⟩
  have ht : v ∉ t := by
    intro ht
    obtain ⟨s', t', e', hn'⟩ := first_of ht
    have hk' : s.length + 1 + s'.length < w.length := by simp [e, e']; omega
    have e2 : w = (s ++ v :: s') ++ v :: t' := by simp [e, e']
    have hl : (s ++ v :: s').length = s.length + 1 + s'.length := by simp; omega
    have g' : w[s.length + 1 + s'.length] = v := by
      have : w[(s ++ v :: s').length]'(by omega) = v := by simp [e2]
      simpa [hl] using this
    have tk' : w.take (s.length + 1 + s'.length) = s ++ v :: s' := by
      have : w.take (s ++ v :: s').length = s ++ v :: s' := by rw [e2]; exact List.take_left
      rwa [hl] at this
    have b := hs _ hk'
    rw [g'] at b
    unfold rank at b
    rw [tk'] at b
    have c : 1 ≤ eqC (s ++ v :: s') v := eqC_pos (by simp)
    omega
  have ht0 := eqC_none ht
  unfold eqC at z ht0 ⊢
  rw [e, List.countP_append, List.countP_cons]
  simp
  omega
theorem rank_perm {w : List Int} (h1 : ∀ x ∈ w, 1 ≤ x ∧ x ≤ 9) (hs : ∀ k (hk : k < w.length), ((rank w k w[k] : Nat) : Int) = w[k]) : permP w := by
  have key : ∀ j : Nat, j ≤ w.length → ltC w ((j + 1 : Nat) : Int) = j ∧ ∀ i : Nat, i < j → ((i + 1 : Nat) : Int) ∈ w := by
    intro j
    induction j with
    | zero => intro _; exact ⟨ltC_none fun x hx => by have := h1 x hx; omega, by omega⟩
    | succ j ih =>
      intro hj
      obtain ⟨a, b⟩ := ih (by omega)
      have hm : ((j + 1 : Nat) : Int) ∈ w := by
        apply Classical.byContradiction
        intro hn
        have up : ∀ d : Nat, ltC w (((j + 1 : Nat) : Int) + (d : Int)) = j := by
          intro d
          induction d with
          | zero => simpa using a
          | succ d ihd =>
            have e : ((j + 1 : Nat) : Int) + ((d + 1 : Nat) : Int) = (((j + 1 : Nat) : Int) + (d : Int)) + 1 := by omega
            rw [e, ltC_succ, ihd]
            by_cases hd : ((j + 1 : Nat) : Int) + (d : Int) ∈ w
            · have := (rank_once hs hd).1
              rw [ihd] at this
              have d0 : d = 0 := by omega
              subst d0
              exact absurd (by simpa using hd) hn
            · rw [eqC_none hd]; rfl
        have := up 9
        rw [ltC_all fun x hx => by have := h1 x hx; omega] at this
        omega
      refine ⟨?_, ?_⟩
      · have e : (((j + 1 + 1 : Nat)) : Int) = ((j + 1 : Nat) : Int) + 1 := by omega
        rw [e, ltC_succ, a, (rank_once hs hm).2]
      · intro i hi
        by_cases h : i = j
        · rw [h]; exact hm
        · exact b i (by omega)
  exact fun j hj => (key w.length (Nat.le_refl _)).2 j hj
def permB (w : List Int) : Bool := (List.range w.length).all fun j => decide (((j + 1 : Nat) : Int) ∈ w)
theorem permB_iff (w : List Int) : permB w = true ↔ permP w := by simp [permB, permP]
/-! The program's way. -/
theorem contains_l0 (l : List Int) (v : Int) (hl : l.length ≤ 1048576) (d : Nat) : ∀ (i k : Nat), i + d = l.length → d < k → ∃ r, slices_Index_int_int.l0 k l v l.length i = some r ∧ decide (r ≥ 0) = decide (v ∈ l.drop i) := by
  induction d with
  | zero =>
    intro i k hi hk
    obtain ⟨k, rfl⟩ : ∃ m, k = m + 1 := ⟨k - 1, by omega⟩
    simp only [slices_Index_int_int.l0]
    rw [if_neg (by omega), List.drop_of_length_le (by omega)]
    exact ⟨_, rfl, by simp⟩
  | succ d ih =>
    intro i k hi hk
    obtain ⟨k, rfl⟩ : ∃ m, k = m + 1 := ⟨k - 1, by omega⟩
    have hlt : i < l.length := by omega
    simp only [slices_Index_int_int.l0]
    have hd := dropc l i hlt
    rw [if_pos (by omega), if_pos (by omega), if_pos (by omega), rd_nat l i hlt]
    by_cases h : v = l[i]
    · rw [if_pos h]
      exact ⟨_, rfl, by rw [hd]; simp [h, -List.getElem_cons_drop]⟩
    · rw [if_neg h, wr1 (by omega)]
      obtain ⟨r, h1, h2⟩ := ih (i + 1) k (by omega) (by omega)
      exact ⟨r, h1, by rw [hd, h2]; simp [h, -List.getElem_cons_drop]⟩
theorem contains_ev (l : List Int) (v : Int) (hl : l.length ≤ 1048576) : Ev (fun k => slices_Contains_int_int.f k l v) (decide (v ∈ l)) := by
  refine ⟨l.length + 1, fun k hk => ?_⟩
  obtain ⟨r, h, h2⟩ := contains_l0 l v hl l.length 0 k (by omega) (by omega)
  have h' : slices_Index_int_int.l0 k l v l.length 0 = some r := h
  simp only [slices_Contains_int_int.f, slices_Index_int_int.f, h', Option.bind_some, h2, List.drop_zero]
theorem areOnce_l0 (l : List Int) (hl : l.length ≤ 1048576) (d : Nat) : ∀ (i : Nat), i + d = l.length → (∀ j : Nat, j < i → ((j + 1 : Nat) : Int) ∈ l) → Ev (fun k => impl_areOnce.l0 k l ((i + 1 : Nat) : Int)) (permB l) := by
  induction d with
  | zero =>
    intro i hi hb
    refine Ev.step (fun k => by simp only [impl_areOnce.l0]; rfl) (Ev.ite_false (by omega) ?_)
    have : permB l = true := (permB_iff l).2 fun j hj => hb j (by omega)
    rw [this]; exact Ev.now _
  | succ d ih =>
    intro i hi hb
    have h0 : ((i + 1 : Nat) : Int) ≤ (l.length : Int) := by omega
    refine Ev.step (fun k => by simp only [impl_areOnce.l0]; rfl) (Ev.ite_true h0 (Ev.bind (contains_ev l _ hl) ?_))
    rw [wr1 (i := i + 1) (by omega)]
    by_cases h : ((i + 1 : Nat) : Int) ∈ l
    · refine Ev.ite_true (decide_eq_true h) (ih (i + 1) (by omega) ?_)
      intro j hj
      by_cases e : j = i
      · rw [e]; exact h
      · exact hb j (by omega)
    · refine Ev.ite_false (by simpa using h) ?_
      have : permB l = false := by
        cases hp : permB l
        · rfl
        · exact absurd ((permB_iff l).1 hp i (by omega)) h
      rw [this]; exact Ev.now _
theorem areOnce_ev (l : List Int) (hl : l.length ≤ 1048576) : Ev (fun k => impl_areOnce.f k l) (permB l) := by
  simp only [impl_areOnce.f]
  exact areOnce_l0 l hl l.length 0 (by omega) (by omega)
/-! The reference's way. -/
def stdL (w : List Int) (n : Nat) : List Int := (List.range n).map fun k => ((rank w k (rd w k) : Nat) : Int)
theorem eqC_take_drop (w : List Int) (v : Int) (k i : Nat) (hi : i < w.length) : eqC ((w.take k).drop i) v = (if w[i] = v ∧ i < k then 1 else 0) + eqC ((w.take k).drop (i + 1)) v := by
  by_cases h : i < k
  · have hlt : i < (w.take k).length := by simp; omega
    rw [dropc _ i hlt]
    simp only [eqC, List.countP_cons, List.getElem_take]
    by_cases e : w[i] = v
    · simp [e, h]; omega
    · simp [e]
  · rw [List.drop_of_length_le (by simp; omega), List.drop_of_length_le (by simp; omega)]
    simp [h, eqC]
theorem std_l1 (w : List Int) (hl : w.length ≤ 1048576) (y : List Int) (hy : y.length ≤ 1048576) (k : Nat) (hk : k < w.length) {r : List Int}
    (hn : Ev (fun f => spec_StandardizeWord.l0 f w (y ++ [((rank w k w[k] : Nat) : Int)]) ((k + 1 : Nat) : Int)) r) (d : Nat) :
    ∀ (i n : Nat), i + d = w.length → n + ltC (w.drop i) w[k] + eqC ((w.take k).drop i) w[k] = rank w k w[k] → Ev (fun f => spec_StandardizeWord.l1 f w y k n i) r := by
  have hrk : rank w k w[k] ≤ 2097153 := by
    unfold rank
    have a := ltC_le w w[k]
    have b : eqC (w.take k) w[k] ≤ (w.take k).length := List.countP_le_length
    simp at b; omega
  induction d with
  | zero =>
    intro i n hi h
    rw [List.drop_of_length_le (by omega), List.drop_of_length_le (by simp; omega)] at h
    simp only [ltC, eqC, List.countP_nil] at h
    obtain rfl : n = rank w k w[k] := by omega
    refine Ev.step (fun k => by simp only [spec_StandardizeWord.l1]; rfl) (Ev.ite_false (by omega) (Ev.ite_true (by omega) ?_))
    rw [wr1 (i := k) (by omega)]; exact hn
  | succ d ih =>
    intro i n hi h
    have hlt : i < w.length := by omega
    have hnb : n ≤ 2097153 := by omega
    have hn1 : n < 4611686018427387904 := by omega
    rw [dropc w i hlt, eqC_take_drop w _ k i hlt] at h
    have hc : ltC (w[i] :: w.drop (i + 1)) w[k] = ltC (w.drop (i + 1)) w[k] + (if w[i] < w[k] then 1 else 0) := by
      simp only [ltC, List.countP_cons, decide_eq_true_eq]
    rw [hc] at h
    have hi' : (i : Int) < (w.length : Int) := by omega
    have hk' : (k : Int) < (w.length : Int) := by omega
    refine Ev.step (fun k => by simp only [spec_StandardizeWord.l1]; rfl) (Ev.ite_true hi' (Ev.ite_true (Int.natCast_nonneg _) (Ev.ite_true (Int.natCast_nonneg _) (Ev.ite_true hk' ?_))))
    rw [wr1 (i := i) (by omega), rd_nat w i hlt, rd_nat w k hk]
    by_cases h1 : w[i] < w[k]
    · have h2 : ¬ w[i] = w[k] := by omega
      refine Ev.ite_true h1 ?_
      simp only [spec_l1Bit.f, if_true, Option.bind_some, wr1 (i := n) hn1]
      refine ih (i + 1) (n + 1) (by omega) ?_
      rw [if_pos h1, if_neg (fun c => h2 c.1)] at h
      omega
    · refine Ev.ite_false h1 ?_
      rw [if_neg h1] at h
      by_cases h2 : w[i] = w[k]
      · refine Ev.ite_true h2 ?_
        by_cases h3 : i < k
        · have h3' : (i : Int) < (k : Int) := by omega
          simp only [spec_l1Bit.f, h3', decide_true, if_true, Option.bind_some, wr1 (i := n) hn1]
          refine ih (i + 1) (n + 1) (by omega) ?_
          rw [if_pos ⟨h2, h3⟩] at h
          omega
        · have h3' : ¬ (i : Int) < (k : Int) := by omega
          simp only [spec_l1Bit.f, h3', decide_false, if_false, Bool.false_eq_true, Option.bind_some, wr0 (i := n) hn1]
          refine ih (i + 1) n (by omega) ?_
          rw [if_neg (fun c => h3 c.2)] at h
          omega
      · refine Ev.ite_false h2 ?_
        simp only [spec_l1Bit.f, if_false, Bool.false_eq_true, Option.bind_some, wr0 (i := n) hn1]
        refine ih (i + 1) n (by omega) ?_
        rw [if_neg (fun c => h2 c.1)] at h
        omega
theorem std_l0 (w : List Int) (hw : isW w = true) (hl : w.length ≤ 1048576) (d : Nat) : ∀ (k : Nat), k + d = w.length → Ev (fun f => spec_StandardizeWord.l0 f w (stdL w k) k) (stdL w w.length) := by
  induction d with
  | zero =>
    intro k hk
    obtain rfl : k = w.length := by omega
    refine Ev.step (fun k => by simp only [spec_StandardizeWord.l0]; rfl) (Ev.ite_false (by omega) ?_)
    refine Ev.step (fun k => by simp only [spec_StandardizeWord.j1]; rfl) (Ev.ite_false (by simp) (Ev.now _))
  | succ d ih =>
    intro k hk
    have hlt : k < w.length := by omega
    refine Ev.step (fun k => by simp only [spec_StandardizeWord.l0]; rfl) (Ev.ite_true (by omega) (Ev.bind (specIsW_ev w hl) ?_))
    refine Ev.step (fun k => by simp only [spec_StandardizeWord.j1]; rfl) (Ev.ite_true hw ?_)
    have e : stdL w k ++ [((rank w k w[k] : Nat) : Int)] = stdL w (k + 1) := by
      simp [stdL, List.range_succ, rd_nat w k hlt]
    have := std_l1 w hl (stdL w k) (by simp [stdL]; omega) k hlt (r := stdL w w.length) (by rw [e]; exact ih (k + 1) (by omega)) w.length 0 1 (by omega) (by simp [rank])
    exact this
theorem std_ev (w : List Int) (hw : isW w = true) (hl : w.length ≤ 1048576) : Ev (fun f => spec_StandardizeWord.f f w) (stdL w w.length) := by
  simp only [spec_StandardizeWord.f]
  exact std_l0 w hw hl w.length 0 (by omega)
theorem std_same (w : List Int) (hw : isW w = true) : decide (stdL w w.length = w) = permB w := by
  have hm : ∀ x ∈ w, 1 ≤ x ∧ x ≤ 9 := fun x hx => isW_mem hw hx
  have e : stdL w w.length = w ↔ permP w := by
    constructor
    · intro h
      refine rank_perm hm fun k hk => ?_
      have : (stdL w w.length)[k]? = w[k]? := by rw [h]
      simp [stdL, hk, rd_nat w k hk] at this
      exact this
    · intro h
      apply List.ext_getElem
      · simp [stdL]
      · intro k h1 h2
        simp only [stdL, List.getElem_map, List.getElem_range, rd_nat w k h2]
        exact permP_rank h (fun x hx => (hm x hx).1) k h2
  cases hp : permB w
  · refine decide_eq_false fun h => ?_
    rw [(permB_iff w).2 (e.1 h)] at hp
    cases hp
  · exact decide_eq_true (e.2 ((permB_iff w).1 hp))
/-! Both ways to the inverse. -/
theorem specInv_l0 (w : List Int) (hm : ∀ x ∈ w, 1 ≤ x ∧ x ≤ w.length) (hl : w.length ≤ 1048576) (d : Nat) : ∀ (i : Nat) (y : List Int), i + d = w.length → y.length = w.length → ∃ r, Ev (fun k => spec_InverseOf.l0 k w y i) (r, true) := by
  induction d with
  | zero =>
    intro i y hi hy
    exact ⟨y, Ev.step (fun k => by simp only [spec_InverseOf.l0]; rfl) (Ev.ite_false (by omega) (Ev.now _))⟩
  | succ d ih =>
    intro i y hi hy
    have hlt : i < w.length := by omega
    have hx := hm _ (List.getElem_mem hlt)
    have b0 : 0 ≤ w[i] - 1 := by omega
    have b1 : w[i] - 1 < (y.length : Int) := by omega
    have b2 : (i : Int) < (w.length : Int) := by omega
    have g : rd w (i : Int) = w[i] := rd_nat w i hlt
    obtain ⟨r, hr⟩ := ih (i + 1) (y.set (w[i] - 1).toNat ((i + 1 : Nat) : Int)) (by omega) (by simpa using hy)
    refine ⟨r, Ev.step (fun k => by simp only [spec_InverseOf.l0]; rfl) (Ev.ite_true b2 (Ev.ite_true (Int.natCast_nonneg _) ?_))⟩
    rw [g, wr_in (x := w[i] - 1) (by omega) (by omega), wr1 (i := i) (by omega)]
    exact Ev.ite_true b0 (Ev.ite_true b1 hr)
theorem implInv_l0 (w : List Int) (hm : ∀ x ∈ w, 1 ≤ x ∧ x ≤ w.length) (hl : w.length ≤ 1048576) (d : Nat) : ∀ (i : Nat) (y : List Int), i + d = w.length → y.length = w.length → ∃ r, Ev (fun k => impl_InverseOf.l0 k y w w.length i) (r, true) := by
  induction d with
  | zero =>
    intro i y hi hy
    exact ⟨y, Ev.step (fun k => by simp only [impl_InverseOf.l0]; rfl) (Ev.ite_false (by omega) (Ev.now _))⟩
  | succ d ih =>
    intro i y hi hy
    have hlt : i < w.length := by omega
    have hx := hm _ (List.getElem_mem hlt)
    have b0 : 0 ≤ w[i] - 1 := by omega
    have b1 : w[i] - 1 < (y.length : Int) := by omega
    have b2 : (i : Int) < (w.length : Int) := by omega
    have g : rd w (i : Int) = w[i] := rd_nat w i hlt
    obtain ⟨r, hr⟩ := ih (i + 1) (y.set (w[i] - 1).toNat ((i + 1 : Nat) : Int)) (by omega) (by simpa using hy)
    refine ⟨r, Ev.step (fun k => by simp only [impl_InverseOf.l0]; rfl) (Ev.ite_true b2 (Ev.ite_true (Int.natCast_nonneg _) (Ev.ite_true b2 ?_)))⟩
    rw [g, wr_in (x := w[i] - 1) (by omega) (by omega), wr1 (i := i) (by omega)]
    exact Ev.ite_true b0 (Ev.ite_true b1 hr)
def okInv (w : List Int) : Bool := isW w && permB w
theorem specInv_ev (w : List Int) (hl : w.length ≤ 1048576) : ∃ r, Ev (fun k => spec_InverseOf.f k w) (r, okInv w) := by
  simp only [spec_InverseOf.f]
  by_cases h : isW w = true
  · have hs := std_same w h
    by_cases hp : permB w = true
    · have hm : ∀ x ∈ w, 1 ≤ x ∧ x ≤ w.length := fun x hx => ⟨(isW_mem h hx).1, permP_top ((permB_iff w).1 hp) x hx⟩
      obtain ⟨r, hr⟩ := specInv_l0 w hm hl w.length 0 (List.replicate ((w.length : Int) : Int).toNat 0) (by omega) (by simp)
      refine ⟨r, Ev.bind (specIsW_ev w hl) (Ev.ite_true h (Ev.bind (std_ev w h hl) (Ev.bind (l2Same_ev _ w (by simpa [stdL] using hl)) ?_)))⟩
      have ok : okInv w = true := by simp [okInv, h, hp]
      rw [hs, hp, ok]
      exact Ev.step (fun k => by simp only [spec_InverseOf.j0]; rfl) (Ev.ite_false (by simp) (Ev.ite_true (Int.natCast_nonneg _) (Ev.ite_true (by omega) hr)))
    · refine ⟨[], Ev.bind (specIsW_ev w hl) (Ev.ite_true h (Ev.bind (std_ev w h hl) (Ev.bind (l2Same_ev _ w (by simpa [stdL] using hl)) ?_)))⟩
      have ok : okInv w = false := by simp [okInv, hp]
      rw [hs, Bool.eq_false_iff.2 hp, ok]
      exact Ev.step (fun k => by simp only [spec_InverseOf.j0]; rfl) (Ev.ite_true (by simp) (Ev.now _))
  · refine ⟨[], Ev.bind (specIsW_ev w hl) (Ev.ite_false h ?_)⟩
    have ok : okInv w = false := by simp [okInv, h]
    rw [ok]
    exact Ev.step (fun k => by simp only [spec_InverseOf.j0]; rfl) (Ev.ite_true (by simp) (Ev.now _))
theorem implInv_ev (w : List Int) (hl : w.length ≤ 1048576) : ∃ r, Ev (fun k => impl_InverseOf.f k w) (r, okInv w) := by
  simp only [impl_InverseOf.f]
  by_cases h : isW w = true
  · by_cases hp : permB w = true
    · have hm : ∀ x ∈ w, 1 ≤ x ∧ x ≤ w.length := fun x hx => ⟨(isW_mem h hx).1, permP_top ((permB_iff w).1 hp) x hx⟩
      obtain ⟨r, hr⟩ := implInv_l0 w hm hl w.length 0 (List.replicate ((w.length : Int) : Int).toNat 0) (by omega) (by simp)
      refine ⟨r, Ev.bind (implIsW_ev w hl) (Ev.ite_true h (Ev.bind (areOnce_ev w hl) ?_))⟩
      have ok : okInv w = true := by simp [okInv, h, hp]
      rw [hp, ok]
      exact Ev.step (fun k => by simp only [impl_InverseOf.j0]; rfl) (Ev.ite_false (by simp) (Ev.ite_true (Int.natCast_nonneg _) (Ev.ite_true (by omega) hr)))
    · refine ⟨[], Ev.bind (implIsW_ev w hl) (Ev.ite_true h (Ev.bind (areOnce_ev w hl) ?_))⟩
      have ok : okInv w = false := by simp [okInv, hp]
      rw [Bool.eq_false_iff.2 hp, ok]
      exact Ev.step (fun k => by simp only [impl_InverseOf.j0]; rfl) (Ev.ite_true (by simp) (Ev.now _))
  · refine ⟨[], Ev.bind (implIsW_ev w hl) (Ev.ite_false h ?_)⟩
    have ok : okInv w = false := by simp [okInv, h]
    rw [ok]
    exact Ev.step (fun k => by simp only [impl_InverseOf.j0]; rfl) (Ev.ite_true (by simp) (Ev.now _))

/-! The lists of positive numbers with a sum of at most 9: both sorts, run through. -/
def compL : Nat → Nat → List (List Int)
  | 0, _ => [[]]
  | f + 1, m => [] :: (List.range m).flatMap fun j => (compL f (m - (j + 1))).map fun c => ((j + 1 : Nat) : Int) :: c
theorem compL_nil (f m : Nat) : [] ∈ compL f m := by cases f <;> simp [compL]
theorem compL_mem : ∀ (f m : Nat) (c : List Int), (∀ x ∈ c, 1 ≤ x) → c.sum ≤ (m : Int) → c.length ≤ f → c ∈ compL f m
  | f, m, [], _, _, _ => compL_nil f m
  | 0, m, x :: c, _, _, h => by simp at h
  | f + 1, m, x :: c, hp, hs, hl => by
    have hx := hp x (by simp)
    have hc : ∀ z ∈ c, 1 ≤ z := fun z hz => hp z (by simp [hz])
    have h0 : ∀ c : List Int, (∀ z ∈ c, 1 ≤ z) → 0 ≤ c.sum := by
      intro c
      induction c with
      | nil => intro _; simp
      | cons a t ih => intro h; have := ih (fun z hz => h z (by simp [hz])); have := h a (by simp); simp only [List.sum_cons]; omega
    have hc0 := h0 c hc
    simp only [List.sum_cons] at hs
    obtain ⟨j, rfl⟩ : ∃ j : Nat, x = ((j + 1 : Nat) : Int) := ⟨(x - 1).toNat, by omega⟩
    have := compL_mem f (m - (j + 1)) c hc (by omega) (by simpa using hl)
    simp only [compL, List.mem_cons, List.mem_flatMap, List.mem_range, List.mem_map]
    exact .inr ⟨j, by omega, c, this, rfl⟩
theorem len_sum : ∀ c : List Int, (∀ x ∈ c, 1 ≤ x) → (c.length : Int) ≤ c.sum
  | [], _ => by simp
  | a :: t, h => by
    have := len_sum t (fun z hz => h z (by simp [hz]))
    have := h a (by simp)
    simp only [List.sum_cons, List.length_cons]; omega
def sortF (k : Nat) (c : List Int) : Option (List Int) := (slices_Sort_int_int.f k c).bind fun t => (slices_Reverse_int_int.f k t).bind fun u => some u
def downF (k : Nat) (c : List Int) : Option (List Int) := (spec_l23Down.f k c).bind fun t => some t
theorem sortF_mono (c : List Int) (k : Nat) : LeO (sortF k c) (sortF (k + 1) c) := LeO.bind (slices_Sort_int_int.mono _ _) fun _ => LeO.bind (slices_Reverse_int_int.mono _ _) fun _ => LeO.refl _
theorem downF_mono (c : List Int) (k : Nat) : LeO (downF k c) (downF (k + 1) c) := LeO.bind (spec_l23Down.mono _ _) fun _ => LeO.refl _
theorem fact_sorts : (compL 9 9).all (fun c => both (downF 100 c) (sortF 100 c) && decide (((sortF 100 c).getD []).length ≤ 9)) = true := by decide +kernel
theorem sorts (c : List Int) (hp : ∀ x ∈ c, 1 ≤ x) (hs : c.sum ≤ 9) : ∃ r : List Int, r.length ≤ 9 ∧ Ev (fun k => downF k c) r ∧ Ev (fun k => sortF k c) r := by
  have hl := len_sum c hp
  have h := of_all fact_sorts (compL_mem 9 9 c hp (by omega) (by omega))
  simp only [Bool.and_eq_true, decide_eq_true_eq] at h
  obtain ⟨r, h1, h2⟩ := both_ev (downF_mono c) (sortF_mono c) h.1
  refine ⟨r, ?_, h1, h2⟩
  have h3 := h.2
  cases e : sortF 100 c with
  | none => have := h.1; rw [e] at this; unfold both at this; split at this <;> simp_all
  | some z =>
    obtain ⟨K, hK⟩ := h2
    have hz := at_rounds (sortF_mono c) (Nat.le_max_left 100 K) e
    have hK' : sortF (max 100 K) c = some r := hK _ (Nat.le_max_right 100 K)
    rw [hK'] at hz
    rw [e] at h3
    simpa [Option.some.inj hz] using h3
/-! The cycles: both loops side by side. -/
def seenC (s : List Bool) : Nat := s.countP id
theorem seenC_set (s : List Bool) (i : Nat) (h : i < s.length) (hf : s[i] = false) : seenC (s.set i true) = seenC s + 1 := by
  unfold seenC
  rw [List.countP_set (h := h)]
  simp [hf]
theorem seenC_le (s : List Bool) : seenC s ≤ s.length := List.countP_le_length
theorem rdb_nat (s : List Bool) (i : Nat) (h : i < s.length) : rdOf false s (i : Int) = s[i] := by
  simp [rdOf, List.getD_eq_getElem?_getD, h]
theorem rdb_succ (s : List Bool) (i : Nat) (h : i < s.length) : rdOf false (false :: s) ((i + 1 : Nat) : Int) = s[i] := by
  simp only [rdOf, Int.toNat_natCast, List.getD_eq_getElem?_getD, List.getElem?_cons_succ, List.getElem?_eq_getElem h, Option.getD_some]
theorem wrm {i : Nat} (h : i < 4611686018427387904) : wrap64 (((i + 1 : Nat) : Int) - 1) = (i : Int) := by unfold wrap64; omega
theorem cyc_in (w : List Int) (hn : w.length ≤ 9) (hm : ∀ x ∈ w, 1 ≤ x ∧ x ≤ w.length) (i : Nat) (hi : i < w.length) (c : List Int) (hp : ∀ x ∈ c, 1 ≤ x)
    (out : ∀ (c : List Int) (s : List Bool), s.length = w.length → (∀ x ∈ c, 1 ≤ x) → c.sum = (seenC s : Int) → ∃ r : List Int, r.length ≤ 9 ∧ Ev (fun k => spec_CycleType.l0 k w true c (false :: s) ((i + 1 + 1 : Nat) : Int)) r ∧ Ev (fun k => impl_CycleType.l0 k w c s w.length ((i + 1 : Nat) : Int)) r) (d : Nat) :
    ∀ (s : List Bool) (n x : Nat), seenC s + d = w.length → s.length = w.length → x < w.length → c.sum + (n : Int) = (seenC s : Int) →
      ∃ r : List Int, r.length ≤ 9 ∧ Ev (fun k => spec_CycleType.l1 k w true c (false :: s) ((i + 1 : Nat) : Int) n ((x + 1 : Nat) : Int)) r ∧ Ev (fun k => impl_CycleType.l1 k w c s n x w.length i) r := by
  have hend : ∀ (s : List Bool) (n x : Nat), s.length = w.length → (hx : x < w.length) → (hxs : x < s.length) → c.sum + (n : Int) = (seenC s : Int) → s[x] = true →
      ∃ r : List Int, r.length ≤ 9 ∧ Ev (fun k => spec_CycleType.l1 k w true c (false :: s) ((i + 1 : Nat) : Int) n ((x + 1 : Nat) : Int)) r ∧ Ev (fun k => impl_CycleType.l1 k w c s n x w.length i) r := by
    intro s n x hs hx hxs hc hb
    have a0 : (0 : Int) ≤ ((x + 1 : Nat) : Int) := Int.natCast_nonneg _
    have a1 : ((x + 1 : Nat) : Int) < ((false :: s).length : Int) := by simp only [List.length_cons]; omega
    have a2 : (x : Int) < (s.length : Int) := by omega
    have hcl : c.length < 17592186044416 := by
      have := len_sum c hp
      have := seenC_le s
      omega
    have e1 : rdOf false (false :: s) ((x + 1 : Nat) : Int) = true := (rdb_succ s x hxs).trans hb
    have e2 : rdOf false s (x : Int) = true := (rdb_nat s x hxs).trans hb
    by_cases hn0 : (n : Int) > 0
    · obtain ⟨r, hr, h1, h2⟩ := out (c ++ [(n : Int)]) s hs (by
        intro z hz
        rcases List.mem_append.1 hz with hz | hz
        · exact hp z hz
        · simp at hz; omega) (by simp only [List.sum_append, List.sum_cons, List.sum_nil]; omega)
      refine ⟨r, hr, ?_, ?_⟩
      · refine Ev.step (fun k => by simp only [spec_CycleType.l1]; rfl) (Ev.ite_true a0 (Ev.ite_true a1 (Ev.ite_true e1 (Ev.ite_true hn0 (Ev.ite_true hcl ?_)))))
        rw [wr1 (i := i + 1) (by omega)]; exact h1
      · refine Ev.step (fun k => by simp only [impl_CycleType.l1]; rfl) (Ev.ite_true (Int.natCast_nonneg _) (Ev.ite_true a2 (Ev.ite_true e2 (Ev.ite_true hn0 (Ev.ite_true hcl ?_)))))
        rw [wr1 (i := i) (by omega)]; exact h2
    · obtain ⟨r, hr, h1, h2⟩ := out c s hs hp (by omega)
      refine ⟨r, hr, ?_, ?_⟩
      · refine Ev.step (fun k => by simp only [spec_CycleType.l1]; rfl) (Ev.ite_true a0 (Ev.ite_true a1 (Ev.ite_true e1 (Ev.ite_false hn0 ?_))))
        rw [wr1 (i := i + 1) (by omega)]; exact h1
      · refine Ev.step (fun k => by simp only [impl_CycleType.l1]; rfl) (Ev.ite_true (Int.natCast_nonneg _) (Ev.ite_true a2 (Ev.ite_true e2 (Ev.ite_false hn0 ?_))))
        rw [wr1 (i := i) (by omega)]; exact h2
  induction d with
  | zero =>
    intro s n x hd hs hx hc
    have hxs : x < s.length := by omega
    refine hend s n x hs hx hxs hc ?_
    have : seenC s = s.length := by omega
    simpa using List.countP_eq_length.1 this _ (List.getElem_mem hxs)
  | succ d ih =>
    intro s n x hd hs hx hc
    have hxs : x < s.length := by omega
    cases hb : s[x] with
    | true => exact hend s n x hs hx hxs hc hb
    | false =>
      have hw := hm _ (List.getElem_mem hx)
      obtain ⟨y, hy⟩ : ∃ y : Nat, w[x] = ((y + 1 : Nat) : Int) := ⟨(w[x] - 1).toNat, by omega⟩
      have hset := seenC_set s x hxs hb
      have hlen := seenC_le s
      obtain ⟨r, hr, h1, h2⟩ := ih (s.set x true) (n + 1) y (by omega) (by simpa using hs) (by omega) (by omega)
      have a0 : (0 : Int) ≤ ((x + 1 : Nat) : Int) := Int.natCast_nonneg _
      have a1 : ((x + 1 : Nat) : Int) < ((false :: s).length : Int) := by simp only [List.length_cons]; omega
      have a2 : (x : Int) < (s.length : Int) := by omega
      have a3 : (x : Int) < (w.length : Int) := by omega
      have e1 : ¬ rdOf false (false :: s) ((x + 1 : Nat) : Int) = true := by rw [rdb_succ s x hxs, hb]; simp
      have e2 : ¬ rdOf false s (x : Int) = true := by rw [rdb_nat s x hxs, hb]; simp
      have hn1 : n < 4611686018427387904 := by
        have := len_sum c hp
        omega
      refine ⟨r, hr, ?_, ?_⟩
      · refine Ev.step (fun k => by simp only [spec_CycleType.l1]; rfl) (Ev.ite_true a0 (Ev.ite_true a1 (Ev.ite_false e1 ?_)))
        rw [wrm (i := x) (by omega), wr1 (i := n) hn1, rd_nat w x hx, hy]
        exact Ev.ite_true (Int.natCast_nonneg _) (Ev.ite_true a3 h1)
      · refine Ev.step (fun k => by simp only [impl_CycleType.l1]; rfl) (Ev.ite_true (Int.natCast_nonneg _) (Ev.ite_true a2 (Ev.ite_false e2 ?_)))
        rw [wr1 (i := n) hn1, rd_nat w x hx, hy, wrm (i := y) (by omega)]
        exact Ev.ite_true a3 h2
theorem cyc_out (w : List Int) (hn : w.length ≤ 9) (hm : ∀ x ∈ w, 1 ≤ x ∧ x ≤ w.length) (d : Nat) : ∀ (i : Nat) (c : List Int) (s : List Bool), i + d = w.length → s.length = w.length → (∀ x ∈ c, 1 ≤ x) → c.sum = (seenC s : Int) →
    ∃ r : List Int, r.length ≤ 9 ∧ Ev (fun k => spec_CycleType.l0 k w true c (false :: s) ((i + 1 : Nat) : Int)) r ∧ Ev (fun k => impl_CycleType.l0 k w c s w.length i) r := by
  induction d with
  | zero =>
    intro i c s hi hs hp hc
    have := seenC_le s
    obtain ⟨r, hr, h1, h2⟩ := sorts c hp (by omega)
    refine ⟨r, hr, Ev.step (fun k => by simp only [spec_CycleType.l0]; rfl) (Ev.ite_false (by omega) ?_), Ev.step (fun k => by simp only [impl_CycleType.l0]; rfl) (Ev.ite_false (by omega) h2)⟩
    exact Ev.step (fun k => by simp only [spec_CycleType.j1]; rfl) (Ev.ite_false (by simp) h1)
  | succ d ih =>
    intro i c s hi hs hp hc
    have hlt : i < w.length := by omega
    have hle := seenC_le s
    obtain ⟨r, hr, h1, h2⟩ := cyc_in w hn hm i hlt c hp (fun c s hs hp hc => ih (i + 1) c s (by omega) hs hp hc) (w.length - seenC s) s 0 i (by omega) hs hlt (by simpa using hc)
    refine ⟨r, hr, Ev.step (fun k => by simp only [spec_CycleType.l0]; rfl) (Ev.ite_true (by omega) ?_), Ev.step (fun k => by simp only [impl_CycleType.l0]; rfl) (Ev.ite_true (by omega) h2)⟩
    exact Ev.step (fun k => by simp only [spec_CycleType.j1]; rfl) (Ev.ite_true (c := true = true) rfl h1)
theorem same (w : List Int) (hl : w.length ≤ 1048576) : ∃ r : List Int, r.length ≤ 9 ∧ Ev (fun k => spec_CycleType.f k w) r ∧ Ev (fun k => impl_CycleType.f k w) r := by
  obtain ⟨a, ha⟩ := specInv_ev w hl
  obtain ⟨b, hb⟩ := implInv_ev w hl
  have b1 : (0 : Int) ≤ ((w.length + 1 : Nat) : Int) := Int.natCast_nonneg _
  have b2 : (((w.length + 1 : Nat) : Int)).toNat ≤ 281474976710656 := by omega
  have b3 : ((w.length : Int)).toNat ≤ 281474976710656 := by omega
  have t1 : (((w.length + 1 : Nat) : Int)).toNat = w.length + 1 := Int.toNat_natCast _
  have t2 : ((w.length : Int)).toNat = w.length := Int.toNat_natCast _
  simp only [spec_CycleType.f, impl_CycleType.f]
  by_cases ok : okInv w = true
  · have ok' := ok
    simp only [okInv, Bool.and_eq_true] at ok'
    have hm : ∀ x ∈ w, 1 ≤ x ∧ x ≤ w.length := fun x hx => ⟨(isW_mem ok'.1 hx).1, permP_top ((permB_iff w).1 ok'.2) x hx⟩
    obtain ⟨r, hr, h1, h2⟩ := cyc_out w (isW_length ok'.1) hm w.length 0 [] (List.replicate w.length false) (by omega) (by simp) (by simp) (by simp [seenC, List.countP_replicate])
    refine ⟨r, hr, Ev.bind ha ?_, Ev.bind hb ?_⟩
    · rw [wr1 (i := w.length) (by omega), t1, ok]
      exact Ev.ite_true b1 (Ev.ite_true (by omega) h1)
    · rw [t2]
      exact Ev.ite_true ok (Ev.ite_true (Int.natCast_nonneg _) (Ev.ite_true (by omega) h2))
  · refine ⟨[], by simp, Ev.bind ha ?_, Ev.bind hb (Ev.ite_false ok (Ev.now _))⟩
    have hd : Ev (fun k => downF k []) [] := Ev.of (downF_mono []) (k := 100) (by decide +kernel)
    rw [wr1 (i := w.length) (by omega), t1, Bool.eq_false_iff.2 ok]
    refine Ev.ite_true b1 (Ev.ite_true (by omega) (Ev.step (fun k => by simp only [spec_CycleType.l0]; rfl) ?_))
    have hj : Ev (fun k => spec_CycleType.j1 k w false [] (List.replicate (w.length + 1) false) 1 false) [] := Ev.step (fun k => by simp only [spec_CycleType.j1]; rfl) (Ev.ite_false (by simp) hd)
    by_cases h : (1 : Int) ≤ (w.length : Int)
    · exact Ev.ite_true h hj
    · exact Ev.ite_false h hj
theorem FnExactCycleType : laws_FnExactCycleType.Pure := by
  intro l h1 h2 h3
  apply Ev.rounds
  simp only [laws_FnExactCycleType.f]
  by_cases hl : l.length ≤ 1048576
  · obtain ⟨r, hr, hs, hi⟩ := same l hl
    have hm := markIntS_ev 1 l (by omega) (by omega) (by omega)
    have hm2 := markIntS_ev 1 r (by omega) (by omega) (by omega)
    have hh := heldIntS_ev 1 r.length (by omega) (by omega) (by omega)
    have ht := toIntS_ev l hl
    have he := eqIntS_self l hl
    have he2 := eqIntS_self r (by omega)
    refine Ev.ite_false (by omega) ?_
    repeat (first
      | exact Ev.now _
      | refine Ev.bind ht ?_
      | refine Ev.bind hs ?_
      | refine Ev.bind hi ?_
      | refine Ev.bind he ?_
      | refine Ev.bind he2 ?_
      | refine Ev.bind hm ?_
      | refine Ev.bind hm2 ?_
      | refine Ev.bind hh ?_
      | refine Ev.ite_true (by first | rfl | (simp; done) | omega | (dsimp only; omega)) ?_
      | refine Ev.ite_false (by first | (simp; done) | omega | (dsimp only; omega)) ?_
      | refine Ev.step (fun k => by simp only [laws_FnExactCycleType.j0]; rfl) ?_)
  · exact Ev.ite_true (by omega) (Ev.now _)

end Go.Proofs.Ytdjohgfelmkooaa.Pure
