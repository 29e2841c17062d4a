/- The program's HighestOf answers as the reference's for every list of at most 2^20 numbers, leaves its argument alone, and its result shares no memory with argument or later result. No condition. -/
import Derived.Test.YtcbfdekjdmmilaaPFnExactHighestOfx4
import Derived.Test.YtcbfdekjdmmilaaWSized
set_option linter.unusedVariables false
set_option linter.unusedSimpArgs false
namespace Go.Proofs.Ytcbfdekjdmmilaa
open Go.ChangeShapes Go.WideShapes
theorem PrintWords.sized_ints {H : Type} {enc : TypeId × Value → H} {P : Program} {W : World} {base : Nat} {spare : Nat → Bool} {held : Bool} {t e : TypeId} {k : IntKind} {a : Option Addr} {len cap : Nat} {d : DataW H} {ps : List MemPlace} {ts : List TypeId} {ds : List (DataW H)} {j : Nat}
    (hsz : (DataW.weightsEach P ts ds).all (· ≤ reachBytes) = true) (ht : ts[j]? = some t) (hd : ds[j]? = some d) (hu : P.underlying t = some (.slice e)) (he : P.underlying e = some (.int k)) (hc : P.cellsOf e = 1) {B : Nat} (hB : P.bytesOf e = B)
    (h : DataW.Trod enc P W base spare held t (.slice a len cap) d ps) : len * B ≤ 140737488351232 :=
  Go.Proofs.YtcbfdekjdmmilaaW.PrintWords.sized_ints hsz ht hd hu he hc hB h
end Go.Proofs.Ytcbfdekjdmmilaa
namespace Go.Proofs.Ytcbfdekjdmmilaa.Pure
open Go.RowKit Go.Proofs.Ytcbfdekjdmmilaa.PFnExactHighestOf Go.Proofs.YtcbfdekjdmmilaaW.PrintWords Go.Proofs.YtcbfdekjdmmilaaW.PrintLast

theorem wr_in {x : Int} (h : -9223372036854775808 ≤ x) (h' : x ≤ 9223372036854775807) : wrap64 x = x := by unfold wrap64; omega
theorem wr1 {i : Nat} (h : i < 4611686018427387904) : wrap64 ((i : Int) + 1) = ((i + 1 : Nat) : Int) := by unfold wrap64; omega
theorem Ev.ite_true {α : Type} {c : Prop} [Decidable c] {g f : Nat → Option α} {r : α} (hc : c) (h : Ev g r) : Ev (fun k => if c then g k else f k) r := by
  obtain ⟨K, h⟩ := h
  exact ⟨K, fun k hk => (if_pos hc).trans (h k hk)⟩
theorem Ev.ite_false {α : Type} {c : Prop} [Decidable c] {g f : Nat → Option α} {r : α} (hc : ¬ c) (h : Ev f r) : Ev (fun k => if c then g k else f k) r := by
  obtain ⟨K, h⟩ := h
  exact ⟨K, fun k hk => (if_neg hc).trans (h k hk)⟩
theorem rd_nat (l : List Int) (i : Nat) (h : i < l.length) : rd l (i : Int) = l[i] := by
  simp [rd, List.getD_eq_getElem?_getD, h]
/-- A statement that holds of all members of a list that can be run through. -/
theorem of_all {α : Type} {p : α → Bool} {l : List α} (h : l.all p = true) {x : α} (hx : x ∈ l) : p x = true := List.all_eq_true.mp h x hx
/-- Both answer, and alike. -/
def both {α : Type} [DecidableEq α] (a b : Option α) : Bool := match a, b with
  | some x, some y => decide (x = y)
  | _, _ => false
theorem both_ev {α : Type} [DecidableEq α] {f g : Nat → Option α} (hf : ∀ k, LeO (f k) (f (k + 1))) (hg : ∀ k, LeO (g k) (g (k + 1))) {n m : Nat} (h : both (f n) (g m) = true) : ∃ r, Ev f r ∧ Ev g r := by
  unfold both at h
  split at h
  · rename_i x y hx hy
    have e := of_decide_eq_true h
    subst e
    exact ⟨x, Ev.of hf hx, Ev.of hg hy⟩
  · cases h
theorem take_set_succ {α : Type} (y : List α) (i : Nat) (v : α) (h : i < y.length) : (y.set i v).take (i + 1) = y.take i ++ [v] := by
  rw [List.take_succ_eq_append_getElem (by simpa using h)]
  simp only [List.getElem_set_self]
  congr 1
  apply List.ext_getElem?
  intro j
  simp only [List.getElem?_take, List.getElem?_set]
  by_cases h : j < i
  · rw [if_pos h, if_neg (by omega), if_pos h]
  · rw [if_neg h, if_neg h]

theorem toIntS_l0 (l : List Int) (hl : l.length ≤ 1048576) (d : Nat) : ∀ (i : Nat) (y : List Int) (k : Nat), i + d = l.length → y.length = l.length → y.take i = l.take i → d < k → laws_toIntS.l0 k l y i = some l := by
  induction d with
  | zero =>
    intro i y k hi hy ht hk
    obtain ⟨k, rfl⟩ : ∃ m, k = m + 1 := ⟨k - 1, by omega⟩
    simp only [laws_toIntS.l0]
    rw [if_neg (by omega)]
    obtain rfl : i = l.length := by omega
    rw [List.take_of_length_le (by omega), List.take_of_length_le (by omega)] at ht
    rw [ht]
  | succ d ih =>
    intro i y k hi hy ht hk
    obtain ⟨k, rfl⟩ : ∃ m, k = m + 1 := ⟨k - 1, by omega⟩
    have hlt : i < l.length := by omega
    simp only [laws_toIntS.l0]
    rw [if_pos (by omega), if_pos (by omega), if_pos (by omega), wr1 (by omega), rd_nat l i hlt]
    refine ih (i + 1) _ k (by omega) (by simpa using hy) ?_ (by omega)
    rw [Int.toNat_natCast, take_set_succ y i _ (by omega), ht, List.take_succ_eq_append_getElem hlt]
theorem toIntS_ev (l : List Int) (hl : l.length ≤ 1048576) : Ev (fun k => laws_toIntS.f k l) l := by
  refine ⟨l.length + 1, fun k hk => ?_⟩
  show laws_toIntS.f k l = some l
  unfold laws_toIntS.f
  rw [if_pos (by omega), if_pos (by omega)]
  exact toIntS_l0 l hl l.length 0 _ k (by omega) (by simp) (by simp) (by omega)

theorem eqIntS_l0 (a b : List Int) (hl : a.length ≤ 1048576) (hab : a.length = b.length) (d : Nat) : ∀ (i k : Nat), i + d = a.length → a.take i = b.take i → d < k → laws_eqIntS.l0 k a b i = some (decide (a = b)) := by
  induction d with
  | zero =>
    intro i k hi ht hk
    obtain ⟨k, rfl⟩ : ∃ m, k = m + 1 := ⟨k - 1, by omega⟩
    simp only [laws_eqIntS.l0]
    rw [if_neg (by omega)]
    obtain rfl : i = a.length := by omega
    rw [List.take_of_length_le (by omega), List.take_of_length_le (by omega)] at ht
    rw [decide_eq_true ht]
  | succ d ih =>
    intro i k hi ht hk
    obtain ⟨k, rfl⟩ : ∃ m, k = m + 1 := ⟨k - 1, by omega⟩
    have hlt : i < a.length := by omega
    have hlt' : i < b.length := by omega
    simp only [laws_eqIntS.l0]
    rw [if_pos (by omega), if_pos (by omega), if_pos (by omega), wr1 (by omega), rd_nat a i hlt, rd_nat b i hlt']
    by_cases h : a[i] = b[i]
    · rw [if_pos h]
      refine ih (i + 1) k (by omega) ?_ (by omega)
      rw [List.take_succ_eq_append_getElem hlt, List.take_succ_eq_append_getElem hlt', ht, h]
    · rw [if_neg h, decide_eq_false]
      intro e
      subst e
      exact h rfl
theorem eqIntS_ev (a b : List Int) (hl : a.length ≤ 1048576) : Ev (fun k => laws_eqIntS.f k a b) (decide (a = b)) := by
  refine ⟨a.length + 1, fun k hk => ?_⟩
  show laws_eqIntS.f k a b = _
  unfold laws_eqIntS.f
  by_cases h : (a.length : Int) = (b.length : Int)
  · rw [if_pos h]
    exact eqIntS_l0 a b hl (by omega) a.length 0 k (by omega) (by simp) (by omega)
  · rw [if_neg h, decide_eq_false]
    intro e
    subst e
    exact h rfl
theorem eqIntS_self (a : List Int) (hl : a.length ≤ 1048576) : Ev (fun k => laws_eqIntS.f k a a) true := by
  have h := eqIntS_ev a a hl
  rwa [decide_eq_true rfl] at h

def markL (a : Int) (n : Nat) : List Int := (List.range n).map (fun (j : Nat) => a + (j : Int))
theorem markL_length (a : Int) (n : Nat) : (markL a n).length = n := by simp [markL]
theorem markL_get (a : Int) (n i : Nat) (h : i < (markL a n).length) : (markL a n)[i] = a + i := by simp [markL]
theorem markIntS_l0 (a : Int) (n : Nat) (h0 : 0 ≤ a) (h1 : a ≤ 4611686018427387904) (hn : n ≤ 4611686018427387) (d : Nat) : ∀ (i : Nat) (y : List Int) (k : Nat), i + d = n → y.length = n → y.take i = markL a i → d < k →
    laws_markIntS.l0 k y (a + i) i = some (a + n, markL a n) := by
  induction d with
  | zero =>
    intro i y k hi hy ht hk
    obtain ⟨k, rfl⟩ : ∃ m, k = m + 1 := ⟨k - 1, by omega⟩
    simp only [laws_markIntS.l0]
    rw [if_neg (by omega)]
    obtain rfl : i = n := by omega
    rw [List.take_of_length_le (by omega)] at ht
    rw [ht]
  | succ d ih =>
    intro i y k hi hy ht hk
    obtain ⟨k, rfl⟩ : ∃ m, k = m + 1 := ⟨k - 1, by omega⟩
    simp only [laws_markIntS.l0]
    rw [if_pos (by omega), if_pos (by omega), wr1 (by omega), wr_in (x := a + i + 1) (by omega) (by omega)]
    have e : a + (i : Int) + 1 = a + ((i + 1 : Nat) : Int) := by omega
    rw [e]
    refine ih (i + 1) _ k (by omega) (by simpa using hy) ?_ (by omega)
    rw [Int.toNat_natCast, take_set_succ y i _ (by omega), ht]
    simp [markL, List.range_succ]
theorem markIntS_ev (a : Int) (l : List Int) (h0 : 0 ≤ a) (h1 : a ≤ 4611686018427387904) (hn : l.length ≤ 4611686018427387) : Ev (fun k => laws_markIntS.f k l a) (a + l.length, markL a l.length) := by
  refine ⟨l.length + 1, fun k hk => ?_⟩
  show laws_markIntS.f k l a = _
  unfold laws_markIntS.f
  have h := markIntS_l0 a l.length h0 h1 hn l.length 0 l k (by omega) rfl (by simp [markL]) (by omega)
  simpa using h
theorem heldIntS_l0 (a : Int) (n : Nat) (h0 : 0 ≤ a) (h1 : a ≤ 4611686018427387904) (hn : n ≤ 4611686018427387) (d : Nat) : ∀ (i k : Nat), i + d = n → d < k →
    laws_heldIntS.l0 k (markL a n) (a + i) i = some (a + n) := by
  induction d with
  | zero =>
    intro i k hi hk
    obtain ⟨k, rfl⟩ : ∃ m, k = m + 1 := ⟨k - 1, by omega⟩
    simp only [laws_heldIntS.l0]
    rw [if_neg (by rw [markL_length]; omega)]
    obtain rfl : i = n := by omega
    rfl
  | succ d ih =>
    intro i k hi hk
    obtain ⟨k, rfl⟩ : ∃ m, k = m + 1 := ⟨k - 1, by omega⟩
    simp only [laws_heldIntS.l0]
    have hlt : i < (markL a n).length := by rw [markL_length]; omega
    rw [if_pos (by rw [markL_length]; omega), if_pos (by omega), rd_nat _ i hlt, markL_get, if_pos rfl, wr1 (by omega), wr_in (x := a + i + 1) (by omega) (by omega)]
    have e : a + (i : Int) + 1 = a + ((i + 1 : Nat) : Int) := by omega
    rw [e]
    exact ih (i + 1) k (by omega) (by omega)
theorem heldIntS_ev (a : Int) (n : Nat) (h0 : 0 ≤ a) (h1 : a ≤ 4611686018427387904) (hn : n ≤ 4611686018427387) : Ev (fun k => laws_heldIntS.f k (markL a n) a) (a + n) := by
  refine ⟨n + 1, fun k hk => ?_⟩
  show laws_heldIntS.f k (markL a n) a = _
  unfold laws_heldIntS.f
  have h := heldIntS_l0 a n h0 h1 hn n 0 k (by omega) (by omega)
  simpa using h

/-! Words: a plain test. -/
def okL (x : Int) : Bool := decide (1 ≤ x ∧ x ≤ 9)
def isW (l : List Int) : Bool := decide (l.length ≤ 9) && l.all okL
theorem isW_length {l : List Int} (h : isW l = true) : l.length ≤ 9 := by
  simp only [isW, Bool.and_eq_true, decide_eq_true_eq] at h; exact h.1
theorem isW_mem {l : List Int} (h : isW l = true) {x : Int} (hx : x ∈ l) : 1 ≤ x ∧ x ≤ 9 := by
  simp only [isW, Bool.and_eq_true, List.all_eq_true] at h; simpa [okL] using h.2 x hx
theorem isW_get {l : List Int} (h : isW l = true) (i : Nat) (hi : i < l.length) : 1 ≤ l[i] ∧ l[i] ≤ 9 := isW_mem h (List.getElem_mem hi)
theorem dropc {α : Type} (l : List α) (i : Nat) (h : i < l.length) : l.drop i = l[i] :: l.drop (i + 1) := List.drop_eq_getElem_cons h

theorem l1In_f (x a b : Int) : spec_l1In.f x a b = some (decide (a ≤ x ∧ x ≤ b)) := by
  unfold spec_l1In.f
  by_cases h : x ≥ a
  · rw [if_pos h]; congr 1; by_cases h2 : x ≤ b
    · rw [decide_eq_true h2, decide_eq_true ⟨h, h2⟩]
    · rw [decide_eq_false h2, decide_eq_false (by omega)]
  · rw [if_neg h, decide_eq_false (by omega)]

theorem specIsW_l0 (l : List Int) (hl : l.length ≤ 1048576) (d : Nat) : ∀ (i k : Nat), i + d = l.length → d < k → spec_IsWord.l0 k l i = some (decide (l.length ≤ 9) && (l.drop i).all okL) := by
  induction d with
  | zero =>
    intro i k hi hk
    obtain ⟨k, rfl⟩ : ∃ m, k = m + 1 := ⟨k - 1, by omega⟩
    simp only [spec_IsWord.l0]
    rw [if_neg (by omega), List.drop_of_length_le (by omega)]
    simp
    omega
  | succ d ih =>
    intro i k hi hk
    obtain ⟨k, rfl⟩ : ∃ m, k = m + 1 := ⟨k - 1, by omega⟩
    have hlt : i < l.length := by omega
    simp only [spec_IsWord.l0]
    rw [if_pos (by omega), if_pos (by omega), rd_nat l i hlt, l1In_f, dropc l i hlt]
    simp only [Option.bind_some, List.all_cons]
    by_cases h : 1 ≤ l[i] ∧ l[i] ≤ 9
    · rw [if_pos (decide_eq_true h), wr1 (by omega), ih (i + 1) k (by omega) (by omega)]
      simp [okL, h]
    · rw [if_neg (by simpa using h)]
      have : okL l[i] = false := decide_eq_false h
      simp [this]
theorem specIsW_ev (l : List Int) (hl : l.length ≤ 1048576) : Ev (fun k => spec_IsWord.f k l) (isW l) := by
  refine ⟨l.length + 1, fun k hk => ?_⟩
  have h := specIsW_l0 l hl l.length 0 k (by omega) (by omega)
  simpa [spec_IsWord.f, isW] using h

theorem within_f (x a b : Int) : impl_within.f x a b = some (decide (a ≤ x ∧ x ≤ b)) := by
  unfold impl_within.f
  by_cases h : a ≤ x
  · rw [if_pos h]; congr 1; by_cases h2 : x ≤ b
    · rw [decide_eq_true h2, decide_eq_true ⟨h, h2⟩]
    · rw [decide_eq_false h2, decide_eq_false (by omega)]
  · rw [if_neg h, decide_eq_false (by omega)]

theorem isWord1_f (x : Int) : impl_IsWord_1.f x = some (!okL x) := by
  unfold impl_IsWord_1.f
  rw [within_f]
  rfl
theorem implIsW_l0 (l : List Int) (hl : l.length ≤ 1048576) (d : Nat) : ∀ (i k : Nat), i + d = l.length → d < k → ∃ r, slices_IndexFunc_int_int__impl_IsWord_1.l0 k l l.length i = some r ∧ decide (r ≥ 0) = !((l.drop i).all okL) := by
  induction d with
  | zero =>
    intro i k hi hk
    obtain ⟨k, rfl⟩ : ∃ m, k = m + 1 := ⟨k - 1, by omega⟩
    simp only [slices_IndexFunc_int_int__impl_IsWord_1.l0]
    rw [if_neg (by omega), List.drop_of_length_le (by omega)]
    exact ⟨_, rfl, by simp⟩
  | succ d ih =>
    intro i k hi hk
    obtain ⟨k, rfl⟩ : ∃ m, k = m + 1 := ⟨k - 1, by omega⟩
    have hlt : i < l.length := by omega
    simp only [slices_IndexFunc_int_int__impl_IsWord_1.l0]
    rw [if_pos (by omega), if_pos (by omega), if_pos (by omega), rd_nat l i hlt, isWord1_f, dropc l i hlt]
    simp only [Option.bind_some, List.all_cons]
    cases h : okL l[i]
    · rw [if_pos (by rfl)]
      exact ⟨_, rfl, by simp⟩
    · rw [if_neg (by simp), wr1 (by omega)]
      obtain ⟨r, h1, h2⟩ := ih (i + 1) k (by omega) (by omega)
      exact ⟨r, h1, by simpa using h2⟩
theorem implIsW_ev (l : List Int) (hl : l.length ≤ 1048576) : Ev (fun k => impl_IsWord.f k l) (isW l) := by
  refine ⟨l.length + 1, fun k hk => ?_⟩
  show impl_IsWord.f k l = _
  obtain ⟨r, h, h2⟩ := implIsW_l0 l hl l.length 0 k (by omega) (by omega)
  have h' : slices_IndexFunc_int_int__impl_IsWord_1.l0 k l l.length 0 = some r := h
  unfold impl_IsWord.f slices_ContainsFunc_int_int__impl_IsWord_1.f slices_IndexFunc_int_int__impl_IsWord_1.f
  simp only [h', Option.bind_some, h2]
  by_cases h9 : (l.length : Int) ≤ 9
  · rw [if_pos h9]; simp [isW]; omega
  · rw [if_neg h9]; simp [isW]; omega

/-- The free places of a word, as both texts find them. -/
def freeM (a : Int) : Nat → List Int → List Int → List Int → List Int × List Int
  | _, low, high, [] => (low, high)
  | i, low, high, x :: xs => if x = a + 1 then freeM a (i + 1) low (high ++ [(i : Int)]) xs
    else if x = a then (if high.length > 0 then freeM a (i + 1) low (high.take (high.length - 1)) xs else freeM a (i + 1) (low ++ [(i : Int)]) high xs)
    else freeM a (i + 1) low high xs
theorem specFree_l0 (l : List Int) (a : Int) (hl : l.length ≤ 9) (ha : 1 ≤ a ∧ a ≤ 8) (d : Nat) : ∀ (i k : Nat) (low high : List Int), i + d = l.length → low.length ≤ i → high.length ≤ i → 2 * d < k →
    spec_l26Free.l0 k l a low high i = some (freeM a i low high (l.drop i)) := by
  induction d with
  | zero =>
    intro i k low high hi h1 h2 hk
    obtain ⟨k, rfl⟩ : ∃ m, k = m + 1 := ⟨k - 1, by omega⟩
    simp only [spec_l26Free.l0]
    rw [if_neg (by omega), List.drop_of_length_le (by omega)]
    rfl
  | succ d ih =>
    intro i k low high hi h1 h2 hk
    obtain ⟨k, rfl⟩ : ∃ m, k = m + 2 := ⟨k - 2, by omega⟩
    have hlt : i < l.length := by omega
    have ih' := fun low high h1 h2 => ih (i + 1) k low high (by omega) h1 h2 (by omega)
    have ih2 := fun low high h1 h2 => ih (i + 1) (k + 1) low high (by omega) h1 h2 (by omega)
    rw [spec_l26Free.l0, if_pos (by omega), if_pos (by omega), rd_nat l i hlt, dropc l i hlt, wr_in (x := a + 1) (by omega) (by omega)]
    simp only [freeM]
    by_cases hx : l[i] = a + 1
    · rw [if_pos hx, if_pos hx, if_pos (by omega), wr1 (by omega), ih2 _ _ (by omega) (by simp; omega)]
    · rw [if_neg hx, if_neg hx]
      by_cases hx2 : l[i] = a
      · rw [if_pos hx2, if_pos hx2]
        simp only [spec_l26Free.j1]
        by_cases hh : high.length > 0
        · have e : wrap64 ((high.length : Int) - 1) = ((high.length - 1 : Nat) : Int) := by unfold wrap64; omega
          rw [if_pos (by rw [decide_eq_true_eq]; omega), e, if_pos (by omega), if_pos (by omega), if_pos hh, wr1 (by omega), Int.toNat_natCast, ih' _ _ (by omega) (by simp; omega)]
        · rw [if_neg (by rw [decide_eq_true_eq]; omega), if_pos (by omega), if_pos (by omega), rd_nat l i hlt, if_pos hx2, if_pos (by omega), if_neg hh, wr1 (by omega), ih' _ _ (by simp; omega) (by omega)]
      · rw [if_neg hx2, if_neg hx2]
        simp only [spec_l26Free.j1]
        rw [if_neg (by simp), if_pos (by omega), if_pos (by omega), rd_nat l i hlt, if_neg hx2, wr1 (by omega), ih' _ _ (by omega) (by omega)]
theorem implFree_l0 (l : List Int) (a : Int) (hl : l.length ≤ 9) (ha : 1 ≤ a ∧ a ≤ 8) (d : Nat) : ∀ (i k : Nat) (low high : List Int), i + d = l.length → low.length ≤ i → high.length ≤ i → 2 * d < k →
    impl_free.l0 k a low high l l.length i = some ((freeM a i low high (l.drop i)).1, (freeM a i low high (l.drop i)).2, true) := by
  induction d with
  | zero =>
    intro i k low high hi h1 h2 hk
    obtain ⟨k, rfl⟩ : ∃ m, k = m + 1 := ⟨k - 1, by omega⟩
    simp only [impl_free.l0]
    rw [if_neg (by omega), List.drop_of_length_le (by omega)]
    rfl
  | succ d ih =>
    intro i k low high hi h1 h2 hk
    obtain ⟨k, rfl⟩ : ∃ m, k = m + 2 := ⟨k - 2, by omega⟩
    have hlt : i < l.length := by omega
    have ih' := fun low high h1 h2 => ih (i + 1) k low high (by omega) h1 h2 (by omega)
    have ih2 := fun low high h1 h2 => ih (i + 1) (k + 1) low high (by omega) h1 h2 (by omega)
    rw [impl_free.l0, if_pos (by omega), if_pos (by omega), if_pos (by omega), rd_nat l i hlt, dropc l i hlt, wr_in (x := a + 1) (by omega) (by omega)]
    simp only [freeM]
    by_cases hx : l[i] = a + 1
    · rw [if_pos hx, if_pos hx, if_pos (by omega), wr1 (by omega), ih2 _ _ (by omega) (by simp; omega)]
    · rw [if_neg hx, if_neg hx]
      by_cases hx2 : l[i] = a
      · rw [if_pos hx2, if_pos hx2]
        simp only [impl_free.j2]
        by_cases hh : high.length > 0
        · have e : wrap64 ((high.length : Int) - 1) = ((high.length - 1 : Nat) : Int) := by unfold wrap64; omega
          rw [if_pos (by rw [decide_eq_true_eq]; omega), e, if_pos (by omega), if_pos (by omega), if_pos hh, wr1 (by omega), Int.toNat_natCast, ih' _ _ (by omega) (by simp; omega)]
        · rw [if_neg (by rw [decide_eq_true_eq]; omega), if_pos hx2, if_pos (by omega), if_neg hh, wr1 (by omega), ih' _ _ (by simp; omega) (by omega)]
      · rw [if_neg hx2, if_neg hx2]
        simp only [impl_free.j2]
        rw [if_neg (by simp), if_neg hx2, wr1 (by omega), ih' _ _ (by omega) (by omega)]
def fineB (l : List Int) (a : Int) : Bool := isW l && decide (1 ≤ a ∧ a ≤ 8)
def lowM (l : List Int) (a : Int) : List Int := (freeM a 0 [] [] l).1
def highM (l : List Int) (a : Int) : List Int := (freeM a 0 [] [] l).2
theorem specFine_ev (l : List Int) (a : Int) (hl : l.length ≤ 1048576) : Ev (fun k => spec_l26Fine.f k l a) (fineB l a) := by
  simp only [spec_l26Fine.f]
  refine Ev.bind (specIsW_ev l hl) ?_
  cases h : isW l
  · exact Ev.ite_false (by simp) (by simpa [fineB, h] using Ev.now false)
  · exact Ev.ite_true rfl (by simpa [fineB, h, l1In_f] using Ev.now _)
theorem specFree_ev (l : List Int) (a : Int) (hf : fineB l a = true) : Ev (fun k => spec_l26Free.f k l a) (lowM l a, highM l a) := by
  simp only [fineB, Bool.and_eq_true, decide_eq_true_eq] at hf
  have h9 := isW_length hf.1
  refine ⟨2 * l.length + 1, fun k hk => ?_⟩
  have h := specFree_l0 l a h9 hf.2 l.length 0 k [] [] (by omega) (by simp) (by simp) (by omega)
  simpa [spec_l26Free.f, lowM, highM] using h
theorem implFree_ev (l : List Int) (a : Int) (hl : l.length ≤ 1048576) : Ev (fun k => impl_free.f k l a) (if fineB l a = true then (lowM l a, highM l a, true) else ([], [], false)) := by
  simp only [impl_free.f]
  refine Ev.bind (implIsW_ev l hl) ?_
  cases h : isW l
  · rw [if_neg (by simp [fineB, h])]
    refine Ev.ite_false (by simp) ?_
    exact Ev.step (f := fun _ => some _) (fun k => by simp only [impl_free.j0]; rfl) (Ev.now _)
  · refine Ev.ite_true rfl ?_
    simp only [within_f, Option.bind_some]
    by_cases ha : 1 ≤ a ∧ a ≤ 8
    · rw [if_pos (by simp [fineB, h, ha])]
      have h9 := isW_length h
      refine ⟨2 * l.length + 2, fun k hk => ?_⟩
      obtain ⟨k, rfl⟩ : ∃ m, k = m + 1 := ⟨k - 1, by omega⟩
      have hh := implFree_l0 l a h9 ha l.length 0 k [] [] (by omega) (by simp) (by simp) (by omega)
      simp only [impl_free.j0, decide_eq_true ha]
      rw [if_neg (by simp)]
      simpa [lowM, highM] using hh
    · rw [if_neg (by simp [fineB, h]; omega)]
      refine Ev.step (f := fun _ => some ([], [], false)) (fun k => ?_) (Ev.now _)
      simp only [impl_free.j0, decide_eq_false ha]
      rfl

/-- The free places are places of the word. -/
theorem freeM_bound (a : Int) : ∀ (xs : List Int) (i : Nat) (low high : List Int), (∀ x ∈ low, 0 ≤ x ∧ x < i) → (∀ x ∈ high, 0 ≤ x ∧ x < i) →
    (∀ x ∈ (freeM a i low high xs).1, 0 ≤ x ∧ x < i + xs.length) ∧ (∀ x ∈ (freeM a i low high xs).2, 0 ≤ x ∧ x < i + xs.length)
  | [], i, low, high, h1, h2 => by simpa [freeM] using ⟨h1, h2⟩
  | x :: xs, i, low, high, h1, h2 => by
    have w1 : ∀ x ∈ low, 0 ≤ x ∧ x < ((i + 1 : Nat) : Int) := fun x hx => by have := h1 x hx; omega
    have w2 : ∀ x ∈ high, 0 ≤ x ∧ x < ((i + 1 : Nat) : Int) := fun x hx => by have := h2 x hx; omega
    have s1 : ∀ x ∈ low ++ [(i : Int)], 0 ≤ x ∧ x < ((i + 1 : Nat) : Int) := fun x hx => by
      rcases List.mem_append.1 hx with h | h
      · exact w1 x h
      · rw [List.mem_singleton] at h; omega
    have s2 : ∀ x ∈ high ++ [(i : Int)], 0 ≤ x ∧ x < ((i + 1 : Nat) : Int) := fun x hx => by
      rcases List.mem_append.1 hx with h | h
      · exact w2 x h
      · rw [List.mem_singleton] at h; omega
    have t2 : ∀ x ∈ high.take (high.length - 1), 0 ≤ x ∧ x < ((i + 1 : Nat) : Int) := fun x hx => w2 x (List.mem_of_mem_take hx)
    have e : ((i + 1 : Nat) : Int) + (xs.length : Int) = (i : Int) + ((x :: xs).length : Nat) := by simp; omega
    simp only [freeM]
    rw [← e]
    split
    · exact freeM_bound a xs (i + 1) low _ w1 s2
    · split
      · split
        · exact freeM_bound a xs (i + 1) low _ w1 t2
        · exact freeM_bound a xs (i + 1) _ high s1 w2
      · exact freeM_bound a xs (i + 1) low high w1 w2
theorem lowM_bound (l : List Int) (a : Int) : ∀ x ∈ lowM l a, 0 ≤ x ∧ x < l.length := by
  have h := (freeM_bound a l 0 [] [] (by simp) (by simp)).1
  simpa [lowM] using h
theorem highM_bound (l : List Int) (a : Int) : ∀ x ∈ highM l a, 0 ≤ x ∧ x < l.length := by
  have h := (freeM_bound a l 0 [] [] (by simp) (by simp)).2
  simpa [highM] using h
theorem freeM_len (a : Int) : ∀ (xs : List Int) (i : Nat) (low high : List Int),
    (freeM a i low high xs).1.length + (freeM a i low high xs).2.length ≤ low.length + high.length + xs.length
  | [], i, low, high => by simp [freeM]
  | x :: xs, i, low, high => by
    simp only [freeM]
    split
    · have := freeM_len a xs (i + 1) low (high ++ [(i : Int)]); simp at this ⊢; omega
    · split
      · split
        · have := freeM_len a xs (i + 1) low (high.take (high.length - 1)); simp at this ⊢; omega
        · have := freeM_len a xs (i + 1) (low ++ [(i : Int)]) high; simp at this ⊢; omega
      · have := freeM_len a xs (i + 1) low high; simp at this ⊢; omega
theorem lowHigh_len (l : List Int) (a : Int) : (lowM l a).length + (highM l a).length ≤ l.length := by
  have := freeM_len a l 0 [] []; simpa [lowM, highM] using this

theorem clone_f (l : List Int) (hl : l.length ≤ 1048576) : slices_Clone_int_int.f l = some l := by
  simp only [slices_Clone_int_int.f, Option.bind_some, List.nil_append, List.length_nil]
  rw [if_pos (by omega)]

-- Raising a word: what both texts answer at a word, and that the sum of the letters falls.
theorem freeM_high (a : Int) (P : Int → Prop) : ∀ (xs : List Int) (i : Nat) (low high : List Int), (∀ x ∈ high, P x) → (∀ (j : Nat) (h : j < xs.length), xs[j] = a + 1 → P ((i + j : Nat) : Int)) → ∀ x ∈ (freeM a i low high xs).2, P x
  | [], i, low, high, h1, h2 => by simpa [freeM] using h1
  | x :: xs, i, low, high, h1, h2 => by
    have hn : ∀ (j : Nat) (h : j < xs.length), xs[j] = a + 1 → P ((i + 1 + j : Nat) : Int) := fun j h e => by
      have := h2 (j + 1) (by simpa using h) (by simpa using e)
      rwa [show i + (j + 1) = i + 1 + j by omega] at this
    simp only [freeM]
    split
    · rename_i hx
      refine freeM_high a P xs (i + 1) low _ (fun y hy => ?_) hn
      rcases List.mem_append.1 hy with h | h
      · exact h1 y h
      · rw [List.mem_singleton] at h; subst h; simpa using h2 0 (by simp) (by simpa using hx)
    · split
      · split
        · exact freeM_high a P xs (i + 1) low _ (fun y hy => h1 y (List.mem_of_mem_take hy)) hn
        · exact freeM_high a P xs (i + 1) _ high h1 hn
      · exact freeM_high a P xs (i + 1) low high h1 hn
theorem highM_val (l : List Int) (a : Int) : ∀ x ∈ highM l a, ∃ j : Nat, x = (j : Int) ∧ ∃ h : j < l.length, l[j] = a + 1 :=
  freeM_high a (fun x => ∃ j : Nat, x = (j : Int) ∧ ∃ h : j < l.length, l[j] = a + 1) l 0 [] [] (by simp) (fun j h e => ⟨j, by simp, h, e⟩)
theorem sum_set_int : ∀ (l : List Int) (j : Nat) (h : j < l.length) (v : Int), (l.set j v).sum = l.sum - l[j] + v
  | x :: xs, 0, _, v => by simp; omega
  | x :: xs, j + 1, h, v => by
    have := sum_set_int xs j (by simpa using h) v
    simp only [List.set_cons_succ, List.sum_cons, List.getElem_cons_succ, this]; omega
theorem isW_set {l : List Int} (h : isW l = true) (j : Nat) (v : Int) (hv : 1 ≤ v ∧ v ≤ 9) : isW (l.set j v) = true := by
  simp only [isW, Bool.and_eq_true, decide_eq_true_eq, List.all_eq_true] at h ⊢
  refine ⟨by simpa using h.1, fun x hx => ?_⟩
  rcases List.mem_or_eq_of_mem_set hx with h1 | rfl
  · exact h.2 x h1
  · exact decide_eq_true hv
theorem isW_sum : ∀ {l : List Int}, l.all okL = true → 0 ≤ l.sum
  | [], _ => by simp
  | x :: xs, h => by
    simp only [List.all_cons, Bool.and_eq_true] at h
    have := isW_sum h.2
    have h1 := h.1
    simp only [okL, decide_eq_true_eq] at h1
    simp only [List.sum_cons]; omega
theorem raise_ev (l : List Int) (a : Int) (h : fineB l a = true) : ∃ r : List Int × Bool, Ev (fun k => spec_RaiseWord.f k l a) r ∧ Ev (fun k => impl_RaiseWord.f k l a) r ∧ (r.2 = true → isW r.1 = true ∧ r.1.sum < l.sum) := by
  have hf := h
  simp only [fineB, Bool.and_eq_true, decide_eq_true_eq] at hf
  have h9 := isW_length hf.1
  have hl : l.length ≤ 1048576 := by omega
  have hi := implFree_ev l a hl
  rw [if_pos h] at hi
  have hsp := specFree_ev l a h
  have hb := highM_bound l a
  have hv := highM_val l a
  generalize lowM l a = low at *
  generalize highM l a = high at *
  by_cases h0 : high.length = 0
  · refine ⟨([], false), ?_, ?_, by simp⟩
    · simp only [spec_RaiseWord.f]
      refine Ev.bind (specFine_ev l a hl) (Ev.ite_true h (Ev.bind hsp ?_))
      exact Ev.ite_true (by simp only [h0]; rfl) (Ev.now _)
    · simp only [impl_RaiseWord.f]
      exact Ev.bind hi (Ev.ite_true (by simp only [h0]; rfl) (Ev.now _))
  · have hg : rd high 0 = high[0]'(by omega) := rd_nat high 0 (by omega)
    have hm := hb _ (List.getElem_mem (l := high) (n := 0) (by omega))
    obtain ⟨j, hj, hj1, hj2⟩ := hv _ (List.getElem_mem (l := high) (n := 0) (by omega))
    refine ⟨(l.set (high[0]'(by omega)).toNat a, true), ?_, ?_, fun _ => ⟨isW_set hf.1 _ _ (by omega), ?_⟩⟩
    · simp only [spec_RaiseWord.f]
      refine Ev.bind (specFine_ev l a hl) (Ev.ite_true h (Ev.bind hsp ?_))
      simp only [Option.bind_some, List.nil_append, List.length_nil, hg]
      refine Ev.ite_false (by omega) (Ev.ite_true (by omega) (Ev.ite_true (by omega) (Ev.ite_true (by omega) (Ev.ite_true (by omega) (Ev.now _)))))
    · simp only [impl_RaiseWord.f, impl_with.f, clone_f l hl]
      refine Ev.bind hi ?_
      simp only [Option.bind_some, hg]
      refine Ev.ite_false (by omega) (Ev.ite_true (by omega) ?_)
      rw [if_pos (by omega), if_pos (by omega)]
      exact Ev.now _
    · rw [hj, Int.toNat_natCast]
      show (l.set j a).sum < l.sum
      rw [sum_set_int l j hj1 a, hj2]; omega

theorem highest_loop : ∀ (n : Nat) (l : List Int), isW l = true → l.sum < n → ∀ (d : Nat) (c : Int), 1 ≤ c → c + d = 9 →
    ∃ q, isW q = true ∧ Ev (fun k => spec_HighestOf.l0 k l c) (q, true) ∧ Ev (fun k => impl_HighestOf.l0 k l c) (q, true)
  | 0, l, hw, hs, _, _, _, _ => by
    have hw' := hw
    simp only [isW, Bool.and_eq_true] at hw'
    have := isW_sum hw'.2; omega
  | n + 1, l, hw, hs, 0, c, h1, h2 => by
    refine ⟨l, hw, Ev.step (fun k => by simp only [spec_HighestOf.l0]; rfl) (Ev.ite_false (by omega) (Ev.now _)), Ev.step (fun k => by simp only [impl_HighestOf.l0]; rfl) (Ev.ite_false (by omega) (Ev.now _))⟩
  | n + 1, l, hw, hs, d + 1, c, h1, h2 => by
    obtain ⟨r, e1, e2, hr⟩ := raise_ev l c (by simp [fineB, hw]; omega)
    by_cases h : r.2 = true
    · obtain ⟨hw', hs'⟩ := hr h
      obtain ⟨q, hq, q1, q2⟩ := highest_loop n r.1 hw' (by omega) 8 1 (by omega) (by omega)
      exact ⟨q, hq, Ev.step (fun k => by simp only [spec_HighestOf.l0]; rfl) (Ev.ite_true (by omega) (Ev.bind e1 (Ev.ite_true h q1))),
        Ev.step (fun k => by simp only [impl_HighestOf.l0]; rfl) (Ev.ite_true (by omega) (Ev.bind e2 (Ev.ite_true h q2)))⟩
    · obtain ⟨q, hq, q1, q2⟩ := highest_loop (n + 1) l hw hs d (c + 1) (by omega) (by omega)
      have hc : wrap64 (c + 1) = c + 1 := wr_in (by omega) (by omega)
      refine ⟨q, hq, Ev.step (fun k => by simp only [spec_HighestOf.l0]; rfl) (Ev.ite_true (by omega) (Ev.bind e1 (Ev.ite_false h ?_))),
        Ev.step (fun k => by simp only [impl_HighestOf.l0]; rfl) (Ev.ite_true (by omega) (Ev.bind e2 (Ev.ite_false h ?_)))⟩
      · rw [hc]; exact q1
      · rw [hc]; exact q2
theorem same (l : List Int) (hl : l.length ≤ 1048576) : ∃ r : List Int × Bool, r.1.length ≤ 1048576 ∧ Ev (fun k => spec_HighestOf.f k l) r ∧ Ev (fun k => impl_HighestOf.f k l) r := by
  by_cases h : isW l = true
  · obtain ⟨q, hq, q1, q2⟩ := highest_loop (l.sum.toNat + 1) l h (by omega) 8 1 (by omega) (by omega)
    have := isW_length hq
    refine ⟨(q, true), by show q.length ≤ _; omega, ?_, ?_⟩
    · simp only [spec_HighestOf.f, Option.bind_some, List.nil_append, List.length_nil]
      exact Ev.bind (specIsW_ev l hl) (Ev.ite_true h (Ev.ite_true (by omega) q1))
    · simp only [impl_HighestOf.f, clone_f l hl, Option.bind_some]
      exact Ev.bind (implIsW_ev l hl) (Ev.ite_true h q2)
  · refine ⟨([], false), by simp, ?_, ?_⟩
    · simp only [spec_HighestOf.f]
      exact Ev.bind (specIsW_ev l hl) (Ev.ite_false h (Ev.now _))
    · simp only [impl_HighestOf.f]
      exact Ev.bind (implIsW_ev l hl) (Ev.ite_false h (Ev.now _))
theorem FnExactHighestOf : laws_FnExactHighestOf.Pure := by
  intro l h1 h2 h3
  apply Ev.rounds
  simp only [laws_FnExactHighestOf.f]
  by_cases hl : l.length ≤ 1048576
  · obtain ⟨r, hr, hs, hi⟩ := same l hl
    have hm := markIntS_ev 1 l (by omega) (by omega) (by omega)
    have hm2 := markIntS_ev 1 r.1 (by omega) (by omega) (by omega)
    have hh := heldIntS_ev 1 r.1.length (by omega) (by omega) (by omega)
    have ht := toIntS_ev l hl
    have he := eqIntS_self l hl
    have he2 := eqIntS_self r.1 hr
    refine Ev.ite_false (by omega) ?_
    repeat (first
      | exact Ev.now _
      | refine Ev.bind ht ?_
      | refine Ev.bind hs ?_
      | refine Ev.bind hi ?_
      | refine Ev.bind he ?_
      | refine Ev.bind he2 ?_
      | refine Ev.bind hm ?_
      | refine Ev.bind hm2 ?_
      | refine Ev.bind hh ?_
      | refine Ev.ite_true (by first | rfl | (simp; done) | omega | (dsimp only; omega)) ?_
      | refine Ev.ite_false (by first | (simp; done) | omega | (dsimp only; omega)) ?_
      | refine Ev.step (fun k => by simp only [laws_FnExactHighestOf.j0]; rfl) ?_
      | refine Ev.step (fun k => by simp only [laws_FnExactHighestOf.j1]; rfl) ?_
      | refine Ev.step (fun k => by simp only [laws_FnExactHighestOf.j2]; rfl) ?_)
  · exact Ev.ite_true (by omega) (Ev.now _)

end Go.Proofs.Ytcbfdekjdmmilaa.Pure
