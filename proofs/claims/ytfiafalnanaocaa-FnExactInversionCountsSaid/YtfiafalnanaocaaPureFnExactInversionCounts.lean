/- The program's InversionCounts answers as the reference's for every list of at most 2^20 numbers, leaves its argument alone, and its result shares no memory with argument or later result. No condition. -/
import Derived.Test.YtfiafalnanaocaaPFnExactInversionCountsx5
import Derived.Test.YtfiafalnanaocaaWSized
set_option linter.unusedVariables false
set_option linter.unusedSimpArgs false
namespace Go.Proofs.Ytfiafalnanaocaa
open Go.ChangeShapes Go.WideShapes
theorem PrintWords.sized_ints {H : Type} {enc : TypeId × Value → H} {P : Program} {W : World} {base : Nat} {spare : Nat → Bool} {held : Bool} {t e : TypeId} {k : IntKind} {a : Option Addr} {len cap : Nat} {d : DataW H} {ps : List MemPlace} {ts : List TypeId} {ds : List (DataW H)} {j : Nat}
    (hsz : (DataW.weightsEach P ts ds).all (· ≤ reachBytes) = true) (ht : ts[j]? = some t) (hd : ds[j]? = some d) (hu : P.underlying t = some (.slice e)) (he : P.underlying e = some (.int k)) (hc : P.cellsOf e = 1) {B : Nat} (hB : P.bytesOf e = B)
    (h : DataW.Trod enc P W base spare held t (.slice a len cap) d ps) : len * B ≤ 140737488351232 :=
  Go.Proofs.YtfiafalnanaocaaW.PrintWords.sized_ints hsz ht hd hu he hc hB h
end Go.Proofs.Ytfiafalnanaocaa
namespace Go.Proofs.Ytfiafalnanaocaa.Pure
open Go.RowKit Go.Proofs.Ytfiafalnanaocaa.PFnExactInversionCounts Go.Proofs.YtfiafalnanaocaaW.PrintWords Go.Proofs.YtfiafalnanaocaaW.PrintLast

theorem wr_in {x : Int} (h : -9223372036854775808 ≤ x) (h' : x ≤ 9223372036854775807) : wrap64 x = x := by unfold wrap64; omega
theorem wr1 {i : Nat} (h : i < 4611686018427387904) : wrap64 ((i : Int) + 1) = ((i + 1 : Nat) : Int) := by unfold wrap64; omega
theorem Ev.ite_true {α : Type} {c : Prop} [Decidable c] {g f : Nat → Option α} {r : α} (hc : c) (h : Ev g r) : Ev (fun k => if c then g k else f k) r := by
  obtain ⟨K, h⟩ := h
  exact ⟨K, fun k hk => (if_pos hc).trans (h k hk)⟩
theorem Ev.ite_false {α : Type} {c : Prop} [Decidable c] {g f : Nat → Option α} {r : α} (hc : ¬ c) (h : Ev f r) : Ev (fun k => if c then g k else f k) r := by
  obtain ⟨K, h⟩ := h
  exact ⟨K, fun k hk => (if_neg hc).trans (h k hk)⟩
theorem rd_nat (l : List Int) (i : Nat) (h : i < l.length) : rd l (i : Int) = l[i] := by
  simp [rd, List.getD_eq_getElem?_getD, h]
/-- A statement that holds of all members of a list that can be run through. -/
theorem of_all {α : Type} {p : α → Bool} {l : List α} (h : l.all p = true) {x : α} (hx : x ∈ l) : p x = true := List.all_eq_true.mp h x hx
/-- Both answer, and alike. -/
def both {α : Type} [DecidableEq α] (a b : Option α) : Bool := match a, b with
  | some x, some y => decide (x = y)
  | _, _ => false
theorem both_ev {α : Type} [DecidableEq α] {f g : Nat → Option α} (hf : ∀ k, LeO (f k) (f (k + 1))) (hg : ∀ k, LeO (g k) (g (k + 1))) {n m : Nat} (h : both (f n) (g m) = true) : ∃ r, Ev f r ∧ Ev g r := by
  unfold both at h
  split at h
  · rename_i x y hx hy
    have e := of_decide_eq_true h
    subst e
    exact ⟨x, Ev.of hf hx, Ev.of hg hy⟩
  · cases h
theorem take_set_succ {α : Type} (y : List α) (i : Nat) (v : α) (h : i < y.length) : (y.set i v).take (i + 1) = y.take i ++ [v] := by
  rw [List.take_succ_eq_append_getElem (by simpa using h)]
  simp only [List.getElem_set_self]
  congr 1
  apply List.ext_getElem?
  intro j
  simp only [List.getElem?_take, List.getElem?_set]
  by_cases h : j < i
  · rw [if_pos h, if_neg (by omega), if_pos h]
  · rw [if_neg h, if_neg h]

theorem toIntS_l0 (l : List Int) (hl : l.length ≤ 1048576) (d : Nat) : ∀ (i : Nat) (y : List Int) (k : Nat), i + d = l.length → y.length = l.length → y.take i = l.take i → d < k → laws_toIntS.l0 k l y i = some l := by
  induction d with
  | zero =>
    intro i y k hi hy ht hk
    obtain ⟨k, rfl⟩ : ∃ m, k = m + 1 := ⟨k - 1, by omega⟩
    simp only [laws_toIntS.l0]
    rw [if_neg (by omega)]
    obtain rfl : i = l.length := by omega
    rw [List.take_of_length_le (by omega), List.take_of_length_le (by omega)] at ht
    rw [ht]
  | succ d ih =>
    intro i y k hi hy ht hk
    obtain ⟨k, rfl⟩ : ∃ m, k = m + 1 := ⟨k - 1, by omega⟩
    have hlt : i < l.length := by omega
    simp only [laws_toIntS.l0]
    rw [if_pos (by omega), if_pos (by omega), if_pos (by omega), wr1 (by omega), rd_nat l i hlt]
    refine ih (i + 1) _ k (by omega) (by simpa using hy) ?_ (by omega)
    rw [Int.toNat_natCast, take_set_succ y i _ (by omega), ht, List.take_succ_eq_append_getElem hlt]
theorem toIntS_ev (l : List Int) (hl : l.length ≤ 1048576) : Ev (fun k => laws_toIntS.f k l) l := by
  refine ⟨l.length + 1, fun k hk => ?_⟩
  show laws_toIntS.f k l = some l
  unfold laws_toIntS.f
  rw [if_pos (by omega), if_pos (by omega)]
  exact toIntS_l0 l hl l.length 0 _ k (by omega) (by simp) (by simp) (by omega)

theorem eqIntS_l0 (a b : List Int) (hl : a.length ≤ 1048576) (hab : a.length = b.length) (d : Nat) : ∀ (i k : Nat), i + d = a.length → a.take i = b.take i → d < k → laws_eqIntS.l0 k a b i = some (decide (a = b)) := by
  induction d with
  | zero =>
    intro i k hi ht hk
    obtain ⟨k, rfl⟩ : ∃ m, k = m + 1 := ⟨k - 1, by omega⟩
    simp only [laws_eqIntS.l0]
    rw [if_neg (by omega)]
    obtain rfl : i = a.length := by omega
    rw [List.take_of_length_le (by omega), List.take_of_length_le (by omega)] at ht
    rw [decide_eq_true ht]
  | succ d ih =>
    intro i k hi ht hk
    obtain ⟨k, rfl⟩ : ∃ m, k = m + 1 := ⟨k - 1, by omega⟩
    have hlt : i < a.length := by omega
    have hlt' : i < b.length := by omega
    simp only [laws_eqIntS.l0]
    rw [if_pos (by omega), if_pos (by omega), if_pos (by omega), wr1 (by omega), rd_nat a i hlt, rd_nat b i hlt']
    by_cases h : a[i] = b[i]
    · rw [if_pos h]
      refine ih (i + 1) k (by omega) ?_ (by omega)
      rw [List.take_succ_eq_append_getElem hlt, List.take_succ_eq_append_getElem hlt', ht, h]
    · rw [if_neg h, decide_eq_false]
      intro e
      subst e
      exact h rfl
theorem eqIntS_ev (a b : List Int) (hl : a.length ≤ 1048576) : Ev (fun k => laws_eqIntS.f k a b) (decide (a = b)) := by
  refine ⟨a.length + 1, fun k hk => ?_⟩
  show laws_eqIntS.f k a b = _
  unfold laws_eqIntS.f
  by_cases h : (a.length : Int) = (b.length : Int)
  · rw [if_pos h]
    exact eqIntS_l0 a b hl (by omega) a.length 0 k (by omega) (by simp) (by omega)
  · rw [if_neg h, decide_eq_false]
    intro e
    subst e
    exact h rfl
theorem eqIntS_self (a : List Int) (hl : a.length ≤ 1048576) : Ev (fun k => laws_eqIntS.f k a a) true := by
  have h := eqIntS_ev a a hl
  rwa [decide_eq_true rfl] at h

def markL (a : Int) (n : Nat) : List Int := (List.range n).map (fun (j : Nat) => a + (j : Int))
theorem markL_length (a : Int) (n : Nat) : (markL a n).length = n := by simp [markL]
theorem markL_get (a : Int) (n i : Nat) (h : i < (markL a n).length) : (markL a n)[i] = a + i := by simp [markL]
theorem markIntS_l0 (a : Int) (n : Nat) (h0 : 0 ≤ a) (h1 : a ≤ 4611686018427387904) (hn : n ≤ 4611686018427387) (d : Nat) : ∀ (i : Nat) (y : List Int) (k : Nat), i + d = n → y.length = n → y.take i = markL a i → d < k →
    laws_markIntS.l0 k y (a + i) i = some (a + n, markL a n) := by
  induction d with
  | zero =>
    intro i y k hi hy ht hk
    obtain ⟨k, rfl⟩ : ∃ m, k = m + 1 := ⟨k - 1, by omega⟩
    simp only [laws_markIntS.l0]
    rw [if_neg (by omega)]
    obtain rfl : i = n := by omega
    rw [List.take_of_length_le (by omega)] at ht
    rw [ht]
  | succ d ih =>
    intro i y k hi hy ht hk
    obtain ⟨k, rfl⟩ : ∃ m, k = m + 1 := ⟨k - 1, by omega⟩
    simp only [laws_markIntS.l0]
    rw [if_pos (by omega), if_pos (by omega), wr1 (by omega), wr_in (x := a + i + 1) (by omega) (by omega)]
    have e : a + (i : Int) + 1 = a + ((i + 1 : Nat) : Int) := by omega
    rw [e]
    refine ih (i + 1) _ k (by omega) (by simpa using hy) ?_ (by omega)
    rw [Int.toNat_natCast, take_set_succ y i _ (by omega), ht]
    simp [markL, List.range_succ]
theorem markIntS_ev (a : Int) (l : List Int) (h0 : 0 ≤ a) (h1 : a ≤ 4611686018427387904) (hn : l.length ≤ 4611686018427387) : Ev (fun k => laws_markIntS.f k l a) (a + l.length, markL a l.length) := by
  refine ⟨l.length + 1, fun k hk => ?_⟩
  show laws_markIntS.f k l a = _
  unfold laws_markIntS.f
  have h := markIntS_l0 a l.length h0 h1 hn l.length 0 l k (by omega) rfl (by simp [markL]) (by omega)
  simpa using h
theorem heldIntS_l0 (a : Int) (n : Nat) (h0 : 0 ≤ a) (h1 : a ≤ 4611686018427387904) (hn : n ≤ 4611686018427387) (d : Nat) : ∀ (i k : Nat), i + d = n → d < k →
    laws_heldIntS.l0 k (markL a n) (a + i) i = some (a + n) := by
  induction d with
  | zero =>
    intro i k hi hk
    obtain ⟨k, rfl⟩ : ∃ m, k = m + 1 := ⟨k - 1, by omega⟩
    simp only [laws_heldIntS.l0]
    rw [if_neg (by rw [markL_length]; omega)]
    obtain rfl : i = n := by omega
    rfl
  | succ d ih =>
    intro i k hi hk
    obtain ⟨k, rfl⟩ : ∃ m, k = m + 1 := ⟨k - 1, by omega⟩
    simp only [laws_heldIntS.l0]
    have hlt : i < (markL a n).length := by rw [markL_length]; omega
    rw [if_pos (by rw [markL_length]; omega), if_pos (by omega), rd_nat _ i hlt, markL_get, if_pos rfl, wr1 (by omega), wr_in (x := a + i + 1) (by omega) (by omega)]
    have e : a + (i : Int) + 1 = a + ((i + 1 : Nat) : Int) := by omega
    rw [e]
    exact ih (i + 1) k (by omega) (by omega)
theorem heldIntS_ev (a : Int) (n : Nat) (h0 : 0 ≤ a) (h1 : a ≤ 4611686018427387904) (hn : n ≤ 4611686018427387) : Ev (fun k => laws_heldIntS.f k (markL a n) a) (a + n) := by
  refine ⟨n + 1, fun k hk => ?_⟩
  show laws_heldIntS.f k (markL a n) a = _
  unfold laws_heldIntS.f
  have h := heldIntS_l0 a n h0 h1 hn n 0 k (by omega) (by omega)
  simpa using h

/-! Words: a plain test. -/
def okL (x : Int) : Bool := decide (1 ≤ x ∧ x ≤ 9)
def isW (l : List Int) : Bool := decide (l.length ≤ 9) && l.all okL
theorem isW_length {l : List Int} (h : isW l = true) : l.length ≤ 9 := by
  simp only [isW, Bool.and_eq_true, decide_eq_true_eq] at h; exact h.1
theorem isW_mem {l : List Int} (h : isW l = true) {x : Int} (hx : x ∈ l) : 1 ≤ x ∧ x ≤ 9 := by
  simp only [isW, Bool.and_eq_true, List.all_eq_true] at h; simpa [okL] using h.2 x hx
theorem isW_get {l : List Int} (h : isW l = true) (i : Nat) (hi : i < l.length) : 1 ≤ l[i] ∧ l[i] ≤ 9 := isW_mem h (List.getElem_mem hi)
theorem dropc {α : Type} (l : List α) (i : Nat) (h : i < l.length) : l.drop i = l[i] :: l.drop (i + 1) := List.drop_eq_getElem_cons h

theorem l1In_f (x a b : Int) : spec_l1In.f x a b = some (decide (a ≤ x ∧ x ≤ b)) := by
  unfold spec_l1In.f
  by_cases h : x ≥ a
  · rw [if_pos h]; congr 1; by_cases h2 : x ≤ b
    · rw [decide_eq_true h2, decide_eq_true ⟨h, h2⟩]
    · rw [decide_eq_false h2, decide_eq_false (by omega)]
  · rw [if_neg h, decide_eq_false (by omega)]

theorem specIsW_l0 (l : List Int) (hl : l.length ≤ 1048576) (d : Nat) : ∀ (i k : Nat), i + d = l.length → d < k → spec_IsWord.l0 k l i = some (decide (l.length ≤ 9) && (l.drop i).all okL) := by
  induction d with
  | zero =>
    intro i k hi hk
    obtain ⟨k, rfl⟩ : ∃ m, k = m + 1 := ⟨k - 1, by omega⟩
    simp only [spec_IsWord.l0]
    rw [if_neg (by omega), List.drop_of_length_le (by omega)]
    simp
    omega
  | succ d ih =>
    intro i k hi hk
    obtain ⟨k, rfl⟩ : ∃ m, k = m + 1 := ⟨k - 1, by omega⟩
    have hlt : i < l.length := by omega
    simp only [spec_IsWord.l0]
    rw [if_pos (by omega), if_pos (by omega), rd_nat l i hlt, l1In_f, dropc l i hlt]
    simp only [Option.bind_some, List.all_cons]
    by_cases h : 1 ≤ l[i] ∧ l[i] ≤ 9
    · rw [if_pos (decide_eq_true h), wr1 (by omega), ih (i + 1) k (by omega) (by omega)]
      simp [okL, h]
    · rw [if_neg (by simpa using h)]
      have : okL l[i] = false := decide_eq_false h
      simp [this]
theorem specIsW_ev (l : List Int) (hl : l.length ≤ 1048576) : Ev (fun k => spec_IsWord.f k l) (isW l) := by
  refine ⟨l.length + 1, fun k hk => ?_⟩
  have h := specIsW_l0 l hl l.length 0 k (by omega) (by omega)
  simpa [spec_IsWord.f, isW] using h

theorem within_f (x a b : Int) : impl_within.f x a b = some (decide (a ≤ x ∧ x ≤ b)) := by
  unfold impl_within.f
  by_cases h : a ≤ x
  · rw [if_pos h]; congr 1; by_cases h2 : x ≤ b
    · rw [decide_eq_true h2, decide_eq_true ⟨h, h2⟩]
    · rw [decide_eq_false h2, decide_eq_false (by omega)]
  · rw [if_neg h, decide_eq_false (by omega)]

theorem isWord1_f (x : Int) : impl_IsWord_1.f x = some (!okL x) := by
  unfold impl_IsWord_1.f
  rw [within_f]
  rfl
theorem implIsW_l0 (l : List Int) (hl : l.length ≤ 1048576) (d : Nat) : ∀ (i k : Nat), i + d = l.length → d < k → ∃ r, slices_IndexFunc_int_int__impl_IsWord_1.l0 k l l.length i = some r ∧ decide (r ≥ 0) = !((l.drop i).all okL) := by
  induction d with
  | zero =>
    intro i k hi hk
    obtain ⟨k, rfl⟩ : ∃ m, k = m + 1 := ⟨k - 1, by omega⟩
    simp only [slices_IndexFunc_int_int__impl_IsWord_1.l0]
    rw [if_neg (by omega), List.drop_of_length_le (by omega)]
    exact ⟨_, rfl, by simp⟩
  | succ d ih =>
    intro i k hi hk
    obtain ⟨k, rfl⟩ : ∃ m, k = m + 1 := ⟨k - 1, by omega⟩
    have hlt : i < l.length := by omega
    simp only [slices_IndexFunc_int_int__impl_IsWord_1.l0]
    rw [if_pos (by omega), if_pos (by omega), if_pos (by omega), rd_nat l i hlt, isWord1_f, dropc l i hlt]
    simp only [Option.bind_some, List.all_cons]
    cases h : okL l[i]
    · rw [if_pos (by rfl)]
      exact ⟨_, rfl, by simp⟩
    · rw [if_neg (by simp), wr1 (by omega)]
      obtain ⟨r, h1, h2⟩ := ih (i + 1) k (by omega) (by omega)
      exact ⟨r, h1, by simpa using h2⟩
theorem implIsW_ev (l : List Int) (hl : l.length ≤ 1048576) : Ev (fun k => impl_IsWord.f k l) (isW l) := by
  refine ⟨l.length + 1, fun k hk => ?_⟩
  show impl_IsWord.f k l = _
  obtain ⟨r, h, h2⟩ := implIsW_l0 l hl l.length 0 k (by omega) (by omega)
  have h' : slices_IndexFunc_int_int__impl_IsWord_1.l0 k l l.length 0 = some r := h
  unfold impl_IsWord.f slices_ContainsFunc_int_int__impl_IsWord_1.f slices_IndexFunc_int_int__impl_IsWord_1.f
  simp only [h', Option.bind_some, h2]
  by_cases h9 : (l.length : Int) ≤ 9
  · rw [if_pos h9]; simp [isW]; omega
  · rw [if_neg h9]; simp [isW]; omega

/-! Weights: a plain test; their totals. -/
def okZ (x : Int) : Bool := decide (0 ≤ x ∧ x ≤ 9)
def isWt (l : List Int) : Bool := decide (l.length ≤ 9) && l.all okZ
theorem isWt_length {l : List Int} (h : isWt l = true) : l.length ≤ 9 := by
  simp only [isWt, Bool.and_eq_true, decide_eq_true_eq] at h; exact h.1
theorem isWt_mem {l : List Int} (h : isWt l = true) {x : Int} (hx : x ∈ l) : 0 ≤ x ∧ x ≤ 9 := by
  simp only [isWt, Bool.and_eq_true, List.all_eq_true] at h; simpa [okZ] using h.2 x hx
theorem isWt_get {l : List Int} (h : isWt l = true) (i : Nat) (hi : i < l.length) : 0 ≤ l[i] ∧ l[i] ≤ 9 := isWt_mem h (List.getElem_mem hi)
theorem isWt_set {l : List Int} (h : isWt l = true) (i : Nat) (v : Int) (hv : 0 ≤ v ∧ v ≤ 9) : isWt (l.set i v) = true := by
  simp only [isWt, Bool.and_eq_true, decide_eq_true_eq, List.length_set, List.all_eq_true] at h ⊢
  refine ⟨h.1, fun x hx => ?_⟩
  rcases List.mem_or_eq_of_mem_set hx with hx | rfl
  · exact h.2 x hx
  · exact decide_eq_true hv
theorem specWt_l0 (l : List Int) (hl : l.length ≤ 1048576) (d : Nat) : ∀ (i k : Nat), i + d = l.length → d < k → spec_l7Weight.l0 k l i = some (decide (l.length ≤ 9) && (l.drop i).all okZ) := by
  induction d with
  | zero =>
    intro i k hi hk
    obtain ⟨k, rfl⟩ : ∃ m, k = m + 1 := ⟨k - 1, by omega⟩
    simp only [spec_l7Weight.l0]
    rw [if_neg (by omega), List.drop_of_length_le (by omega)]
    simp
    omega
  | succ d ih =>
    intro i k hi hk
    obtain ⟨k, rfl⟩ : ∃ m, k = m + 1 := ⟨k - 1, by omega⟩
    have hlt : i < l.length := by omega
    simp only [spec_l7Weight.l0]
    rw [if_pos (by omega), if_pos (by omega), rd_nat l i hlt, l1In_f, dropc l i hlt]
    simp only [Option.bind_some, List.all_cons]
    by_cases h : 0 ≤ l[i] ∧ l[i] ≤ 9
    · rw [if_pos (decide_eq_true h), wr1 (by omega), ih (i + 1) k (by omega) (by omega)]
      simp [okZ, h]
    · rw [if_neg (by simpa using h)]
      have : okZ l[i] = false := decide_eq_false h
      simp [this]
theorem specWt_ev (l : List Int) (hl : l.length ≤ 1048576) : Ev (fun k => spec_l7Weight.f k l) (isWt l) := by
  refine ⟨l.length + 1, fun k hk => ?_⟩
  have h := specWt_l0 l hl l.length 0 k (by omega) (by omega)
  simpa [spec_l7Weight.f, isWt] using h
theorem isWeight1_f (x : Int) : impl_isWeight_1.f x = some (!okZ x) := by
  unfold impl_isWeight_1.f
  rw [within_f]
  rfl
theorem implWt_l0 (l : List Int) (hl : l.length ≤ 1048576) (d : Nat) : ∀ (i k : Nat), i + d = l.length → d < k → ∃ r, slices_IndexFunc_int_int__impl_isWeight_1.l0 k l l.length i = some r ∧ decide (r ≥ 0) = !((l.drop i).all okZ) := by
  induction d with
  | zero =>
    intro i k hi hk
    obtain ⟨k, rfl⟩ : ∃ m, k = m + 1 := ⟨k - 1, by omega⟩
    simp only [slices_IndexFunc_int_int__impl_isWeight_1.l0]
    rw [if_neg (by omega), List.drop_of_length_le (by omega)]
    exact ⟨_, rfl, by simp⟩
  | succ d ih =>
    intro i k hi hk
    obtain ⟨k, rfl⟩ : ∃ m, k = m + 1 := ⟨k - 1, by omega⟩
    have hlt : i < l.length := by omega
    simp only [slices_IndexFunc_int_int__impl_isWeight_1.l0]
    rw [if_pos (by omega), if_pos (by omega), if_pos (by omega), rd_nat l i hlt, isWeight1_f, dropc l i hlt]
    simp only [Option.bind_some, List.all_cons]
    cases h : okZ l[i]
    · rw [if_pos (by rfl)]
      exact ⟨_, rfl, by simp⟩
    · rw [if_neg (by simp), wr1 (by omega)]
      obtain ⟨r, h1, h2⟩ := ih (i + 1) k (by omega) (by omega)
      exact ⟨r, h1, by simpa using h2⟩
theorem implWt_ev (l : List Int) (hl : l.length ≤ 1048576) : Ev (fun k => impl_isWeight.f k l) (isWt l) := by
  refine ⟨l.length + 1, fun k hk => ?_⟩
  show impl_isWeight.f k l = _
  obtain ⟨r, h, h2⟩ := implWt_l0 l hl l.length 0 k (by omega) (by omega)
  have h' : slices_IndexFunc_int_int__impl_isWeight_1.l0 k l l.length 0 = some r := h
  unfold impl_isWeight.f slices_ContainsFunc_int_int__impl_isWeight_1.f slices_IndexFunc_int_int__impl_isWeight_1.f
  simp only [h', Option.bind_some, h2]
  by_cases h9 : (l.length : Int) ≤ 9
  · rw [if_pos h9]; simp [isWt]; omega
  · rw [if_neg h9]; simp [isWt]; omega
def tot : List Int → Int
  | [] => 0
  | x :: xs => x + tot xs
theorem tot_set (l : List Int) : ∀ (i : Nat) (h : i < l.length) (v : Int), tot (l.set i v) = tot l - l[i] + v := by
  induction l with
  | nil => intro i h; simp at h
  | cons x xs ih =>
    intro i h v
    cases i with
    | zero => simp [tot]; omega
    | succ i =>
      have := ih i (by simpa using h) v
      simp only [List.set_cons_succ, tot, List.getElem_cons_succ, this]
      omega
theorem tot_nonneg (l : List Int) (h : ∀ x ∈ l, 0 ≤ x) : 0 ≤ tot l := by
  induction l with
  | nil => simp [tot]
  | cons x xs ih =>
    have h1 := h x (by simp)
    have h2 := ih (fun y hy => h y (by simp [hy]))
    simp only [tot]
    omega
theorem tot_get (l : List Int) (h : ∀ x ∈ l, 0 ≤ x) : ∀ (i : Nat) (hi : i < l.length), l[i] ≤ tot l := by
  induction l with
  | nil => intro i hi; simp at hi
  | cons x xs ih =>
    intro i hi
    have h1 := h x (by simp)
    have h3 := tot_nonneg xs (fun y hy => h y (by simp [hy]))
    cases i with
    | zero => simp only [tot, List.getElem_cons_zero]; omega
    | succ i =>
      have h2 := ih (fun y hy => h y (by simp [hy])) i (by simpa using hi)
      simp only [tot, List.getElem_cons_succ]
      omega
theorem tot_some (l : List Int) (h : 0 < tot l) : ∃ (i : Nat) (hi : i < l.length), 0 < l[i] := by
  induction l with
  | nil => simp [tot] at h
  | cons x xs ih =>
    by_cases hx : 0 < x
    · exact ⟨0, by simp, hx⟩
    · obtain ⟨i, hi, h2⟩ := ih (by simp only [tot] at h; omega)
      exact ⟨i + 1, by simpa using hi, by simpa using h2⟩
theorem tot_le (l : List Int) (h : ∀ x ∈ l, x ≤ 9) : tot l ≤ 9 * (l.length : Int) := by
  induction l with
  | nil => simp [tot]
  | cons x xs ih =>
    have h1 := h x (by simp)
    have h2 := ih (fun y hy => h y (by simp [hy]))
    simp only [tot, List.length_cons]
    omega
theorem total_l0 (l : List Int) (hl : isWt l = true) (d : Nat) : ∀ (i k : Nat) (s : Int), i + d = l.length → d < k → 0 ≤ s → s ≤ 9 * i → spec_l12Total.l0 k l s i = some (s + tot (l.drop i)) ∧ impl_sum.l0 k s l l.length i = some (s + tot (l.drop i)) := by
  have h9 := isWt_length hl
  induction d with
  | zero =>
    intro i k s hi hk h0 h1
    obtain ⟨k, rfl⟩ : ∃ m, k = m + 1 := ⟨k - 1, by omega⟩
    simp only [spec_l12Total.l0, impl_sum.l0]
    rw [if_neg (by omega), if_neg (by omega), List.drop_of_length_le (by omega)]
    simp [tot]
  | succ d ih =>
    intro i k s hi hk h0 h1
    obtain ⟨k, rfl⟩ : ∃ m, k = m + 1 := ⟨k - 1, by omega⟩
    have hlt : i < l.length := by omega
    have hg := isWt_get hl i hlt
    simp only [spec_l12Total.l0, impl_sum.l0]
    rw [if_pos (by omega), if_pos (by omega), if_pos (by omega), if_pos (by omega), if_pos (by omega), rd_nat l i hlt, wr1 (by omega), wr_in (x := s + l[i]) (by omega) (by omega), dropc l i hlt]
    have := ih (i + 1) k (s + l[i]) (by omega) (by omega) (by omega) (by omega)
    simp only [tot]
    rw [this.1, this.2]
    constructor <;> (congr 1; omega)
theorem specTot_ev (l : List Int) (hl : isWt l = true) : Ev (fun k => spec_l12Total.f k l) (tot l) := by
  refine ⟨l.length + 1, fun k hk => ?_⟩
  have h := (total_l0 l hl l.length 0 k 0 (by omega) (by omega) (by omega) (by omega)).1
  simpa [spec_l12Total.f] using h
theorem implTot_ev (l : List Int) (hl : isWt l = true) : Ev (fun k => impl_sum.f k l) (tot l) := by
  refine ⟨l.length + 1, fun k hk => ?_⟩
  have h := (total_l0 l hl l.length 0 k 0 (by omega) (by omega) (by omega) (by omega)).2
  simpa [impl_sum.f] using h
theorem count_same : ∀ (k : Nat) (x : List Int) (n : Int), spec_l25Count.l0 k x n = impl_count.l0 k x n
  | 0, _, _ => rfl
  | k + 1, x, n => by
    simp only [spec_l25Count.l0, impl_count.l0, count_same k]
theorem count_ev (d : Nat) : ∀ (out : List Int) (s : Int), 0 ≤ s → s ≤ 1000 → out.length ≤ 1001 → s + 1 - (out.length : Int) ≤ d → ∃ r : List Int, r.length ≤ 1001 ∧ Ev (fun k => impl_count.l0 k out s) r := by
  induction d with
  | zero =>
    intro out s h0 h1 h2 h3
    refine ⟨out.set s.toNat (wrap64 (rd out s + 1)), by simpa using h2, ?_⟩
    refine Ev.step (fun k => by rw [impl_count.l0]) ?_
    exact Ev.ite_false (by omega) (Ev.ite_true (by omega) (Ev.ite_true (by omega) (Ev.now _)))
  | succ d ih =>
    intro out s h0 h1 h2 h3
    by_cases h : (out.length : Int) ≤ s
    · obtain ⟨r, hr, he⟩ := ih (out ++ [0]) s h0 h1 (by rw [List.length_append, List.length_singleton]; omega) (by rw [List.length_append, List.length_singleton]; omega)
      refine ⟨r, hr, ?_⟩
      refine Ev.step (fun k => by rw [impl_count.l0]) ?_
      exact Ev.ite_true h (Ev.ite_true (by omega) he)
    · refine ⟨out.set s.toNat (wrap64 (rd out s + 1)), by simpa using h2, ?_⟩
      refine Ev.step (fun k => by rw [impl_count.l0]) ?_
      exact Ev.ite_false (by omega) (Ev.ite_true (by omega) (Ev.ite_true (by omega) (Ev.now _)))

theorem inv_inner (w : List Int) (hw : isW w = true) (i : Nat) (hlt : i < w.length)
    (next : ∀ s : Int, 0 ≤ s → s ≤ 10 * (i + 1 : Nat) → ∃ r : Int, 0 ≤ r ∧ r ≤ 1000 ∧ Ev (fun k => spec_InversionCount.l0 k w s ((i + 1 : Nat) : Int)) r ∧ Ev (fun k => impl_InversionCount.l0 k w s w.length ((i + 1 : Nat) : Int)) r) (d : Nat) :
    ∀ (j : Nat) (s : Int), j + d = i → 0 ≤ s → s ≤ 10 * i + j → ∃ r : Int, 0 ≤ r ∧ r ≤ 1000 ∧ Ev (fun k => spec_InversionCount.l1 k w s i j) r ∧ Ev (fun k => impl_InversionCount.l1 k w s i w.length i i j) r := by
  have h9 := isW_length hw
  induction d with
  | zero =>
    intro j s hj h0 h1
    obtain ⟨r, hr0, hr1, hs, hi⟩ := next s h0 (by omega)
    refine ⟨r, hr0, hr1, ?_, ?_⟩
    · refine Ev.step (fun k => by rw [spec_InversionCount.l1]) (Ev.ite_false (by omega) ?_)
      rw [wr1 (by omega)]
      exact hs
    · refine Ev.step (fun k => by rw [impl_InversionCount.l1]) (Ev.ite_false (by omega) ?_)
      rw [wr1 (by omega)]
      exact hi
  | succ d ih =>
    intro j s hj h0 h1
    have hjl : j < w.length := by omega
    by_cases h : w[j] > w[i]
    · obtain ⟨r, hr0, hr1, hs, hi⟩ := ih (j + 1) (s + 1) (by omega) (by omega) (by omega)
      refine ⟨r, hr0, hr1, ?_, ?_⟩
      · refine Ev.step (fun k => by rw [spec_InversionCount.l1]) (Ev.ite_true (by omega) (Ev.ite_true (by omega) (Ev.ite_true (by omega) (Ev.ite_true (by omega) (Ev.ite_true (by omega) ?_)))))
        rw [rd_nat w j hjl, rd_nat w i hlt, decide_eq_true h]
        refine Ev.bind (Ev.now _) ?_
        rw [wr1 (by omega)]
        exact (wr_in (x := s + 1) (by omega) (by omega)).symm ▸ hs
      · refine Ev.step (fun k => by rw [impl_InversionCount.l1]) (Ev.ite_true (by omega) (Ev.ite_true (by omega) (Ev.ite_true (by omega) (Ev.ite_true (by omega) (Ev.ite_true (by omega) ?_)))))
        rw [rd_nat w j hjl, rd_nat w i hlt]
        refine Ev.ite_true h ?_
        rw [wr1 (by omega), wr_in (x := s + 1) (by omega) (by omega)]
        exact hi
    · obtain ⟨r, hr0, hr1, hs, hi⟩ := ih (j + 1) s (by omega) (by omega) (by omega)
      refine ⟨r, hr0, hr1, ?_, ?_⟩
      · refine Ev.step (fun k => by rw [spec_InversionCount.l1]) (Ev.ite_true (by omega) (Ev.ite_true (by omega) (Ev.ite_true (by omega) (Ev.ite_true (by omega) (Ev.ite_true (by omega) ?_)))))
        rw [rd_nat w j hjl, rd_nat w i hlt, decide_eq_false h]
        refine Ev.bind (Ev.now _) ?_
        rw [wr1 (by omega)]
        have e : wrap64 (s + 0) = s := by rw [wr_in (by omega) (by omega)]; omega
        exact e.symm ▸ hs
      · refine Ev.step (fun k => by rw [impl_InversionCount.l1]) (Ev.ite_true (by omega) (Ev.ite_true (by omega) (Ev.ite_true (by omega) (Ev.ite_true (by omega) (Ev.ite_true (by omega) ?_)))))
        rw [rd_nat w j hjl, rd_nat w i hlt]
        refine Ev.ite_false h ?_
        rw [wr1 (by omega)]
        exact hi
theorem inv_outer (w : List Int) (hw : isW w = true) (d : Nat) : ∀ (i : Nat) (s : Int), i + d = w.length → 0 ≤ s → s ≤ 10 * i → ∃ r : Int, 0 ≤ r ∧ r ≤ 1000 ∧ Ev (fun k => spec_InversionCount.l0 k w s i) r ∧ Ev (fun k => impl_InversionCount.l0 k w s w.length i) r := by
  have h9 := isW_length hw
  induction d with
  | zero =>
    intro i s hi h0 h1
    refine ⟨s, h0, by omega, ?_, ?_⟩
    · exact Ev.step (fun k => by rw [spec_InversionCount.l0]) (Ev.ite_false (by omega) (Ev.now _))
    · exact Ev.step (fun k => by rw [impl_InversionCount.l0]) (Ev.ite_false (by omega) (Ev.now _))
  | succ d ih =>
    intro i s hi h0 h1
    have hlt : i < w.length := by omega
    obtain ⟨r, hr0, hr1, hs, hi2⟩ := inv_inner w hw i hlt (fun s h0 h1 => ih (i + 1) s (by omega) h0 (by omega)) i 0 s (by omega) h0 (by omega)
    refine ⟨r, hr0, hr1, ?_, ?_⟩
    · exact Ev.step (fun k => by rw [spec_InversionCount.l0]; rfl) (Ev.ite_true (by omega) hs)
    · exact Ev.step (fun k => by rw [impl_InversionCount.l0]; rfl) (Ev.ite_true (by omega) hi2)
theorem stat_ev (w : List Int) (hw : isW w = true) (h7 : w.length ≤ 7) : ∃ s : Int, 0 ≤ s ∧ s ≤ 1000 ∧ Ev (fun k => spec_InversionCount.f k w) s ∧ Ev (fun k => impl_InversionCount.f k w) s := by
  simp only [spec_InversionCount.f, impl_InversionCount.f]
  by_cases h0 : w.length = 0
  · refine ⟨0, by omega, by omega, ?_, ?_⟩
    · exact Ev.bind (specIsW_ev w (by omega)) (Ev.ite_true hw (Ev.step (fun k => by rw [spec_InversionCount.l0]) (Ev.ite_false (by omega) (Ev.now _))))
    · exact Ev.bind (implIsW_ev w (by omega)) (Ev.ite_true hw (Ev.step (fun k => by rw [impl_InversionCount.l0]) (Ev.ite_false (by omega) (Ev.now _))))
  · obtain ⟨r, hr0, hr1, hs, hi⟩ := inv_outer w hw (w.length - 1) 1 0 (by omega) (by omega) (by omega)
    refine ⟨r, hr0, hr1, ?_, ?_⟩
    · exact Ev.bind (specIsW_ev w (by omega)) (Ev.ite_true hw hs)
    · refine Ev.bind (implIsW_ev w (by omega)) (Ev.ite_true hw ?_)
      refine Ev.step (fun k => by rw [impl_InversionCount.l0]) (Ev.ite_true (by omega) ?_)
      exact Ev.step (fun k => by rw [impl_InversionCount.l1, if_neg (by omega), show wrap64 (0 + 1) = ((1 : Nat) : Int) by unfold wrap64; omega]) hi
theorem end_ev (w : List Int) (hw : isW w = true) (h7 : w.length ≤ 7) (out l : List Int) (ho : out.length ≤ 1001) : ∃ r : List Int, r.length ≤ 1001 ∧ Ev (fun k => (spec_InversionCount.f k w).bind fun t => ((spec_l25Count.f k out t).bind fun t2 => (some (t2, l)))) (r, l) ∧ Ev (fun k => impl_wordCounts_1__impl_InversionCount.f k out w) r := by
  obtain ⟨s, h0, h1, hs, hi⟩ := stat_ev w hw h7
  obtain ⟨r, hr, he⟩ := count_ev 1001 out s h0 h1 ho (by omega)
  have he2 : Ev (fun k => spec_l25Count.f k out s) r := Ev.congr (fun k => by simp only [spec_l25Count.f]; exact count_same k out s) he
  have he3 : Ev (fun k => impl_count.f k out s) r := he
  refine ⟨r, hr, Ev.bind hs (Ev.bind he2 (Ev.now _)), ?_⟩
  exact Ev.bind hi he3
theorem zero_loop (l w out : List Int) (r : List Int) (hl : isWt l = true) (ht : tot l = 0) (he : Ev (fun k => (spec_InversionCount.f k w).bind fun t => ((spec_l25Count.f k out t).bind fun t2 => (some (t2, l)))) (r, l)) (d : Nat) : ∀ (i : Nat), i + d = l.length → Ev (fun k => spec_l25Words.l0 k l w false out false i) (r, l) := by
  have h9 := isWt_length hl
  induction d with
  | zero =>
    intro i hi
    refine Ev.step (fun k => by rw [spec_l25Words.l0]) ?_
    refine Ev.ite_false (by omega) (Ev.ite_false (by simp) ?_)
    exact Ev.ite_false (by simp) he
  | succ d ih =>
    intro i hi
    have hlt : i < l.length := by omega
    have hz : l[i] = 0 := by
      have h1 := tot_get l (fun x hx => (isWt_mem hl hx).1) i hlt
      have h2 := isWt_get hl i hlt
      omega
    refine Ev.step (fun k => by rw [spec_l25Words.l0]) ?_
    refine Ev.ite_true (by omega) (Ev.ite_true (by omega) (Ev.ite_false (by rw [rd_nat l i hlt, hz]; decide) ?_))
    rw [wr1 (by omega)]
    exact ih (i + 1) (by omega)
theorem isW_snoc {w : List Int} (hw : isW w = true) (x : Int) (hx : 1 ≤ x ∧ x ≤ 9) (h : w.length ≤ 8) : isW (w ++ [x]) = true := by
  simp only [isW, Bool.and_eq_true, decide_eq_true_eq, List.all_append, List.length_append, List.length_singleton, List.all_cons, List.all_nil, Bool.and_true] at hw ⊢
  exact ⟨by omega, hw.2, decide_eq_true hx⟩
def Alike (n : Nat) : Prop := ∀ (l w out : List Int), isWt l = true → tot l = n → isW w = true → w.length + n ≤ 7 → out.length ≤ 1001 → ∃ r : List Int, r.length ≤ 1001 ∧ Ev (fun k => spec_l25Words.f k l w false out) (r, l) ∧ Ev (fun k => impl_eachWord__impl_InversionCount.f k l w out) (r, l)
theorem loop_alike (n : Nat) (ih0 : Alike n) (l w : List Int) (hl : isWt l = true) (ht : tot l = (n + 1 : Nat)) (hw : isW w = true) (h7 : w.length + (n + 1) ≤ 7) (d : Nat) : ∀ (i : Nat) (out : List Int) (fl : Bool), i + d = l.length → out.length ≤ 1001 → (fl = true ∨ ∃ (j : Nat) (h : j < l.length), i ≤ j ∧ 0 < l[j]) →
    ∃ r : List Int, r.length ≤ 1001 ∧ Ev (fun k => spec_l25Words.l0 k l w false out fl i) (r, l) ∧ Ev (fun k => impl_eachWord__impl_InversionCount.l0 k (l.length : Int) l w out i) (r, l) := by
  have h9 := isWt_length hl
  induction d with
  | zero =>
    intro i out fl hi ho hf
    have hft : fl = true := by
      rcases hf with h | ⟨j, hj, h1, _⟩
      · exact h
      · omega
    subst hft
    refine ⟨out, ho, ?_, ?_⟩
    · refine Ev.step (fun k => by rw [spec_l25Words.l0]) ?_
      exact Ev.ite_false (by omega) (Ev.ite_true rfl (Ev.now _))
    · refine Ev.step (fun k => by rw [impl_eachWord__impl_InversionCount.l0]) ?_
      exact Ev.ite_false (by omega) (Ev.now _)
  | succ d ih =>
    intro i out fl hi ho hf
    have hlt : i < l.length := by omega
    have hg := isWt_get hl i hlt
    by_cases hp : 0 < l[i]
    · have hl2 : isWt (l.set i (l[i] - 1)) = true := isWt_set hl i _ (by omega)
      have ht2 : tot (l.set i (l[i] - 1)) = n := by rw [tot_set l i hlt]; omega
      have hw2 : isW (w ++ [((i + 1 : Nat) : Int)]) = true := isW_snoc hw _ (by omega) (by omega)
      obtain ⟨r1, hr1, hs1, hi1⟩ := ih0 (l.set i (l[i] - 1)) (w ++ [((i + 1 : Nat) : Int)]) out hl2 ht2 hw2 (by rw [List.length_append, List.length_singleton]; omega) ho
      obtain ⟨r, hr, hs, hi2⟩ := ih (i + 1) r1 true (by omega) hr1 (.inl rfl)
      have hlt2 : i < (l.set i (l[i] - 1)).length := by simpa using hlt
      have hrd : rd (l.set i (l[i] - 1)) (i : Int) = l[i] - 1 := by rw [rd_nat _ i hlt2]; exact List.getElem_set_self hlt2
      have hback : (l.set i (l[i] - 1)).set i l[i] = l := by rw [List.set_set]; exact List.set_getElem_self hlt
      have e1 : wrap64 (l[i] - 1) = l[i] - 1 := wr_in (by omega) (by omega)
      have e2 : wrap64 (l[i] - 1 + 1) = l[i] := by rw [wr_in (by omega) (by omega)]; omega
      refine ⟨r, hr, ?_, ?_⟩
      · refine Ev.step (fun k => by rw [spec_l25Words.l0]) ?_
        refine Ev.ite_true (by omega) (Ev.ite_true (by omega) (Ev.ite_true (by rw [rd_nat l i hlt]; exact hp) ?_))
        simp only [rd_nat l i hlt, Int.toNat_natCast, wr1 (show i < 4611686018427387904 by omega), e1]
        refine Ev.bind (Ev.now _) (Ev.ite_true (by simp only [List.length_nil]; omega) ?_)
        refine Ev.bind (Ev.now _) (Ev.ite_true (by simp only [List.nil_append]; omega) ?_)
        simp only [List.nil_append]
        refine Ev.bind hs1 ?_
        simp only [hrd, e2, hback]
        exact hs
      · refine Ev.step (fun k => by rw [impl_eachWord__impl_InversionCount.l0]) ?_
        refine Ev.ite_true (by omega) (Ev.ite_true (by omega) (Ev.ite_true (by rw [rd_nat l i hlt]; exact hp) (Ev.ite_true (by omega) ?_)))
        simp only [rd_nat l i hlt, Int.toNat_natCast, wr1 (show i < 4611686018427387904 by omega), e1]
        refine Ev.bind hi1 ?_
        refine Ev.ite_true (by simp only [List.length_set]; omega) ?_
        simp only [hrd, e2, hback]
        exact hi2
    · obtain ⟨r, hr, hs, hi2⟩ := ih (i + 1) out fl (by omega) ho (by
        rcases hf with h | ⟨j, hj, h1, h2⟩
        · exact .inl h
        · refine .inr ⟨j, hj, ?_, h2⟩
          rcases Nat.lt_or_ge i j with h | h
          · omega
          · have : j = i := by omega
            subst this
            exact absurd h2 hp)
      refine ⟨r, hr, ?_, ?_⟩
      · refine Ev.step (fun k => by rw [spec_l25Words.l0]) ?_
        refine Ev.ite_true (by omega) (Ev.ite_true (by omega) (Ev.ite_false (by rw [rd_nat l i hlt]; exact hp) ?_))
        rw [wr1 (by omega)]
        exact hs
      · refine Ev.step (fun k => by rw [impl_eachWord__impl_InversionCount.l0]) ?_
        refine Ev.ite_true (by omega) (Ev.ite_true (by omega) (Ev.ite_false (by rw [rd_nat l i hlt]; exact hp) ?_))
        rw [wr1 (by omega)]
        exact hi2
theorem alike : ∀ n, Alike n
  | 0 => by
    intro l w out hl ht hw h7 ho
    obtain ⟨r, hr, hs, hi⟩ := end_ev w hw (by omega) out l ho
    refine ⟨r, hr, ?_, ?_⟩
    · refine Ev.step (fun k => by rw [spec_l25Words.f]) ?_
      exact zero_loop l w out r hl (by simpa using ht) hs l.length 0 (by omega)
    · refine Ev.step (fun k => by rw [impl_eachWord__impl_InversionCount.f]) ?_
      refine Ev.bind (implTot_ev l hl) (Ev.ite_true (by simpa using ht) ?_)
      exact Ev.bind hi (Ev.now _)
  | n + 1 => by
    intro l w out hl ht hw h7 ho
    obtain ⟨j, hj, hp⟩ := tot_some l (by omega)
    obtain ⟨r, hr, hs, hi⟩ := loop_alike n (alike n) l w hl ht hw h7 l.length 0 out false (by omega) ho (.inr ⟨j, hj, by omega, hp⟩)
    refine ⟨r, hr, ?_, ?_⟩
    · exact Ev.step (fun k => by rw [spec_l25Words.f]; rfl) hs
    · refine Ev.step (fun k => by rw [impl_eachWord__impl_InversionCount.f]) ?_
      exact Ev.bind (implTot_ev l hl) (Ev.ite_false (by omega) hi)
theorem same (l : List Int) (hl : l.length ≤ 1048576) : ∃ r : List Int, r.length ≤ 1001 ∧ Ev (fun k => spec_InversionCounts.f k l) r ∧ Ev (fun k => impl_InversionCounts.f k l) r := by
  simp only [spec_InversionCounts.f, impl_InversionCounts.f, impl_wordCounts__impl_InversionCount.f]
  by_cases h : isWt l = true
  · have h9 := isWt_length h
    by_cases h7 : tot l > 7
    · exact ⟨[], by simp, Ev.bind (specWt_ev l hl) (Ev.ite_true h (Ev.bind (specTot_ev l h) (Ev.ite_true h7 (Ev.now _)))), Ev.bind (Ev.bind (implWt_ev l hl) (Ev.ite_true h (Ev.bind (implTot_ev l h) (Ev.ite_true h7 (Ev.now _))))) (Ev.now _)⟩
    · have h0 := tot_nonneg l (fun x hx => (isWt_mem h hx).1)
      obtain ⟨r, hr, hs, hi⟩ := alike (tot l).toNat l [] [] h (by omega) (by decide) (by simp only [List.length_nil]; omega) (by simp)
      refine ⟨r, hr, ?_, ?_⟩
      · refine Ev.bind (specWt_ev l hl) (Ev.ite_true h (Ev.bind (specTot_ev l h) (Ev.ite_false h7 ?_)))
        refine Ev.bind (Ev.now _) (Ev.ite_true (by simp only [List.length_nil]; omega) ?_)
        simp only [List.nil_append]
        exact Ev.bind hs (Ev.now _)
      · refine Ev.bind ?_ (Ev.now _)
        refine Ev.bind (implWt_ev l hl) (Ev.ite_true h (Ev.bind (implTot_ev l h) (Ev.ite_false h7 (Ev.ite_true (by omega) ?_))))
        exact Ev.bind hi (Ev.now _)
  · exact ⟨[], by simp, Ev.bind (specWt_ev l hl) (Ev.ite_false h (Ev.now _)), Ev.bind (Ev.bind (implWt_ev l hl) (Ev.ite_false h (Ev.now _))) (Ev.now _)⟩
theorem FnExactInversionCounts : laws_FnExactInversionCounts.Pure := by
  intro l h1 h2 h3
  apply Ev.rounds
  simp only [laws_FnExactInversionCounts.f]
  by_cases hl : l.length ≤ 1048576
  · obtain ⟨r, hr, hs, hi⟩ := same l hl
    have hm := markIntS_ev 1 l (by omega) (by omega) (by omega)
    have hm2 := markIntS_ev 1 r (by omega) (by omega) (by omega)
    have hh := heldIntS_ev 1 r.length (by omega) (by omega) (by omega)
    have ht := toIntS_ev l hl
    have he := eqIntS_self l hl
    have he2 := eqIntS_self r (by omega)
    refine Ev.ite_false (by omega) ?_
    repeat (first
      | exact Ev.now _
      | refine Ev.bind ht ?_
      | refine Ev.bind hs ?_
      | refine Ev.bind hi ?_
      | refine Ev.bind he ?_
      | refine Ev.bind he2 ?_
      | refine Ev.bind hm ?_
      | refine Ev.bind hm2 ?_
      | refine Ev.bind hh ?_
      | refine Ev.ite_true (by first | rfl | (simp; done) | omega | (dsimp only; omega)) ?_
      | refine Ev.ite_false (by first | (simp; done) | omega | (dsimp only; omega)) ?_
      | refine Ev.step (fun k => by simp only [laws_FnExactInversionCounts.j0]; rfl) ?_)
  · exact Ev.ite_true (by omega) (Ev.now _)

end Go.Proofs.Ytfiafalnanaocaa.Pure
