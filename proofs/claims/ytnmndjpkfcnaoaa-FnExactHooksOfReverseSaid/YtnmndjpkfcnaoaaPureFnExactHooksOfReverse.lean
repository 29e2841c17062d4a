/- The program's HooksOfReverse answers as the reference's for every list of numbers and list of lists, of at most 2^20 numbers each, leaves its arguments alone, and its result shares no memory with arguments or later result; above that the law says nothing. No condition. -/
import Derived.Test.YtnmndjpkfcnaoaaPFnExactHooksOfReversex12
import Derived.Test.YtnmndjpkfcnaoaaVFnExactHooksOfReverse
set_option linter.unusedVariables false
set_option linter.unusedSimpArgs false
namespace Go.Proofs.Ytnmndjpkfcnaoaa
open Go.ChangeShapes Go.WideShapes
theorem PrintWords.sized_ints {H : Type} {enc : TypeId × Value → H} {P : Program} {W : World} {base : Nat} {spare : Nat → Bool} {held : Bool} {t e : TypeId} {k : IntKind} {a : Option Addr} {len cap : Nat} {d : DataW H} {ps : List MemPlace} {ts : List TypeId} {ds : List (DataW H)} {j : Nat}
    (hsz : (DataW.weightsEach P ts ds).all (· ≤ reachBytes) = true) (ht : ts[j]? = some t) (hd : ds[j]? = some d) (hu : P.underlying t = some (.slice e)) (he : P.underlying e = some (.int k)) (hc : P.cellsOf e = 1) {B : Nat} (hB : P.bytesOf e = B)
    (h : DataW.Trod enc P W base spare held t (.slice a len cap) d ps) : len * B ≤ 140737488351232 :=
  Go.Proofs.YtnmndjpkfcnaoaaW.PrintWords.sized_ints hsz ht hd hu he hc hB h
end Go.Proofs.Ytnmndjpkfcnaoaa
namespace Go.Proofs.Ytnmndjpkfcnaoaa.Pure
open Go.RowKit Go.Proofs.Ytnmndjpkfcnaoaa.PFnExactHooksOfReverse Go.Proofs.YtnmndjpkfcnaoaaW.PrintWords Go.Proofs.YtnmndjpkfcnaoaaW.PrintLast

theorem wr_in {x : Int} (h : -9223372036854775808 ≤ x) (h' : x ≤ 9223372036854775807) : wrap64 x = x := by unfold wrap64; omega
theorem wr1 {i : Nat} (h : i < 4611686018427387904) : wrap64 ((i : Int) + 1) = ((i + 1 : Nat) : Int) := by unfold wrap64; omega
theorem Ev.ite_true {α : Type} {c : Prop} [Decidable c] {g f : Nat → Option α} {r : α} (hc : c) (h : Ev g r) : Ev (fun k => if c then g k else f k) r := by
  obtain ⟨K, h⟩ := h
  exact ⟨K, fun k hk => (if_pos hc).trans (h k hk)⟩
theorem Ev.ite_false {α : Type} {c : Prop} [Decidable c] {g f : Nat → Option α} {r : α} (hc : ¬ c) (h : Ev f r) : Ev (fun k => if c then g k else f k) r := by
  obtain ⟨K, h⟩ := h
  exact ⟨K, fun k hk => (if_neg hc).trans (h k hk)⟩
theorem rd_nat (l : List Int) (i : Nat) (h : i < l.length) : rd l (i : Int) = l[i] := by
  simp [rd, List.getD_eq_getElem?_getD, h]
/-- A statement that holds of all members of a list that can be run through. -/
theorem of_all {α : Type} {p : α → Bool} {l : List α} (h : l.all p = true) {x : α} (hx : x ∈ l) : p x = true := List.all_eq_true.mp h x hx
/-- Both answer, and alike. -/
def both {α : Type} [DecidableEq α] (a b : Option α) : Bool := match a, b with
  | some x, some y => decide (x = y)
  | _, _ => false
theorem both_ev {α : Type} [DecidableEq α] {f g : Nat → Option α} (hf : ∀ k, LeO (f k) (f (k + 1))) (hg : ∀ k, LeO (g k) (g (k + 1))) {n m : Nat} (h : both (f n) (g m) = true) : ∃ r, Ev f r ∧ Ev g r := by
  unfold both at h
  split at h
  · rename_i x y hx hy
    have e := of_decide_eq_true h
    subst e
    exact ⟨x, Ev.of hf hx, Ev.of hg hy⟩
  · cases h
theorem take_set_succ {α : Type} (y : List α) (i : Nat) (v : α) (h : i < y.length) : (y.set i v).take (i + 1) = y.take i ++ [v] := by
  rw [List.take_succ_eq_append_getElem (by simpa using h)]
  simp only [List.getElem_set_self]
  congr 1
  apply List.ext_getElem?
  intro j
  simp only [List.getElem?_take, List.getElem?_set]
  by_cases h : j < i
  · rw [if_pos h, if_neg (by omega), if_pos h]
  · rw [if_neg h, if_neg h]

theorem toIntS_l0 (l : List Int) (hl : l.length ≤ 1048576) (d : Nat) : ∀ (i : Nat) (y : List Int) (k : Nat), i + d = l.length → y.length = l.length → y.take i = l.take i → d < k → laws_toIntS.l0 k l y i = some l := by
  induction d with
  | zero =>
    intro i y k hi hy ht hk
    obtain ⟨k, rfl⟩ : ∃ m, k = m + 1 := ⟨k - 1, by omega⟩
    simp only [laws_toIntS.l0]
    rw [if_neg (by omega)]
    obtain rfl : i = l.length := by omega
    rw [List.take_of_length_le (by omega), List.take_of_length_le (by omega)] at ht
    rw [ht]
  | succ d ih =>
    intro i y k hi hy ht hk
    obtain ⟨k, rfl⟩ : ∃ m, k = m + 1 := ⟨k - 1, by omega⟩
    have hlt : i < l.length := by omega
    simp only [laws_toIntS.l0]
    rw [if_pos (by omega), if_pos (by omega), if_pos (by omega), wr1 (by omega), rd_nat l i hlt]
    refine ih (i + 1) _ k (by omega) (by simpa using hy) ?_ (by omega)
    rw [Int.toNat_natCast, take_set_succ y i _ (by omega), ht, List.take_succ_eq_append_getElem hlt]
theorem toIntS_ev (l : List Int) (hl : l.length ≤ 1048576) : Ev (fun k => laws_toIntS.f k l) l := by
  refine ⟨l.length + 1, fun k hk => ?_⟩
  show laws_toIntS.f k l = some l
  unfold laws_toIntS.f
  rw [if_pos (by omega), if_pos (by omega)]
  exact toIntS_l0 l hl l.length 0 _ k (by omega) (by simp) (by simp) (by omega)

theorem eqIntS_l0 (a b : List Int) (hl : a.length ≤ 1048576) (hab : a.length = b.length) (d : Nat) : ∀ (i k : Nat), i + d = a.length → a.take i = b.take i → d < k → laws_eqIntS.l0 k a b i = some (decide (a = b)) := by
  induction d with
  | zero =>
    intro i k hi ht hk
    obtain ⟨k, rfl⟩ : ∃ m, k = m + 1 := ⟨k - 1, by omega⟩
    simp only [laws_eqIntS.l0]
    rw [if_neg (by omega)]
    obtain rfl : i = a.length := by omega
    rw [List.take_of_length_le (by omega), List.take_of_length_le (by omega)] at ht
    rw [decide_eq_true ht]
  | succ d ih =>
    intro i k hi ht hk
    obtain ⟨k, rfl⟩ : ∃ m, k = m + 1 := ⟨k - 1, by omega⟩
    have hlt : i < a.length := by omega
    have hlt' : i < b.length := by omega
    simp only [laws_eqIntS.l0]
    rw [if_pos (by omega), if_pos (by omega), if_pos (by omega), wr1 (by omega), rd_nat a i hlt, rd_nat b i hlt']
    by_cases h : a[i] = b[i]
    · rw [if_pos h]
      refine ih (i + 1) k (by omega) ?_ (by omega)
      rw [List.take_succ_eq_append_getElem hlt, List.take_succ_eq_append_getElem hlt', ht, h]
    · rw [if_neg h, decide_eq_false]
      intro e
      subst e
      exact h rfl
theorem eqIntS_ev (a b : List Int) (hl : a.length ≤ 1048576) : Ev (fun k => laws_eqIntS.f k a b) (decide (a = b)) := by
  refine ⟨a.length + 1, fun k hk => ?_⟩
  show laws_eqIntS.f k a b = _
  unfold laws_eqIntS.f
  by_cases h : (a.length : Int) = (b.length : Int)
  · rw [if_pos h]
    exact eqIntS_l0 a b hl (by omega) a.length 0 k (by omega) (by simp) (by omega)
  · rw [if_neg h, decide_eq_false]
    intro e
    subst e
    exact h rfl
theorem eqIntS_self (a : List Int) (hl : a.length ≤ 1048576) : Ev (fun k => laws_eqIntS.f k a a) true := by
  have h := eqIntS_ev a a hl
  rwa [decide_eq_true rfl] at h

theorem rdL_nat (l : List (List Int)) (i : Nat) (h : i < l.length) : rd_L1 l (i : Int) = l[i] := by
  simp [rd_L1, List.getD_eq_getElem?_getD, h]

theorem toIntS_at (l : List Int) (hl : l.length ≤ 1048576) (k : Nat) (hk : l.length + 1 ≤ k) : laws_toIntS.f k l = some l := by
  unfold laws_toIntS.f
  rw [if_pos (by omega), if_pos (by omega)]
  exact toIntS_l0 l hl l.length 0 _ k (by omega) (by simp) (by simp) (by omega)
theorem eqIntS_at (a b : List Int) (hl : a.length ≤ 1048576) (k : Nat) (hk : a.length + 1 ≤ k) : laws_eqIntS.f k a b = some (decide (a = b)) := by
  unfold laws_eqIntS.f
  by_cases h : (a.length : Int) = (b.length : Int)
  · rw [if_pos h]
    exact eqIntS_l0 a b hl (by omega) a.length 0 k (by omega) (by simp) (by omega)
  · rw [if_neg h, decide_eq_false]
    intro e
    subst e
    exact h rfl
def smallL (l : List (List Int)) : Prop := l.length ≤ 1048576 ∧ ∀ x ∈ l, x.length ≤ 1048576
theorem szIntSS_l0 (l : List (List Int)) (hm : ∀ x ∈ l, x.length ≤ maxLen) (hl : l.length ≤ 1048576) (d : Nat) : ∀ (i : Nat) (a : Int) (k : Nat), i + d = l.length → 0 ≤ a → a ≤ 1048576 → d < k →
    ∃ r, laws_szIntSS.l0 k l a i = some r ∧ (r < 0 ∨ ∀ x ∈ l.drop i, x.length ≤ 1048576) := by
  induction d with
  | zero =>
    intro i a k hi h0 h1 hk
    obtain ⟨k, rfl⟩ : ∃ m, k = m + 1 := ⟨k - 1, by omega⟩
    simp only [laws_szIntSS.l0]
    rw [if_neg (by omega), List.drop_of_length_le (by omega)]
    exact ⟨_, rfl, .inr (by simp)⟩
  | succ d ih =>
    intro i a k hi h0 h1 hk
    obtain ⟨k, rfl⟩ : ∃ m, k = m + 1 := ⟨k - 1, by omega⟩
    have hlt : i < l.length := by omega
    have hx := hm _ (List.getElem_mem hlt)
    unfold maxLen at hx
    simp only [laws_szIntSS.l0, laws_szIntS.f]
    rw [if_pos (by omega), if_pos (by omega), rdL_nat l i hlt, wr_in (x := a - (l[i].length : Int)) (by omega) (by omega), wr1 (by omega), List.drop_eq_getElem_cons hlt]
    by_cases h : a - (l[i].length : Int) < 0
    · rw [if_pos h]
      exact ⟨-1, by simp, .inl (by omega)⟩
    · rw [if_neg h]
      simp only [Option.bind_some]
      rw [if_neg h]
      obtain ⟨r, hr, hc⟩ := ih (i + 1) (a - (l[i].length : Int)) k (by omega) (by omega) (by omega) (by omega)
      refine ⟨r, hr, hc.imp_right fun hc x hx => ?_⟩
      rcases List.mem_cons.1 hx with rfl | hx
      · omega
      · exact hc x hx
theorem szIntSS_ev (l : List (List Int)) (hn : l.length ≤ maxLen) (hm : ∀ x ∈ l, x.length ≤ maxLen) : ∃ r, Ev (fun k => laws_szIntSS.f k l 1048576) r ∧ (r < 0 ∨ smallL l) := by
  unfold maxLen at hn
  simp only [laws_szIntSS.f]
  rw [wr_in (x := 1048576 - (l.length : Int)) (by omega) (by omega)]
  by_cases h : 1048576 - (l.length : Int) < 0
  · exact ⟨-1, Ev.ite_true h (Ev.now _), .inl (by omega)⟩
  · have hall := fun k (hk : l.length < k) => szIntSS_l0 l hm (by omega) l.length 0 (1048576 - (l.length : Int)) k (by omega) (by omega) (by omega) hk
    obtain ⟨r, hr, hc⟩ := hall (l.length + 1) (by omega)
    refine ⟨r, Ev.ite_false h ⟨l.length + 1, fun k hk => ?_⟩, hc.imp_right fun hc => ⟨by omega, by simpa using hc⟩⟩
    exact at_rounds (fun k => laws_szIntSS.mono_l k _ _ _) hk hr
theorem toIntSS_l0 (l : List (List Int)) (hs : smallL l) (d : Nat) : ∀ (i : Nat) (y : List (List Int)) (k : Nat), i + d = l.length → y.length = l.length → y.take i = l.take i → d + 1048578 < k → laws_toIntSS.l0 k l y i = some l := by
  obtain ⟨hl, he⟩ := hs
  induction d with
  | zero =>
    intro i y k hi hy ht hk
    obtain ⟨k, rfl⟩ : ∃ m, k = m + 1 := ⟨k - 1, by omega⟩
    simp only [laws_toIntSS.l0]
    rw [if_neg (by omega)]
    obtain rfl : i = l.length := by omega
    rw [List.take_of_length_le (by omega), List.take_of_length_le (by omega)] at ht
    rw [ht]
  | succ d ih =>
    intro i y k hi hy ht hk
    obtain ⟨k, rfl⟩ : ∃ m, k = m + 1 := ⟨k - 1, by omega⟩
    have hlt : i < l.length := by omega
    have hx := he _ (List.getElem_mem hlt)
    simp only [laws_toIntSS.l0]
    rw [if_pos (by omega), if_pos (by omega), rdL_nat l i hlt, toIntS_at _ hx k (by omega)]
    simp only [Option.bind_some]
    rw [if_pos (by omega), wr1 (by omega)]
    refine ih (i + 1) _ k (by omega) (by simpa using hy) ?_ (by omega)
    rw [Int.toNat_natCast, take_set_succ y i _ (by omega), ht, List.take_succ_eq_append_getElem hlt]
theorem toIntSS_ev (l : List (List Int)) (hs : smallL l) : Ev (fun k => laws_toIntSS.f k l) l := by
  refine ⟨l.length + 1048579, fun k hk => ?_⟩
  show laws_toIntSS.f k l = some l
  have hl := hs.1
  unfold laws_toIntSS.f
  rw [if_pos (by omega), if_pos (by omega)]
  exact toIntSS_l0 l hs l.length 0 _ k (by omega) (by simp) (by simp) (by omega)
theorem eqIntSS_l0 (l : List (List Int)) (hs : smallL l) (d : Nat) : ∀ (i k : Nat), i + d = l.length → d + 1048578 < k → laws_eqIntSS.l0 k l l i = some true := by
  obtain ⟨hl, he⟩ := hs
  induction d with
  | zero =>
    intro i k hi hk
    obtain ⟨k, rfl⟩ : ∃ m, k = m + 1 := ⟨k - 1, by omega⟩
    simp only [laws_eqIntSS.l0]
    rw [if_neg (by omega)]
  | succ d ih =>
    intro i k hi hk
    obtain ⟨k, rfl⟩ : ∃ m, k = m + 1 := ⟨k - 1, by omega⟩
    have hlt : i < l.length := by omega
    have hx := he _ (List.getElem_mem hlt)
    simp only [laws_eqIntSS.l0]
    rw [if_pos (by omega), if_pos (by omega), rdL_nat l i hlt, if_pos (by omega), eqIntS_at _ _ hx k (by omega)]
    simp only [Option.bind_some, decide_true, if_true]
    rw [wr1 (by omega)]
    exact ih (i + 1) k (by omega) (by omega)
theorem eqIntSS_self (l : List (List Int)) (hs : smallL l) : Ev (fun k => laws_eqIntSS.f k l l) true := by
  refine ⟨l.length + 1048579, fun k hk => ?_⟩
  show laws_eqIntSS.f k l l = some true
  unfold laws_eqIntSS.f
  rw [if_pos rfl]
  exact eqIntSS_l0 l hs l.length 0 k (by omega) (by omega)

/-! Partitions: a plain test, and all of them. -/
def isPF (prev s : Int) : List Int → Bool
  | [] => true
  | x :: xs => if 1 ≤ x ∧ x ≤ 9 ∧ x ≤ prev ∧ s + x ≤ 9 then isPF x (s + x) xs else false
def isP (l : List Int) : Bool := isPF 9 0 l
/-- All lists of numbers of at most 'prev' that add to 's' at most 9. -/
def genP : Nat → Nat → Nat → List (List Int)
  | 0, _, _ => [[]]
  | n + 1, prev, s => [] :: (List.range' 1 (min prev (9 - s))).flatMap fun x => (genP n x (s + x)).map fun r => (x : Int) :: r
theorem mem_genP : ∀ (n prev s : Nat) (l : List Int), 9 < n + s → s ≤ 9 → isPF prev s l = true → l ∈ genP n prev s
  | 0, prev, s, l, h1, h2, _ => by omega
  | n + 1, prev, s, [], _, _, _ => by simp [genP]
  | n + 1, prev, s, x :: xs, h1, h2, h => by
    simp only [isPF] at h
    split at h
    · rename_i hc
      obtain ⟨c1, c2, c3, c4⟩ := hc
      obtain ⟨m, rfl⟩ : ∃ m : Nat, x = (m : Int) := ⟨x.toNat, by omega⟩
      have e : (s : Int) + (m : Int) = ((s + m : Nat) : Int) := by omega
      rw [e] at h
      have ih := mem_genP n m (s + m) xs (by omega) (by omega) h
      simp only [genP, List.mem_cons, List.mem_flatMap]
      refine Or.inr ⟨m, ?_, ?_⟩
      · simp only [List.mem_range'_1]; omega
      · exact List.mem_map.2 ⟨xs, ih, rfl⟩
    · cases h
def allP : List (List Int) := genP 10 9 0
theorem mem_allP {l : List Int} (h : isP l = true) : l ∈ allP := mem_genP 10 9 0 l (by omega) (by omega) h
theorem isPF_length : ∀ (l : List Int) (prev s : Int), isPF prev s l = true → s + l.length ≤ 9 ∨ l = []
  | [], _, _, _ => .inr rfl
  | x :: xs, prev, s, h => by
    simp only [isPF] at h
    split at h
    · rename_i hc
      rcases isPF_length xs x (s + x) h with h1 | rfl
      · left; simp only [List.length_cons]; omega
      · left; simp; omega
    · cases h
theorem isP_length {l : List Int} (h : isP l = true) : l.length ≤ 9 := by
  rcases isPF_length l 9 0 h with h | rfl
  · omega
  · simp
/-- What stands at place i, and behind it. -/
theorem drop_cons (l : List Int) (i : Nat) (h : i < l.length) : l.drop i = l[i] :: l.drop (i + 1) := List.drop_eq_getElem_cons h
def prevOf (l : List Int) (i : Nat) : Int := if i = 0 then 9 else l.getD (i - 1) 0
theorem prevOf_succ (l : List Int) (i : Nat) (h : i < l.length) : prevOf l (i + 1) = l[i] := by simp [prevOf, h]

theorem isPF_get : ∀ (l : List Int) (prev s : Int), isPF prev s l = true → (∀ (i : Nat) (h : i < l.length), 1 ≤ l[i] ∧ l[i] ≤ 9 ∧ l[i] ≤ prev) ∧ ∀ (i : Nat) (h : i + 1 < l.length), l[i + 1] ≤ l[i]
  | [], _, _, _ => ⟨fun i h => by simp at h, fun i h => by simp at h⟩
  | x :: xs, prev, s, h => by
    simp only [isPF] at h
    split at h
    · rename_i hc
      obtain ⟨h1, h2⟩ := isPF_get xs x (s + x) h
      refine ⟨fun i hi => ?_, fun i hi => ?_⟩
      · cases i with
        | zero => simp; omega
        | succ i => have := h1 i (by simpa using hi); simp; omega
      · cases i with
        | zero => have := h1 0 (by simpa using hi); simpa using this.2.2
        | succ i => simpa using h2 i (by simpa using hi)
    · cases h
theorem isP_get {l : List Int} (h : isP l = true) (i : Nat) (hi : i < l.length) : 1 ≤ l[i] ∧ l[i] ≤ 9 := by
  have := (isPF_get l 9 0 h).1 i hi; omega
theorem isP_desc {l : List Int} (h : isP l = true) (i : Nat) (hi : i + 1 < l.length) : l[i + 1] ≤ l[i] := (isPF_get l 9 0 h).2 i hi

theorem l1In_f (x a b : Int) : spec_l1In.f x a b = some (decide (a ≤ x ∧ x ≤ b)) := by
  unfold spec_l1In.f
  by_cases h : x ≥ a
  · rw [if_pos h]; congr 1; by_cases h2 : x ≤ b
    · rw [decide_eq_true h2, decide_eq_true ⟨h, h2⟩]
    · rw [decide_eq_false h2, decide_eq_false (by omega)]
  · rw [if_neg h, decide_eq_false (by omega)]

theorem specIsP_l0 (l : List Int) (hl : l.length ≤ 1048576) (d : Nat) : ∀ (i k : Nat) (s : Int), i + d = l.length → 0 ≤ s → s ≤ 9 → 2 * d < k → spec_IsPartition.l0 k l s i = some (isPF (prevOf l i) s (l.drop i)) := by
  induction d with
  | zero =>
    intro i k s hi h0 h9 hk
    obtain ⟨k, rfl⟩ : ∃ m, k = m + 1 := ⟨k - 1, by omega⟩
    simp only [spec_IsPartition.l0]
    rw [if_neg (by omega), List.drop_of_length_le (by omega)]
    rfl
  | succ d ih =>
    intro i k s hi h0 h9 hk
    obtain ⟨k, rfl⟩ : ∃ m, k = m + 2 := ⟨k - 2, by omega⟩
    have hlt : i < l.length := by omega
    simp only [spec_IsPartition.l0]
    rw [if_pos (by omega), if_pos (by omega), rd_nat l i hlt, l1In_f, drop_cons l i hlt]
    simp only [Option.bind_some, isPF]
    have hj : ∀ b : Bool, (b = true ↔ ¬ (1 ≤ l[i] ∧ l[i] ≤ 9 ∧ l[i] ≤ prevOf l i)) →
        spec_IsPartition.j1 (k + 1) l s i b = some (if 1 ≤ l[i] ∧ l[i] ≤ 9 ∧ l[i] ≤ prevOf l i ∧ s + l[i] ≤ 9 then isPF l[i] (s + l[i]) (l.drop (i + 1)) else false) := by
      intro b hb
      simp only [spec_IsPartition.j1]
      by_cases hc : 1 ≤ l[i] ∧ l[i] ≤ 9 ∧ l[i] ≤ prevOf l i
      · rw [if_neg (fun h => hb.1 h hc), if_pos (by omega), if_pos (by omega), rd_nat l i hlt, wr_in (by omega) (by omega), wr1 (by omega)]
        by_cases h9' : s + l[i] > 9
        · rw [if_pos h9', if_neg (by omega)]
        · rw [if_neg h9', if_pos ⟨hc.1, hc.2.1, hc.2.2, by omega⟩, ih (i + 1) k _ (by omega) (by omega) (by omega) (by omega), prevOf_succ l i hlt]
      · rw [if_pos (hb.2 hc), if_neg (fun h => hc ⟨h.1, h.2.1, h.2.2.1⟩)]
    by_cases h1 : 1 ≤ l[i] ∧ l[i] ≤ 9
    · rw [if_pos (decide_eq_true h1)]
      by_cases hi0 : i = 0
      · subst hi0
        rw [if_neg (by omega)]
        exact hj false (by simp [prevOf]; omega)
      · have e : wrap64 ((i : Int) - 1) = ((i - 1 : Nat) : Int) := by unfold wrap64; omega
        rw [if_pos (by omega), e, if_pos (by omega), if_pos (by omega), rd_nat l (i - 1) (by omega)]
        refine hj _ ?_
        have hp : prevOf l i = l[i - 1] := by simp [prevOf, hi0]; rw [List.getElem?_eq_getElem (by omega)]; rfl
        rw [hp, decide_eq_true_iff]; omega
    · rw [if_neg (by simp; omega)]
      exact hj true (by simp; omega)
theorem specIsP_ev (l : List Int) (hl : l.length ≤ 1048576) : Ev (fun k => spec_IsPartition.f k l) (isP l) := by
  refine ⟨2 * l.length + 1, fun k hk => ?_⟩
  have h := specIsP_l0 l hl l.length 0 k 0 (by omega) (by omega) (by omega) (by omega)
  simpa [spec_IsPartition.f, isP, prevOf] using h

theorem within_f (x a b : Int) : impl_within.f x a b = some (decide (a ≤ x ∧ x ≤ b)) := by
  unfold impl_within.f
  by_cases h : a ≤ x
  · rw [if_pos h]; congr 1; by_cases h2 : x ≤ b
    · rw [decide_eq_true h2, decide_eq_true ⟨h, h2⟩]
    · rw [decide_eq_false h2, decide_eq_false (by omega)]
  · rw [if_neg h, decide_eq_false (by omega)]

theorem implIsP_l0 (l : List Int) (hl : l.length ≤ 1048576) (d : Nat) : ∀ (i k : Nat) (s : Int), i + d = l.length → 0 ≤ s → s ≤ 9 → 2 * d < k → impl_IsPartition.l0 k l s l l.length i = some (isPF (prevOf l i) s (l.drop i)) := by
  induction d with
  | zero =>
    intro i k s hi h0 h9 hk
    obtain ⟨k, rfl⟩ : ∃ m, k = m + 1 := ⟨k - 1, by omega⟩
    simp only [impl_IsPartition.l0]
    rw [if_neg (by omega), List.drop_of_length_le (by omega)]
    rfl
  | succ d ih =>
    intro i k s hi h0 h9 hk
    obtain ⟨k, rfl⟩ : ∃ m, k = m + 2 := ⟨k - 2, by omega⟩
    have hlt : i < l.length := by omega
    simp only [impl_IsPartition.l0]
    rw [if_pos (by omega), if_pos (by omega), if_pos (by omega), rd_nat l i hlt, within_f, drop_cons l i hlt]
    simp only [Option.bind_some, isPF]
    have hj : ∀ b : Bool, (b = true ↔ ¬ (1 ≤ l[i] ∧ l[i] ≤ 9 ∧ l[i] ≤ prevOf l i)) →
        impl_IsPartition.j1 (k + 1) l s l[i] l l.length i b = some (if 1 ≤ l[i] ∧ l[i] ≤ 9 ∧ l[i] ≤ prevOf l i ∧ s + l[i] ≤ 9 then isPF l[i] (s + l[i]) (l.drop (i + 1)) else false) := by
      intro b hb
      simp only [impl_IsPartition.j1]
      by_cases hc : 1 ≤ l[i] ∧ l[i] ≤ 9 ∧ l[i] ≤ prevOf l i
      · rw [if_neg (fun h => hb.1 h hc), wr_in (x := s + l[i]) (by omega) (by omega), wr1 (by omega)]
        by_cases h9' : s + l[i] > 9
        · rw [if_pos h9', if_neg (by omega)]
        · rw [if_neg h9', if_pos ⟨hc.1, hc.2.1, hc.2.2, by omega⟩, ih (i + 1) k _ (by omega) (by omega) (by omega) (by omega), prevOf_succ l i hlt]
      · rw [if_pos (hb.2 hc), if_neg (fun h => hc ⟨h.1, h.2.1, h.2.2.1⟩)]
    by_cases h1 : 1 ≤ l[i] ∧ l[i] ≤ 9
    · rw [if_pos (decide_eq_true h1)]
      by_cases hi0 : i = 0
      · subst hi0
        rw [if_neg (by omega)]
        exact hj false (by simp [prevOf]; omega)
      · have e : wrap64 ((i : Int) - 1) = ((i - 1 : Nat) : Int) := by unfold wrap64; omega
        rw [if_pos (by omega), e, if_pos (by omega), if_pos (by omega), rd_nat l (i - 1) (by omega)]
        refine hj _ ?_
        have hp : prevOf l i = l[i - 1] := by simp [prevOf, hi0]; rw [List.getElem?_eq_getElem (by omega)]; rfl
        rw [hp, decide_eq_true_iff]; omega
    · rw [if_neg (by simp; omega)]
      exact hj true (by simp; omega)
theorem implIsP_ev (l : List Int) (hl : l.length ≤ 1048576) : Ev (fun k => impl_IsPartition.f k l) (isP l) := by
  refine ⟨2 * l.length + 1, fun k hk => ?_⟩
  have h := implIsP_l0 l hl l.length 0 k 0 (by omega) (by omega) (by omega) (by omega)
  simpa [impl_IsPartition.f, isP, prevOf] using h

def okF (x : Int) : Bool := decide (0 ≤ x ∧ x ≤ 9)
def fillFrom : List Int → List (List Int) → Bool
  | p :: ps, r :: rs => decide ((r.length : Int) = p) && (r.all okF && fillFrom ps rs)
  | _, _ => true
def isF (p : List Int) (f : List (List Int)) : Bool := isP p && (decide (f.length = p.length) && fillFrom p f)
theorem fillFrom_get : ∀ (p : List Int) (f : List (List Int)), p.length = f.length → fillFrom p f = true → ∀ (i : Nat) (h : i < p.length) (h' : i < f.length), (f[i].length : Int) = p[i]
  | [], f, _, _, i, h, h' => by simp at h
  | p :: ps, [], _, _, i, h, h' => by simp at h'
  | p :: ps, r :: rs, hl, hf, i, h, h' => by
    simp only [fillFrom, Bool.and_eq_true, decide_eq_true_eq] at hf
    cases i with
    | zero => simpa using hf.1
    | succ i => simpa using fillFrom_get ps rs (by simpa using hl) hf.2.2 i (by simpa using h) (by simpa using h')
theorem specFill_l0 (p : List Int) (f : List (List Int)) (hp : isP p = true) (hlen : f.length = p.length) (d : Nat) : ∀ (i k : Nat), i + d = p.length → 12 * d < k →
    spec_IsFilling.l0 k p f i = some (fillFrom (p.drop i) (f.drop i)) := by
  have h9 := isP_length hp
  induction d with
  | zero =>
    intro i k hi hk
    obtain ⟨k, rfl⟩ : ∃ m, k = m + 1 := ⟨k - 1, by omega⟩
    simp only [spec_IsFilling.l0]
    rw [if_neg (by omega), List.drop_of_length_le (by omega)]
    rfl
  | succ d ih =>
    intro i k hi hk
    have hlt : i < p.length := by omega
    have hlt' : i < f.length := by omega
    have hp9 := isP_get hp i hlt
    have inner : ∀ (e j k : Nat), j + e = f[i].length → (f[i].length : Int) = p[i] → 12 * d + e + 1 < k → spec_IsFilling.l1 k p f i j = some ((f[i].drop j).all okF && fillFrom (p.drop (i + 1)) (f.drop (i + 1))) := by
      intro e
      induction e with
      | zero =>
        intro j k hj hq hk
        obtain ⟨k, rfl⟩ : ∃ m, k = m + 1 := ⟨k - 1, by omega⟩
        simp only [spec_IsFilling.l1]
        rw [if_pos (by omega), if_pos (by omega), rd_nat p i hlt, if_neg (by omega), wr1 (by omega), ih (i + 1) k (by omega) (by omega), List.drop_of_length_le (l := f[i]) (by omega)]
        simp
      | succ e ihe =>
        intro j k hj hq hk
        obtain ⟨k, rfl⟩ : ∃ m, k = m + 1 := ⟨k - 1, by omega⟩
        have hjl : j < f[i].length := by omega
        simp only [spec_IsFilling.l1]
        rw [if_pos (by omega), if_pos (by omega), rd_nat p i hlt, if_pos (by omega), if_pos (by omega), if_pos (by omega), rdL_nat f i hlt', if_pos (by omega), rd_nat f[i] j hjl, l1In_f, List.drop_eq_getElem_cons hjl]
        simp only [Option.bind_some, List.all_cons]
        by_cases h : 0 ≤ f[i][j] ∧ f[i][j] ≤ 9
        · rw [if_pos (decide_eq_true h), wr1 (by omega), ihe (j + 1) k (by omega) hq (by omega)]
          have : okF f[i][j] = true := decide_eq_true h
          rw [this, Bool.true_and]
        · rw [if_neg (by rw [decide_eq_true_eq]; exact h)]
          have : okF f[i][j] = false := decide_eq_false h
          rw [this]
          rfl
    obtain ⟨k, rfl⟩ : ∃ m, k = m + 1 := ⟨k - 1, by omega⟩
    simp only [spec_IsFilling.l0]
    rw [if_pos (by omega), if_pos (by omega), if_pos (by omega), rdL_nat f i hlt', rd_nat p i hlt, List.drop_eq_getElem_cons hlt, List.drop_eq_getElem_cons hlt']
    simp only [fillFrom]
    by_cases hq : (f[i].length : Int) = p[i]
    · rw [if_pos hq, decide_eq_true hq, Bool.true_and]
      have h0 := inner f[i].length 0 k (by omega) hq (by omega)
      simpa using h0
    · rw [if_neg hq, decide_eq_false hq]
      rfl
theorem isFill1_f (x : Int) : impl_IsFilling_1.f x = some (!okF x) := by
  unfold impl_IsFilling_1.f
  rw [within_f]
  rfl
theorem implFillC_l0 (l : List Int) (hl : l.length ≤ 1048576) (d : Nat) : ∀ (i k : Nat), i + d = l.length → d < k → ∃ r, slices_IndexFunc_int_int__impl_IsFilling_1.l0 k l l.length i = some r ∧ decide (r ≥ 0) = !((l.drop i).all okF) := by
  induction d with
  | zero =>
    intro i k hi hk
    obtain ⟨k, rfl⟩ : ∃ m, k = m + 1 := ⟨k - 1, by omega⟩
    simp only [slices_IndexFunc_int_int__impl_IsFilling_1.l0]
    rw [if_neg (by omega), List.drop_of_length_le (by omega)]
    exact ⟨_, rfl, by simp⟩
  | succ d ih =>
    intro i k hi hk
    obtain ⟨k, rfl⟩ : ∃ m, k = m + 1 := ⟨k - 1, by omega⟩
    have hlt : i < l.length := by omega
    simp only [slices_IndexFunc_int_int__impl_IsFilling_1.l0]
    rw [if_pos (by omega), if_pos (by omega), if_pos (by omega), rd_nat l i hlt, isFill1_f, List.drop_eq_getElem_cons hlt]
    simp only [Option.bind_some, List.all_cons]
    cases h : okF l[i]
    · rw [if_pos (by rfl)]
      exact ⟨_, rfl, by simp⟩
    · rw [if_neg (by simp), wr1 (by omega)]
      obtain ⟨r, h1, h2⟩ := ih (i + 1) k (by omega) (by omega)
      exact ⟨r, h1, by simpa using h2⟩
theorem implFillC_at (l : List Int) (hl : l.length ≤ 1048576) (k : Nat) (hk : l.length < k) : slices_ContainsFunc_int_int__impl_IsFilling_1.f k l = some (!(l.all okF)) := by
  obtain ⟨r, h, h2⟩ := implFillC_l0 l hl l.length 0 k (by omega) (by omega)
  have h' : slices_IndexFunc_int_int__impl_IsFilling_1.l0 k l l.length 0 = some r := h
  unfold slices_ContainsFunc_int_int__impl_IsFilling_1.f slices_IndexFunc_int_int__impl_IsFilling_1.f
  simp only [h', Option.bind_some, h2]
  simp
theorem implFill_l0 (p : List Int) (f : List (List Int)) (hp : isP p = true) (hlen : f.length = p.length) (d : Nat) : ∀ (i k : Nat), i + d = p.length → d + 11 < k →
    impl_IsFilling.l0 k p f f.length i = some (fillFrom (p.drop i) (f.drop i)) := by
  have h9 := isP_length hp
  induction d with
  | zero =>
    intro i k hi hk
    obtain ⟨k, rfl⟩ : ∃ m, k = m + 1 := ⟨k - 1, by omega⟩
    simp only [impl_IsFilling.l0]
    rw [if_neg (by omega), List.drop_of_length_le (by omega)]
    rfl
  | succ d ih =>
    intro i k hi hk
    have hlt : i < p.length := by omega
    have hlt' : i < f.length := by omega
    have hp9 := isP_get hp i hlt
    obtain ⟨k, rfl⟩ : ∃ m, k = m + 1 := ⟨k - 1, by omega⟩
    simp only [impl_IsFilling.l0]
    rw [if_pos (by omega), if_pos (by omega), if_pos (by omega), if_pos (by omega), rdL_nat f i hlt', rd_nat p i hlt, List.drop_eq_getElem_cons hlt, List.drop_eq_getElem_cons hlt']
    simp only [fillFrom]
    by_cases hq : (f[i].length : Int) = p[i]
    · rw [if_pos hq, decide_eq_true hq, Bool.true_and, implFillC_at _ (by omega) k (by omega)]
      simp only [Option.bind_some]
      cases h : f[i].all okF
      · rw [if_pos (by rfl)]; rfl
      · rw [if_neg (by simp), wr1 (by omega), ih (i + 1) k (by omega) (by omega)]
        rfl
    · rw [if_neg hq, decide_eq_false hq]
      rfl
theorem specFill_ev (p : List Int) (f : List (List Int)) (hl : p.length ≤ 1048576) : Ev (fun k => spec_IsFilling.f k p f) (isF p f) := by
  simp only [spec_IsFilling.f]
  refine Ev.bind (specIsP_ev p hl) ?_
  cases h : isP p
  · refine Ev.ite_false (by simp) (Ev.step (f := fun _ => some false) (fun k => by simp [spec_IsFilling.j0]) ?_)
    simpa [isF, h] using Ev.now false
  · refine Ev.ite_true rfl ?_
    by_cases hlen : f.length = p.length
    · refine ⟨12 * p.length + 2, fun k hk => ?_⟩
      obtain ⟨k, rfl⟩ : ∃ m, k = m + 1 := ⟨k - 1, by omega⟩
      have h0 := specFill_l0 p f h hlen p.length 0 k (by omega) (by omega)
      simp only [spec_IsFilling.j0]
      rw [if_neg (by simp [hlen])]
      simpa [isF, h, hlen] using h0
    · refine Ev.step (f := fun _ => some false) (fun k => ?_) (by simpa [isF, hlen] using Ev.now false)
      simp only [spec_IsFilling.j0]
      rw [if_pos (by simp; omega)]
theorem implFill_ev (p : List Int) (f : List (List Int)) (hl : p.length ≤ 1048576) : Ev (fun k => impl_IsFilling.f k p f) (isF p f) := by
  simp only [impl_IsFilling.f]
  refine Ev.bind (implIsP_ev p hl) ?_
  cases h : isP p
  · refine Ev.ite_false (by simp) (Ev.step (f := fun _ => some false) (fun k => by simp [impl_IsFilling.j0]) ?_)
    simpa [isF, h] using Ev.now false
  · refine Ev.ite_true rfl ?_
    by_cases hlen : f.length = p.length
    · refine ⟨p.length + 13, fun k hk => ?_⟩
      obtain ⟨k, rfl⟩ : ∃ m, k = m + 1 := ⟨k - 1, by omega⟩
      have h0 := implFill_l0 p f h hlen p.length 0 k (by omega) (by omega)
      simp only [impl_IsFilling.j0]
      rw [if_neg (by simp [hlen])]
      simpa [isF, h, hlen] using h0
    · refine Ev.step (f := fun _ => some false) (fun k => ?_) (by simpa [isF, hlen] using Ev.now false)
      simp only [impl_IsFilling.j0]
      rw [if_pos (by simp; omega)]

/-! Fillings of one shape: rows of noughts, the columns' heights. -/
def shp (p : List Int) (y : List (List Int)) : Prop := y.length = p.length ∧ ∀ (i : Nat) (h : i < y.length) (h' : i < p.length), (y[i].length : Int) = p[i]
def noughts (p : List Int) : List (List Int) := p.map fun n => List.replicate n.toNat 0
def colH (p : List Int) (c : Int) : Nat := (p.filter fun n => decide (n > c)).length
def zeroOk (p : List Int) : Bool := decide (spec_l27Zeros.f 30 p = some (noughts p)) && decide (impl_zeros.f 30 p = some (noughts p))
theorem factzero : allP.all zeroOk = true := by decide +kernel
theorem zeros_ev {p : List Int} (hp : isP p = true) : Ev (fun k => spec_l27Zeros.f k p) (noughts p) ∧ Ev (fun k => impl_zeros.f k p) (noughts p) := by
  have h := of_all factzero (mem_allP hp)
  simp only [zeroOk, Bool.and_eq_true, decide_eq_true_eq] at h
  exact ⟨Ev.of (spec_l27Zeros.mono p) h.1, Ev.of (impl_zeros.mono p) h.2⟩
def colOk (p : List Int) : Bool := (List.range 10).all fun c => decide (impl_column.f 30 p c = some ((colH p c : Nat) : Int)) && ((List.range 11).all fun i => decide (i < colH p c ↔ (i < p.length ∧ p.getD i 0 > (c : Int))))
theorem factcol : allP.all colOk = true := by decide +kernel
theorem col_ev {p : List Int} (hp : isP p = true) (c : Nat) (hc : c < 10) : Ev (fun k => impl_column.f k p c) ((colH p c : Nat) : Int) := by
  have h := of_all factcol (mem_allP hp)
  have h1 := of_all h (x := c) (List.mem_range.2 hc)
  simp only [Bool.and_eq_true, decide_eq_true_eq] at h1
  exact Ev.of (impl_column.mono p c) h1.1
theorem col_iff {p : List Int} (hp : isP p = true) (c : Nat) (hc : c < 10) (i : Nat) (hi : i < 11) : i < colH p c ↔ (i < p.length ∧ p.getD i 0 > (c : Int)) := by
  have h := of_all factcol (mem_allP hp)
  have h1 := of_all h (x := c) (List.mem_range.2 hc)
  simp only [Bool.and_eq_true] at h1
  have h2 := of_all h1.2 (x := i) (List.mem_range.2 hi)
  exact of_decide_eq_true h2
theorem colH_le {p : List Int} (c : Int) : colH p c ≤ p.length := List.length_filter_le _ _
theorem noughts_shp {p : List Int} (hp : isP p = true) : shp p (noughts p) := by
  refine ⟨by simp [noughts], fun i h h' => ?_⟩
  have := isP_get hp i h'
  simp only [noughts, List.getElem_map, List.length_replicate]
  omega
theorem shp_set {p : List Int} {y : List (List Int)} (h : shp p y) (i : Nat) (hi : i < y.length) (v : List Int) (hv : v.length = y[i].length) : shp p (y.set i v) := by
  refine ⟨by rw [List.length_set]; exact h.1, fun j hj hj' => ?_⟩
  rw [List.length_set] at hj
  rw [List.getElem_set]
  split
  · rename_i e
    subst e
    rw [hv]
    exact h.2 i hj hj'
  · exact h.2 j hj hj'

/-! Reverse plane partitions: both sides tell them alike, and what is told. -/
def rppFrom (p : List Int) (f : List (List Int)) (i j : Nat) : Prop := ∀ a b : Nat, (a = i ∧ j ≤ b ∨ i < a) → a < p.length → (b : Int) < p.getD a 0 → (0 < b → (f.getD a []).getD (b - 1) 0 ≤ (f.getD a []).getD b 0) ∧ (0 < a → (f.getD (a - 1) []).getD b 0 ≤ (f.getD a []).getD b 0)
theorem both_l0 (p : List Int) (f : List (List Int)) (hp : isP p = true) (hlen : f.length = p.length) (hrow : ∀ (i : Nat) (h : i < p.length) (h' : i < f.length), (f[i].length : Int) = p[i]) (d : Nat) : ∀ (i k k' : Nat), i + d = p.length → 12 * d < k → 12 * d < k' →
    spec_IsReverse.l0 k p f i = impl_IsReverse.l0 k' f f f.length i ∧ (spec_IsReverse.l0 k p f i).isSome ∧ (spec_IsReverse.l0 k p f i = some true → rppFrom p f i 0) := by
  have h9 := isP_length hp
  induction d with
  | zero =>
    intro i k k' hi hk hk'
    obtain ⟨k, rfl⟩ : ∃ m, k = m + 1 := ⟨k - 1, by omega⟩
    obtain ⟨k', rfl⟩ : ∃ m, k' = m + 1 := ⟨k' - 1, by omega⟩
    simp only [spec_IsReverse.l0, impl_IsReverse.l0]
    rw [if_neg (by omega), if_neg (by omega)]
    exact ⟨rfl, rfl, fun _ a b h1 h2 => by omega⟩
  | succ d ih =>
    intro i k k' hi hk hk'
    have hlt : i < p.length := by omega
    have hlt' : i < f.length := by omega
    have hp9 := isP_get hp i hlt
    have hq := hrow i hlt hlt'
    have inner : ∀ (e j k k' : Nat), j + e = f[i].length → 12 * d + e + 1 < k → 12 * d + e + 1 < k' →
        spec_IsReverse.l1 k p f i j = impl_IsReverse.l1 k' f i f[i] f f.length i f[i] f[i].length j ∧ (spec_IsReverse.l1 k p f i j).isSome ∧ (spec_IsReverse.l1 k p f i j = some true → rppFrom p f i j) := by
      intro e
      induction e with
      | zero =>
        intro j k k' hj hk hk'
        obtain ⟨k, rfl⟩ : ∃ m, k = m + 1 := ⟨k - 1, by omega⟩
        obtain ⟨k', rfl⟩ : ∃ m, k' = m + 1 := ⟨k' - 1, by omega⟩
        have h0 := ih (i + 1) k k' (by omega) (by omega) (by omega)
        have e1 : spec_IsReverse.l1 (k + 1) p f i j = spec_IsReverse.l0 k p f ((i + 1 : Nat) : Int) := by
          simp only [spec_IsReverse.l1]
          rw [if_pos (by omega), if_pos (by omega), rd_nat p i hlt, if_neg (by omega), wr1 (by omega)]
        have e2 : impl_IsReverse.l1 (k' + 1) f i f[i] f f.length i f[i] f[i].length j = impl_IsReverse.l0 k' f f f.length ((i + 1 : Nat) : Int) := by
          simp only [impl_IsReverse.l1]
          rw [if_neg (by omega), wr1 (by omega)]
        rw [e1, e2]
        refine ⟨h0.1, h0.2.1, fun h a b h1 h2 h3 => h0.2.2 h a b ?_ h2 h3⟩
        rcases h1 with ⟨rfl, h1⟩ | h1
        · rw [List.getD_eq_getElem?_getD, List.getElem?_eq_getElem hlt, Option.getD_some] at h3
          omega
        · omega
      | succ e ihe =>
        intro j k k' hj hk hk'
        obtain ⟨k, rfl⟩ : ∃ m, k = m + 1 := ⟨k - 1, by omega⟩
        obtain ⟨k', rfl⟩ : ∃ m, k' = m + 1 := ⟨k' - 1, by omega⟩
        have hjl : j < f[i].length := by omega
        have h0 := ihe (j + 1) k k' (by omega) (by omega) (by omega)
        have upS : ∀ (R : Option Bool), R = spec_IsReverse.l1 k p f i ((j + 1 : Nat) : Int) → (if (i : Int) > 0 then (if (i : Int) < (f.length : Int) then (if 0 ≤ (j : Int) then (if (j : Int) < (f[i].length : Int) then (if 0 ≤ wrap64 ((i : Int) - 1) then (if wrap64 ((i : Int) - 1) < (f.length : Int) then (if (j : Int) < ((rd_L1 f (wrap64 ((i : Int) - 1))).length : Int) then (if f[i][j] < rd (rd_L1 f (wrap64 ((i : Int) - 1))) j then some false else R) else none) else none) else none) else none) else none) else none) else R) =
            (if i = 0 then R else if f[i][j] < (f.getD (i - 1) []).getD j 0 then some false else R) := by
          intro R _
          by_cases hi0 : i = 0
          · subst hi0
            rw [if_neg (by omega), if_pos rfl]
          · have e1 : wrap64 ((i : Int) - 1) = ((i - 1 : Nat) : Int) := by unfold wrap64; omega
            have hl1 : i - 1 < f.length := by omega
            have hq1 := hrow (i - 1) (by omega) hl1
            have hd := isP_desc hp (i - 1) (by omega)
            have e3 : i - 1 + 1 = i := by omega
            simp only [e3] at hd
            have hjl1 : j < f[i - 1].length := by omega
            rw [if_pos (by omega), if_pos (by omega), if_pos (by omega), if_pos (by omega), e1, if_pos (by omega), if_pos (by omega), rdL_nat f (i - 1) hl1, if_pos (by omega), rd_nat f[i - 1] j hjl1, if_neg hi0]
            simp [hl1, hjl1]
        have upI : ∀ (R : Option Bool), (if (i : Int) > 0 then (if 0 ≤ wrap64 ((i : Int) - 1) then (if wrap64 ((i : Int) - 1) < (f.length : Int) then (if (j : Int) < ((rd_L1 f (wrap64 ((i : Int) - 1))).length : Int) then (if f[i][j] < rd (rd_L1 f (wrap64 ((i : Int) - 1))) j then some false else R) else none) else none) else none) else R) =
            (if i = 0 then R else if f[i][j] < (f.getD (i - 1) []).getD j 0 then some false else R) := by
          intro R
          by_cases hi0 : i = 0
          · subst hi0
            rw [if_neg (by omega), if_pos rfl]
          · have e1 : wrap64 ((i : Int) - 1) = ((i - 1 : Nat) : Int) := by unfold wrap64; omega
            have hl1 : i - 1 < f.length := by omega
            have hq1 := hrow (i - 1) (by omega) hl1
            have hd := isP_desc hp (i - 1) (by omega)
            have e3 : i - 1 + 1 = i := by omega
            simp only [e3] at hd
            have hjl1 : j < f[i - 1].length := by omega
            rw [if_pos (by omega), e1, if_pos (by omega), if_pos (by omega), rdL_nat f (i - 1) hl1, if_pos (by omega), rd_nat f[i - 1] j hjl1, if_neg hi0]
            simp [hl1, hjl1]
        have eS : spec_IsReverse.l1 (k + 1) p f i j = if j > 0 ∧ f[i][j] < f[i].getD (j - 1) 0 then some false else (if i = 0 then spec_IsReverse.l1 k p f i ((j + 1 : Nat) : Int) else if f[i][j] < (f.getD (i - 1) []).getD j 0 then some false else spec_IsReverse.l1 k p f i ((j + 1 : Nat) : Int)) := by
          simp only [spec_IsReverse.l1]
          rw [if_pos (by omega), if_pos (by omega), rd_nat p i hlt, if_pos (by omega), rdL_nat f i hlt', rd_nat f[i] j hjl, wr1 (by omega)]
          by_cases hj0 : j = 0
          · subst hj0
            refine Eq.trans ?_ (if_neg (by omega)).symm
            refine (if_neg (show ¬ (((0 : Nat) : Int) > 0) by omega)).trans ?_
            exact upS _ rfl
          · have e1 : wrap64 ((j : Int) - 1) = ((j - 1 : Nat) : Int) := by unfold wrap64; omega
            rw [if_pos (by omega), if_pos (by omega), if_pos (by omega), if_pos (by omega), e1, if_pos (by omega), if_pos (by omega), rd_nat f[i] (j - 1) (by omega)]
            have hg : f[i].getD (j - 1) 0 = f[i][j - 1]'(by omega) := by simp [show j - 1 < f[i].length by omega]
            rw [hg]
            by_cases hc : f[i][j] < f[i][j - 1]'(by omega)
            · exact (if_pos hc).trans (if_pos ⟨by omega, hc⟩).symm
            · refine Eq.trans ?_ (if_neg (fun h => hc h.2)).symm
              exact (if_neg hc).trans (upI _)
        have eI : impl_IsReverse.l1 (k' + 1) f i f[i] f f.length i f[i] f[i].length j = if j > 0 ∧ f[i][j] < f[i].getD (j - 1) 0 then some false else (if i = 0 then impl_IsReverse.l1 k' f i f[i] f f.length i f[i] f[i].length ((j + 1 : Nat) : Int) else if f[i][j] < (f.getD (i - 1) []).getD j 0 then some false else impl_IsReverse.l1 k' f i f[i] f f.length i f[i] f[i].length ((j + 1 : Nat) : Int)) := by
          simp only [impl_IsReverse.l1]
          rw [if_pos (by omega), if_pos (by omega), if_pos (by omega), rd_nat f[i] j hjl, wr1 (by omega)]
          by_cases hj0 : j = 0
          · subst hj0
            refine Eq.trans ?_ (if_neg (by omega)).symm
            refine (if_neg (show ¬ (((0 : Nat) : Int) > 0) by omega)).trans ?_
            exact upI _
          · have e1 : wrap64 ((j : Int) - 1) = ((j - 1 : Nat) : Int) := by unfold wrap64; omega
            rw [if_pos (by omega), e1, if_pos (by omega), if_pos (by omega), rd_nat f[i] (j - 1) (by omega)]
            have hg : f[i].getD (j - 1) 0 = f[i][j - 1]'(by omega) := by simp [show j - 1 < f[i].length by omega]
            rw [hg]
            by_cases hc : f[i][j] < f[i][j - 1]'(by omega)
            · exact (if_pos hc).trans (if_pos ⟨by omega, hc⟩).symm
            · refine Eq.trans ?_ (if_neg (fun h => hc h.2)).symm
              exact (if_neg hc).trans (upI _)
        have more : ¬ (j > 0 ∧ f[i][j] < f[i].getD (j - 1) 0) → (i = 0 ∨ ¬ f[i][j] < (f.getD (i - 1) []).getD j 0) → spec_IsReverse.l1 k p f i ((j + 1 : Nat) : Int) = some true → rppFrom p f i j := by
          intro n1 n2 h a b h1 h2 h3
          have hg : (f.getD i []).getD j 0 = f[i][j] := by simp [hlt', hjl]
          by_cases hab : a = i ∧ b = j
          · obtain ⟨rfl, rfl⟩ := hab
            rw [hg]
            have hg2 : (f.getD a []) = f[a] := by simp [hlt']
            rw [hg2]
            exact ⟨fun h => by omega, fun h => by omega⟩
          · exact h0.2.2 h a b (by omega) h2 h3
        rw [eS, eI]
        split
        · exact ⟨rfl, rfl, fun h => by cases h⟩
        · rename_i n1
          split
          · rename_i n2
            exact ⟨h0.1, h0.2.1, more n1 (.inl n2)⟩
          · split
            · exact ⟨rfl, rfl, fun h => by cases h⟩
            · rename_i n2
              exact ⟨h0.1, h0.2.1, more n1 (.inr n2)⟩
    obtain ⟨k, rfl⟩ : ∃ m, k = m + 1 := ⟨k - 1, by omega⟩
    obtain ⟨k', rfl⟩ : ∃ m, k' = m + 1 := ⟨k' - 1, by omega⟩
    have h0 := inner f[i].length 0 k k' (by omega) (by omega) (by omega)
    simp only [spec_IsReverse.l0, impl_IsReverse.l0]
    rw [if_pos (by omega), if_pos (by omega), if_pos (by omega), if_pos (by omega), rdL_nat f i hlt']
    exact h0
theorem rev_same (p : List Int) (f : List (List Int)) (hl : p.length ≤ 1048576) : ∃ r, Ev (fun k => spec_IsReverse.f k p f) r ∧ Ev (fun k => impl_IsReverse.f k p f) r ∧ (r = true → isF p f = true ∧ rppFrom p f 0 0) := by
  have h1 := specFill_ev p f hl
  have h2 := implFill_ev p f hl
  cases h : isF p f
  · rw [h] at h1 h2
    refine ⟨false, ?_, ?_, fun h => by cases h⟩
    · simp only [spec_IsReverse.f]
      exact Ev.bind h1 (Ev.ite_false (by simp) (Ev.now _))
    · simp only [impl_IsReverse.f]
      exact Ev.bind h2 (Ev.ite_false (by simp) (Ev.now _))
  · rw [h] at h1 h2
    simp only [isF, Bool.and_eq_true, decide_eq_true_eq] at h
    obtain ⟨hp, hlen, hfill⟩ := h
    have hall := fun k k' (hk : 12 * p.length < k) (hk' : 12 * p.length < k') => both_l0 p f hp hlen (fillFrom_get p f hlen.symm hfill) p.length 0 k k' (by omega) hk hk'
    obtain ⟨r, hr⟩ := Option.isSome_iff_exists.1 (hall (12 * p.length + 1) (12 * p.length + 1) (by omega) (by omega)).2.1
    refine ⟨r, ?_, ?_, fun e => ⟨rfl, (hall (12 * p.length + 1) (12 * p.length + 1) (by omega) (by omega)).2.2 (by rw [← e]; exact hr)⟩⟩
    · simp only [spec_IsReverse.f]
      refine Ev.bind h1 (Ev.ite_true rfl ⟨12 * p.length + 1, fun k hk => ?_⟩)
      exact ((hall k (12 * p.length + 1) (by omega) (by omega)).1.trans (hall (12 * p.length + 1) (12 * p.length + 1) (by omega) (by omega)).1.symm).trans hr
    · simp only [impl_IsReverse.f]
      refine Ev.bind h2 (Ev.ite_true rfl ⟨12 * p.length + 1, fun k hk => ?_⟩)
      exact ((hall (12 * p.length + 1) k (by omega) (by omega)).1.symm).trans hr

/-! The rows of a small list of rows, one behind the other. -/
theorem flat_le (R : List (List Int)) (h : ∀ row ∈ R, row.length ≤ 9) : R.flatten.length ≤ 9 * R.length := by
  induction R with
  | nil => simp
  | cons a R ih =>
    have h1 := h a (List.mem_cons_self ..)
    have h2 := ih (fun row hr => h row (List.mem_cons_of_mem _ hr))
    simp only [List.flatten_cons, List.length_append, List.length_cons]
    omega
theorem take_flat (R : List (List Int)) (i : Nat) (hi : i < R.length) : (R.take (i + 1)).flatten = (R.take i).flatten ++ R[i] := by
  rw [List.take_add_one, List.getElem?_eq_getElem hi]
  simp only [List.flatten_append, Option.toList_some, List.flatten_cons, List.flatten_nil, List.append_nil]
theorem take_flat_le (R : List (List Int)) (h : ∀ row ∈ R, row.length ≤ 9) (h9 : R.length ≤ 9) (i : Nat) : (R.take i).flatten.length ≤ 81 := by
  have h1 := flat_le (R.take i) (fun row hr => h row (List.mem_of_mem_take hr))
  have h2 : (R.take i).length ≤ 9 := by rw [List.length_take]; omega
  omega
theorem nums_impl (R : List (List Int)) (h : ∀ row ∈ R, row.length ≤ 9) (h9 : R.length ≤ 9) : Ev (fun k => slices_Concat_int_int.f k R) R.flatten := by
  have loop1 : ∀ (d i : Nat), i + d = R.length → Ev (fun k => slices_Concat_int_int.l1 k (R.take i).flatten R R.length i) R.flatten := by
    intro d
    induction d with
    | zero =>
      intro i hi
      rw [List.take_of_length_le (by omega)]
      exact Ev.step (fun k => by simp only [slices_Concat_int_int.l1]; rfl) (Ev.ite_false (by omega) (Ev.now _))
    | succ d ih =>
      intro i hi
      have hlt : i < R.length := by omega
      have hi5 : i < 4611686018427387904 := by omega
      have hf := take_flat_le R h h9 i
      have hr := h _ (List.getElem_mem hlt)
      refine Ev.step (fun k => by simp only [slices_Concat_int_int.l1]; rfl) (Ev.ite_true (by omega) (Ev.ite_true (by omega) (Ev.ite_true (by omega) ?_)))
      rw [rdL_nat R i hlt, wr1 hi5, ← take_flat R i hlt]
      exact Ev.ite_true (by omega) (ih (i + 1) (by omega))
  have loop0 : ∀ (d i : Nat) (s : Int), i + d = R.length → 0 ≤ s → s ≤ 9 * (i : Int) → Ev (fun k => slices_Concat_int_int.l0 k R s R R.length i) R.flatten := by
    intro d
    induction d with
    | zero =>
      intro i s hi h0 hs
      refine Ev.step (fun k => by simp only [slices_Concat_int_int.l0, slices_Grow_int_int__nil.f]; rfl) (Ev.ite_false (by omega) ?_)
      rw [if_pos (by omega)]
      simp only [Option.bind_some]
      simpa using loop1 R.length 0 (by omega)
    | succ d ih =>
      intro i s hi h0 hs
      have hlt : i < R.length := by omega
      have hi5 : i < 4611686018427387904 := by omega
      have hr := h _ (List.getElem_mem hlt)
      have hw : wrap64 (s + (R[i].length : Int)) = s + (R[i].length : Int) := wr_in (by omega) (by omega)
      have a1 : ¬ (s + (R[i].length : Int) < 0) := by omega
      have a2 : 0 ≤ s + (R[i].length : Int) := by omega
      have a3 : s + (R[i].length : Int) ≤ 9 * ((i + 1 : Nat) : Int) := by omega
      have a4 : (i : Int) < (R.length : Int) := by omega
      have a5 := ih (i + 1) (s + (R[i].length : Int)) (by omega) a2 a3
      refine Ev.step (fun k => by simp only [slices_Concat_int_int.l0]; rfl) (Ev.ite_true a4 (Ev.ite_true (Int.natCast_nonneg _) (Ev.ite_true a4 ?_)))
      rw [rdL_nat R i hlt, wr1 hi5, hw]
      exact Ev.ite_false a1 a5
  have := loop0 R.length 0 0 (by omega) (by omega) (by omega)
  simpa [slices_Concat_int_int.f] using this

/-! Reverse plane partitions: cells, one cell changed, the total; the path that takes one hook off. -/
def wd (p : List Int) (i : Nat) : Int := p.getD i 0
def cell (y : List (List Int)) (i j : Nat) : Int := (y.getD i []).getD j 0
def putc (y : List (List Int)) (i j : Nat) (v : Int) : List (List Int) := y.set i ((y.getD i []).set j v)
def tots (y : List (List Int)) : Int := (y.map List.sum).sum
def inR (y : List (List Int)) : Prop := ∀ r ∈ y, ∀ n ∈ r, 0 ≤ n ∧ n ≤ 9
theorem rd_cell (y : List (List Int)) (i j : Nat) : rd (rd_L1 y (i : Int)) (j : Int) = cell y i j := by simp [rd, rd_L1, cell]
theorem rdL_D (y : List (List Int)) (i : Nat) : rd_L1 y (i : Int) = y.getD i [] := by simp [rd_L1]
theorem rd_wd (p : List Int) (i : Nat) : rd p (i : Int) = wd p i := by simp [rd, wd]
theorem wd_get (p : List Int) (i : Nat) (h : i < p.length) : wd p i = p[i] := by simp [wd, h]
theorem wd_out (p : List Int) (i : Nat) (h : ¬ i < p.length) : wd p i = 0 := by simp [wd, List.getD_eq_getElem?_getD, List.getElem?_eq_none (Nat.le_of_not_lt h)]
theorem wd_lt {p : List Int} {i j : Nat} (h : (j : Int) < wd p i) : i < p.length := by
  by_cases hi : i < p.length
  · exact hi
  · rw [wd_out p i hi] at h; omega
theorem wd_9 {p : List Int} (hp : isP p = true) (i : Nat) : 0 ≤ wd p i ∧ wd p i ≤ 9 := by
  by_cases hi : i < p.length
  · have := isP_get hp i hi
    rw [wd_get p i hi]; omega
  · rw [wd_out p i hi]; omega
theorem wd_desc {p : List Int} (hp : isP p = true) (i : Nat) : wd p (i + 1) ≤ wd p i := by
  by_cases hi : i + 1 < p.length
  · rw [wd_get p _ hi, wd_get p i (by omega)]; exact isP_desc hp i hi
  · rw [wd_out p _ hi]; exact (wd_9 hp i).1
theorem shp_row {p : List Int} {y : List (List Int)} (h : shp p y) (i : Nat) : ((y.getD i []).length : Int) = wd p i := by
  by_cases hi : i < p.length
  · have hy : i < y.length := by rw [h.1]; exact hi
    have := h.2 i hy hi
    simp only [List.getD_eq_getElem?_getD, List.getElem?_eq_getElem hy, Option.getD_some]
    rw [wd_get p i hi]; exact this
  · rw [wd_out p i hi]
    have hy : ¬ i < y.length := by rw [h.1]; exact hi
    simp [List.getD_eq_getElem?_getD, List.getElem?_eq_none (Nat.le_of_not_lt hy)]
theorem cell_putc (y : List (List Int)) (i j : Nat) (v : Int) (hi : i < y.length) (hj : j < (y.getD i []).length) (a b : Nat) : cell (putc y i j v) a b = if a = i ∧ b = j then v else cell y a b := by
  unfold cell putc
  by_cases ha : a = i
  · subst ha
    rw [List.getD_eq_getElem?_getD (l := y.set _ _), List.getElem?_set_self hi, Option.getD_some]
    by_cases hb : b = j
    · subst hb
      rw [if_pos ⟨rfl, rfl⟩, List.getD_eq_getElem?_getD, List.getElem?_set_self hj, Option.getD_some]
    · rw [if_neg (fun h => hb h.2), List.getD_eq_getElem?_getD, List.getElem?_set_ne (fun h => hb h.symm), ← List.getD_eq_getElem?_getD]
  · rw [if_neg (fun h => ha h.1), List.getD_eq_getElem?_getD (l := y.set _ _), List.getElem?_set_ne (fun h => ha h.symm), ← List.getD_eq_getElem?_getD]
theorem shp_putc {p : List Int} {y : List (List Int)} (h : shp p y) (i j : Nat) (v : Int) (hi : i < p.length) : shp p (putc y i j v) := by
  have hy : i < y.length := by rw [h.1]; exact hi
  exact shp_set h i hy _ (by rw [List.length_set]; simp [hy])
theorem sum_set (l : List Int) : ∀ (j : Nat) (_ : j < l.length) (v : Int), (l.set j v).sum = l.sum - l.getD j 0 + v := by
  induction l with
  | nil => intro j h; simp at h
  | cons x l ih =>
    intro j h v
    cases j with
    | zero => simp; omega
    | succ j =>
      have := ih j (by simpa using h) v
      simp only [List.set_cons_succ, List.sum_cons, List.getD_cons_succ, this]
      omega
theorem tots_set (y : List (List Int)) : ∀ (i : Nat) (_ : i < y.length) (r : List Int), tots (y.set i r) = tots y - (y.getD i []).sum + r.sum := by
  induction y with
  | nil => intro i h; simp at h
  | cons x y ih =>
    intro i h r
    cases i with
    | zero => simp [tots]; omega
    | succ i =>
      have := ih i (by simpa using h) r
      simp only [tots] at this ⊢
      simp only [List.set_cons_succ, List.map_cons, List.sum_cons, List.getD_cons_succ, this]
      omega
theorem tots_putc (y : List (List Int)) (i j : Nat) (v : Int) (hi : i < y.length) (hj : j < (y.getD i []).length) : tots (putc y i j v) = tots y - cell y i j + v := by
  unfold putc
  rw [tots_set y i hi, sum_set _ j hj]
  unfold cell
  omega
theorem inR_putc {y : List (List Int)} (h : inR y) (i j : Nat) (v : Int) (h0 : 0 ≤ v) (h9 : v ≤ 9) : inR (putc y i j v) := by
  intro r hr n hn
  by_cases hi : i < y.length
  · rcases List.mem_or_eq_of_mem_set hr with hr | rfl
    · exact h r hr n hn
    · rcases List.mem_or_eq_of_mem_set hn with hn | rfl
      · refine h _ ?_ n hn
        simp [hi]
      · exact ⟨h0, h9⟩
  · unfold putc at hr
    rw [List.set_eq_of_length_le (Nat.le_of_not_lt hi)] at hr
    exact h r hr n hn
theorem inR_cell {y : List (List Int)} (h : inR y) (i j : Nat) : 0 ≤ cell y i j ∧ cell y i j ≤ 9 := by
  unfold cell
  by_cases hi : i < y.length
  · have e : y.getD i [] = y[i] := by simp [hi]
    rw [e]
    by_cases hj : j < y[i].length
    · have e2 : y[i].getD j 0 = y[i][j] := by simp [hj]
      rw [e2]
      exact h _ (List.getElem_mem hi) _ (List.getElem_mem hj)
    · simp [List.getD_eq_getElem?_getD, List.getElem?_eq_none (Nat.le_of_not_lt hj)]
  · simp [List.getD_eq_getElem?_getD, List.getElem?_eq_none (Nat.le_of_not_lt hi)]
theorem sum_bound (l : List Int) (h : ∀ n ∈ l, 0 ≤ n ∧ n ≤ 9) : 0 ≤ l.sum ∧ l.sum ≤ 9 * l.length := by
  induction l with
  | nil => simp
  | cons x l ih =>
    have h1 := h x (List.mem_cons_self ..)
    have h2 := ih (fun n hn => h n (List.mem_cons_of_mem _ hn))
    simp only [List.sum_cons, List.length_cons]
    omega
theorem le_sum (l : List Int) (h : ∀ n ∈ l, 0 ≤ n ∧ n ≤ 9) (j : Nat) : l.getD j 0 ≤ l.sum := by
  induction l generalizing j with
  | nil => simp
  | cons x l ih =>
    have h1 := h x (List.mem_cons_self ..)
    have h2 := ih (fun n hn => h n (List.mem_cons_of_mem _ hn))
    have h3 := sum_bound l (fun n hn => h n (List.mem_cons_of_mem _ hn))
    cases j with
    | zero => simp; omega
    | succ j => have := h2 j; simp only [List.getD_cons_succ, List.sum_cons]; omega
theorem tots_nonneg {y : List (List Int)} (h : inR y) : 0 ≤ tots y := by
  induction y with
  | nil => simp [tots]
  | cons x y ih =>
    have h1 := sum_bound x (h x (List.mem_cons_self ..))
    have h2 := ih (fun r hr => h r (List.mem_cons_of_mem _ hr))
    simp only [tots] at h2 ⊢
    simp only [List.map_cons, List.sum_cons]
    omega
theorem cell_le_tots {y : List (List Int)} (h : inR y) (i j : Nat) : cell y i j ≤ tots y := by
  induction y generalizing i with
  | nil => simp [cell, tots]
  | cons x y ih =>
    have h0 := sum_bound x (h x (List.mem_cons_self ..))
    have h1 := le_sum x (h x (List.mem_cons_self ..)) j
    have h2 := tots_nonneg (fun r hr => h r (List.mem_cons_of_mem _ hr) : inR y)
    cases i with
    | zero => simp only [cell, tots, List.getD_cons_zero, List.map_cons, List.sum_cons] at *; omega
    | succ i =>
      have h3 := ih (fun r hr => h r (List.mem_cons_of_mem _ hr)) i
      simp only [cell, tots, List.getD_cons_succ, List.map_cons, List.sum_cons] at *
      omega
theorem pos_sum (l : List Int) (h : 0 < l.sum) : ∃ j, j < l.length ∧ 0 < l.getD j 0 := by
  induction l with
  | nil => simp at h
  | cons x l ih =>
    by_cases hx : 0 < x
    · exact ⟨0, by simp, by simpa using hx⟩
    · simp only [List.sum_cons] at h
      obtain ⟨j, h1, h2⟩ := ih (by omega)
      exact ⟨j + 1, by simpa using h1, by simpa using h2⟩
theorem pos_tots (y : List (List Int)) (h : 0 < tots y) : ∃ i j, j < (y.getD i []).length ∧ 0 < cell y i j := by
  induction y with
  | nil => simp [tots] at h
  | cons x y ih =>
    by_cases hx : 0 < x.sum
    · obtain ⟨j, h1, h2⟩ := pos_sum x hx
      exact ⟨0, j, by simpa using h1, by simpa [cell] using h2⟩
    · simp only [tots, List.map_cons, List.sum_cons] at h
      obtain ⟨i, j, h1, h2⟩ := ih (by simp only [tots]; omega)
      exact ⟨i + 1, j, by simpa using h1, by simpa [cell] using h2⟩
/-- Rows rise, and columns, but perhaps for the one pair below (i, j). -/
def mid (p : List Int) (y : List (List Int)) (i j : Nat) : Prop := shp p y ∧ inR y ∧ (∀ a b : Nat, ((b + 1 : Nat) : Int) < wd p a → cell y a b ≤ cell y a (b + 1)) ∧ (∀ a b : Nat, (b : Int) < wd p (a + 1) → cell y a b ≤ cell y (a + 1) b ∨ a = i ∧ b = j ∧ cell y a b = cell y (a + 1) b + 1)
def rpp (p : List Int) (y : List (List Int)) : Prop := shp p y ∧ inR y ∧ (∀ a b : Nat, ((b + 1 : Nat) : Int) < wd p a → cell y a b ≤ cell y a (b + 1)) ∧ (∀ a b : Nat, (b : Int) < wd p (a + 1) → cell y a b ≤ cell y (a + 1) b)
theorem rpp_mid {p : List Int} {y : List (List Int)} (h : rpp p y) (i j : Nat) : mid p y i j := ⟨h.1, h.2.1, h.2.2.1, fun a b hb => .inl (h.2.2.2 a b hb)⟩
/-- What the path may count on at (i, j). -/
def strict (y : List (List Int)) (i j : Nat) : Prop := 0 < cell y i j ∧ (0 < j → cell y i (j - 1) < cell y i j ∧ (0 < i → cell y (i - 1) (j - 1) < cell y i j))
theorem mid_step {p : List Int} (hp : isP p = true) {y : List (List Int)} {i j : Nat} (hj : (j : Int) < wd p i) (hm : mid p y i j) (hs : strict y i j) :
    (0 < i ∧ cell y (i - 1) j = cell y i j → mid p (putc y i j (cell y i j - 1)) (i - 1) j ∧ strict (putc y i j (cell y i j - 1)) (i - 1) j) ∧
    (¬ (0 < i ∧ cell y (i - 1) j = cell y i j) → rpp p (putc y i j (cell y i j - 1)) ∧ (((j + 1 : Nat) : Int) < wd p i → strict (putc y i j (cell y i j - 1)) i (j + 1))) := by
  obtain ⟨h1, h2, h3, h4⟩ := hm
  obtain ⟨s1, s2⟩ := hs
  have hi := wd_lt hj
  have hiy : i < y.length := by rw [h1.1]; exact hi
  have hjy : j < (y.getD i []).length := by have := shp_row h1 i; omega
  have hc := cell_putc y i j (cell y i j - 1) hiy hjy
  have hb := inR_cell h2 i j
  have q1 := shp_putc h1 i j (cell y i j - 1) hi
  have q2 := inR_putc h2 i j (cell y i j - 1) (by omega) (by omega)
  have q3 : ∀ a b : Nat, ((b + 1 : Nat) : Int) < wd p a → cell (putc y i j (cell y i j - 1)) a b ≤ cell (putc y i j (cell y i j - 1)) a (b + 1) := by
    intro a b hab
    have := h3 a b hab
    rw [hc, hc]
    by_cases e1 : a = i ∧ b + 1 = j
    · obtain ⟨rfl, rfl⟩ := e1
      have := (s2 (by omega)).1
      rw [show b + 1 - 1 = b by omega] at this
      rw [if_neg (by omega), if_pos ⟨rfl, rfl⟩]
      omega
    · rw [if_neg e1]
      by_cases e2 : a = i ∧ b = j
      · obtain ⟨rfl, rfl⟩ := e2
        rw [if_pos ⟨rfl, rfl⟩]; omega
      · rw [if_neg e2]; omega
  have q4 : ∀ a b : Nat, (b : Int) < wd p (a + 1) → cell (putc y i j (cell y i j - 1)) a b ≤ cell (putc y i j (cell y i j - 1)) (a + 1) b ∨ a + 1 = i ∧ b = j ∧ cell y a b = cell y i j := by
    intro a b hab
    have := h4 a b hab
    rw [hc, hc]
    by_cases e1 : a + 1 = i ∧ b = j
    · obtain ⟨rfl, rfl⟩ := e1
      rw [if_neg (by omega), if_pos ⟨rfl, rfl⟩]
      omega
    · rw [if_neg e1]
      by_cases e2 : a = i ∧ b = j
      · obtain ⟨rfl, rfl⟩ := e2
        rw [if_pos ⟨rfl, rfl⟩]; omega
      · rw [if_neg e2]; omega
  refine ⟨fun ⟨hi0, he⟩ => ?_, fun hn => ?_⟩
  · obtain ⟨i', rfl⟩ : ∃ n, i = n + 1 := ⟨i - 1, by omega⟩
    simp only [Nat.add_sub_cancel] at he s2 ⊢
    refine ⟨⟨q1, q2, q3, ?_⟩, ?_⟩
    · intro a b hab
      rcases q4 a b hab with h | ⟨e1, e2, e3⟩
      · exact .inl h
      · have e1' : a = i' := by omega
        subst e1' e2
        refine .inr ⟨rfl, rfl, ?_⟩
        rw [hc, hc, if_neg (by omega), if_pos ⟨rfl, rfl⟩, he]; omega
    · refine ⟨by rw [hc, if_neg (by omega)]; omega, fun hj0 => ?_⟩
      rw [hc i' (j - 1), hc i' j, if_neg (by omega), if_neg (by omega), he]
      have z := s2 hj0
      refine ⟨z.2 (by omega), fun hi1 => ?_⟩
      rw [hc, if_neg (by omega)]
      have z2 := z.2 (by omega)
      have hw := wd_desc hp i'
      have hw2 := wd_desc hp (i' - 1)
      rw [show i' - 1 + 1 = i' by omega] at hw2
      rcases h4 (i' - 1) (j - 1) (by rw [show i' - 1 + 1 = i' by omega]; omega) with z3 | ⟨z3, _⟩
      · rw [show i' - 1 + 1 = i' by omega] at z3; omega
      · omega
  · refine ⟨⟨q1, q2, q3, ?_⟩, ?_⟩
    · intro a b hab
      rcases q4 a b hab with h | ⟨e1, e2, e3⟩
      · exact h
      · refine absurd ?_ hn
        subst e1 e2
        exact ⟨by omega, by simpa using e3⟩
    · intro hj1
      have := h3 i j hj1
      refine ⟨by rw [hc, if_neg (by omega)]; omega, fun _ => ?_⟩
      rw [Nat.add_sub_cancel, hc i j, hc i (j + 1), if_pos ⟨rfl, rfl⟩, if_neg (by omega)]
      refine ⟨by omega, fun hi0 => ?_⟩
      rw [hc, if_neg (by omega)]
      have e : i - 1 + 1 = i := by omega
      rcases h4 (i - 1) j (by rw [e]; exact hj) with z | ⟨z, _⟩
      · rw [e] at z
        have : cell y (i - 1) j ≠ cell y i j := fun h => hn ⟨hi0, h⟩
        omega
      · omega

def markL (a : Int) (n : Nat) : List Int := (List.range n).map (fun (j : Nat) => a + (j : Int))
theorem markL_length (a : Int) (n : Nat) : (markL a n).length = n := by simp [markL]
theorem markL_get (a : Int) (n i : Nat) (h : i < (markL a n).length) : (markL a n)[i] = a + i := by simp [markL]
theorem markIntS_l0 (a : Int) (n : Nat) (h0 : 0 ≤ a) (h1 : a ≤ 4611686018427387904) (hn : n ≤ 4611686018427387) (d : Nat) : ∀ (i : Nat) (y : List Int) (k : Nat), i + d = n → y.length = n → y.take i = markL a i → d < k →
    laws_markIntS.l0 k y (a + i) i = some (a + n, markL a n) := by
  induction d with
  | zero =>
    intro i y k hi hy ht hk
    obtain ⟨k, rfl⟩ : ∃ m, k = m + 1 := ⟨k - 1, by omega⟩
    simp only [laws_markIntS.l0]
    rw [if_neg (by omega)]
    obtain rfl : i = n := by omega
    rw [List.take_of_length_le (by omega)] at ht
    rw [ht]
  | succ d ih =>
    intro i y k hi hy ht hk
    obtain ⟨k, rfl⟩ : ∃ m, k = m + 1 := ⟨k - 1, by omega⟩
    simp only [laws_markIntS.l0]
    rw [if_pos (by omega), if_pos (by omega), wr1 (by omega), wr_in (x := a + i + 1) (by omega) (by omega)]
    have e : a + (i : Int) + 1 = a + ((i + 1 : Nat) : Int) := by omega
    rw [e]
    refine ih (i + 1) _ k (by omega) (by simpa using hy) ?_ (by omega)
    rw [Int.toNat_natCast, take_set_succ y i _ (by omega), ht]
    simp [markL, List.range_succ]
theorem markIntS_ev (a : Int) (l : List Int) (h0 : 0 ≤ a) (h1 : a ≤ 4611686018427387904) (hn : l.length ≤ 4611686018427387) : Ev (fun k => laws_markIntS.f k l a) (a + l.length, markL a l.length) := by
  refine ⟨l.length + 1, fun k hk => ?_⟩
  show laws_markIntS.f k l a = _
  unfold laws_markIntS.f
  have h := markIntS_l0 a l.length h0 h1 hn l.length 0 l k (by omega) rfl (by simp [markL]) (by omega)
  simpa using h
theorem heldIntS_l0 (a : Int) (n : Nat) (h0 : 0 ≤ a) (h1 : a ≤ 4611686018427387904) (hn : n ≤ 4611686018427387) (d : Nat) : ∀ (i k : Nat), i + d = n → d < k →
    laws_heldIntS.l0 k (markL a n) (a + i) i = some (a + n) := by
  induction d with
  | zero =>
    intro i k hi hk
    obtain ⟨k, rfl⟩ : ∃ m, k = m + 1 := ⟨k - 1, by omega⟩
    simp only [laws_heldIntS.l0]
    rw [if_neg (by rw [markL_length]; omega)]
    obtain rfl : i = n := by omega
    rfl
  | succ d ih =>
    intro i k hi hk
    obtain ⟨k, rfl⟩ : ∃ m, k = m + 1 := ⟨k - 1, by omega⟩
    simp only [laws_heldIntS.l0]
    have hlt : i < (markL a n).length := by rw [markL_length]; omega
    rw [if_pos (by rw [markL_length]; omega), if_pos (by omega), rd_nat _ i hlt, markL_get, if_pos rfl, wr1 (by omega), wr_in (x := a + i + 1) (by omega) (by omega)]
    have e : a + (i : Int) + 1 = a + ((i + 1 : Nat) : Int) := by omega
    rw [e]
    exact ih (i + 1) k (by omega) (by omega)
theorem heldIntS_ev (a : Int) (n : Nat) (h0 : 0 ≤ a) (h1 : a ≤ 4611686018427387904) (hn : n ≤ 4611686018427387) : Ev (fun k => laws_heldIntS.f k (markL a n) a) (a + n) := by
  refine ⟨n + 1, fun k hk => ?_⟩
  show laws_heldIntS.f k (markL a n) a = _
  unfold laws_heldIntS.f
  have h := heldIntS_l0 a n h0 h1 hn n 0 k (by omega) (by omega)
  simpa using h

-- Rows of rows, marked and held.
def tot : List (List Int) → Int
  | [] => 0
  | x :: xs => (x.length : Int) + tot xs
def markLL : Int → List (List Int) → List (List Int)
  | _, [] => []
  | a, x :: xs => markL a x.length :: markLL (a + x.length) xs
theorem tot_nonneg : ∀ (l : List (List Int)), 0 ≤ tot l
  | [] => by simp [tot]
  | x :: xs => by have := tot_nonneg xs; simp only [tot]; omega
theorem tot_le {m : Nat} : ∀ (l : List (List Int)), (∀ x ∈ l, x.length ≤ m) → tot l ≤ (l.length : Int) * (m : Int)
  | [], _ => by simp [tot]
  | x :: xs, h => by
    have h1 := tot_le xs (fun y hy => h y (List.mem_cons_of_mem _ hy))
    have h2 := h x (List.mem_cons_self ..)
    simp only [tot, List.length_cons]
    rw [show (((xs.length + 1 : Nat)) : Int) * (m : Int) = (xs.length : Int) * (m : Int) + (m : Int) by rw [Int.natCast_succ, Int.add_mul, Int.one_mul]]
    generalize (xs.length : Int) * (m : Int) = z at *
    omega
theorem rdL_mid (pre : List (List Int)) (x : List Int) (s : List (List Int)) : rd_L1 (pre ++ x :: s) (pre.length : Int) = x := by
  rw [rdL_nat _ pre.length (by simp)]; simp
theorem set_mid (pre : List (List Int)) (x v : List Int) (s : List (List Int)) : (pre ++ x :: s).set ((pre.length : Nat) : Int).toNat v = (pre ++ [v]) ++ s := by
  simp
theorem markSS_l0 : ∀ (s pre : List (List Int)) (b : Int), pre.length + s.length ≤ 1048576 → (∀ x ∈ s, x.length ≤ 1048576) → 0 ≤ b → b + tot s ≤ 2305843009213693952 →
    Ev (fun k => laws_markIntSS.l0 k (pre ++ s) b (pre.length : Int)) (b + tot s, pre ++ markLL b s)
  | [], pre, b, h1, h2, h3, h4 => by
    refine Ev.step (fun k => by simp only [laws_markIntSS.l0]; rfl) (Ev.ite_false (by simp) ?_)
    simp only [tot, markLL, Int.add_zero]
    exact Ev.now _
  | x :: s, pre, b, h1, h2, h3, h4 => by
    have hx := h2 x (List.mem_cons_self ..)
    have ht := tot_nonneg s
    simp only [tot] at h4
    simp only [List.length_cons] at h1
    have hm := markIntS_ev b x h3 (by omega) (by omega)
    have ih := markSS_l0 s (pre ++ [markL b x.length]) (b + x.length) (by simp; omega) (fun y hy => h2 y (List.mem_cons_of_mem _ hy)) (by omega) (by omega)
    have hlt : (pre.length : Int) < ((pre ++ x :: s).length : Int) := by simp only [List.length_append, List.length_cons]; omega
    have w1 : wrap64 ((pre.length : Int) + 1) = ((pre.length + 1 : Nat) : Int) := wr1 (by omega)
    refine Ev.step (fun k => by simp only [laws_markIntSS.l0]; rfl) (Ev.ite_true hlt (Ev.ite_true (Int.natCast_nonneg _) ?_))
    rw [rdL_mid, w1]
    refine Ev.bind hm ?_
    rw [set_mid]
    simp only [tot, markLL]
    rw [show b + ((x.length : Int) + tot s) = b + x.length + tot s by rw [Int.add_assoc], show pre ++ markL b x.length :: markLL (b + x.length) s = (pre ++ [markL b x.length]) ++ markLL (b + x.length) s by simp]
    simpa using ih
theorem markSS_ev (l : List (List Int)) (a : Int) (hl : l.length ≤ 1048576) (he : ∀ x ∈ l, x.length ≤ 1048576) (h0 : 0 ≤ a) (h1 : a ≤ 1152921504606846976) : Ev (fun k => laws_markIntSS.f k l a) (a + tot l, markLL a l) := by
  have ht := tot_le (m := 1048576) l he
  have hb : (l.length : Int) * ((1048576 : Nat) : Int) ≤ 1099511627776 := by
    have : (l.length : Int) * ((1048576 : Nat) : Int) ≤ ((1048576 : Nat) : Int) * ((1048576 : Nat) : Int) := Int.mul_le_mul_of_nonneg_right (by omega) (by omega)
    exact Int.le_trans this (by decide)
  have h := markSS_l0 l [] a (by simpa using hl) he h0 (by omega)
  simpa [laws_markIntSS.f] using h

theorem heldSS_l0 : ∀ (s pre : List (List Int)) (b : Int), pre.length + s.length ≤ 1048576 → (∀ x ∈ s, x.length ≤ 1048576) → 0 ≤ b → b + tot s ≤ 2305843009213693952 →
    Ev (fun k => laws_heldIntSS.l0 k (pre ++ markLL b s) b (pre.length : Int)) (b + tot s)
  | [], pre, b, h1, h2, h3, h4 => by
    refine Ev.step (fun k => by simp only [laws_heldIntSS.l0]; rfl) (Ev.ite_false (by simp [markLL]) ?_)
    simp only [tot, Int.add_zero]
    exact Ev.now _
  | x :: s, pre, b, h1, h2, h3, h4 => by
    have hx := h2 x (List.mem_cons_self ..)
    have ht := tot_nonneg s
    simp only [tot] at h4
    simp only [List.length_cons] at h1
    have hm := heldIntS_ev b x.length h3 (by omega) (by omega)
    have ih := heldSS_l0 s (pre ++ [markL b x.length]) (b + x.length) (by simp; omega) (fun y hy => h2 y (List.mem_cons_of_mem _ hy)) (by omega) (by omega)
    have hlt : (pre.length : Int) < ((pre ++ markLL b (x :: s)).length : Int) := by simp only [markLL, List.length_append, List.length_cons]; omega
    have w1 : wrap64 ((pre.length : Int) + 1) = ((pre.length + 1 : Nat) : Int) := wr1 (by omega)
    have hneg : ¬ (b + (x.length : Int) < 0) := by omega
    refine Ev.step (fun k => by simp only [laws_heldIntSS.l0]; rfl) (Ev.ite_true hlt (Ev.ite_true (Int.natCast_nonneg _) ?_))
    simp only [markLL]
    rw [rdL_mid, w1]
    refine Ev.bind hm (Ev.ite_false hneg ?_)
    simp only [tot]
    rw [show b + ((x.length : Int) + tot s) = b + x.length + tot s by rw [Int.add_assoc], show pre ++ markL b x.length :: markLL (b + x.length) s = (pre ++ [markL b x.length]) ++ markLL (b + x.length) s by simp]
    simpa using ih
theorem heldSS_ev (l : List (List Int)) (a : Int) (hl : l.length ≤ 1048576) (he : ∀ x ∈ l, x.length ≤ 1048576) (h0 : 0 ≤ a) (h1 : a ≤ 1152921504606846976) : Ev (fun k => laws_heldIntSS.f k (markLL a l) a) (a + tot l) := by
  have ht := tot_le (m := 1048576) l he
  have hb : (l.length : Int) * ((1048576 : Nat) : Int) ≤ 1099511627776 := by
    have : (l.length : Int) * ((1048576 : Nat) : Int) ≤ ((1048576 : Nat) : Int) * ((1048576 : Nat) : Int) := Int.mul_le_mul_of_nonneg_right (by omega) (by omega)
    exact Int.le_trans this (by decide)
  have h := heldSS_l0 l [] a (by simpa using hl) he h0 (by omega)
  simpa [laws_heldIntSS.f] using h

theorem l12_ev (l : List Int) (hl : l.length ≤ 1000) (hb : ∀ n ∈ l, 0 ≤ n ∧ n ≤ 9) : Ev (fun k => spec_l12Total.f k l) l.sum ∧ Ev (fun k => impl_sum.f k l) l.sum := by
  have loop : ∀ (d i : Nat) (s : Int), i + d = l.length → 0 ≤ s → s ≤ 9 * (i : Int) → Ev (fun k => spec_l12Total.l0 k l s i) (s + (l.drop i).sum) ∧ Ev (fun k => impl_sum.l0 k s l l.length i) (s + (l.drop i).sum) := by
    intro d
    induction d with
    | zero =>
      intro i s hi h0 h1
      rw [List.drop_of_length_le (by omega), List.sum_nil, Int.add_zero]
      exact ⟨Ev.step (fun k => by simp only [spec_l12Total.l0]; rfl) (Ev.ite_false (by omega) (Ev.now _)), Ev.step (fun k => by simp only [impl_sum.l0]; rfl) (Ev.ite_false (by omega) (Ev.now _))⟩
    | succ d ih =>
      intro i s hi h0 h1
      have hlt : i < l.length := by omega
      have hx := hb _ (List.getElem_mem hlt)
      have w : wrap64 (s + l[i]) = s + l[i] := wr_in (by omega) (by omega)
      have hi5 : i < 4611686018427387904 := by omega
      obtain ⟨g1, g2⟩ := ih (i + 1) (s + l[i]) (by omega) (by omega) (by omega)
      rw [List.drop_eq_getElem_cons hlt, List.sum_cons, ← Int.add_assoc]
      refine ⟨Ev.step (fun k => by simp only [spec_l12Total.l0]; rfl) (Ev.ite_true (by omega) (Ev.ite_true (by omega) ?_)), Ev.step (fun k => by simp only [impl_sum.l0]; rfl) (Ev.ite_true (by omega) (Ev.ite_true (by omega) (Ev.ite_true (by omega) ?_)))⟩
      · rw [rd_nat l i hlt, w, wr1 hi5]; exact g1
      · rw [rd_nat l i hlt, w, wr1 hi5]; exact g2
  have := loop l.length 0 0 (by omega) (by omega) (by omega)
  simpa [spec_l12Total.f, impl_sum.f] using this
theorem l27_ev (y : List (List Int)) (h9 : y.length ≤ 9) (hr : ∀ r ∈ y, r.length ≤ 9) (hb : inR y) : Ev (fun k => spec_l27Total.f k y) (tots y) := by
  have loop : ∀ (d i : Nat) (s : Int), i + d = y.length → 0 ≤ s → s ≤ 81 * (i : Int) → Ev (fun k => spec_l27Total.l0 k y s i) (s + tots (y.drop i)) := by
    intro d
    induction d with
    | zero =>
      intro i s hi h0 h1
      rw [List.drop_of_length_le (by omega), show tots [] = 0 from rfl, Int.add_zero]
      exact Ev.step (fun k => by simp only [spec_l27Total.l0]; rfl) (Ev.ite_false (by omega) (Ev.now _))
    | succ d ih =>
      intro i s hi h0 h1
      have hlt : i < y.length := by omega
      have hx := hr _ (List.getElem_mem hlt)
      have hs := sum_bound y[i] (hb _ (List.getElem_mem hlt))
      have w : wrap64 (s + y[i].sum) = s + y[i].sum := wr_in (by omega) (by omega)
      have hi5 : i < 4611686018427387904 := by omega
      have g1 := ih (i + 1) (s + y[i].sum) (by omega) (by omega) (by omega)
      rw [List.drop_eq_getElem_cons hlt, show tots (y[i] :: y.drop (i + 1)) = y[i].sum + tots (y.drop (i + 1)) from by simp only [tots, List.map_cons, List.sum_cons], ← Int.add_assoc]
      refine Ev.step (fun k => by simp only [spec_l27Total.l0]; rfl) (Ev.ite_true (by omega) (Ev.ite_true (by omega) ?_))
      rw [rdL_nat y i hlt]
      refine Ev.bind (l12_ev y[i] (by omega) (hb _ (List.getElem_mem hlt))).1 ?_
      rw [w, wr1 hi5]; exact g1
  have := loop y.length 0 0 (by omega) (by omega) (by omega)
  simpa [spec_l27Total.f] using this
theorem flat_sum (y : List (List Int)) : y.flatten.sum = tots y := by
  induction y with
  | nil => rfl
  | cons x y ih => simp only [tots] at ih; simp [tots, ih]
theorem implTotal_ev (y : List (List Int)) (h9 : y.length ≤ 9) (hr : ∀ r ∈ y, r.length ≤ 9) (hb : inR y) : Ev (fun k => impl_sum.f k y.flatten) (tots y) := by
  have hl := flat_le y hr
  rw [← flat_sum]
  refine (l12_ev y.flatten (by omega) fun n hn => ?_).2
  obtain ⟨r, h1, h2⟩ := List.mem_flatten.1 hn
  exact hb r h1 n h2
/-! The first column with anything in it. -/
def hasB (y : List (List Int)) (c : Nat) : Bool := y.any fun r => decide (0 < r.getD c 0)
theorem hasB_iff (y : List (List Int)) (c : Nat) : hasB y c = true ↔ ∃ i, 0 < cell y i c := by
  unfold hasB
  rw [List.any_eq_true]
  constructor
  · rintro ⟨r, h1, h2⟩
    obtain ⟨i, hi, rfl⟩ := List.getElem_of_mem h1
    exact ⟨i, by simpa [cell, hi] using h2⟩
  · rintro ⟨i, h⟩
    by_cases hi : i < y.length
    · exact ⟨y[i], List.getElem_mem hi, by simpa [cell, hi] using h⟩
    · simp [cell, List.getD_eq_getElem?_getD, List.getElem?_eq_none (Nat.le_of_not_lt hi)] at h
theorem at_row (r : List Int) (hl : r.length ≤ 1000) (v : Nat) : impl_at.f r (v : Int) = some (r.getD v 0) := by
  have w : wrap64 ((r.length : Int) - 1) = (r.length : Int) - 1 := wr_in (by omega) (by omega)
  unfold impl_at.f
  rw [within_f, Option.bind_some, w]
  by_cases h : v < r.length
  · rw [if_pos (decide_eq_true (by omega)), if_pos (by omega), if_pos (by omega), rd_nat r v h]
    simp [h]
  · rw [if_neg (by rw [decide_eq_true_eq]; omega)]
    simp [List.getD_eq_getElem?_getD, List.getElem?_eq_none (Nat.le_of_not_lt h)]
theorem start_l1 (y : List (List Int)) (h9 : y.length ≤ 9) (hr : ∀ r ∈ y, r.length ≤ 9) (v : Nat) (hv : v < 9) (res : Int × Bool) (d : Nat) : ∀ i, i + d = y.length → ((y.drop i).any (fun r => decide (0 < r.getD v 0)) = true → res = ((v : Int), true)) → ((y.drop i).any (fun r => decide (0 < r.getD v 0)) = false → Ev (fun k => impl_start.l0 k y ((v + 1 : Nat) : Int)) res) → Ev (fun k => impl_start.l1 k y v v y y.length i) res := by
  induction d with
  | zero =>
    intro i hi _ h2
    refine Ev.step (fun k => by rw [impl_start.l1]) (Ev.ite_false (by omega) ?_)
    rw [wr1 (by omega)]
    exact h2 (by rw [List.drop_of_length_le (by omega)]; rfl)
  | succ d ih =>
    intro i hi h1 h2
    have hlt : i < y.length := by omega
    have hx := hr _ (List.getElem_mem hlt)
    rw [List.drop_eq_getElem_cons hlt, List.any_cons] at h1 h2
    refine Ev.step (fun k => by rw [impl_start.l1]) (Ev.ite_true (by omega) (Ev.ite_true (by omega) (Ev.ite_true (by omega) ?_)))
    rw [rdL_nat y i hlt, at_row _ (by omega), wr1 (by omega)]
    refine Ev.bind (Ev.now _) ?_
    by_cases h : 0 < y[i].getD v 0
    · refine Ev.ite_true h ?_
      rw [h1 (by rw [decide_eq_true h]; rfl)]
      exact Ev.now _
    · refine Ev.ite_false h (ih (i + 1) (by omega) ?_ ?_)
      · intro e; exact h1 (by rw [e, Bool.or_true])
      · intro e; exact h2 (by rw [e, decide_eq_false h]; rfl)
theorem first_l1 {p : List Int} {y : List (List Int)} (hp : isP p = true) (hy : shp p y) (hb : inR y) (v : Nat) (hv : v < 9) (res : Int) (d : Nat) : ∀ i, i + d = p.length → ((y.drop i).any (fun r => decide (0 < r.getD v 0)) = true → res = (v : Int)) → ((y.drop i).any (fun r => decide (0 < r.getD v 0)) = false → Ev (fun k => spec_l27First.l0 k p y ((v + 1 : Nat) : Int)) res) → Ev (fun k => spec_l27First.l1 k p y v i) res := by
  have h9 := isP_length hp
  induction d with
  | zero =>
    intro i hi _ h2
    refine Ev.step (fun k => by rw [spec_l27First.l1]) (Ev.ite_false (by omega) ?_)
    rw [wr1 (by omega)]
    exact h2 (by rw [List.drop_of_length_le (by have := hy.1; omega)]; rfl)
  | succ d ih =>
    intro i hi h1 h2
    have hlt : i < y.length := by have := hy.1; omega
    have hlp : i < p.length := by omega
    have hq := hy.2 i hlt hlp
    rw [List.drop_eq_getElem_cons hlt, List.any_cons] at h1 h2
    have go : (y[i].getD v 0 = 0) → Ev (fun k => spec_l27First.l1 k p y v ((i + 1 : Nat) : Int)) res := by
      intro h
      refine ih (i + 1) (by omega) ?_ ?_
      · intro e; exact h1 (by rw [e, Bool.or_true])
      · intro e; exact h2 (by rw [e, decide_eq_false (by omega)]; rfl)
    refine Ev.step (fun k => by rw [spec_l27First.l1]) (Ev.ite_true (by omega) (Ev.ite_true (by omega) ?_))
    rw [rd_nat p i hlp, rdL_nat y i hlt, wr1 (by omega)]
    by_cases hc : (v : Int) < p[i]
    · have hvl : v < y[i].length := by omega
      have e : y[i].getD v 0 = y[i][v] := by simp [hvl]
      have hn := hb _ (List.getElem_mem hlt) _ (List.getElem_mem hvl)
      refine Ev.ite_true hc (Ev.ite_true (by omega) (Ev.ite_true (by omega) (Ev.ite_true (by omega) ?_)))
      rw [rd_nat _ v hvl]
      by_cases h : y[i][v] = 0
      · exact Ev.ite_true h (go (by omega))
      · refine Ev.ite_false h ?_
        rw [h1 (by rw [decide_eq_true (by omega)]; rfl)]
        exact Ev.now _
    · exact Ev.ite_false hc (go (by simp [List.getD_eq_getElem?_getD, List.getElem?_eq_none (show y[i].length ≤ v by omega)]))
theorem rows9 {p : List Int} {y : List (List Int)} (hp : isP p = true) (hy : shp p y) : y.length ≤ 9 ∧ ∀ r ∈ y, r.length ≤ 9 := by
  have h9 := isP_length hp
  refine ⟨by rw [hy.1]; exact h9, fun r hr => ?_⟩
  obtain ⟨i, hi, rfl⟩ := List.getElem_of_mem hr
  have h2 : i < p.length := by rw [← hy.1]; exact hi
  have := hy.2 i hi h2
  have := isP_get hp i h2
  omega
/-- Both look for the first column alike. -/
theorem first_ev {p : List Int} {y : List (List Int)} (hp : isP p = true) (hy : shp p y) (hb : inR y) :
    (Ev (fun k => impl_start.f k y) (0, false) ∧ tots y = 0) ∨
    (∃ c : Nat, c < 9 ∧ hasB y c = true ∧ (∀ c' < c, hasB y c' = false) ∧ Ev (fun k => impl_start.f k y) ((c : Int), true) ∧ Ev (fun k => spec_l27First.f k p y) (c : Int)) := by
  obtain ⟨q1, q2⟩ := rows9 hp hy
  have loop : ∀ (d v : Nat), v + d = 9 → (∀ c' < v, hasB y c' = false) →
      (Ev (fun k => impl_start.l0 k y v) (0, false) ∧ tots y = 0) ∨
      (∃ c : Nat, c < 9 ∧ hasB y c = true ∧ (∀ c' < c, hasB y c' = false) ∧ Ev (fun k => impl_start.l0 k y v) ((c : Int), true) ∧ Ev (fun k => spec_l27First.l0 k p y v) (c : Int)) := by
    intro d
    induction d with
    | zero =>
      intro v hv hno
      refine .inl ⟨Ev.step (fun k => by rw [impl_start.l0]) (Ev.ite_false (by omega) (Ev.now _)), ?_⟩
      have h0 := tots_nonneg hb
      by_cases h : 0 < tots y
      · obtain ⟨i, j, h1, h2⟩ := pos_tots y h
        have h3 := shp_row hy i
        have h4 := (wd_9 hp i).2
        have h5 := hno j (by omega)
        have h6 := (hasB_iff y j).2 ⟨i, h2⟩
        rw [h5] at h6
        cases h6
      · omega
    | succ d ih =>
      intro v hv hno
      by_cases h : hasB y v = true
      · refine .inr ⟨v, by omega, h, hno, ?_, ?_⟩
        · refine Ev.step (fun k => by rw [impl_start.l0]) (Ev.ite_true (by omega) ?_)
          exact start_l1 y q1 q2 v (by omega) _ y.length 0 (by omega) (fun _ => rfl) (fun e => by simp only [List.drop_zero] at e; unfold hasB at h; rw [e] at h; cases h)
        · refine Ev.step (fun k => by rw [spec_l27First.l0]) ?_
          exact first_l1 hp hy hb v (by omega) _ p.length 0 (by omega) (fun _ => rfl) (fun e => by simp only [List.drop_zero] at e; unfold hasB at h; rw [e] at h; cases h)
      · have h' : hasB y v = false := by simpa using h
        have hno' : ∀ c' < v + 1, hasB y c' = false := fun c' hc' => by
          by_cases e : c' = v
          · rw [e]; exact h'
          · exact hno c' (by omega)
        have key : ∀ b : Bool, ((y.drop 0).any (fun r => decide (0 < r.getD v 0)) = b) → b = false := fun b e => by
          simp only [List.drop_zero] at e
          unfold hasB at h'
          rw [← e]; exact h'
        rcases ih (v + 1) (by omega) hno' with ⟨g1, g2⟩ | ⟨c, g1, g2, g3, g4, g5⟩
        · refine .inl ⟨Ev.step (fun k => by rw [impl_start.l0]) (Ev.ite_true (by omega) ?_), g2⟩
          exact start_l1 y q1 q2 v (by omega) _ y.length 0 (by omega) (fun e => by have := key _ e; cases this) (fun _ => g1)
        · refine .inr ⟨c, g1, g2, g3, ?_, ?_⟩
          · refine Ev.step (fun k => by rw [impl_start.l0]) (Ev.ite_true (by omega) ?_)
            exact start_l1 y q1 q2 v (by omega) _ y.length 0 (by omega) (fun e => by have := key _ e; cases this) (fun _ => g4)
          · refine Ev.step (fun k => by rw [spec_l27First.l0]) ?_
            exact first_l1 hp hy hb v (by omega) _ p.length 0 (by omega) (fun e => by have := key _ e; cases this) (fun _ => g5)
  simpa [impl_start.f, spec_l27First.f] using loop 9 0 (by omega) (fun c' h => by omega)
/-! One hook taken off. -/
theorem wrm1 {i : Nat} (h : 0 < i) (h2 : i < 1000) : wrap64 ((i : Int) - 1) = ((i - 1 : Nat) : Int) := by unfold wrap64; omega
theorem beq_dec (a b : Int) : (a == b) = decide (a = b) := by by_cases h : a = b <;> simp [h]
theorem path_ev {p : List Int} (hp : isP p = true) (out : List (List Int)) (hout : shp p out) (c : Nat) (m : Nat) : ∀ (i j : Nat) (y : List (List Int)), i + (9 - j) ≤ m → c ≤ j → (j : Int) < wd p i → mid p y i j → strict y i j →
    ∃ (y' : List (List Int)) (out' : List (List Int)), rpp p y' ∧ shp p out' ∧ tots y' < tots y ∧
      (∀ res, Ev (fun k => spec_HooksOfReverse.l0 k p y' out') res → Ev (fun k => spec_HooksOfReverse.l2 k p y out c j i) res) ∧
      (∀ res, Ev (fun k => (impl_start.f k y').bind fun bt => impl_HooksOfReverse.l1 k p y' out' bt.1 bt.2) res → Ev (fun k => impl_HooksOfReverse.l2 k p y out c i j) res) := by
  have h9 := isP_length hp
  induction m with
  | zero =>
    intro i j y hm hc hj _ _
    have := wd_9 hp i
    omega
  | succ m ih =>
    intro i j y hm hc hj hmid hs
    have hw9 := wd_9 hp i
    have hi := wd_lt hj
    have hiy : i < y.length := by rw [hmid.1.1]; exact hi
    have hrow := shp_row hmid.1 i
    have hjy : j < (y.getD i []).length := by omega
    have hcr := inR_cell hmid.2.1 i j
    have hstep0 := mid_step hp hj hmid hs
    have htot := tots_putc y i j (cell y i j - 1) hiy hjy
    obtain ⟨n, hn⟩ : ∃ n, n = cell y i j := ⟨_, rfl⟩
    obtain ⟨y1, hy1⟩ : ∃ y1, y1 = putc y i j (n - 1) := ⟨_, rfl⟩
    rw [← hn] at hstep0 htot
    rw [← hy1] at hstep0 htot
    have hstep := Aside0.mk hstep0
    clear hstep0
    have hyS : y.set ((i : Nat) : Int).toNat ((rd_L1 y (i : Int)).set ((j : Nat) : Int).toNat (wrap64 (rd (rd_L1 y (i : Int)) (j : Int) - 1))) = y1 := by
      have wn : Aside0 (wrap64 (n - 1) = n - 1) := ⟨wr_in (by omega) (by omega)⟩
      rw [rd_cell, rdL_D, ← hn, wn.out, Int.toNat_natCast, Int.toNat_natCast, hy1]
      unfold putc
      exact Eq.refl _
    have hs1 : shp p y1 := by rw [hy1]; exact shp_putc hmid.1 i j _ hi
    have wj : Aside0 (wrap64 ((j : Int) + 1) = ((j + 1 : Nat) : Int)) := ⟨wr1 (by omega)⟩
    have hlen : (j : Int) < ((rd_L1 y (i : Int)).length : Int) := by rw [rdL_D]; omega
    have hn0 : 0 < n := by rw [hn]; exact hs.1
    -- up or not
    have wi : Aside0 (0 < i → wrap64 ((i : Int) - 1) = ((i - 1 : Nat) : Int)) := ⟨fun h => wrm1 h (by omega)⟩
    have hrow1 : Aside0 (0 < i → (j : Int) < ((rd_L1 y1 ((i - 1 : Nat) : Int)).length : Int)) := ⟨fun h => by
      rw [rdL_D]
      have h1 := shp_row hs1 (i - 1)
      have h2 := wd_desc hp (i - 1)
      rw [show i - 1 + 1 = i by omega] at h2
      omega⟩
    have hlen1 : y1.length = p.length := hs1.1
    have hup1 : Aside0 (0 < i → cell y1 (i - 1) j = cell y (i - 1) j) := ⟨fun h => by
      rw [hy1, cell_putc y i j _ hiy hjy, if_neg (by omega)]⟩
    -- what both do at the choice
    have both : ∀ (b : Bool), (b = decide (0 < i ∧ cell y (i - 1) j = n)) → ∀ res,
        (Ev (fun k => spec_HooksOfReverse.j5 k p y1 out c j i b) res → Ev (fun k => spec_HooksOfReverse.l2 k p y out c j i) res) ∧
        (Ev (fun k => impl_HooksOfReverse.j4 k p y1 out c i j b) res → Ev (fun k => impl_HooksOfReverse.l2 k p y out c i j) res) := by
      intro b hb0 res
      have hb := Aside0.mk hb0
      clear hb0
      constructor
      · intro h
        refine Ev.step (fun k => by rw [spec_HooksOfReverse.l2]) ?_
        refine Ev.ite_true (by omega) (Ev.ite_true (by omega) (Ev.ite_true (by omega) (Ev.ite_true hlen ?_)))
        rw [hyS, rd_cell, ← hn]
        refine Ev.bind (Ev.now _) ?_
        by_cases h0 : 0 < i
        · rw [wi.out h0, rd_cell, hup1.out h0]
          refine Ev.ite_true (by omega) (Ev.ite_true (by omega) (Ev.ite_true (by omega) (Ev.ite_true (hrow1.out h0) ?_)))
          have e : (cell y (i - 1) j == n) = b := by rw [hb.out, beq_dec]; simp [h0]
          rw [e]; exact h
        · have e : b = false := by rw [hb.out]; exact decide_eq_false (fun h => h0 h.1)
          rw [e] at h
          exact Ev.ite_false (by omega) h
      · intro h
        refine Ev.step (fun k => by rw [impl_HooksOfReverse.l2]) ?_
        refine Ev.ite_true (by omega) (Ev.ite_true (by omega) (Ev.ite_true (by omega) (Ev.ite_true hlen ?_)))
        rw [hyS, rd_cell, ← hn]
        refine Ev.bind (Ev.now _) ?_
        by_cases h0 : 0 < i
        · rw [wi.out h0, rd_cell, hup1.out h0]
          refine Ev.ite_true (by omega) (Ev.ite_true (by omega) (Ev.ite_true (by omega) (Ev.ite_true (hrow1.out h0) ?_)))
          by_cases h1 : cell y (i - 1) j = n
          · have e : b = true := by rw [hb.out]; exact decide_eq_true ⟨h0, h1⟩
            rw [e] at h
            refine Ev.ite_true h1 ?_
            rw [show (n != 0) = true by rw [bne_iff_ne]; omega]
            exact h
          · have e : b = false := by rw [hb.out]; exact decide_eq_false (fun h => h1 h.2)
            rw [e] at h
            exact Ev.ite_false h1 h
        · have e : b = false := by rw [hb.out]; exact decide_eq_false (fun h => h0 h.1)
          rw [e] at h
          exact Ev.ite_false (by omega) h
    rcases Classical.em (0 < i ∧ cell y (i - 1) j = n) with hu | hu
    · obtain ⟨g1, g2⟩ := hstep.out.1 hu
      have hw := wd_desc hp (i - 1)
      rw [show i - 1 + 1 = i by omega] at hw
      obtain ⟨y', out', r1, r2, r3, r4, r5⟩ := ih (i - 1) j y1 (by omega) hc (by omega) g1 g2
      refine ⟨y', out', r1, r2, by omega, fun res hres => ?_, fun res hres => ?_⟩
      · refine (both true (decide_eq_true hu).symm res).1 (Ev.step (fun k => by rw [spec_HooksOfReverse.j5]) (Ev.ite_true rfl ?_))
        rw [wi.out hu.1]; exact r4 res hres
      · refine (both true (decide_eq_true hu).symm res).2 (Ev.step (fun k => by rw [impl_HooksOfReverse.j4]) (Ev.ite_true rfl ?_))
        rw [wi.out hu.1]; exact r5 res hres
    · obtain ⟨g1, g2⟩ := hstep.out.2 hu
      by_cases hj1 : ((j + 1 : Nat) : Int) < wd p i
      · obtain ⟨y', out', r1, r2, r3, r4, r5⟩ := ih i (j + 1) y1 (by omega) (by omega) hj1 (rpp_mid g1 _ _) (g2 hj1)
        refine ⟨y', out', r1, r2, by omega, fun res hres => ?_, fun res hres => ?_⟩
        · refine (both false (decide_eq_false hu).symm res).1 (Ev.step (fun k => by rw [spec_HooksOfReverse.j5]) (Ev.ite_false (by simp) (Ev.ite_true (by omega) (Ev.ite_true (by omega) ?_))))
          rw [wj.out, rd_wd]
          exact Ev.ite_false (by omega) (r4 res hres)
        · refine (both false (decide_eq_false hu).symm res).2 (Ev.step (fun k => by rw [impl_HooksOfReverse.j4]) (Ev.ite_false (by simp) (Ev.ite_true (by omega) (Ev.ite_true (by omega) ?_))))
          rw [wj.out, rd_wd]
          exact Ev.ite_true hj1 (r5 res hres)
      · have hol : i < out.length := by rw [hout.1]; exact hi
        have horow := shp_row hout i
        have hoc : (c : Int) < ((rd_L1 out (i : Int)).length : Int) := by rw [rdL_D]; omega
        refine ⟨y1, putc out i c (wrap64 (cell out i c + 1)), g1, shp_putc hout i c _ hi, by omega, fun res hres => ?_, fun res hres => ?_⟩
        · refine (both false (decide_eq_false hu).symm res).1 (Ev.step (fun k => by rw [spec_HooksOfReverse.j5]) (Ev.ite_false (by simp) (Ev.ite_true (by omega) (Ev.ite_true (by omega) ?_))))
          rw [wj.out, rd_wd]
          refine Ev.ite_true (by omega) (Ev.ite_true (by omega) (Ev.ite_true (by omega) (Ev.ite_true hoc ?_)))
          rw [rd_cell, rdL_D, Int.toNat_natCast, Int.toNat_natCast]
          exact hres
        · refine (both false (decide_eq_false hu).symm res).2 (Ev.step (fun k => by rw [impl_HooksOfReverse.j4]) (Ev.ite_false (by simp) (Ev.ite_true (by omega) (Ev.ite_true (by omega) ?_))))
          rw [wj.out, rd_wd]
          refine Ev.ite_false (by omega) (Ev.ite_true (by omega) (Ev.ite_true (by omega) (Ev.ite_true hoc ?_)))
          rw [rd_cell, rdL_D, Int.toNat_natCast, Int.toNat_natCast]
          exact hres
/-- The reference looks for the last row that reaches the column. -/
theorem last_ev {p : List Int} (hp : isP p = true) (y out : List (List Int)) (c : Nat) (hc : c < 9) (res : List (List Int) × Bool) (i0 : Nat) (h0 : colH p c = i0 + 1) (h : Ev (fun k => spec_HooksOfReverse.l2 k p y out c c i0) res) (d : Nat) : ∀ i : Nat, i + d = i0 → Ev (fun k => spec_HooksOfReverse.l1 k p y out c c i) res := by
  have h9 := isP_length hp
  have hle := colH_le (p := p) c
  induction d with
  | zero =>
    intro i hi
    obtain rfl : i = i0 := by omega
    have hj : Ev (fun k => spec_HooksOfReverse.j3 k p y out c c i) res := Ev.step (fun k => by rw [spec_HooksOfReverse.j3]) h
    refine Ev.step (fun k => by rw [spec_HooksOfReverse.l1]) ?_
    rw [wr1 (by omega)]
    by_cases h1 : i + 1 < p.length
    · refine Ev.ite_true (by omega) (Ev.ite_true (by omega) (Ev.ite_false ?_ hj))
      intro h2
      have h3 := (col_iff hp c (by omega) (i + 1) (by omega)).2 ⟨h1, by rw [rd_wd] at h2; exact h2⟩
      omega
    · exact Ev.ite_false (by omega) hj
  | succ d ih =>
    intro i hi
    obtain ⟨h1, h2⟩ := (col_iff hp c (by omega) (i + 1) (by omega)).1 (by omega)
    refine Ev.step (fun k => by rw [spec_HooksOfReverse.l1]) ?_
    rw [wr1 (by omega)]
    refine Ev.ite_true (by omega) (Ev.ite_true (by omega) (Ev.ite_true ?_ (ih (i + 1) (by omega))))
    rw [rd_wd]; exact h2
theorem rise {p : List Int} {y : List (List Int)} (hp : isP p = true) (h : rpp p y) (c : Nat) (d : Nat) : ∀ i : Nat, (c : Int) < wd p (i + d) → cell y i c ≤ cell y (i + d) c := by
  induction d with
  | zero => intro i _; exact Int.le_refl _
  | succ d ih =>
    intro i hc
    have h1 := h.2.2.2 (i + d) c hc
    have h2 := wd_desc hp (i + d)
    have h3 := ih i (by rw [show i + (d + 1) = i + d + 1 by omega] at hc; omega)
    rw [show i + (d + 1) = i + d + 1 by omega]
    omega
def okRes (p : List Int) (res : List (List Int) × Bool) : Prop := res.1 = [] ∨ shp p res.1
theorem main_ev {p : List Int} (hp : isP p = true) (n : Nat) : ∀ (y out : List (List Int)), tots y ≤ n → rpp p y → shp p out →
    ∃ res, okRes p res ∧ Ev (fun k => spec_HooksOfReverse.l0 k p y out) res ∧ Ev (fun k => (impl_start.f k y).bind fun bt => impl_HooksOfReverse.l1 k p y out bt.1 bt.2) res := by
  have h9 := isP_length hp
  induction n with
  | zero =>
    intro y out hn hy hout
    have h0 := tots_nonneg hy.2.1
    rcases first_ev hp hy.1 hy.2.1 with ⟨g1, g2⟩ | ⟨c, _, g2, _⟩
    · obtain ⟨q1, q2⟩ := rows9 hp hy.1
      refine ⟨(out, true), .inr hout, ?_, ?_⟩
      · exact Ev.step (fun k => by rw [spec_HooksOfReverse.l0]) (Ev.bind (l27_ev y q1 q2 hy.2.1) (Ev.ite_false (show ¬ tots y > 0 by omega) (Ev.now _)))
      · exact Ev.bind g1 (Ev.step (fun k => by rw [impl_HooksOfReverse.l1]) (Ev.ite_false (by simp) (Ev.now _)))
    · obtain ⟨i, hi⟩ := (hasB_iff y c).1 g2
      have := cell_le_tots hy.2.1 i c
      omega
  | succ n ih =>
    intro y out hn hy hout
    obtain ⟨q1, q2⟩ := rows9 hp hy.1
    rcases first_ev hp hy.1 hy.2.1 with ⟨g1, g2⟩ | ⟨c, hc9, g2, g3, g4, g5⟩
    · refine ⟨(out, true), .inr hout, ?_, ?_⟩
      · exact Ev.step (fun k => by rw [spec_HooksOfReverse.l0]) (Ev.bind (l27_ev y q1 q2 hy.2.1) (Ev.ite_false (show ¬ tots y > 0 by omega) (Ev.now _)))
      · exact Ev.bind g1 (Ev.step (fun k => by rw [impl_HooksOfReverse.l1]) (Ev.ite_false (by simp) (Ev.now _)))
    · obtain ⟨i, hi⟩ := (hasB_iff y c).1 g2
      have hle := cell_le_tots hy.2.1 i c
      have hic : (c : Int) < wd p i := by
        have := shp_row hy.1 i
        by_cases h : c < (y.getD i []).length
        · omega
        · unfold cell at hi
          rw [List.getD_eq_getElem?_getD, List.getElem?_eq_none (Nat.le_of_not_lt h)] at hi
          simp at hi
      have hip := wd_lt hic
      have hcol := (col_iff hp c (by omega) i (by omega)).2 ⟨hip, hic⟩
      have hcle := colH_le (p := p) c
      obtain ⟨i0, h0⟩ : ∃ i0, colH p c = i0 + 1 := ⟨colH p c - 1, by omega⟩
      have hi0 := (col_iff hp c (by omega) i0 (by omega)).1 (by omega)
      have hw0 : (c : Int) < wd p i0 := hi0.2
      have hr := rise hp hy c (i0 - i) i (by rw [show i + (i0 - i) = i0 by omega]; exact hw0)
      rw [show i + (i0 - i) = i0 by omega] at hr
      have hs : strict y i0 c := by
        refine ⟨by omega, fun hc0 => ?_⟩
        have hz : ∀ a, cell y a (c - 1) ≤ 0 := fun a => by
          have h1 := g3 (c - 1) (by omega)
          by_cases h : 0 < cell y a (c - 1)
          · rw [(hasB_iff y (c - 1)).2 ⟨a, h⟩] at h1; cases h1
          · omega
        have z1 := hz i0
        have z2 := hz (i0 - 1)
        exact ⟨by omega, fun _ => by omega⟩
      obtain ⟨y', out', r1, r2, r3, r4, r5⟩ := path_ev hp out hout c (i0 + (9 - c)) i0 c y (by omega) (by omega) hw0 (rpp_mid hy _ _) hs
      obtain ⟨res, e1, e2, e3⟩ := ih y' out' (by omega) r1 r2
      refine ⟨res, e1, ?_, ?_⟩
      · refine Ev.step (fun k => by rw [spec_HooksOfReverse.l0]) (Ev.bind (l27_ev y q1 q2 hy.2.1) (Ev.ite_true (show tots y > 0 by omega) (Ev.bind g5 ?_)))
        exact last_ev hp y out c hc9 res i0 h0 (r4 res e2) i0 0 (by omega)
      · refine Ev.bind g4 (Ev.step (fun k => by rw [impl_HooksOfReverse.l1]) (Ev.ite_true rfl (Ev.bind (col_ev hp c (by omega)) ?_)))
        have w : wrap64 (((colH p c : Nat) : Int) - 1) = (i0 : Int) := by unfold wrap64; omega
        rw [w]
        exact r5 res e3
/-! The copies. -/
theorem copy_ev (f : List (List Int)) (h9 : f.length ≤ 9) (hr : ∀ r ∈ f, r.length ≤ 9) : Ev (fun k => spec_l27Copy.f k f) f := by
  have loop : ∀ (d i : Nat), i + d = f.length → Ev (fun k => spec_l27Copy.l0 k f (f.take i) i) f := by
    intro d
    induction d with
    | zero =>
      intro i hi
      rw [List.take_of_length_le (by omega)]
      exact Ev.step (fun k => by simp only [spec_l27Copy.l0]; rfl) (Ev.ite_false (by omega) (Ev.now _))
    | succ d ih =>
      intro i hi
      have hlt : i < f.length := by omega
      have hx := hr _ (List.getElem_mem hlt)
      have hi5 : i < 4611686018427387904 := by omega
      have ht : (f.take i).length < 5864062014805 := by rw [List.length_take]; omega
      refine Ev.step (fun k => by simp only [spec_l27Copy.l0]; rfl) (Ev.ite_true (by omega) (Ev.bind (Ev.now _) (Ev.ite_true (by omega) ?_)))
      rw [rdL_nat f i hlt, List.nil_append, wr1 hi5, ← List.take_succ_eq_append_getElem hlt]
      exact Ev.ite_true (by simp; omega) (Ev.ite_true ht (ih (i + 1) (by omega)))
  have := loop f.length 0 (by omega)
  simpa [spec_l27Copy.f] using this
theorem xcp_all (d s : List Int) (h : d.length = s.length) : xcp d s = s := by
  unfold xcp
  rw [h, List.take_length, List.drop_of_length_le (by omega), List.append_nil]
theorem fill_ev {p : List Int} (hp : isP p = true) (f : List (List Int)) (hf : shp p f) (out : List (List Int)) (res : List (List Int) × Bool) (h : Ev (fun k => (impl_start.f k f).bind fun bt => impl_HooksOfReverse.l1 k p f out bt.1 bt.2) res) (d : Nat) : ∀ (i : Nat) (y : List (List Int)), i + d = f.length → shp p y → y.take i = f.take i → Ev (fun k => impl_HooksOfReverse.l0 k p y out f f.length i) res := by
  have h9 := isP_length hp
  have hfl := hf.1
  induction d with
  | zero =>
    intro i y hi hy ht
    have hyl := hy.1
    rw [List.take_of_length_le (by omega), List.take_of_length_le (by omega)] at ht
    subst ht
    exact Ev.step (fun k => by rw [impl_HooksOfReverse.l0]) (Ev.ite_false (by omega) h)
  | succ d ih =>
    intro i y hi hy ht
    have hyl := hy.1
    have hlt : i < f.length := by omega
    have hlp : i < p.length := by omega
    have hly : i < y.length := by omega
    have e1 := hf.2 i hlt hlp
    have e2 := hy.2 i hly hlp
    refine Ev.step (fun k => by rw [impl_HooksOfReverse.l0]) (Ev.ite_true (by omega) (Ev.ite_true (by omega) (Ev.ite_true (by omega) (Ev.ite_true (by omega) ?_))))
    rw [rdL_nat y i hly, rdL_nat f i hlt, xcp_all _ _ (by omega), wr1 (by omega), Int.toNat_natCast]
    refine ih (i + 1) _ (by omega) (shp_set hy i hly _ (by omega)) ?_
    rw [take_set_succ y i _ hly, ht, List.take_succ_eq_append_getElem hlt]
theorem inR_fill : ∀ (p : List Int) (f : List (List Int)), p.length = f.length → fillFrom p f = true → inR f
  | _, [], _, _ => fun r hr => by simp at hr
  | [], r :: rs, hl, _ => by simp at hl
  | p :: ps, r :: rs, hl, hf => by
    simp only [fillFrom, Bool.and_eq_true, List.all_eq_true] at hf
    intro x hx
    rcases List.mem_cons.1 hx with rfl | hx
    · intro n hn
      have := hf.2.1 n hn
      simp only [okF, decide_eq_true_eq] at this
      exact this
    · exact inR_fill ps rs (by simpa using hl) hf.2.2 x hx
theorem same (p : List Int) (f : List (List Int)) (hl : p.length ≤ 1048576) : ∃ res, (res.1.length ≤ 1048576 ∧ ∀ x ∈ res.1, x.length ≤ 1048576) ∧ Ev (fun k => spec_HooksOfReverse.f k p f) res ∧ Ev (fun k => impl_HooksOfReverse.f k p f) res := by
  obtain ⟨b, h1, h2, h3⟩ := rev_same p f hl
  have n1 : Ev (fun k => spec_HooksOfReverse.j0 k p f true) (([], false) : List (List Int) × Bool) := Ev.step (fun k => by rw [spec_HooksOfReverse.j0]) (Ev.ite_true rfl (Ev.now _))
  have n2 : Ev (fun k => impl_HooksOfReverse.j0 k p f true) (([], false) : List (List Int) × Bool) := Ev.step (fun k => by rw [impl_HooksOfReverse.j0]) (Ev.ite_true rfl (Ev.now _))
  cases b with
  | false =>
    refine ⟨([], false), ⟨by simp, by simp⟩, ?_, ?_⟩
    · unfold spec_HooksOfReverse.f
      exact Ev.bind h1 (Ev.ite_false (by simp) n1)
    · unfold impl_HooksOfReverse.f
      exact Ev.bind h2 (Ev.ite_false (by simp) n2)
  | true =>
    obtain ⟨hF, hR⟩ := h3 rfl
    simp only [isF, Bool.and_eq_true, decide_eq_true_eq] at hF
    obtain ⟨hp, hlen, hfill⟩ := hF
    have hf : shp p f := ⟨hlen, fun i h h' => fillFrom_get p f hlen.symm hfill i h' h⟩
    have hin := inR_fill p f hlen.symm hfill
    have hrpp : rpp p f := by
      refine ⟨hf, hin, fun a b hab => ?_, fun a b hab => ?_⟩
      · have ha := wd_lt hab
        have := (hR a (b + 1) (by omega) ha hab).1 (by omega)
        simpa [cell] using this
      · have ha := wd_lt hab
        have := (hR (a + 1) b (by omega) ha hab).2 (by omega)
        simpa [cell] using this
    obtain ⟨q1, q2⟩ := rows9 hp hf
    have t1 := l27_ev f q1 q2 hin
    have t2 := nums_impl f q2 q1
    have t3 := implTotal_ev f q1 q2 hin
    have hz := zeros_ev hp
    have hzs := noughts_shp hp
    by_cases h20 : tots f > 20
    · refine ⟨([], false), ⟨by simp, by simp⟩, ?_, ?_⟩
      · unfold spec_HooksOfReverse.f
        refine Ev.bind h1 (Ev.ite_true rfl (Ev.bind t1 ?_))
        rw [decide_eq_true h20]; exact n1
      · unfold impl_HooksOfReverse.f
        refine Ev.bind h2 (Ev.ite_true rfl (Ev.bind t2 (Ev.bind t3 ?_)))
        rw [decide_eq_true h20]; exact n2
    · have h0 := tots_nonneg hin
      obtain ⟨res, e1, e2, e3⟩ := main_ev hp (tots f).toNat f (noughts p) (by omega) hrpp hzs
      refine ⟨res, ?_, ?_, ?_⟩
      · rcases e1 with e | e
        · rw [e]; simp
        · obtain ⟨z1, z2⟩ := rows9 hp e
          exact ⟨by omega, fun x hx => by have := z2 x hx; omega⟩
      · unfold spec_HooksOfReverse.f
        refine Ev.bind h1 (Ev.ite_true rfl (Ev.bind t1 ?_))
        rw [decide_eq_false h20]
        exact Ev.step (fun k => by rw [spec_HooksOfReverse.j0]) (Ev.ite_false (by simp) (Ev.bind (copy_ev f q1 q2) (Ev.bind hz.1 e2)))
      · unfold impl_HooksOfReverse.f
        refine Ev.bind h2 (Ev.ite_true rfl (Ev.bind t2 (Ev.bind t3 ?_)))
        rw [decide_eq_false h20]
        refine Ev.step (fun k => by rw [impl_HooksOfReverse.j0]) (Ev.ite_false (by simp) (Ev.bind hz.2 (Ev.bind hz.2 ?_)))
        exact fill_ev hp f hf (noughts p) res e3 f.length 0 (noughts p) (by omega) hzs rfl
theorem FnExactHooksOfReverse : laws_FnExactHooksOfReverse.Pure := by
  intro p f hp hf
  apply Ev.rounds
  simp only [laws_FnExactHooksOfReverse.f]
  by_cases hl : p.length ≤ 1048576
  · refine Ev.ite_false (by omega) ?_
    obtain ⟨r, hr, hc⟩ := szIntSS_ev f hf.1 (fun x hx => (hf.2 x hx).1)
    refine Ev.bind hr ?_
    by_cases h0 : r < 0
    · exact Ev.ite_true h0 (Ev.now _)
    refine Ev.ite_false h0 ?_
    have hs : smallL f := hc.resolve_left h0
    obtain ⟨res, ⟨q1, q2⟩, h1, h2⟩ := same p f hl
    obtain ⟨g, gb⟩ := res
    have ht := toIntS_ev p hl
    have he := eqIntS_self p hl
    have ht2 := toIntSS_ev f hs
    have he2 := eqIntSS_self f hs
    have he3 := eqIntSS_self g ⟨q1, q2⟩
    have hm := markIntS_ev 1 p (by omega) (by omega) (by omega)
    have hm2 := markSS_ev f (1 + p.length) hs.1 hs.2 (by omega) (by omega)
    have hm3 := markSS_ev g 1 q1 q2 (by omega) (by omega)
    have hh := heldSS_ev g 1 q1 q2 (by omega) (by omega)
    have htn := tot_nonneg g
    have htn2 := tot_nonneg f
    repeat (first
      | exact Ev.now _
      | refine Ev.bind ht ?_
      | refine Ev.bind ht2 ?_
      | refine Ev.bind h1 ?_
      | refine Ev.bind h2 ?_
      | refine Ev.bind he ?_
      | refine Ev.bind he2 ?_
      | refine Ev.bind he3 ?_
      | refine Ev.bind hm ?_
      | refine Ev.bind hm2 ?_
      | refine Ev.bind hm3 ?_
      | refine Ev.bind hh ?_
      | refine Ev.ite_true (by first | rfl | (simp; done) | omega | (dsimp only; omega)) ?_
      | refine Ev.ite_false (by first | (simp; done) | omega | (dsimp only; omega)) ?_
      | refine Ev.step (fun k => by simp only [laws_FnExactHooksOfReverse.j0]; rfl) ?_
      | refine Ev.step (fun k => by simp only [laws_FnExactHooksOfReverse.j1]; rfl) ?_
      | refine Ev.step (fun k => by simp only [laws_FnExactHooksOfReverse.j2]; rfl) ?_)
  · exact Ev.ite_true (by omega) (Ev.now _)

end Go.Proofs.Ytnmndjpkfcnaoaa.Pure
