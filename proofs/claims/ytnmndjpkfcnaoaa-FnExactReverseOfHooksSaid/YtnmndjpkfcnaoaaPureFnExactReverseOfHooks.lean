/- The program's ReverseOfHooks answers as the reference's for every list of numbers and list of lists, of at most 2^20 numbers each, leaves its arguments alone, and its result shares no memory with arguments or later result; above that the law says nothing. No condition. -/
import Derived.Test.YtnmndjpkfcnaoaaPFnExactReverseOfHooksx10
import Derived.Test.YtnmndjpkfcnaoaaWSized
set_option linter.unusedVariables false
set_option linter.unusedSimpArgs false
namespace Go.Proofs.Ytnmndjpkfcnaoaa
open Go.ChangeShapes Go.WideShapes
theorem PrintWords.sized_ints {H : Type} {enc : TypeId × Value → H} {P : Program} {W : World} {base : Nat} {spare : Nat → Bool} {held : Bool} {t e : TypeId} {k : IntKind} {a : Option Addr} {len cap : Nat} {d : DataW H} {ps : List MemPlace} {ts : List TypeId} {ds : List (DataW H)} {j : Nat}
    (hsz : (DataW.weightsEach P ts ds).all (· ≤ reachBytes) = true) (ht : ts[j]? = some t) (hd : ds[j]? = some d) (hu : P.underlying t = some (.slice e)) (he : P.underlying e = some (.int k)) (hc : P.cellsOf e = 1) {B : Nat} (hB : P.bytesOf e = B)
    (h : DataW.Trod enc P W base spare held t (.slice a len cap) d ps) : len * B ≤ 140737488351232 :=
  Go.Proofs.YtnmndjpkfcnaoaaW.PrintWords.sized_ints hsz ht hd hu he hc hB h
end Go.Proofs.Ytnmndjpkfcnaoaa
namespace Go.Proofs.Ytnmndjpkfcnaoaa.Pure
open Go.RowKit Go.Proofs.Ytnmndjpkfcnaoaa.PFnExactReverseOfHooks Go.Proofs.YtnmndjpkfcnaoaaW.PrintWords Go.Proofs.YtnmndjpkfcnaoaaW.PrintLast

theorem wr_in {x : Int} (h : -9223372036854775808 ≤ x) (h' : x ≤ 9223372036854775807) : wrap64 x = x := by unfold wrap64; omega
theorem wr1 {i : Nat} (h : i < 4611686018427387904) : wrap64 ((i : Int) + 1) = ((i + 1 : Nat) : Int) := by unfold wrap64; omega
theorem Ev.ite_true {α : Type} {c : Prop} [Decidable c] {g f : Nat → Option α} {r : α} (hc : c) (h : Ev g r) : Ev (fun k => if c then g k else f k) r := by
  obtain ⟨K, h⟩ := h
  exact ⟨K, fun k hk => (if_pos hc).trans (h k hk)⟩
theorem Ev.ite_false {α : Type} {c : Prop} [Decidable c] {g f : Nat → Option α} {r : α} (hc : ¬ c) (h : Ev f r) : Ev (fun k => if c then g k else f k) r := by
  obtain ⟨K, h⟩ := h
  exact ⟨K, fun k hk => (if_neg hc).trans (h k hk)⟩
theorem rd_nat (l : List Int) (i : Nat) (h : i < l.length) : rd l (i : Int) = l[i] := by
  simp [rd, List.getD_eq_getElem?_getD, h]
/-- A statement that holds of all members of a list that can be run through. -/
theorem of_all {α : Type} {p : α → Bool} {l : List α} (h : l.all p = true) {x : α} (hx : x ∈ l) : p x = true := List.all_eq_true.mp h x hx
/-- Both answer, and alike. -/
def both {α : Type} [DecidableEq α] (a b : Option α) : Bool := match a, b with
  | some x, some y => decide (x = y)
  | _, _ => false
theorem both_ev {α : Type} [DecidableEq α] {f g : Nat → Option α} (hf : ∀ k, LeO (f k) (f (k + 1))) (hg : ∀ k, LeO (g k) (g (k + 1))) {n m : Nat} (h : both (f n) (g m) = true) : ∃ r, Ev f r ∧ Ev g r := by
  unfold both at h
  split at h
  · rename_i x y hx hy
    have e := of_decide_eq_true h
    subst e
    exact ⟨x, Ev.of hf hx, Ev.of hg hy⟩
  · cases h
theorem take_set_succ {α : Type} (y : List α) (i : Nat) (v : α) (h : i < y.length) : (y.set i v).take (i + 1) = y.take i ++ [v] := by
  rw [List.take_succ_eq_append_getElem (by simpa using h)]
  simp only [List.getElem_set_self]
  congr 1
  apply List.ext_getElem?
  intro j
  simp only [List.getElem?_take, List.getElem?_set]
  by_cases h : j < i
  · rw [if_pos h, if_neg (by omega), if_pos h]
  · rw [if_neg h, if_neg h]

theorem toIntS_l0 (l : List Int) (hl : l.length ≤ 1048576) (d : Nat) : ∀ (i : Nat) (y : List Int) (k : Nat), i + d = l.length → y.length = l.length → y.take i = l.take i → d < k → laws_toIntS.l0 k l y i = some l := by
  induction d with
  | zero =>
    intro i y k hi hy ht hk
    obtain ⟨k, rfl⟩ : ∃ m, k = m + 1 := ⟨k - 1, by omega⟩
    simp only [laws_toIntS.l0]
    rw [if_neg (by omega)]
    obtain rfl : i = l.length := by omega
    rw [List.take_of_length_le (by omega), List.take_of_length_le (by omega)] at ht
    rw [ht]
  | succ d ih =>
    intro i y k hi hy ht hk
    obtain ⟨k, rfl⟩ : ∃ m, k = m + 1 := ⟨k - 1, by omega⟩
    have hlt : i < l.length := by omega
    simp only [laws_toIntS.l0]
    rw [if_pos (by omega), if_pos (by omega), if_pos (by omega), wr1 (by omega), rd_nat l i hlt]
    refine ih (i + 1) _ k (by omega) (by simpa using hy) ?_ (by omega)
    rw [Int.toNat_natCast, take_set_succ y i _ (by omega), ht, List.take_succ_eq_append_getElem hlt]
theorem toIntS_ev (l : List Int) (hl : l.length ≤ 1048576) : Ev (fun k => laws_toIntS.f k l) l := by
  refine ⟨l.length + 1, fun k hk => ?_⟩
  show laws_toIntS.f k l = some l
  unfold laws_toIntS.f
  rw [if_pos (by omega), if_pos (by omega)]
  exact toIntS_l0 l hl l.length 0 _ k (by omega) (by simp) (by simp) (by omega)

theorem eqIntS_l0 (a b : List Int) (hl : a.length ≤ 1048576) (hab : a.length = b.length) (d : Nat) : ∀ (i k : Nat), i + d = a.length → a.take i = b.take i → d < k → laws_eqIntS.l0 k a b i = some (decide (a = b)) := by
  induction d with
  | zero =>
    intro i k hi ht hk
    obtain ⟨k, rfl⟩ : ∃ m, k = m + 1 := ⟨k - 1, by omega⟩
    simp only [laws_eqIntS.l0]
    rw [if_neg (by omega)]
    obtain rfl : i = a.length := by omega
    rw [List.take_of_length_le (by omega), List.take_of_length_le (by omega)] at ht
    rw [decide_eq_true ht]
  | succ d ih =>
    intro i k hi ht hk
    obtain ⟨k, rfl⟩ : ∃ m, k = m + 1 := ⟨k - 1, by omega⟩
    have hlt : i < a.length := by omega
    have hlt' : i < b.length := by omega
    simp only [laws_eqIntS.l0]
    rw [if_pos (by omega), if_pos (by omega), if_pos (by omega), wr1 (by omega), rd_nat a i hlt, rd_nat b i hlt']
    by_cases h : a[i] = b[i]
    · rw [if_pos h]
      refine ih (i + 1) k (by omega) ?_ (by omega)
      rw [List.take_succ_eq_append_getElem hlt, List.take_succ_eq_append_getElem hlt', ht, h]
    · rw [if_neg h, decide_eq_false]
      intro e
      subst e
      exact h rfl
theorem eqIntS_ev (a b : List Int) (hl : a.length ≤ 1048576) : Ev (fun k => laws_eqIntS.f k a b) (decide (a = b)) := by
  refine ⟨a.length + 1, fun k hk => ?_⟩
  show laws_eqIntS.f k a b = _
  unfold laws_eqIntS.f
  by_cases h : (a.length : Int) = (b.length : Int)
  · rw [if_pos h]
    exact eqIntS_l0 a b hl (by omega) a.length 0 k (by omega) (by simp) (by omega)
  · rw [if_neg h, decide_eq_false]
    intro e
    subst e
    exact h rfl
theorem eqIntS_self (a : List Int) (hl : a.length ≤ 1048576) : Ev (fun k => laws_eqIntS.f k a a) true := by
  have h := eqIntS_ev a a hl
  rwa [decide_eq_true rfl] at h

theorem rdL_nat (l : List (List Int)) (i : Nat) (h : i < l.length) : rd_L1 l (i : Int) = l[i] := by
  simp [rd_L1, List.getD_eq_getElem?_getD, h]

theorem toIntS_at (l : List Int) (hl : l.length ≤ 1048576) (k : Nat) (hk : l.length + 1 ≤ k) : laws_toIntS.f k l = some l := by
  unfold laws_toIntS.f
  rw [if_pos (by omega), if_pos (by omega)]
  exact toIntS_l0 l hl l.length 0 _ k (by omega) (by simp) (by simp) (by omega)
theorem eqIntS_at (a b : List Int) (hl : a.length ≤ 1048576) (k : Nat) (hk : a.length + 1 ≤ k) : laws_eqIntS.f k a b = some (decide (a = b)) := by
  unfold laws_eqIntS.f
  by_cases h : (a.length : Int) = (b.length : Int)
  · rw [if_pos h]
    exact eqIntS_l0 a b hl (by omega) a.length 0 k (by omega) (by simp) (by omega)
  · rw [if_neg h, decide_eq_false]
    intro e
    subst e
    exact h rfl
def smallL (l : List (List Int)) : Prop := l.length ≤ 1048576 ∧ ∀ x ∈ l, x.length ≤ 1048576
theorem szIntSS_l0 (l : List (List Int)) (hm : ∀ x ∈ l, x.length ≤ maxLen) (hl : l.length ≤ 1048576) (d : Nat) : ∀ (i : Nat) (a : Int) (k : Nat), i + d = l.length → 0 ≤ a → a ≤ 1048576 → d < k →
    ∃ r, laws_szIntSS.l0 k l a i = some r ∧ (r < 0 ∨ ∀ x ∈ l.drop i, x.length ≤ 1048576) := by
  induction d with
  | zero =>
    intro i a k hi h0 h1 hk
    obtain ⟨k, rfl⟩ : ∃ m, k = m + 1 := ⟨k - 1, by omega⟩
    simp only [laws_szIntSS.l0]
    rw [if_neg (by omega), List.drop_of_length_le (by omega)]
    exact ⟨_, rfl, .inr (by simp)⟩
  | succ d ih =>
    intro i a k hi h0 h1 hk
    obtain ⟨k, rfl⟩ : ∃ m, k = m + 1 := ⟨k - 1, by omega⟩
    have hlt : i < l.length := by omega
    have hx := hm _ (List.getElem_mem hlt)
    unfold maxLen at hx
    simp only [laws_szIntSS.l0, laws_szIntS.f]
    rw [if_pos (by omega), if_pos (by omega), rdL_nat l i hlt, wr_in (x := a - (l[i].length : Int)) (by omega) (by omega), wr1 (by omega), List.drop_eq_getElem_cons hlt]
    by_cases h : a - (l[i].length : Int) < 0
    · rw [if_pos h]
      exact ⟨-1, by simp, .inl (by omega)⟩
    · rw [if_neg h]
      simp only [Option.bind_some]
      rw [if_neg h]
      obtain ⟨r, hr, hc⟩ := ih (i + 1) (a - (l[i].length : Int)) k (by omega) (by omega) (by omega) (by omega)
      refine ⟨r, hr, hc.imp_right fun hc x hx => ?_⟩
      rcases List.mem_cons.1 hx with rfl | hx
      · omega
      · exact hc x hx
theorem szIntSS_ev (l : List (List Int)) (hn : l.length ≤ maxLen) (hm : ∀ x ∈ l, x.length ≤ maxLen) : ∃ r, Ev (fun k => laws_szIntSS.f k l 1048576) r ∧ (r < 0 ∨ smallL l) := by
  unfold maxLen at hn
  simp only [laws_szIntSS.f]
  rw [wr_in (x := 1048576 - (l.length : Int)) (by omega) (by omega)]
  by_cases h : 1048576 - (l.length : Int) < 0
  · exact ⟨-1, Ev.ite_true h (Ev.now _), .inl (by omega)⟩
  · have hall := fun k (hk : l.length < k) => szIntSS_l0 l hm (by omega) l.length 0 (1048576 - (l.length : Int)) k (by omega) (by omega) (by omega) hk
    obtain ⟨r, hr, hc⟩ := hall (l.length + 1) (by omega)
    refine ⟨r, Ev.ite_false h ⟨l.length + 1, fun k hk => ?_⟩, hc.imp_right fun hc => ⟨by omega, by simpa using hc⟩⟩
    exact at_rounds (fun k => laws_szIntSS.mono_l k _ _ _) hk hr
theorem toIntSS_l0 (l : List (List Int)) (hs : smallL l) (d : Nat) : ∀ (i : Nat) (y : List (List Int)) (k : Nat), i + d = l.length → y.length = l.length → y.take i = l.take i → d + 1048578 < k → laws_toIntSS.l0 k l y i = some l := by
  obtain ⟨hl, he⟩ := hs
  induction d with
  | zero =>
    intro i y k hi hy ht hk
    obtain ⟨k, rfl⟩ : ∃ m, k = m + 1 := ⟨k - 1, by omega⟩
    simp only [laws_toIntSS.l0]
    rw [if_neg (by omega)]
    obtain rfl : i = l.length := by omega
    rw [List.take_of_length_le (by omega), List.take_of_length_le (by omega)] at ht
    rw [ht]
  | succ d ih =>
    intro i y k hi hy ht hk
    obtain ⟨k, rfl⟩ : ∃ m, k = m + 1 := ⟨k - 1, by omega⟩
    have hlt : i < l.length := by omega
    have hx := he _ (List.getElem_mem hlt)
    simp only [laws_toIntSS.l0]
    rw [if_pos (by omega), if_pos (by omega), rdL_nat l i hlt, toIntS_at _ hx k (by omega)]
    simp only [Option.bind_some]
    rw [if_pos (by omega), wr1 (by omega)]
    refine ih (i + 1) _ k (by omega) (by simpa using hy) ?_ (by omega)
    rw [Int.toNat_natCast, take_set_succ y i _ (by omega), ht, List.take_succ_eq_append_getElem hlt]
theorem toIntSS_ev (l : List (List Int)) (hs : smallL l) : Ev (fun k => laws_toIntSS.f k l) l := by
  refine ⟨l.length + 1048579, fun k hk => ?_⟩
  show laws_toIntSS.f k l = some l
  have hl := hs.1
  unfold laws_toIntSS.f
  rw [if_pos (by omega), if_pos (by omega)]
  exact toIntSS_l0 l hs l.length 0 _ k (by omega) (by simp) (by simp) (by omega)
theorem eqIntSS_l0 (l : List (List Int)) (hs : smallL l) (d : Nat) : ∀ (i k : Nat), i + d = l.length → d + 1048578 < k → laws_eqIntSS.l0 k l l i = some true := by
  obtain ⟨hl, he⟩ := hs
  induction d with
  | zero =>
    intro i k hi hk
    obtain ⟨k, rfl⟩ : ∃ m, k = m + 1 := ⟨k - 1, by omega⟩
    simp only [laws_eqIntSS.l0]
    rw [if_neg (by omega)]
  | succ d ih =>
    intro i k hi hk
    obtain ⟨k, rfl⟩ : ∃ m, k = m + 1 := ⟨k - 1, by omega⟩
    have hlt : i < l.length := by omega
    have hx := he _ (List.getElem_mem hlt)
    simp only [laws_eqIntSS.l0]
    rw [if_pos (by omega), if_pos (by omega), rdL_nat l i hlt, if_pos (by omega), eqIntS_at _ _ hx k (by omega)]
    simp only [Option.bind_some, decide_true, if_true]
    rw [wr1 (by omega)]
    exact ih (i + 1) k (by omega) (by omega)
theorem eqIntSS_self (l : List (List Int)) (hs : smallL l) : Ev (fun k => laws_eqIntSS.f k l l) true := by
  refine ⟨l.length + 1048579, fun k hk => ?_⟩
  show laws_eqIntSS.f k l l = some true
  unfold laws_eqIntSS.f
  rw [if_pos rfl]
  exact eqIntSS_l0 l hs l.length 0 k (by omega) (by omega)

/-! Partitions: a plain test, and all of them. -/
def isPF (prev s : Int) : List Int → Bool
  | [] => true
  | x :: xs => if 1 ≤ x ∧ x ≤ 9 ∧ x ≤ prev ∧ s + x ≤ 9 then isPF x (s + x) xs else false
def isP (l : List Int) : Bool := isPF 9 0 l
/-- All lists of numbers of at most 'prev' that add to 's' at most 9. -/
def genP : Nat → Nat → Nat → List (List Int)
  | 0, _, _ => [[]]
  | n + 1, prev, s => [] :: (List.range' 1 (min prev (9 - s))).flatMap fun x => (genP n x (s + x)).map fun r => (x : Int) :: r
theorem mem_genP : ∀ (n prev s : Nat) (l : List Int), 9 < n + s → s ≤ 9 → isPF prev s l = true → l ∈ genP n prev s
  | 0, prev, s, l, h1, h2, _ => by omega
  | n + 1, prev, s, [], _, _, _ => by simp [genP]
  | n + 1, prev, s, x :: xs, h1, h2, h => by
    simp only [isPF] at h
    split at h
    · rename_i hc
      obtain ⟨c1, c2, c3, c4⟩ := hc
      obtain ⟨m, rfl⟩ : ∃ m : Nat, x = (m : Int) := ⟨x.toNat, by omega⟩
      have e : (s : Int) + (m : Int) = ((s + m : Nat) : Int) := by omega
      rw [e] at h
      have ih := mem_genP n m (s + m) xs (by omega) (by omega) h
      simp only [genP, List.mem_cons, List.mem_flatMap]
      refine Or.inr ⟨m, ?_, ?_⟩
      · simp only [List.mem_range'_1]; omega
      · exact List.mem_map.2 ⟨xs, ih, rfl⟩
    · cases h
def allP : List (List Int) := genP 10 9 0
theorem mem_allP {l : List Int} (h : isP l = true) : l ∈ allP := mem_genP 10 9 0 l (by omega) (by omega) h
theorem isPF_length : ∀ (l : List Int) (prev s : Int), isPF prev s l = true → s + l.length ≤ 9 ∨ l = []
  | [], _, _, _ => .inr rfl
  | x :: xs, prev, s, h => by
    simp only [isPF] at h
    split at h
    · rename_i hc
      rcases isPF_length xs x (s + x) h with h1 | rfl
      · left; simp only [List.length_cons]; omega
      · left; simp; omega
    · cases h
theorem isP_length {l : List Int} (h : isP l = true) : l.length ≤ 9 := by
  rcases isPF_length l 9 0 h with h | rfl
  · omega
  · simp
/-- What stands at place i, and behind it. -/
theorem drop_cons (l : List Int) (i : Nat) (h : i < l.length) : l.drop i = l[i] :: l.drop (i + 1) := List.drop_eq_getElem_cons h
def prevOf (l : List Int) (i : Nat) : Int := if i = 0 then 9 else l.getD (i - 1) 0
theorem prevOf_succ (l : List Int) (i : Nat) (h : i < l.length) : prevOf l (i + 1) = l[i] := by simp [prevOf, h]

theorem isPF_get : ∀ (l : List Int) (prev s : Int), isPF prev s l = true → (∀ (i : Nat) (h : i < l.length), 1 ≤ l[i] ∧ l[i] ≤ 9 ∧ l[i] ≤ prev) ∧ ∀ (i : Nat) (h : i + 1 < l.length), l[i + 1] ≤ l[i]
  | [], _, _, _ => ⟨fun i h => by simp at h, fun i h => by simp at h⟩
  | x :: xs, prev, s, h => by
    simp only [isPF] at h
    split at h
    · rename_i hc
      obtain ⟨h1, h2⟩ := isPF_get xs x (s + x) h
      refine ⟨fun i hi => ?_, fun i hi => ?_⟩
      · cases i with
        | zero => simp; omega
        | succ i => have := h1 i (by simpa using hi); simp; omega
      · cases i with
        | zero => have := h1 0 (by simpa using hi); simpa using this.2.2
        | succ i => simpa using h2 i (by simpa using hi)
    · cases h
theorem isP_get {l : List Int} (h : isP l = true) (i : Nat) (hi : i < l.length) : 1 ≤ l[i] ∧ l[i] ≤ 9 := by
  have := (isPF_get l 9 0 h).1 i hi; omega
theorem isP_desc {l : List Int} (h : isP l = true) (i : Nat) (hi : i + 1 < l.length) : l[i + 1] ≤ l[i] := (isPF_get l 9 0 h).2 i hi

theorem l1In_f (x a b : Int) : spec_l1In.f x a b = some (decide (a ≤ x ∧ x ≤ b)) := by
  unfold spec_l1In.f
  by_cases h : x ≥ a
  · rw [if_pos h]; congr 1; by_cases h2 : x ≤ b
    · rw [decide_eq_true h2, decide_eq_true ⟨h, h2⟩]
    · rw [decide_eq_false h2, decide_eq_false (by omega)]
  · rw [if_neg h, decide_eq_false (by omega)]

theorem specIsP_l0 (l : List Int) (hl : l.length ≤ 1048576) (d : Nat) : ∀ (i k : Nat) (s : Int), i + d = l.length → 0 ≤ s → s ≤ 9 → 2 * d < k → spec_IsPartition.l0 k l s i = some (isPF (prevOf l i) s (l.drop i)) := by
  induction d with
  | zero =>
    intro i k s hi h0 h9 hk
    obtain ⟨k, rfl⟩ : ∃ m, k = m + 1 := ⟨k - 1, by omega⟩
    simp only [spec_IsPartition.l0]
    rw [if_neg (by omega), List.drop_of_length_le (by omega)]
    rfl
  | succ d ih =>
    intro i k s hi h0 h9 hk
    obtain ⟨k, rfl⟩ : ∃ m, k = m + 2 := ⟨k - 2, by omega⟩
    have hlt : i < l.length := by omega
    simp only [spec_IsPartition.l0]
    rw [if_pos (by omega), if_pos (by omega), rd_nat l i hlt, l1In_f, drop_cons l i hlt]
    simp only [Option.bind_some, isPF]
    have hj : ∀ b : Bool, (b = true ↔ ¬ (1 ≤ l[i] ∧ l[i] ≤ 9 ∧ l[i] ≤ prevOf l i)) →
        spec_IsPartition.j1 (k + 1) l s i b = some (if 1 ≤ l[i] ∧ l[i] ≤ 9 ∧ l[i] ≤ prevOf l i ∧ s + l[i] ≤ 9 then isPF l[i] (s + l[i]) (l.drop (i + 1)) else false) := by
      intro b hb
      simp only [spec_IsPartition.j1]
      by_cases hc : 1 ≤ l[i] ∧ l[i] ≤ 9 ∧ l[i] ≤ prevOf l i
      · rw [if_neg (fun h => hb.1 h hc), if_pos (by omega), if_pos (by omega), rd_nat l i hlt, wr_in (by omega) (by omega), wr1 (by omega)]
        by_cases h9' : s + l[i] > 9
        · rw [if_pos h9', if_neg (by omega)]
        · rw [if_neg h9', if_pos ⟨hc.1, hc.2.1, hc.2.2, by omega⟩, ih (i + 1) k _ (by omega) (by omega) (by omega) (by omega), prevOf_succ l i hlt]
      · rw [if_pos (hb.2 hc), if_neg (fun h => hc ⟨h.1, h.2.1, h.2.2.1⟩)]
    by_cases h1 : 1 ≤ l[i] ∧ l[i] ≤ 9
    · rw [if_pos (decide_eq_true h1)]
      by_cases hi0 : i = 0
      · subst hi0
        rw [if_neg (by omega)]
        exact hj false (by simp [prevOf]; omega)
      · have e : wrap64 ((i : Int) - 1) = ((i - 1 : Nat) : Int) := by unfold wrap64; omega
        rw [if_pos (by omega), e, if_pos (by omega), if_pos (by omega), rd_nat l (i - 1) (by omega)]
        refine hj _ ?_
        have hp : prevOf l i = l[i - 1] := by simp [prevOf, hi0]; rw [List.getElem?_eq_getElem (by omega)]; rfl
        rw [hp, decide_eq_true_iff]; omega
    · rw [if_neg (by simp; omega)]
      exact hj true (by simp; omega)
theorem specIsP_ev (l : List Int) (hl : l.length ≤ 1048576) : Ev (fun k => spec_IsPartition.f k l) (isP l) := by
  refine ⟨2 * l.length + 1, fun k hk => ?_⟩
  have h := specIsP_l0 l hl l.length 0 k 0 (by omega) (by omega) (by omega) (by omega)
  simpa [spec_IsPartition.f, isP, prevOf] using h

theorem within_f (x a b : Int) : impl_within.f x a b = some (decide (a ≤ x ∧ x ≤ b)) := by
  unfold impl_within.f
  by_cases h : a ≤ x
  · rw [if_pos h]; congr 1; by_cases h2 : x ≤ b
    · rw [decide_eq_true h2, decide_eq_true ⟨h, h2⟩]
    · rw [decide_eq_false h2, decide_eq_false (by omega)]
  · rw [if_neg h, decide_eq_false (by omega)]

theorem implIsP_l0 (l : List Int) (hl : l.length ≤ 1048576) (d : Nat) : ∀ (i k : Nat) (s : Int), i + d = l.length → 0 ≤ s → s ≤ 9 → 2 * d < k → impl_IsPartition.l0 k l s l l.length i = some (isPF (prevOf l i) s (l.drop i)) := by
  induction d with
  | zero =>
    intro i k s hi h0 h9 hk
    obtain ⟨k, rfl⟩ : ∃ m, k = m + 1 := ⟨k - 1, by omega⟩
    simp only [impl_IsPartition.l0]
    rw [if_neg (by omega), List.drop_of_length_le (by omega)]
    rfl
  | succ d ih =>
    intro i k s hi h0 h9 hk
    obtain ⟨k, rfl⟩ : ∃ m, k = m + 2 := ⟨k - 2, by omega⟩
    have hlt : i < l.length := by omega
    simp only [impl_IsPartition.l0]
    rw [if_pos (by omega), if_pos (by omega), if_pos (by omega), rd_nat l i hlt, within_f, drop_cons l i hlt]
    simp only [Option.bind_some, isPF]
    have hj : ∀ b : Bool, (b = true ↔ ¬ (1 ≤ l[i] ∧ l[i] ≤ 9 ∧ l[i] ≤ prevOf l i)) →
        impl_IsPartition.j1 (k + 1) l s l[i] l l.length i b = some (if 1 ≤ l[i] ∧ l[i] ≤ 9 ∧ l[i] ≤ prevOf l i ∧ s + l[i] ≤ 9 then isPF l[i] (s + l[i]) (l.drop (i + 1)) else false) := by
      intro b hb
      simp only [impl_IsPartition.j1]
      by_cases hc : 1 ≤ l[i] ∧ l[i] ≤ 9 ∧ l[i] ≤ prevOf l i
      · rw [if_neg (fun h => hb.1 h hc), wr_in (x := s + l[i]) (by omega) (by omega), wr1 (by omega)]
        by_cases h9' : s + l[i] > 9
        · rw [if_pos h9', if_neg (by omega)]
        · rw [if_neg h9', if_pos ⟨hc.1, hc.2.1, hc.2.2, by omega⟩, ih (i + 1) k _ (by omega) (by omega) (by omega) (by omega), prevOf_succ l i hlt]
      · rw [if_pos (hb.2 hc), if_neg (fun h => hc ⟨h.1, h.2.1, h.2.2.1⟩)]
    by_cases h1 : 1 ≤ l[i] ∧ l[i] ≤ 9
    · rw [if_pos (decide_eq_true h1)]
      by_cases hi0 : i = 0
      · subst hi0
        rw [if_neg (by omega)]
        exact hj false (by simp [prevOf]; omega)
      · have e : wrap64 ((i : Int) - 1) = ((i - 1 : Nat) : Int) := by unfold wrap64; omega
        rw [if_pos (by omega), e, if_pos (by omega), if_pos (by omega), rd_nat l (i - 1) (by omega)]
        refine hj _ ?_
        have hp : prevOf l i = l[i - 1] := by simp [prevOf, hi0]; rw [List.getElem?_eq_getElem (by omega)]; rfl
        rw [hp, decide_eq_true_iff]; omega
    · rw [if_neg (by simp; omega)]
      exact hj true (by simp; omega)
theorem implIsP_ev (l : List Int) (hl : l.length ≤ 1048576) : Ev (fun k => impl_IsPartition.f k l) (isP l) := by
  refine ⟨2 * l.length + 1, fun k hk => ?_⟩
  have h := implIsP_l0 l hl l.length 0 k 0 (by omega) (by omega) (by omega) (by omega)
  simpa [impl_IsPartition.f, isP, prevOf] using h

def okF (x : Int) : Bool := decide (0 ≤ x ∧ x ≤ 9)
def fillFrom : List Int → List (List Int) → Bool
  | p :: ps, r :: rs => decide ((r.length : Int) = p) && (r.all okF && fillFrom ps rs)
  | _, _ => true
def isF (p : List Int) (f : List (List Int)) : Bool := isP p && (decide (f.length = p.length) && fillFrom p f)
theorem fillFrom_get : ∀ (p : List Int) (f : List (List Int)), p.length = f.length → fillFrom p f = true → ∀ (i : Nat) (h : i < p.length) (h' : i < f.length), (f[i].length : Int) = p[i]
  | [], f, _, _, i, h, h' => by simp at h
  | p :: ps, [], _, _, i, h, h' => by simp at h'
  | p :: ps, r :: rs, hl, hf, i, h, h' => by
    simp only [fillFrom, Bool.and_eq_true, decide_eq_true_eq] at hf
    cases i with
    | zero => simpa using hf.1
    | succ i => simpa using fillFrom_get ps rs (by simpa using hl) hf.2.2 i (by simpa using h) (by simpa using h')
theorem specFill_l0 (p : List Int) (f : List (List Int)) (hp : isP p = true) (hlen : f.length = p.length) (d : Nat) : ∀ (i k : Nat), i + d = p.length → 12 * d < k →
    spec_IsFilling.l0 k p f i = some (fillFrom (p.drop i) (f.drop i)) := by
  have h9 := isP_length hp
  induction d with
  | zero =>
    intro i k hi hk
    obtain ⟨k, rfl⟩ : ∃ m, k = m + 1 := ⟨k - 1, by omega⟩
    simp only [spec_IsFilling.l0]
    rw [if_neg (by omega), List.drop_of_length_le (by omega)]
    rfl
  | succ d ih =>
    intro i k hi hk
    have hlt : i < p.length := by omega
    have hlt' : i < f.length := by omega
    have hp9 := isP_get hp i hlt
    have inner : ∀ (e j k : Nat), j + e = f[i].length → (f[i].length : Int) = p[i] → 12 * d + e + 1 < k → spec_IsFilling.l1 k p f i j = some ((f[i].drop j).all okF && fillFrom (p.drop (i + 1)) (f.drop (i + 1))) := by
      intro e
      induction e with
      | zero =>
        intro j k hj hq hk
        obtain ⟨k, rfl⟩ : ∃ m, k = m + 1 := ⟨k - 1, by omega⟩
        simp only [spec_IsFilling.l1]
        rw [if_pos (by omega), if_pos (by omega), rd_nat p i hlt, if_neg (by omega), wr1 (by omega), ih (i + 1) k (by omega) (by omega), List.drop_of_length_le (l := f[i]) (by omega)]
        simp
      | succ e ihe =>
        intro j k hj hq hk
        obtain ⟨k, rfl⟩ : ∃ m, k = m + 1 := ⟨k - 1, by omega⟩
        have hjl : j < f[i].length := by omega
        simp only [spec_IsFilling.l1]
        rw [if_pos (by omega), if_pos (by omega), rd_nat p i hlt, if_pos (by omega), if_pos (by omega), if_pos (by omega), rdL_nat f i hlt', if_pos (by omega), rd_nat f[i] j hjl, l1In_f, List.drop_eq_getElem_cons hjl]
        simp only [Option.bind_some, List.all_cons]
        by_cases h : 0 ≤ f[i][j] ∧ f[i][j] ≤ 9
        · rw [if_pos (decide_eq_true h), wr1 (by omega), ihe (j + 1) k (by omega) hq (by omega)]
          have : okF f[i][j] = true := decide_eq_true h
          rw [this, Bool.true_and]
        · rw [if_neg (by rw [decide_eq_true_eq]; exact h)]
          have : okF f[i][j] = false := decide_eq_false h
          rw [this]
          rfl
    obtain ⟨k, rfl⟩ : ∃ m, k = m + 1 := ⟨k - 1, by omega⟩
    simp only [spec_IsFilling.l0]
    rw [if_pos (by omega), if_pos (by omega), if_pos (by omega), rdL_nat f i hlt', rd_nat p i hlt, List.drop_eq_getElem_cons hlt, List.drop_eq_getElem_cons hlt']
    simp only [fillFrom]
    by_cases hq : (f[i].length : Int) = p[i]
    · rw [if_pos hq, decide_eq_true hq, Bool.true_and]
      have h0 := inner f[i].length 0 k (by omega) hq (by omega)
      simpa using h0
    · rw [if_neg hq, decide_eq_false hq]
      rfl
theorem isFill1_f (x : Int) : impl_IsFilling_1.f x = some (!okF x) := by
  unfold impl_IsFilling_1.f
  rw [within_f]
  rfl
theorem implFillC_l0 (l : List Int) (hl : l.length ≤ 1048576) (d : Nat) : ∀ (i k : Nat), i + d = l.length → d < k → ∃ r, slices_IndexFunc_int_int__impl_IsFilling_1.l0 k l l.length i = some r ∧ decide (r ≥ 0) = !((l.drop i).all okF) := by
  induction d with
  | zero =>
    intro i k hi hk
    obtain ⟨k, rfl⟩ : ∃ m, k = m + 1 := ⟨k - 1, by omega⟩
    simp only [slices_IndexFunc_int_int__impl_IsFilling_1.l0]
    rw [if_neg (by omega), List.drop_of_length_le (by omega)]
    exact ⟨_, rfl, by simp⟩
  | succ d ih =>
    intro i k hi hk
    obtain ⟨k, rfl⟩ : ∃ m, k = m + 1 := ⟨k - 1, by omega⟩
    have hlt : i < l.length := by omega
    simp only [slices_IndexFunc_int_int__impl_IsFilling_1.l0]
    rw [if_pos (by omega), if_pos (by omega), if_pos (by omega), rd_nat l i hlt, isFill1_f, List.drop_eq_getElem_cons hlt]
    simp only [Option.bind_some, List.all_cons]
    cases h : okF l[i]
    · rw [if_pos (by rfl)]
      exact ⟨_, rfl, by simp⟩
    · rw [if_neg (by simp), wr1 (by omega)]
      obtain ⟨r, h1, h2⟩ := ih (i + 1) k (by omega) (by omega)
      exact ⟨r, h1, by simpa using h2⟩
theorem implFillC_at (l : List Int) (hl : l.length ≤ 1048576) (k : Nat) (hk : l.length < k) : slices_ContainsFunc_int_int__impl_IsFilling_1.f k l = some (!(l.all okF)) := by
  obtain ⟨r, h, h2⟩ := implFillC_l0 l hl l.length 0 k (by omega) (by omega)
  have h' : slices_IndexFunc_int_int__impl_IsFilling_1.l0 k l l.length 0 = some r := h
  unfold slices_ContainsFunc_int_int__impl_IsFilling_1.f slices_IndexFunc_int_int__impl_IsFilling_1.f
  simp only [h', Option.bind_some, h2]
  simp
theorem implFill_l0 (p : List Int) (f : List (List Int)) (hp : isP p = true) (hlen : f.length = p.length) (d : Nat) : ∀ (i k : Nat), i + d = p.length → d + 11 < k →
    impl_IsFilling.l0 k p f f.length i = some (fillFrom (p.drop i) (f.drop i)) := by
  have h9 := isP_length hp
  induction d with
  | zero =>
    intro i k hi hk
    obtain ⟨k, rfl⟩ : ∃ m, k = m + 1 := ⟨k - 1, by omega⟩
    simp only [impl_IsFilling.l0]
    rw [if_neg (by omega), List.drop_of_length_le (by omega)]
    rfl
  | succ d ih =>
    intro i k hi hk
    have hlt : i < p.length := by omega
    have hlt' : i < f.length := by omega
    have hp9 := isP_get hp i hlt
    obtain ⟨k, rfl⟩ : ∃ m, k = m + 1 := ⟨k - 1, by omega⟩
    simp only [impl_IsFilling.l0]
    rw [if_pos (by omega), if_pos (by omega), if_pos (by omega), if_pos (by omega), rdL_nat f i hlt', rd_nat p i hlt, List.drop_eq_getElem_cons hlt, List.drop_eq_getElem_cons hlt']
    simp only [fillFrom]
    by_cases hq : (f[i].length : Int) = p[i]
    · rw [if_pos hq, decide_eq_true hq, Bool.true_and, implFillC_at _ (by omega) k (by omega)]
      simp only [Option.bind_some]
      cases h : f[i].all okF
      · rw [if_pos (by rfl)]; rfl
      · rw [if_neg (by simp), wr1 (by omega), ih (i + 1) k (by omega) (by omega)]
        rfl
    · rw [if_neg hq, decide_eq_false hq]
      rfl
theorem specFill_ev (p : List Int) (f : List (List Int)) (hl : p.length ≤ 1048576) : Ev (fun k => spec_IsFilling.f k p f) (isF p f) := by
  simp only [spec_IsFilling.f]
  refine Ev.bind (specIsP_ev p hl) ?_
  cases h : isP p
  · refine Ev.ite_false (by simp) (Ev.step (f := fun _ => some false) (fun k => by simp [spec_IsFilling.j0]) ?_)
    simpa [isF, h] using Ev.now false
  · refine Ev.ite_true rfl ?_
    by_cases hlen : f.length = p.length
    · refine ⟨12 * p.length + 2, fun k hk => ?_⟩
      obtain ⟨k, rfl⟩ : ∃ m, k = m + 1 := ⟨k - 1, by omega⟩
      have h0 := specFill_l0 p f h hlen p.length 0 k (by omega) (by omega)
      simp only [spec_IsFilling.j0]
      rw [if_neg (by simp [hlen])]
      simpa [isF, h, hlen] using h0
    · refine Ev.step (f := fun _ => some false) (fun k => ?_) (by simpa [isF, hlen] using Ev.now false)
      simp only [spec_IsFilling.j0]
      rw [if_pos (by simp; omega)]
theorem implFill_ev (p : List Int) (f : List (List Int)) (hl : p.length ≤ 1048576) : Ev (fun k => impl_IsFilling.f k p f) (isF p f) := by
  simp only [impl_IsFilling.f]
  refine Ev.bind (implIsP_ev p hl) ?_
  cases h : isP p
  · refine Ev.ite_false (by simp) (Ev.step (f := fun _ => some false) (fun k => by simp [impl_IsFilling.j0]) ?_)
    simpa [isF, h] using Ev.now false
  · refine Ev.ite_true rfl ?_
    by_cases hlen : f.length = p.length
    · refine ⟨p.length + 13, fun k hk => ?_⟩
      obtain ⟨k, rfl⟩ : ∃ m, k = m + 1 := ⟨k - 1, by omega⟩
      have h0 := implFill_l0 p f h hlen p.length 0 k (by omega) (by omega)
      simp only [impl_IsFilling.j0]
      rw [if_neg (by simp [hlen])]
      simpa [isF, h, hlen] using h0
    · refine Ev.step (f := fun _ => some false) (fun k => ?_) (by simpa [isF, hlen] using Ev.now false)
      simp only [impl_IsFilling.j0]
      rw [if_pos (by simp; omega)]

def hookOk (p : List Int) : Bool := (List.range p.length).all fun i => (List.range (p.getD i 0).toNat).all fun j => both (spec_HookOf.f 60 p i j) (impl_HookOf.f 60 p i j)
set_option maxHeartbeats 4000000 in
theorem facthook : allP.all hookOk = true := by decide +kernel
theorem hook_ev {p : List Int} (hp : isP p = true) (i j : Nat) (hi : i < p.length) (hj : (j : Int) < p[i]) : ∃ r, Ev (fun k => spec_HookOf.f k p i j) r ∧ Ev (fun k => impl_HookOf.f k p i j) r := by
  have h := of_all facthook (mem_allP hp)
  unfold hookOk at h
  have h1 := of_all h (x := i) (List.mem_range.2 hi)
  have h2 := of_all h1 (x := j) (List.mem_range.2 (by simp [hi]; omega))
  exact both_ev (spec_HookOf.mono p i j) (impl_HookOf.mono p i j) h2
theorem hookw_l0 (p : List Int) (f : List (List Int)) (hp : isP p = true) (hlen : f.length = p.length) (hrow : ∀ (i : Nat) (h : i < p.length) (h' : i < f.length), (f[i].length : Int) = p[i]) (d : Nat) : ∀ (i : Nat) (s : Int), i + d = p.length →
    ∃ r, Ev (fun k => spec_HookWeight.l0 k p f s i) r ∧ Ev (fun k => impl_HookWeight.l0 k p s f f.length i) r := by
  have h9 := isP_length hp
  induction d with
  | zero =>
    intro i s hi
    refine ⟨s, Ev.step (fun k => by simp only [spec_HookWeight.l0]; rfl) ?_, Ev.step (fun k => by simp only [impl_HookWeight.l0]; rfl) ?_⟩
    · exact Ev.ite_false (by omega) (Ev.now _)
    · exact Ev.ite_false (by omega) (Ev.now _)
  | succ d ih =>
    intro i s hi
    have hlt : i < p.length := by omega
    have hlt' : i < f.length := by omega
    have hp9 := isP_get hp i hlt
    have hq := hrow i hlt hlt'
    have inner : ∀ (e j : Nat) (s : Int), j + e = f[i].length → ∃ r, Ev (fun k => spec_HookWeight.l1 k p f s i j) r ∧ Ev (fun k => impl_HookWeight.l1 k p s i f f.length i f[i] f[i].length j) r := by
      intro e
      induction e with
      | zero =>
        intro j s hj
        obtain ⟨r, h1, h2⟩ := ih (i + 1) s (by omega)
        refine ⟨r, Ev.step (fun k => by simp only [spec_HookWeight.l1]; rfl) ?_, Ev.step (fun k => by simp only [impl_HookWeight.l1]; rfl) ?_⟩
        · refine Ev.ite_true (by omega) (Ev.ite_true (by omega) (Ev.ite_false (by rw [rd_nat p i hlt]; omega) ?_))
          rw [wr1 (by omega)]; exact h1
        · refine Ev.ite_false (by omega) ?_
          rw [wr1 (by omega)]; exact h2
      | succ e ihe =>
        intro j s hj
        have hjl : j < f[i].length := by omega
        obtain ⟨h, g1, g2⟩ := hook_ev hp i j hlt (by omega)
        obtain ⟨r, h1, h2⟩ := ihe (j + 1) (wrap64 (s + wrap64 (f[i][j] * h))) (by omega)
        refine ⟨r, Ev.step (fun k => by simp only [spec_HookWeight.l1]; rfl) ?_, Ev.step (fun k => by simp only [impl_HookWeight.l1]; rfl) ?_⟩
        · refine Ev.ite_true (by omega) (Ev.ite_true (by omega) (Ev.ite_true (by rw [rd_nat p i hlt]; omega) (Ev.ite_true (by omega) (Ev.ite_true (by omega) (Ev.ite_true (by rw [rdL_nat f i hlt']; omega) (Ev.bind g1 ?_))))))
          rw [wr1 (by omega), rdL_nat f i hlt', rd_nat f[i] j hjl]; exact h1
        · refine Ev.ite_true (by omega) (Ev.ite_true (by omega) (Ev.ite_true (by omega) (Ev.bind g2 ?_)))
          rw [wr1 (by omega), rd_nat f[i] j hjl]; exact h2
    obtain ⟨r, h1, h2⟩ := inner f[i].length 0 s (by omega)
    refine ⟨r, Ev.step (fun k => by simp only [spec_HookWeight.l0]; rfl) ?_, Ev.step (fun k => by simp only [impl_HookWeight.l0]; rfl) ?_⟩
    · exact Ev.ite_true (by omega) h1
    · refine Ev.ite_true (by omega) (Ev.ite_true (by omega) (Ev.ite_true (by omega) ?_))
      rw [rdL_nat f i hlt']; exact h2
theorem hookw_same (p : List Int) (f : List (List Int)) (hl : p.length ≤ 1048576) : ∃ r, Ev (fun k => spec_HookWeight.f k p f) r ∧ Ev (fun k => impl_HookWeight.f k p f) r := by
  have h1 := specFill_ev p f hl
  have h2 := implFill_ev p f hl
  cases h : isF p f
  · rw [h] at h1 h2
    refine ⟨-1, ?_, ?_⟩
    · simp only [spec_HookWeight.f]
      exact Ev.bind h1 (Ev.ite_false (by simp) (Ev.now _))
    · simp only [impl_HookWeight.f]
      exact Ev.bind h2 (Ev.ite_false (by simp) (Ev.now _))
  · rw [h] at h1 h2
    simp only [isF, Bool.and_eq_true, decide_eq_true_eq] at h
    obtain ⟨hp, hlen, hfill⟩ := h
    obtain ⟨r, e1, e2⟩ := hookw_l0 p f hp hlen (fillFrom_get p f hlen.symm hfill) p.length 0 0 (by omega)
    refine ⟨r, ?_, ?_⟩
    · simp only [spec_HookWeight.f]
      exact Ev.bind h1 (Ev.ite_true rfl e1)
    · simp only [impl_HookWeight.f]
      exact Ev.bind h2 (Ev.ite_true rfl e2)

/-! Fillings of one shape: rows of noughts, the columns' heights. -/
def shp (p : List Int) (y : List (List Int)) : Prop := y.length = p.length ∧ ∀ (i : Nat) (h : i < y.length) (h' : i < p.length), (y[i].length : Int) = p[i]
def noughts (p : List Int) : List (List Int) := p.map fun n => List.replicate n.toNat 0
def colH (p : List Int) (c : Int) : Nat := (p.filter fun n => decide (n > c)).length
def zeroOk (p : List Int) : Bool := decide (spec_l27Zeros.f 30 p = some (noughts p)) && decide (impl_zeros.f 30 p = some (noughts p))
theorem factzero : allP.all zeroOk = true := by decide +kernel
theorem zeros_ev {p : List Int} (hp : isP p = true) : Ev (fun k => spec_l27Zeros.f k p) (noughts p) ∧ Ev (fun k => impl_zeros.f k p) (noughts p) := by
  have h := of_all factzero (mem_allP hp)
  simp only [zeroOk, Bool.and_eq_true, decide_eq_true_eq] at h
  exact ⟨Ev.of (spec_l27Zeros.mono p) h.1, Ev.of (impl_zeros.mono p) h.2⟩
def colOk (p : List Int) : Bool := (List.range 10).all fun c => decide (impl_column.f 30 p c = some ((colH p c : Nat) : Int)) && ((List.range 11).all fun i => decide (i < colH p c ↔ (i < p.length ∧ p.getD i 0 > (c : Int))))
theorem factcol : allP.all colOk = true := by decide +kernel
theorem col_ev {p : List Int} (hp : isP p = true) (c : Nat) (hc : c < 10) : Ev (fun k => impl_column.f k p c) ((colH p c : Nat) : Int) := by
  have h := of_all factcol (mem_allP hp)
  have h1 := of_all h (x := c) (List.mem_range.2 hc)
  simp only [Bool.and_eq_true, decide_eq_true_eq] at h1
  exact Ev.of (impl_column.mono p c) h1.1
theorem col_iff {p : List Int} (hp : isP p = true) (c : Nat) (hc : c < 10) (i : Nat) (hi : i < 11) : i < colH p c ↔ (i < p.length ∧ p.getD i 0 > (c : Int)) := by
  have h := of_all factcol (mem_allP hp)
  have h1 := of_all h (x := c) (List.mem_range.2 hc)
  simp only [Bool.and_eq_true] at h1
  have h2 := of_all h1.2 (x := i) (List.mem_range.2 hi)
  exact of_decide_eq_true h2
theorem colH_le {p : List Int} (c : Int) : colH p c ≤ p.length := List.length_filter_le _ _
theorem noughts_shp {p : List Int} (hp : isP p = true) : shp p (noughts p) := by
  refine ⟨by simp [noughts], fun i h h' => ?_⟩
  have := isP_get hp i h'
  simp only [noughts, List.getElem_map, List.length_replicate]
  omega
theorem shp_set {p : List Int} {y : List (List Int)} (h : shp p y) (i : Nat) (hi : i < y.length) (v : List Int) (hv : v.length = y[i].length) : shp p (y.set i v) := by
  refine ⟨by rw [List.length_set]; exact h.1, fun j hj hj' => ?_⟩
  rw [List.length_set] at hj
  rw [List.getElem_set]
  split
  · rename_i e
    subst e
    rw [hv]
    exact h.2 i hj hj'
  · exact h.2 j hj hj'

def markL (a : Int) (n : Nat) : List Int := (List.range n).map (fun (j : Nat) => a + (j : Int))
theorem markL_length (a : Int) (n : Nat) : (markL a n).length = n := by simp [markL]
theorem markL_get (a : Int) (n i : Nat) (h : i < (markL a n).length) : (markL a n)[i] = a + i := by simp [markL]
theorem markIntS_l0 (a : Int) (n : Nat) (h0 : 0 ≤ a) (h1 : a ≤ 4611686018427387904) (hn : n ≤ 4611686018427387) (d : Nat) : ∀ (i : Nat) (y : List Int) (k : Nat), i + d = n → y.length = n → y.take i = markL a i → d < k →
    laws_markIntS.l0 k y (a + i) i = some (a + n, markL a n) := by
  induction d with
  | zero =>
    intro i y k hi hy ht hk
    obtain ⟨k, rfl⟩ : ∃ m, k = m + 1 := ⟨k - 1, by omega⟩
    simp only [laws_markIntS.l0]
    rw [if_neg (by omega)]
    obtain rfl : i = n := by omega
    rw [List.take_of_length_le (by omega)] at ht
    rw [ht]
  | succ d ih =>
    intro i y k hi hy ht hk
    obtain ⟨k, rfl⟩ : ∃ m, k = m + 1 := ⟨k - 1, by omega⟩
    simp only [laws_markIntS.l0]
    rw [if_pos (by omega), if_pos (by omega), wr1 (by omega), wr_in (x := a + i + 1) (by omega) (by omega)]
    have e : a + (i : Int) + 1 = a + ((i + 1 : Nat) : Int) := by omega
    rw [e]
    refine ih (i + 1) _ k (by omega) (by simpa using hy) ?_ (by omega)
    rw [Int.toNat_natCast, take_set_succ y i _ (by omega), ht]
    simp [markL, List.range_succ]
theorem markIntS_ev (a : Int) (l : List Int) (h0 : 0 ≤ a) (h1 : a ≤ 4611686018427387904) (hn : l.length ≤ 4611686018427387) : Ev (fun k => laws_markIntS.f k l a) (a + l.length, markL a l.length) := by
  refine ⟨l.length + 1, fun k hk => ?_⟩
  show laws_markIntS.f k l a = _
  unfold laws_markIntS.f
  have h := markIntS_l0 a l.length h0 h1 hn l.length 0 l k (by omega) rfl (by simp [markL]) (by omega)
  simpa using h
theorem heldIntS_l0 (a : Int) (n : Nat) (h0 : 0 ≤ a) (h1 : a ≤ 4611686018427387904) (hn : n ≤ 4611686018427387) (d : Nat) : ∀ (i k : Nat), i + d = n → d < k →
    laws_heldIntS.l0 k (markL a n) (a + i) i = some (a + n) := by
  induction d with
  | zero =>
    intro i k hi hk
    obtain ⟨k, rfl⟩ : ∃ m, k = m + 1 := ⟨k - 1, by omega⟩
    simp only [laws_heldIntS.l0]
    rw [if_neg (by rw [markL_length]; omega)]
    obtain rfl : i = n := by omega
    rfl
  | succ d ih =>
    intro i k hi hk
    obtain ⟨k, rfl⟩ : ∃ m, k = m + 1 := ⟨k - 1, by omega⟩
    simp only [laws_heldIntS.l0]
    have hlt : i < (markL a n).length := by rw [markL_length]; omega
    rw [if_pos (by rw [markL_length]; omega), if_pos (by omega), rd_nat _ i hlt, markL_get, if_pos rfl, wr1 (by omega), wr_in (x := a + i + 1) (by omega) (by omega)]
    have e : a + (i : Int) + 1 = a + ((i + 1 : Nat) : Int) := by omega
    rw [e]
    exact ih (i + 1) k (by omega) (by omega)
theorem heldIntS_ev (a : Int) (n : Nat) (h0 : 0 ≤ a) (h1 : a ≤ 4611686018427387904) (hn : n ≤ 4611686018427387) : Ev (fun k => laws_heldIntS.f k (markL a n) a) (a + n) := by
  refine ⟨n + 1, fun k hk => ?_⟩
  show laws_heldIntS.f k (markL a n) a = _
  unfold laws_heldIntS.f
  have h := heldIntS_l0 a n h0 h1 hn n 0 k (by omega) (by omega)
  simpa using h

-- Rows of rows, marked and held.
def tot : List (List Int) → Int
  | [] => 0
  | x :: xs => (x.length : Int) + tot xs
def markLL : Int → List (List Int) → List (List Int)
  | _, [] => []
  | a, x :: xs => markL a x.length :: markLL (a + x.length) xs
theorem tot_nonneg : ∀ (l : List (List Int)), 0 ≤ tot l
  | [] => by simp [tot]
  | x :: xs => by have := tot_nonneg xs; simp only [tot]; omega
theorem tot_le {m : Nat} : ∀ (l : List (List Int)), (∀ x ∈ l, x.length ≤ m) → tot l ≤ (l.length : Int) * (m : Int)
  | [], _ => by simp [tot]
  | x :: xs, h => by
    have h1 := tot_le xs (fun y hy => h y (List.mem_cons_of_mem _ hy))
    have h2 := h x (List.mem_cons_self ..)
    simp only [tot, List.length_cons]
    rw [show (((xs.length + 1 : Nat)) : Int) * (m : Int) = (xs.length : Int) * (m : Int) + (m : Int) by rw [Int.natCast_succ, Int.add_mul, Int.one_mul]]
    generalize (xs.length : Int) * (m : Int) = z at *
    omega
theorem rdL_mid (pre : List (List Int)) (x : List Int) (s : List (List Int)) : rd_L1 (pre ++ x :: s) (pre.length : Int) = x := by
  rw [rdL_nat _ pre.length (by simp)]; simp
theorem set_mid (pre : List (List Int)) (x v : List Int) (s : List (List Int)) : (pre ++ x :: s).set ((pre.length : Nat) : Int).toNat v = (pre ++ [v]) ++ s := by
  simp
theorem markSS_l0 : ∀ (s pre : List (List Int)) (b : Int), pre.length + s.length ≤ 1048576 → (∀ x ∈ s, x.length ≤ 1048576) → 0 ≤ b → b + tot s ≤ 2305843009213693952 →
    Ev (fun k => laws_markIntSS.l0 k (pre ++ s) b (pre.length : Int)) (b + tot s, pre ++ markLL b s)
  | [], pre, b, h1, h2, h3, h4 => by
    refine Ev.step (fun k => by simp only [laws_markIntSS.l0]; rfl) (Ev.ite_false (by simp) ?_)
    simp only [tot, markLL, Int.add_zero]
    exact Ev.now _
  | x :: s, pre, b, h1, h2, h3, h4 => by
    have hx := h2 x (List.mem_cons_self ..)
    have ht := tot_nonneg s
    simp only [tot] at h4
    simp only [List.length_cons] at h1
    have hm := markIntS_ev b x h3 (by omega) (by omega)
    have ih := markSS_l0 s (pre ++ [markL b x.length]) (b + x.length) (by simp; omega) (fun y hy => h2 y (List.mem_cons_of_mem _ hy)) (by omega) (by omega)
    have hlt : (pre.length : Int) < ((pre ++ x :: s).length : Int) := by simp only [List.length_append, List.length_cons]; omega
    have w1 : wrap64 ((pre.length : Int) + 1) = ((pre.length + 1 : Nat) : Int) := wr1 (by omega)
    refine Ev.step (fun k => by simp only [laws_markIntSS.l0]; rfl) (Ev.ite_true hlt (Ev.ite_true (Int.natCast_nonneg _) ?_))
    rw [rdL_mid, w1]
    refine Ev.bind hm ?_
    rw [set_mid]
    simp only [tot, markLL]
    rw [show b + ((x.length : Int) + tot s) = b + x.length + tot s by rw [Int.add_assoc], show pre ++ markL b x.length :: markLL (b + x.length) s = (pre ++ [markL b x.length]) ++ markLL (b + x.length) s by simp]
    simpa using ih
theorem markSS_ev (l : List (List Int)) (a : Int) (hl : l.length ≤ 1048576) (he : ∀ x ∈ l, x.length ≤ 1048576) (h0 : 0 ≤ a) (h1 : a ≤ 1152921504606846976) : Ev (fun k => laws_markIntSS.f k l a) (a + tot l, markLL a l) := by
  have ht := tot_le (m := 1048576) l he
  have hb : (l.length : Int) * ((1048576 : Nat) : Int) ≤ 1099511627776 := by
    have : (l.length : Int) * ((1048576 : Nat) : Int) ≤ ((1048576 : Nat) : Int) * ((1048576 : Nat) : Int) := Int.mul_le_mul_of_nonneg_right (by omega) (by omega)
    exact Int.le_trans this (by decide)
  have h := markSS_l0 l [] a (by simpa using hl) he h0 (by omega)
  simpa [laws_markIntSS.f] using h

theorem heldSS_l0 : ∀ (s pre : List (List Int)) (b : Int), pre.length + s.length ≤ 1048576 → (∀ x ∈ s, x.length ≤ 1048576) → 0 ≤ b → b + tot s ≤ 2305843009213693952 →
    Ev (fun k => laws_heldIntSS.l0 k (pre ++ markLL b s) b (pre.length : Int)) (b + tot s)
  | [], pre, b, h1, h2, h3, h4 => by
    refine Ev.step (fun k => by simp only [laws_heldIntSS.l0]; rfl) (Ev.ite_false (by simp [markLL]) ?_)
    simp only [tot, Int.add_zero]
    exact Ev.now _
  | x :: s, pre, b, h1, h2, h3, h4 => by
    have hx := h2 x (List.mem_cons_self ..)
    have ht := tot_nonneg s
    simp only [tot] at h4
    simp only [List.length_cons] at h1
    have hm := heldIntS_ev b x.length h3 (by omega) (by omega)
    have ih := heldSS_l0 s (pre ++ [markL b x.length]) (b + x.length) (by simp; omega) (fun y hy => h2 y (List.mem_cons_of_mem _ hy)) (by omega) (by omega)
    have hlt : (pre.length : Int) < ((pre ++ markLL b (x :: s)).length : Int) := by simp only [markLL, List.length_append, List.length_cons]; omega
    have w1 : wrap64 ((pre.length : Int) + 1) = ((pre.length + 1 : Nat) : Int) := wr1 (by omega)
    have hneg : ¬ (b + (x.length : Int) < 0) := by omega
    refine Ev.step (fun k => by simp only [laws_heldIntSS.l0]; rfl) (Ev.ite_true hlt (Ev.ite_true (Int.natCast_nonneg _) ?_))
    simp only [markLL]
    rw [rdL_mid, w1]
    refine Ev.bind hm (Ev.ite_false hneg ?_)
    simp only [tot]
    rw [show b + ((x.length : Int) + tot s) = b + x.length + tot s by rw [Int.add_assoc], show pre ++ markL b x.length :: markLL (b + x.length) s = (pre ++ [markL b x.length]) ++ markLL (b + x.length) s by simp]
    simpa using ih
theorem heldSS_ev (l : List (List Int)) (a : Int) (hl : l.length ≤ 1048576) (he : ∀ x ∈ l, x.length ≤ 1048576) (h0 : 0 ≤ a) (h1 : a ≤ 1152921504606846976) : Ev (fun k => laws_heldIntSS.f k (markLL a l) a) (a + tot l) := by
  have ht := tot_le (m := 1048576) l he
  have hb : (l.length : Int) * ((1048576 : Nat) : Int) ≤ 1099511627776 := by
    have : (l.length : Int) * ((1048576 : Nat) : Int) ≤ ((1048576 : Nat) : Int) * ((1048576 : Nat) : Int) := Int.mul_le_mul_of_nonneg_right (by omega) (by omega)
    exact Int.le_trans this (by decide)
  have h := heldSS_l0 l [] a (by simpa using hl) he h0 (by omega)
  simpa [laws_heldIntSS.f] using h

theorem ite_dec (P : Prop) [Decidable P] : (if P then some true else some false) = some (decide P) := by by_cases h : P <;> simp [h]
theorem st_eq : spec_l27Back.st = impl_raise.st := rfl
theorem path_ev {p : List Int} (hp : isP p = true) (e : Nat) (m : Nat) : ∀ (r c : Nat) (y : List (List Int)) (hr : r < p.length), shp p y → (c : Int) < p[r] → e ≤ c → p.length - r + c ≤ m →
    ∃ y', shp p y' ∧ Ev (fun k => spec_l27Back.l0 k p y r c e) y' ∧ Ev (fun k => impl_raise.l0 k p y r c e) y' := by
  have h9 := isP_length hp
  induction m with
  | zero => intro r c y hr hy hc he hm; omega
  | succ m ih =>
    intro r c y hr hy hc he hm
    have hry : r < y.length := by rw [hy.1]; exact hr
    have hrow := hy.2 r hry hr
    have hp9 := isP_get hp r hr
    have hcl : c < y[r].length := by omega
    have hrd : rd_L1 y (r : Int) = y[r] := rdL_nat y r hry
    obtain ⟨y1, hy1⟩ : ∃ y_, y_ = spec_l27Back.st y r c := ⟨_, rfl⟩
    have hy1' : y1 = impl_raise.st y r c := hy1
    have hs : shp p y1 := by
      rw [hy1]
      unfold spec_l27Back.st
      rw [hrd, Int.toNat_natCast, Int.toNat_natCast]
      exact shp_set hy r hry _ (by rw [List.length_set])
    have hcond : (0 ≤ (r : Int) ∧ (r : Int) < (y.length : Int)) ∧ (0 ≤ (c : Int) ∧ (c : Int) < ((rd_L1 y (r : Int)).length : Int)) := by
      rw [hrd]; omega
    have W1 : Aside0 (wrap64 ((r : Int) + 1) = ((r + 1 : Nat) : Int)) := ⟨wr1 (by omega)⟩
    have hc10 : c < 10 := by omega
    -- both look alike
    have hup : ∃ b : Bool, Ev (fun k => spec_l27Back.up k p y1 r c (rd (rd_L1 y (r : Int)) c)) b ∧ Ev (fun k => impl_raise.up k p y1 r c (rd (rd_L1 y (r : Int)) c)) b ∧ (b = true → ∃ h : r + 1 < p.length, (c : Int) < p[r + 1]) := by
      by_cases h1 : r + 1 < colH p c
      · have h2 := (col_iff hp c hc10 (r + 1) (by omega)).1 h1
        obtain ⟨h3, h4⟩ := h2
        rw [List.getD_eq_getElem?_getD, List.getElem?_eq_getElem h3, Option.getD_some] at h4
        have hry1 : r + 1 < y1.length := by rw [hs.1]; exact h3
        have hl := hs.2 (r + 1) hry1 h3
        have hq : wrap64 ((r : Int) + 1) < (y1.length : Int) ∧ (c : Int) < ((rd_L1 y1 (wrap64 ((r : Int) + 1))).length : Int) := by
          rw [W1.out, rdL_nat y1 (r + 1) hry1]; omega
        refine ⟨decide (rd (rd_L1 y1 (wrap64 ((r : Int) + 1))) c = rd (rd_L1 y (r : Int)) c), ?_, ?_, fun _ => ⟨h3, h4⟩⟩
        · refine ⟨0, fun k _ => ?_⟩
          unfold spec_l27Back.up
          rw [if_pos (by rw [W1.out]; omega), if_pos (by rw [W1.out]; omega), if_pos (by rw [W1.out, rd_nat p (r + 1) h3]; exact h4), if_pos hq]
          exact ite_dec _
        · unfold impl_raise.up
          refine Ev.bind (col_ev hp c hc10) ?_
          refine ⟨0, fun k _ => ?_⟩
          rw [if_pos (by rw [W1.out]; omega), if_pos (by rw [W1.out]; omega), if_pos hq]
          exact ite_dec _
      · refine ⟨false, ?_, ?_, fun h => by cases h⟩
        · refine ⟨0, fun k _ => ?_⟩
          unfold spec_l27Back.up
          by_cases h3 : r + 1 < p.length
          · rw [if_pos (by rw [W1.out]; omega), if_pos (by rw [W1.out]; omega), if_neg]
            rw [W1.out, rd_nat p (r + 1) h3]
            intro h4
            exact h1 ((col_iff hp c hc10 (r + 1) (by omega)).2 ⟨h3, by rw [List.getD_eq_getElem?_getD, List.getElem?_eq_getElem h3, Option.getD_some]; exact h4⟩)
          · rw [if_neg (by rw [W1.out]; omega)]
        · unfold impl_raise.up
          refine Ev.bind (col_ev hp c hc10) ?_
          exact Ev.ite_false (by rw [W1.out]; omega) (Ev.now _)
    obtain ⟨b, hu1, hu2, hb⟩ := hup
    cases b with
    | true =>
      obtain ⟨h3, h4⟩ := hb rfl
      obtain ⟨y', g1, g2, g3⟩ := ih (r + 1) c y1 h3 hs h4 he (by omega)
      refine ⟨y', g1, ?_, ?_⟩
      · refine Ev.step (fun k => by rw [spec_l27Back.l0]) (Ev.ite_true hcond ?_)
        rw [← hy1]
        refine Ev.bind hu1 (Ev.ite_true rfl ?_)
        rw [W1.out]; exact g2
      · refine Ev.step (fun k => by rw [impl_raise.l0]) (Ev.ite_true hcond ?_)
        rw [← hy1']
        refine Ev.bind hu2 (Ev.ite_true rfl ?_)
        rw [W1.out]; exact g3
    | false =>
      by_cases hce : c = e
      · refine ⟨y1, hs, ?_, ?_⟩
        · refine Ev.step (fun k => by rw [spec_l27Back.l0]) (Ev.ite_true hcond ?_)
          rw [← hy1]
          exact Ev.bind hu1 (Ev.ite_false (by simp) (Ev.ite_true (by omega) (Ev.now _)))
        · refine Ev.step (fun k => by rw [impl_raise.l0]) (Ev.ite_true hcond ?_)
          rw [← hy1']
          exact Ev.bind hu2 (Ev.ite_false (by simp) (Ev.ite_false (by omega) (Ev.now _)))
      · have w2 : wrap64 ((c : Int) - 1) = ((c - 1 : Nat) : Int) := by unfold wrap64; omega
        obtain ⟨y', g1, g2, g3⟩ := ih r (c - 1) y1 hr hs (by omega) (by omega) (by omega)
        refine ⟨y', g1, ?_, ?_⟩
        · refine Ev.step (fun k => by rw [spec_l27Back.l0]) (Ev.ite_true hcond ?_)
          rw [← hy1]
          refine Ev.bind hu1 (Ev.ite_false (by simp) (Ev.ite_false (by omega) ?_))
          rw [w2]; exact g2
        · refine Ev.step (fun k => by rw [impl_raise.l0]) (Ev.ite_true hcond ?_)
          rw [← hy1']
          refine Ev.bind hu2 (Ev.ite_false (by simp) (Ev.ite_true (by omega) ?_))
          rw [w2]; exact g3
theorem back_ev {p : List Int} (hp : isP p = true) (r c : Nat) (hr : r < p.length) (hc : (c : Int) < p[r]) (y : List (List Int)) (hy : shp p y) : ∃ y', shp p y' ∧ Ev (fun k => spec_l27Back.f k p y r c) y' ∧ Ev (fun k => impl_raise.f k p y r c) y' := by
  have hp9 := isP_get hp r hr
  obtain ⟨n, hn⟩ : ∃ n : Nat, (n : Int) = p[r] - 1 := ⟨(p[r] - 1).toNat, by omega⟩
  have w : wrap64 (rd p (r : Int) - 1) = (n : Int) := by rw [rd_nat p r hr]; unfold wrap64; omega
  obtain ⟨y', g1, g2, g3⟩ := path_ev hp c (p.length - r + n) r n y hr hy (by omega) (by omega) (by omega)
  refine ⟨y', g1, ?_, ?_⟩
  · unfold spec_l27Back.f
    refine Ev.ite_true (by omega) ?_
    rw [w]; exact g2
  · unfold impl_raise.f
    refine Ev.ite_true (by omega) ?_
    rw [w]; exact g3
def okR (p : List Int) (res : List (List Int) × Bool) : Prop := res.1 = [] ∨ shp p res.1
theorem l2_ev {p : List Int} {f : List (List Int)} (hp : isP p = true) (hf : shp p f) (r c : Nat) (hr : r < p.length) (hc : (c : Int) < p[r]) (hrf : r < f.length) (hcf : c < f[r].length) (hn : f[r][c] ≤ 9) (col : Int)
    (next : ∀ y, shp p y → ∃ res, okR p res ∧ Ev (fun k => spec_ReverseOfHooks.l1 k p f y c ((r + 1 : Nat) : Int)) res ∧ Ev (fun k => impl_ReverseOfHooks.l1 k p f y c col ((r + 1 : Nat) : Int)) res) (d : Nat) :
    ∀ (j : Nat) (y : List (List Int)), f[r][c] ≤ (j : Int) + d → j ≤ 9 → shp p y → ∃ res, okR p res ∧ Ev (fun k => spec_ReverseOfHooks.l2 k p f y c r j) res ∧ Ev (fun k => impl_ReverseOfHooks.l2 k p f y c r col r f[r][c] j) res := by
  have h9 := isP_length hp
  have hrow := hf.2 r hrf hr
  have e1 : rd_L1 f (r : Int) = f[r] := rdL_nat f r hrf
  have e2 : rd f[r] (c : Int) = f[r][c] := rd_nat f[r] c hcf
  induction d with
  | zero =>
    intro j y hj hj9 hy
    obtain ⟨res, g1, g2, g3⟩ := next y hy
    refine ⟨res, g1, ?_, ?_⟩
    · refine Ev.step (fun k => by rw [spec_ReverseOfHooks.l2]) ?_
      refine Ev.ite_true (by omega) (Ev.ite_true (by omega) (Ev.ite_true (by rw [rd_nat p r hr]; exact hc) (Ev.ite_true (by omega) (Ev.ite_true (by omega) (Ev.ite_true (by rw [e1]; omega) (Ev.ite_false (by rw [e1, e2]; omega) ?_))))))
      rw [wr1 (by omega)]; exact g2
    · refine Ev.step (fun k => by rw [impl_ReverseOfHooks.l2]) (Ev.ite_false (by omega) ?_)
      rw [wr1 (by omega)]; exact g3
  | succ d ih =>
    intro j y hj hj9 hy
    by_cases hlt : (j : Int) < f[r][c]
    · obtain ⟨y1, hy1, b1, b2⟩ := back_ev hp r c hr hc y hy
      obtain ⟨res, g1, g2, g3⟩ := ih (j + 1) y1 (by omega) (by omega) hy1
      refine ⟨res, g1, ?_, ?_⟩
      · refine Ev.step (fun k => by rw [spec_ReverseOfHooks.l2]) ?_
        refine Ev.ite_true (by omega) (Ev.ite_true (by omega) (Ev.ite_true (by rw [rd_nat p r hr]; exact hc) (Ev.ite_true (by omega) (Ev.ite_true (by omega) (Ev.ite_true (by rw [e1]; omega) (Ev.ite_true (by rw [e1, e2]; omega) ?_))))))
        refine Ev.bind b1 ?_
        rw [wr1 (by omega)]; exact g2
      · refine Ev.step (fun k => by rw [impl_ReverseOfHooks.l2]) (Ev.ite_true (by omega) ?_)
        refine Ev.bind b2 ?_
        rw [wr1 (by omega)]; exact g3
    · obtain ⟨res, g1, g2, g3⟩ := next y hy
      refine ⟨res, g1, ?_, ?_⟩
      · refine Ev.step (fun k => by rw [spec_ReverseOfHooks.l2]) ?_
        refine Ev.ite_true (by omega) (Ev.ite_true (by omega) (Ev.ite_true (by rw [rd_nat p r hr]; exact hc) (Ev.ite_true (by omega) (Ev.ite_true (by omega) (Ev.ite_true (by rw [e1]; omega) (Ev.ite_false (by rw [e1, e2]; omega) ?_))))))
        rw [wr1 (by omega)]; exact g2
      · refine Ev.step (fun k => by rw [impl_ReverseOfHooks.l2]) (Ev.ite_false (by omega) ?_)
        rw [wr1 (by omega)]; exact g3
theorem skip_ev {p : List Int} {f : List (List Int)} (hp : isP p = true) (c : Nat) (hc : c < 10) (y : List (List Int)) (res : List (List Int) × Bool) (h0 : Ev (fun k => spec_ReverseOfHooks.l0 k p f y (wrap64 ((c : Int) - 1))) res) (d : Nat) :
    ∀ r : Nat, r + d = p.length → colH p c ≤ r → Ev (fun k => spec_ReverseOfHooks.l1 k p f y c r) res := by
  have h9 := isP_length hp
  induction d with
  | zero =>
    intro r hr _
    exact Ev.step (fun k => by rw [spec_ReverseOfHooks.l1]) (Ev.ite_false (by omega) h0)
  | succ d ih =>
    intro r hr hcr
    have hlt : r < p.length := by omega
    have hn : ¬ (c : Int) < p[r] := fun h => by
      have := (col_iff hp c hc r (by omega)).2 ⟨hlt, by rw [List.getD_eq_getElem?_getD, List.getElem?_eq_getElem hlt, Option.getD_some]; exact h⟩
      omega
    refine Ev.step (fun k => by rw [spec_ReverseOfHooks.l1]) (Ev.ite_true (by omega) ?_)
    refine Ev.step (fun k => by rw [spec_ReverseOfHooks.l2]) (Ev.ite_true (by omega) (Ev.ite_true (by omega) (Ev.ite_false (by rw [rd_nat p r hlt]; exact hn) ?_)))
    rw [wr1 (by omega)]
    exact ih (r + 1) (by omega) (by omega)
theorem l1_ev {p : List Int} {f : List (List Int)} (hp : isP p = true) (hf : shp p f) (hn : ∀ x ∈ f, ∀ n ∈ x, n ≤ 9) (c : Nat) (hc : c < 10)
    (next : ∀ y, shp p y → ∃ res, okR p res ∧ Ev (fun k => spec_ReverseOfHooks.l0 k p f y (wrap64 ((c : Int) - 1))) res ∧ Ev (fun k => impl_ReverseOfHooks.l0 k p f y (wrap64 ((c : Int) - 1))) res) (d : Nat) :
    ∀ (r : Nat) (y : List (List Int)), r + d = colH p c → shp p y → ∃ res, okR p res ∧ Ev (fun k => spec_ReverseOfHooks.l1 k p f y c r) res ∧ Ev (fun k => impl_ReverseOfHooks.l1 k p f y c ((colH p c : Nat) : Int) r) res := by
  have h9 := isP_length hp
  have hcl := colH_le (p := p) c
  induction d with
  | zero =>
    intro r y hr hy
    obtain ⟨res, g1, g2, g3⟩ := next y hy
    refine ⟨res, g1, skip_ev hp c hc y res g2 (p.length - r) r (by omega) (by omega), ?_⟩
    exact Ev.step (fun k => by rw [impl_ReverseOfHooks.l1]) (Ev.ite_false (by omega) g3)
  | succ d ih =>
    intro r y hr hy
    have h2 := (col_iff hp c hc r (by omega)).1 (by omega)
    obtain ⟨hlt, h4⟩ := h2
    rw [List.getD_eq_getElem?_getD, List.getElem?_eq_getElem hlt, Option.getD_some] at h4
    have hrf : r < f.length := by rw [hf.1]; exact hlt
    have hrow := hf.2 r hrf hlt
    have hcf : c < f[r].length := by omega
    have hn9 := hn f[r] (List.getElem_mem hrf) f[r][c] (List.getElem_mem hcf)
    obtain ⟨res, g1, g2, g3⟩ := l2_ev hp hf r c hlt h4 hrf hcf hn9 ((colH p c : Nat) : Int) (fun y hy => ih (r + 1) y (by omega) hy) (f[r][c]).toNat 0 y (by omega) (by omega) hy
    refine ⟨res, g1, ?_, ?_⟩
    · exact Ev.step (fun k => by rw [spec_ReverseOfHooks.l1]; rfl) (Ev.ite_true (by omega) g2)
    · refine Ev.step (fun k => by rw [impl_ReverseOfHooks.l1]) (Ev.ite_true (by omega) (Ev.ite_true (by omega) (Ev.ite_true (by omega) (Ev.ite_true (by omega) (Ev.ite_true (by rw [rdL_nat f r hrf]; omega) ?_)))))
      rw [rdL_nat f r hrf, rd_nat f[r] c hcf]
      exact g3
theorem end_ev {p : List Int} {f : List (List Int)} (hl : p.length ≤ 1048576) (y : List (List Int)) (hy : shp p y) : ∃ res, okR p res ∧ Ev (fun k => spec_ReverseOfHooks.l0 k p f y (-1)) res ∧ Ev (fun k => impl_ReverseOfHooks.l0 k p f y (-1)) res := by
  have h1 := specFill_ev p y hl
  have h2 := implFill_ev p y hl
  cases h : isF p y
  · rw [h] at h1 h2
    refine ⟨([], false), .inl rfl, ?_, ?_⟩
    · exact Ev.step (fun k => by rw [spec_ReverseOfHooks.l0]) (Ev.ite_false (by omega) (Ev.bind h1 (Ev.ite_false Bool.false_ne_true (Ev.now _))))
    · exact Ev.step (fun k => by rw [impl_ReverseOfHooks.l0]) (Ev.ite_false (by omega) (Ev.bind h2 (Ev.ite_false Bool.false_ne_true (Ev.now _))))
  · rw [h] at h1 h2
    refine ⟨(y, true), .inr hy, ?_, ?_⟩
    · exact Ev.step (fun k => by rw [spec_ReverseOfHooks.l0]) (Ev.ite_false (by omega) (Ev.bind h1 (Ev.ite_true rfl (Ev.now _))))
    · exact Ev.step (fun k => by rw [impl_ReverseOfHooks.l0]) (Ev.ite_false (by omega) (Ev.bind h2 (Ev.ite_true rfl (Ev.now _))))
theorem l0_ev {p : List Int} {f : List (List Int)} (hp : isP p = true) (hl : p.length ≤ 1048576) (hf : shp p f) (hn : ∀ x ∈ f, ∀ n ∈ x, n ≤ 9) : ∀ (c : Nat) (y : List (List Int)), c ≤ 10 → shp p y → ∃ res, okR p res ∧ Ev (fun k => spec_ReverseOfHooks.l0 k p f y ((c : Int) - 1)) res ∧ Ev (fun k => impl_ReverseOfHooks.l0 k p f y ((c : Int) - 1)) res
  | 0, y, _, hy => end_ev hl y hy
  | c + 1, y, hc, hy => by
    have e : (((c + 1 : Nat) : Int) - 1) = (c : Int) := by omega
    have w : wrap64 ((c : Int) - 1) = (c : Int) - 1 := by unfold wrap64; omega
    obtain ⟨res, g1, g2, g3⟩ := l1_ev hp hf hn c (by omega) (fun y hy => by rw [w]; exact l0_ev hp hl hf hn c y (by omega) hy) (colH p c) 0 y (by omega) hy
    rw [e]
    refine ⟨res, g1, ?_, ?_⟩
    · exact Ev.step (fun k => by rw [spec_ReverseOfHooks.l0]; rfl) (Ev.ite_true (by omega) g2)
    · refine Ev.step (fun k => by rw [impl_ReverseOfHooks.l0]) (Ev.ite_true (by omega) (Ev.bind (col_ev hp c (by omega)) ?_))
      exact g3
theorem high_ev {p : List Int} {f : List (List Int)} (hp : isP p = true) (y : List (List Int)) (res : List (List Int) × Bool) (b : Nat) (hb : ∀ i (h : i < p.length), p[i] ≤ (b : Int)) (h0 : Ev (fun k => spec_ReverseOfHooks.l0 k p f y ((b : Int) - 1)) res) (d : Nat) : b + d ≤ 10 → Ev (fun k => spec_ReverseOfHooks.l0 k p f y (((b + d : Nat) : Int) - 1)) res := by
  induction d with
  | zero => intro _; exact h0
  | succ d ih =>
    intro hd
    have e : (((b + (d + 1) : Nat) : Int) - 1) = ((b + d : Nat) : Int) := by omega
    have w : wrap64 (((b + d : Nat) : Int) - 1) = ((b + d : Nat) : Int) - 1 := by unfold wrap64; omega
    have hz : colH p ((b + d : Nat) : Int) ≤ 0 := by
      rcases Nat.eq_zero_or_pos (colH p ((b + d : Nat) : Int)) with h | h
      · omega
      · have h2 := (col_iff hp (b + d) (by omega) 0 (by omega)).1 h
        obtain ⟨h3, h4⟩ := h2
        rw [List.getD_eq_getElem?_getD, List.getElem?_eq_getElem h3, Option.getD_some] at h4
        have := hb 0 h3
        omega
    rw [e]
    refine Ev.step (fun k => by rw [spec_ReverseOfHooks.l0]) (Ev.ite_true (by omega) ?_)
    exact skip_ev hp (b + d) (by omega) y res (by rw [w]; exact ih (by omega)) p.length 0 (by omega) hz
theorem desc0 {p : List Int} (hp : isP p = true) : ∀ (i : Nat) (h : i < p.length), p[i] ≤ p.getD 0 0
  | 0, h => by simp [h]
  | i + 1, h => Int.le_trans (isP_desc hp i h) (desc0 hp i (by omega))
theorem fill_small : ∀ (p : List Int) (f : List (List Int)), p.length = f.length → fillFrom p f = true → ∀ x ∈ f, ∀ n ∈ x, n ≤ 9
  | _, [], _, _, x, hx => by simp at hx
  | [], r :: rs, hl, _, x, hx => by simp at hl
  | p :: ps, r :: rs, hl, hf, x, hx => by
    simp only [fillFrom, Bool.and_eq_true, List.all_eq_true] at hf
    rcases List.mem_cons.1 hx with rfl | hx
    · intro n hn
      have := hf.2.1 n hn
      simp only [okF, decide_eq_true_eq] at this
      exact this.2
    · exact fill_small ps rs (by simpa using hl) hf.2.2 x hx
theorem at_f (p : List Int) (hl : p.length ≤ 1048576) : impl_at.f p 0 = some (p.getD 0 0) := by
  unfold impl_at.f
  rw [within_f, Option.bind_some]
  cases p with
  | nil => rw [show wrap64 ((([] : List Int).length : Int) - 1) = -1 by unfold wrap64; decide, if_neg (by decide)]; rfl
  | cons x xs =>
    have w : wrap64 (((x :: xs).length : Int) - 1) = ((x :: xs).length : Int) - 1 := wr_in (by omega) (by omega)
    rw [if_pos (by rw [w]; simp only [List.length_cons]; exact decide_eq_true (by omega)), if_pos (by omega), if_pos (by simp only [List.length_cons]; omega)]
    rfl
theorem same (p : List Int) (f : List (List Int)) (hl : p.length ≤ 1048576) : ∃ res, (res.1.length ≤ 1048576 ∧ ∀ x ∈ res.1, x.length ≤ 1048576) ∧ Ev (fun k => spec_ReverseOfHooks.f k p f) res ∧ Ev (fun k => impl_ReverseOfHooks.f k p f) res := by
  obtain ⟨r, h1, h2⟩ := hookw_same p f hl
  have hno : ¬ (0 ≤ r ∧ r ≤ 20) → ∃ res, (res.1.length ≤ 1048576 ∧ ∀ x ∈ res.1, x.length ≤ 1048576) ∧ Ev (fun k => spec_ReverseOfHooks.f k p f) res ∧ Ev (fun k => impl_ReverseOfHooks.f k p f) res := by
    intro hr
    refine ⟨([], false), ⟨by simp, by simp⟩, ?_, ?_⟩
    · simp only [spec_ReverseOfHooks.f, l1In_f]
      exact Ev.bind h1 (Ev.bind (Ev.now _) (Ev.ite_false (by simpa using hr) (Ev.now _)))
    · simp only [impl_ReverseOfHooks.f]
      refine Ev.bind h2 ?_
      have hj : Ev (fun k => impl_ReverseOfHooks.j0 k p f true) (([], false) : List (List Int) × Bool) := Ev.step (fun k => by rw [impl_ReverseOfHooks.j0]) (Ev.ite_true rfl (Ev.now _))
      by_cases h0 : r < 0
      · exact Ev.ite_true h0 hj
      · refine Ev.ite_false h0 ?_
        rw [decide_eq_true (show r > 20 by omega)]
        exact hj
  by_cases hr : 0 ≤ r ∧ r ≤ 20
  · cases h : isF p f
    · have e1 := specFill_ev p f hl
      rw [h] at e1
      have e2 : Ev (fun k => spec_HookWeight.f k p f) (-1) := by
        simp only [spec_HookWeight.f]
        exact Ev.bind e1 (Ev.ite_false (by simp) (Ev.now _))
      have : r = -1 := by
        obtain ⟨a, ha⟩ := h1
        obtain ⟨b, hb⟩ := e2
        have := (ha (max a b) (by omega)).symm.trans (hb (max a b) (by omega))
        exact Option.some.inj this
      omega
    · have hI := h
      simp only [isF, Bool.and_eq_true, decide_eq_true_eq] at h
      obtain ⟨hp, hlen, hfill⟩ := h
      have h9 := isP_length hp
      have hf : shp p f := ⟨hlen, fun i h h' => fillFrom_get p f hlen.symm hfill i h' h⟩
      have hsm := fill_small p f hlen.symm hfill
      have hz := zeros_ev hp
      have hd0 : 0 ≤ p.getD 0 0 ∧ p.getD 0 0 ≤ 9 := by
        by_cases hp0 : 0 < p.length
        · have := isP_get hp 0 hp0
          rw [List.getD_eq_getElem?_getD, List.getElem?_eq_getElem hp0, Option.getD_some]; omega
        · rw [List.getD_eq_getElem?_getD, List.getElem?_eq_none (by omega), Option.getD_none]; omega
      obtain ⟨b, hb⟩ : ∃ b : Nat, (b : Int) = p.getD 0 0 := ⟨(p.getD 0 0).toNat, by omega⟩
      obtain ⟨res, g1, g2, g3⟩ := l0_ev hp hl hf hsm b (noughts p) (by omega) (noughts_shp hp)
      have g4 := high_ev hp (noughts p) res b (fun i hi => by rw [hb]; exact desc0 hp i hi) g2 (10 - b) (by omega)
      have e10 : (((b + (10 - b) : Nat) : Int) - 1) = 9 := by omega
      rw [e10] at g4
      refine ⟨res, ?_, ?_, ?_⟩
      · rcases g1 with g | g
        · rw [g]; simp
        · refine ⟨by rw [g.1]; omega, fun x hx => ?_⟩
          obtain ⟨i, hi, rfl⟩ := List.getElem_of_mem hx
          have hip : i < p.length := by rw [← g.1]; exact hi
          have := g.2 i hi hip
          have := isP_get hp i hip
          omega
      · simp only [spec_ReverseOfHooks.f, l1In_f]
        exact Ev.bind h1 (Ev.bind (Ev.now _) (Ev.ite_true (by simpa using hr) (Ev.bind hz.1 g4)))
      · simp only [impl_ReverseOfHooks.f]
        refine Ev.bind h2 (Ev.ite_false (by omega) ?_)
        rw [decide_eq_false (show ¬ r > 20 by omega)]
        refine Ev.step (fun k => by rw [impl_ReverseOfHooks.j0]) (Ev.ite_false (by simp) (Ev.bind hz.2 ?_))
        rw [at_f p hl, ← hb]
        refine Ev.bind (Ev.now _) ?_
        have w : wrap64 ((b : Int) - 1) = (b : Int) - 1 := by unfold wrap64; omega
        rw [w]
        exact g3
  · exact hno hr
theorem FnExactReverseOfHooks : laws_FnExactReverseOfHooks.Pure := by
  intro p f hp hf
  apply Ev.rounds
  simp only [laws_FnExactReverseOfHooks.f]
  by_cases hl : p.length ≤ 1048576
  · refine Ev.ite_false (by omega) ?_
    obtain ⟨r, hr, hc⟩ := szIntSS_ev f hf.1 (fun x hx => (hf.2 x hx).1)
    refine Ev.bind hr ?_
    by_cases h0 : r < 0
    · exact Ev.ite_true h0 (Ev.now _)
    refine Ev.ite_false h0 ?_
    have hs : smallL f := hc.resolve_left h0
    obtain ⟨res, ⟨q1, q2⟩, h1, h2⟩ := same p f hl
    obtain ⟨g, gb⟩ := res
    have ht := toIntS_ev p hl
    have he := eqIntS_self p hl
    have ht2 := toIntSS_ev f hs
    have he2 := eqIntSS_self f hs
    have he3 := eqIntSS_self g ⟨q1, q2⟩
    have hm := markIntS_ev 1 p (by omega) (by omega) (by omega)
    have hm2 := markSS_ev f (1 + p.length) hs.1 hs.2 (by omega) (by omega)
    have hm3 := markSS_ev g 1 q1 q2 (by omega) (by omega)
    have hh := heldSS_ev g 1 q1 q2 (by omega) (by omega)
    have htn := tot_nonneg g
    have htn2 := tot_nonneg f
    repeat (first
      | exact Ev.now _
      | refine Ev.bind ht ?_
      | refine Ev.bind ht2 ?_
      | refine Ev.bind h1 ?_
      | refine Ev.bind h2 ?_
      | refine Ev.bind he ?_
      | refine Ev.bind he2 ?_
      | refine Ev.bind he3 ?_
      | refine Ev.bind hm ?_
      | refine Ev.bind hm2 ?_
      | refine Ev.bind hm3 ?_
      | refine Ev.bind hh ?_
      | refine Ev.ite_true (by first | rfl | (simp; done) | omega | (dsimp only; omega)) ?_
      | refine Ev.ite_false (by first | (simp; done) | omega | (dsimp only; omega)) ?_
      | refine Ev.step (fun k => by simp only [laws_FnExactReverseOfHooks.j0]; rfl) ?_
      | refine Ev.step (fun k => by simp only [laws_FnExactReverseOfHooks.j1]; rfl) ?_
      | refine Ev.step (fun k => by simp only [laws_FnExactReverseOfHooks.j2]; rfl) ?_)
  · exact Ev.ite_true (by omega) (Ev.now _)

end Go.Proofs.Ytnmndjpkfcnaoaa.Pure
