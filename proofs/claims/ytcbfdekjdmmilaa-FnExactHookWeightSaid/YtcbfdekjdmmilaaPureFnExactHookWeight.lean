/- The program's HookWeight answers as the reference's for every list of numbers and list of lists, of at most 2^20 numbers each, and leaves its arguments alone; above that the law says nothing. No condition. -/
import Derived.Test.YtcbfdekjdmmilaaPFnExactHookWeightx6
import Derived.Test.YtcbfdekjdmmilaaWSized
set_option linter.unusedVariables false
set_option linter.unusedSimpArgs false
namespace Go.Proofs.Ytcbfdekjdmmilaa
open Go.ChangeShapes Go.WideShapes
theorem PrintWords.sized_ints {H : Type} {enc : TypeId × Value → H} {P : Program} {W : World} {base : Nat} {spare : Nat → Bool} {held : Bool} {t e : TypeId} {k : IntKind} {a : Option Addr} {len cap : Nat} {d : DataW H} {ps : List MemPlace} {ts : List TypeId} {ds : List (DataW H)} {j : Nat}
    (hsz : (DataW.weightsEach P ts ds).all (· ≤ reachBytes) = true) (ht : ts[j]? = some t) (hd : ds[j]? = some d) (hu : P.underlying t = some (.slice e)) (he : P.underlying e = some (.int k)) (hc : P.cellsOf e = 1) {B : Nat} (hB : P.bytesOf e = B)
    (h : DataW.Trod enc P W base spare held t (.slice a len cap) d ps) : len * B ≤ 140737488351232 :=
  Go.Proofs.YtcbfdekjdmmilaaW.PrintWords.sized_ints hsz ht hd hu he hc hB h
end Go.Proofs.Ytcbfdekjdmmilaa
namespace Go.Proofs.Ytcbfdekjdmmilaa.Pure
open Go.RowKit Go.Proofs.Ytcbfdekjdmmilaa.PFnExactHookWeight Go.Proofs.YtcbfdekjdmmilaaW.PrintWords Go.Proofs.YtcbfdekjdmmilaaW.PrintLast

theorem wr_in {x : Int} (h : -9223372036854775808 ≤ x) (h' : x ≤ 9223372036854775807) : wrap64 x = x := by unfold wrap64; omega
theorem wr1 {i : Nat} (h : i < 4611686018427387904) : wrap64 ((i : Int) + 1) = ((i + 1 : Nat) : Int) := by unfold wrap64; omega
theorem Ev.ite_true {α : Type} {c : Prop} [Decidable c] {g f : Nat → Option α} {r : α} (hc : c) (h : Ev g r) : Ev (fun k => if c then g k else f k) r := by
  obtain ⟨K, h⟩ := h
  exact ⟨K, fun k hk => (if_pos hc).trans (h k hk)⟩
theorem Ev.ite_false {α : Type} {c : Prop} [Decidable c] {g f : Nat → Option α} {r : α} (hc : ¬ c) (h : Ev f r) : Ev (fun k => if c then g k else f k) r := by
  obtain ⟨K, h⟩ := h
  exact ⟨K, fun k hk => (if_neg hc).trans (h k hk)⟩
theorem rd_nat (l : List Int) (i : Nat) (h : i < l.length) : rd l (i : Int) = l[i] := by
  simp [rd, List.getD_eq_getElem?_getD, h]
/-- A statement that holds of all members of a list that can be run through. -/
theorem of_all {α : Type} {p : α → Bool} {l : List α} (h : l.all p = true) {x : α} (hx : x ∈ l) : p x = true := List.all_eq_true.mp h x hx
/-- Both answer, and alike. -/
def both {α : Type} [DecidableEq α] (a b : Option α) : Bool := match a, b with
  | some x, some y => decide (x = y)
  | _, _ => false
theorem both_ev {α : Type} [DecidableEq α] {f g : Nat → Option α} (hf : ∀ k, LeO (f k) (f (k + 1))) (hg : ∀ k, LeO (g k) (g (k + 1))) {n m : Nat} (h : both (f n) (g m) = true) : ∃ r, Ev f r ∧ Ev g r := by
  unfold both at h
  split at h
  · rename_i x y hx hy
    have e := of_decide_eq_true h
    subst e
    exact ⟨x, Ev.of hf hx, Ev.of hg hy⟩
  · cases h
theorem take_set_succ {α : Type} (y : List α) (i : Nat) (v : α) (h : i < y.length) : (y.set i v).take (i + 1) = y.take i ++ [v] := by
  rw [List.take_succ_eq_append_getElem (by simpa using h)]
  simp only [List.getElem_set_self]
  congr 1
  apply List.ext_getElem?
  intro j
  simp only [List.getElem?_take, List.getElem?_set]
  by_cases h : j < i
  · rw [if_pos h, if_neg (by omega), if_pos h]
  · rw [if_neg h, if_neg h]

theorem toIntS_l0 (l : List Int) (hl : l.length ≤ 1048576) (d : Nat) : ∀ (i : Nat) (y : List Int) (k : Nat), i + d = l.length → y.length = l.length → y.take i = l.take i → d < k → laws_toIntS.l0 k l y i = some l := by
  induction d with
  | zero =>
    intro i y k hi hy ht hk
    obtain ⟨k, rfl⟩ : ∃ m, k = m + 1 := ⟨k - 1, by omega⟩
    simp only [laws_toIntS.l0]
    rw [if_neg (by omega)]
    obtain rfl : i = l.length := by omega
    rw [List.take_of_length_le (by omega), List.take_of_length_le (by omega)] at ht
    rw [ht]
  | succ d ih =>
    intro i y k hi hy ht hk
    obtain ⟨k, rfl⟩ : ∃ m, k = m + 1 := ⟨k - 1, by omega⟩
    have hlt : i < l.length := by omega
    simp only [laws_toIntS.l0]
    rw [if_pos (by omega), if_pos (by omega), if_pos (by omega), wr1 (by omega), rd_nat l i hlt]
    refine ih (i + 1) _ k (by omega) (by simpa using hy) ?_ (by omega)
    rw [Int.toNat_natCast, take_set_succ y i _ (by omega), ht, List.take_succ_eq_append_getElem hlt]
theorem toIntS_ev (l : List Int) (hl : l.length ≤ 1048576) : Ev (fun k => laws_toIntS.f k l) l := by
  refine ⟨l.length + 1, fun k hk => ?_⟩
  show laws_toIntS.f k l = some l
  unfold laws_toIntS.f
  rw [if_pos (by omega), if_pos (by omega)]
  exact toIntS_l0 l hl l.length 0 _ k (by omega) (by simp) (by simp) (by omega)

theorem eqIntS_l0 (a b : List Int) (hl : a.length ≤ 1048576) (hab : a.length = b.length) (d : Nat) : ∀ (i k : Nat), i + d = a.length → a.take i = b.take i → d < k → laws_eqIntS.l0 k a b i = some (decide (a = b)) := by
  induction d with
  | zero =>
    intro i k hi ht hk
    obtain ⟨k, rfl⟩ : ∃ m, k = m + 1 := ⟨k - 1, by omega⟩
    simp only [laws_eqIntS.l0]
    rw [if_neg (by omega)]
    obtain rfl : i = a.length := by omega
    rw [List.take_of_length_le (by omega), List.take_of_length_le (by omega)] at ht
    rw [decide_eq_true ht]
  | succ d ih =>
    intro i k hi ht hk
    obtain ⟨k, rfl⟩ : ∃ m, k = m + 1 := ⟨k - 1, by omega⟩
    have hlt : i < a.length := by omega
    have hlt' : i < b.length := by omega
    simp only [laws_eqIntS.l0]
    rw [if_pos (by omega), if_pos (by omega), if_pos (by omega), wr1 (by omega), rd_nat a i hlt, rd_nat b i hlt']
    by_cases h : a[i] = b[i]
    · rw [if_pos h]
      refine ih (i + 1) k (by omega) ?_ (by omega)
      rw [List.take_succ_eq_append_getElem hlt, List.take_succ_eq_append_getElem hlt', ht, h]
    · rw [if_neg h, decide_eq_false]
      intro e
      subst e
      exact h rfl
theorem eqIntS_ev (a b : List Int) (hl : a.length ≤ 1048576) : Ev (fun k => laws_eqIntS.f k a b) (decide (a = b)) := by
  refine ⟨a.length + 1, fun k hk => ?_⟩
  show laws_eqIntS.f k a b = _
  unfold laws_eqIntS.f
  by_cases h : (a.length : Int) = (b.length : Int)
  · rw [if_pos h]
    exact eqIntS_l0 a b hl (by omega) a.length 0 k (by omega) (by simp) (by omega)
  · rw [if_neg h, decide_eq_false]
    intro e
    subst e
    exact h rfl
theorem eqIntS_self (a : List Int) (hl : a.length ≤ 1048576) : Ev (fun k => laws_eqIntS.f k a a) true := by
  have h := eqIntS_ev a a hl
  rwa [decide_eq_true rfl] at h

theorem rdL_nat (l : List (List Int)) (i : Nat) (h : i < l.length) : rd_L1 l (i : Int) = l[i] := by
  simp [rd_L1, List.getD_eq_getElem?_getD, h]
theorem toIntS_at (l : List Int) (hl : l.length ≤ 1048576) (k : Nat) (hk : l.length + 1 ≤ k) : laws_toIntS.f k l = some l := by
  unfold laws_toIntS.f
  rw [if_pos (by omega), if_pos (by omega)]
  exact toIntS_l0 l hl l.length 0 _ k (by omega) (by simp) (by simp) (by omega)
theorem eqIntS_at (a b : List Int) (hl : a.length ≤ 1048576) (k : Nat) (hk : a.length + 1 ≤ k) : laws_eqIntS.f k a b = some (decide (a = b)) := by
  unfold laws_eqIntS.f
  by_cases h : (a.length : Int) = (b.length : Int)
  · rw [if_pos h]
    exact eqIntS_l0 a b hl (by omega) a.length 0 k (by omega) (by simp) (by omega)
  · rw [if_neg h, decide_eq_false]
    intro e
    subst e
    exact h rfl
def smallL (l : List (List Int)) : Prop := l.length ≤ 1048576 ∧ ∀ x ∈ l, x.length ≤ 1048576
theorem szIntSS_l0 (l : List (List Int)) (hm : ∀ x ∈ l, x.length ≤ maxLen) (hl : l.length ≤ 1048576) (d : Nat) : ∀ (i : Nat) (a : Int) (k : Nat), i + d = l.length → 0 ≤ a → a ≤ 1048576 → d < k →
    ∃ r, laws_szIntSS.l0 k l a i = some r ∧ (r < 0 ∨ ∀ x ∈ l.drop i, x.length ≤ 1048576) := by
  induction d with
  | zero =>
    intro i a k hi h0 h1 hk
    obtain ⟨k, rfl⟩ : ∃ m, k = m + 1 := ⟨k - 1, by omega⟩
    simp only [laws_szIntSS.l0]
    rw [if_neg (by omega), List.drop_of_length_le (by omega)]
    exact ⟨_, rfl, .inr (by simp)⟩
  | succ d ih =>
    intro i a k hi h0 h1 hk
    obtain ⟨k, rfl⟩ : ∃ m, k = m + 1 := ⟨k - 1, by omega⟩
    have hlt : i < l.length := by omega
    have hx := hm _ (List.getElem_mem hlt)
    unfold maxLen at hx
    simp only [laws_szIntSS.l0, laws_szIntS.f]
    rw [if_pos (by omega), if_pos (by omega), rdL_nat l i hlt, wr_in (x := a - (l[i].length : Int)) (by omega) (by omega), wr1 (by omega), List.drop_eq_getElem_cons hlt]
    by_cases h : a - (l[i].length : Int) < 0
    · rw [if_pos h]
      exact ⟨-1, by simp, .inl (by omega)⟩
    · rw [if_neg h]
      simp only [Option.bind_some]
      rw [if_neg h]
      obtain ⟨r, hr, hc⟩ := ih (i + 1) (a - (l[i].length : Int)) k (by omega) (by omega) (by omega) (by omega)
      refine ⟨r, hr, hc.imp_right fun hc x hx => ?_⟩
      rcases List.mem_cons.1 hx with rfl | hx
      · omega
      · exact hc x hx
theorem szIntSS_ev (l : List (List Int)) (hn : l.length ≤ maxLen) (hm : ∀ x ∈ l, x.length ≤ maxLen) : ∃ r, Ev (fun k => laws_szIntSS.f k l 1048576) r ∧ (r < 0 ∨ smallL l) := by
  unfold maxLen at hn
  simp only [laws_szIntSS.f]
  rw [wr_in (x := 1048576 - (l.length : Int)) (by omega) (by omega)]
  by_cases h : 1048576 - (l.length : Int) < 0
  · exact ⟨-1, Ev.ite_true h (Ev.now _), .inl (by omega)⟩
  · have hall := fun k (hk : l.length < k) => szIntSS_l0 l hm (by omega) l.length 0 (1048576 - (l.length : Int)) k (by omega) (by omega) (by omega) hk
    obtain ⟨r, hr, hc⟩ := hall (l.length + 1) (by omega)
    refine ⟨r, Ev.ite_false h ⟨l.length + 1, fun k hk => ?_⟩, hc.imp_right fun hc => ⟨by omega, by simpa using hc⟩⟩
    exact at_rounds (fun k => laws_szIntSS.mono_l k _ _ _) hk hr
theorem toIntSS_l0 (l : List (List Int)) (hs : smallL l) (d : Nat) : ∀ (i : Nat) (y : List (List Int)) (k : Nat), i + d = l.length → y.length = l.length → y.take i = l.take i → d + 1048578 < k → laws_toIntSS.l0 k l y i = some l := by
  obtain ⟨hl, he⟩ := hs
  induction d with
  | zero =>
    intro i y k hi hy ht hk
    obtain ⟨k, rfl⟩ : ∃ m, k = m + 1 := ⟨k - 1, by omega⟩
    simp only [laws_toIntSS.l0]
    rw [if_neg (by omega)]
    obtain rfl : i = l.length := by omega
    rw [List.take_of_length_le (by omega), List.take_of_length_le (by omega)] at ht
    rw [ht]
  | succ d ih =>
    intro i y k hi hy ht hk
    obtain ⟨k, rfl⟩ : ∃ m, k = m + 1 := ⟨k - 1, by omega⟩
    have hlt : i < l.length := by omega
    have hx := he _ (List.getElem_mem hlt)
    simp only [laws_toIntSS.l0]
    rw [if_pos (by omega), if_pos (by omega), rdL_nat l i hlt, toIntS_at _ hx k (by omega)]
    simp only [Option.bind_some]
    rw [if_pos (by omega), wr1 (by omega)]
    refine ih (i + 1) _ k (by omega) (by simpa using hy) ?_ (by omega)
    rw [Int.toNat_natCast, take_set_succ y i _ (by omega), ht, List.take_succ_eq_append_getElem hlt]
theorem toIntSS_ev (l : List (List Int)) (hs : smallL l) : Ev (fun k => laws_toIntSS.f k l) l := by
  refine ⟨l.length + 1048579, fun k hk => ?_⟩
  show laws_toIntSS.f k l = some l
  have hl := hs.1
  unfold laws_toIntSS.f
  rw [if_pos (by omega), if_pos (by omega)]
  exact toIntSS_l0 l hs l.length 0 _ k (by omega) (by simp) (by simp) (by omega)
theorem eqIntSS_l0 (l : List (List Int)) (hs : smallL l) (d : Nat) : ∀ (i k : Nat), i + d = l.length → d + 1048578 < k → laws_eqIntSS.l0 k l l i = some true := by
  obtain ⟨hl, he⟩ := hs
  induction d with
  | zero =>
    intro i k hi hk
    obtain ⟨k, rfl⟩ : ∃ m, k = m + 1 := ⟨k - 1, by omega⟩
    simp only [laws_eqIntSS.l0]
    rw [if_neg (by omega)]
  | succ d ih =>
    intro i k hi hk
    obtain ⟨k, rfl⟩ : ∃ m, k = m + 1 := ⟨k - 1, by omega⟩
    have hlt : i < l.length := by omega
    have hx := he _ (List.getElem_mem hlt)
    simp only [laws_eqIntSS.l0]
    rw [if_pos (by omega), if_pos (by omega), rdL_nat l i hlt, if_pos (by omega), eqIntS_at _ _ hx k (by omega)]
    simp only [Option.bind_some, decide_true, if_true]
    rw [wr1 (by omega)]
    exact ih (i + 1) k (by omega) (by omega)
theorem eqIntSS_self (l : List (List Int)) (hs : smallL l) : Ev (fun k => laws_eqIntSS.f k l l) true := by
  refine ⟨l.length + 1048579, fun k hk => ?_⟩
  show laws_eqIntSS.f k l l = some true
  unfold laws_eqIntSS.f
  rw [if_pos rfl]
  exact eqIntSS_l0 l hs l.length 0 k (by omega) (by omega)

/-! Partitions: a plain test, and all of them. -/
def isPF (prev s : Int) : List Int → Bool
  | [] => true
  | x :: xs => if 1 ≤ x ∧ x ≤ 9 ∧ x ≤ prev ∧ s + x ≤ 9 then isPF x (s + x) xs else false
def isP (l : List Int) : Bool := isPF 9 0 l
/-- All lists of numbers of at most 'prev' that add to 's' at most 9. -/
def genP : Nat → Nat → Nat → List (List Int)
  | 0, _, _ => [[]]
  | n + 1, prev, s => [] :: (List.range' 1 (min prev (9 - s))).flatMap fun x => (genP n x (s + x)).map fun r => (x : Int) :: r
theorem mem_genP : ∀ (n prev s : Nat) (l : List Int), 9 < n + s → s ≤ 9 → isPF prev s l = true → l ∈ genP n prev s
  | 0, prev, s, l, h1, h2, _ => by omega
  | n + 1, prev, s, [], _, _, _ => by simp [genP]
  | n + 1, prev, s, x :: xs, h1, h2, h => by
    simp only [isPF] at h
    split at h
    · rename_i hc
      obtain ⟨c1, c2, c3, c4⟩ := hc
      obtain ⟨m, rfl⟩ : ∃ m : Nat, x = (m : Int) := ⟨x.toNat, by omega⟩
      have e : (s : Int) + (m : Int) = ((s + m : Nat) : Int) := by omega
      rw [e] at h
      have ih := mem_genP n m (s + m) xs (by omega) (by omega) h
      simp only [genP, List.mem_cons, List.mem_flatMap]
      refine Or.inr ⟨m, ?_, ?_⟩
      · simp only [List.mem_range'_1]; omega
      · exact List.mem_map.2 ⟨xs, ih, rfl⟩
    · cases h
def allP : List (List Int) := genP 10 9 0
theorem mem_allP {l : List Int} (h : isP l = true) : l ∈ allP := mem_genP 10 9 0 l (by omega) (by omega) h
theorem isPF_length : ∀ (l : List Int) (prev s : Int), isPF prev s l = true → s + l.length ≤ 9 ∨ l = []
  | [], _, _, _ => .inr rfl
  | x :: xs, prev, s, h => by
    simp only [isPF] at h
    split at h
    · rename_i hc
      rcases isPF_length xs x (s + x) h with h1 | rfl
      · left; simp only [List.length_cons]; omega
      · left; simp; omega
    · cases h
theorem isP_length {l : List Int} (h : isP l = true) : l.length ≤ 9 := by
  rcases isPF_length l 9 0 h with h | rfl
  · omega
  · simp
/-- What stands at place i, and behind it. -/
theorem drop_cons (l : List Int) (i : Nat) (h : i < l.length) : l.drop i = l[i] :: l.drop (i + 1) := List.drop_eq_getElem_cons h
def prevOf (l : List Int) (i : Nat) : Int := if i = 0 then 9 else l.getD (i - 1) 0
theorem prevOf_succ (l : List Int) (i : Nat) (h : i < l.length) : prevOf l (i + 1) = l[i] := by simp [prevOf, h]

theorem isPF_get : ∀ (l : List Int) (prev s : Int), isPF prev s l = true → (∀ (i : Nat) (h : i < l.length), 1 ≤ l[i] ∧ l[i] ≤ 9 ∧ l[i] ≤ prev) ∧ ∀ (i : Nat) (h : i + 1 < l.length), l[i + 1] ≤ l[i]
  | [], _, _, _ => ⟨fun i h => by simp at h, fun i h => by simp at h⟩
  | x :: xs, prev, s, h => by
    simp only [isPF] at h
    split at h
    · rename_i hc
      obtain ⟨h1, h2⟩ := isPF_get xs x (s + x) h
      refine ⟨fun i hi => ?_, fun i hi => ?_⟩
      · cases i with
        | zero => simp; omega
        | succ i => have := h1 i (by simpa using hi); simp; omega
      · cases i with
        | zero => have := h1 0 (by simpa using hi); simpa using this.2.2
        | succ i => simpa using h2 i (by simpa using hi)
    · cases h
theorem isP_get {l : List Int} (h : isP l = true) (i : Nat) (hi : i < l.length) : 1 ≤ l[i] ∧ l[i] ≤ 9 := by
  have := (isPF_get l 9 0 h).1 i hi; omega
theorem isP_desc {l : List Int} (h : isP l = true) (i : Nat) (hi : i + 1 < l.length) : l[i + 1] ≤ l[i] := (isPF_get l 9 0 h).2 i hi

theorem l1In_f (x a b : Int) : spec_l1In.f x a b = some (decide (a ≤ x ∧ x ≤ b)) := by
  unfold spec_l1In.f
  by_cases h : x ≥ a
  · rw [if_pos h]; congr 1; by_cases h2 : x ≤ b
    · rw [decide_eq_true h2, decide_eq_true ⟨h, h2⟩]
    · rw [decide_eq_false h2, decide_eq_false (by omega)]
  · rw [if_neg h, decide_eq_false (by omega)]

theorem specIsP_l0 (l : List Int) (hl : l.length ≤ 1048576) (d : Nat) : ∀ (i k : Nat) (s : Int), i + d = l.length → 0 ≤ s → s ≤ 9 → 2 * d < k → spec_IsPartition.l0 k l s i = some (isPF (prevOf l i) s (l.drop i)) := by
  induction d with
  | zero =>
    intro i k s hi h0 h9 hk
    obtain ⟨k, rfl⟩ : ∃ m, k = m + 1 := ⟨k - 1, by omega⟩
    simp only [spec_IsPartition.l0]
    rw [if_neg (by omega), List.drop_of_length_le (by omega)]
    rfl
  | succ d ih =>
    intro i k s hi h0 h9 hk
    obtain ⟨k, rfl⟩ : ∃ m, k = m + 2 := ⟨k - 2, by omega⟩
    have hlt : i < l.length := by omega
    simp only [spec_IsPartition.l0]
    rw [if_pos (by omega), if_pos (by omega), rd_nat l i hlt, l1In_f, drop_cons l i hlt]
    simp only [Option.bind_some, isPF]
    have hj : ∀ b : Bool, (b = true ↔ ¬ (1 ≤ l[i] ∧ l[i] ≤ 9 ∧ l[i] ≤ prevOf l i)) →
        spec_IsPartition.j1 (k + 1) l s i b = some (if 1 ≤ l[i] ∧ l[i] ≤ 9 ∧ l[i] ≤ prevOf l i ∧ s + l[i] ≤ 9 then isPF l[i] (s + l[i]) (l.drop (i + 1)) else false) := by
      intro b hb
      simp only [spec_IsPartition.j1]
      by_cases hc : 1 ≤ l[i] ∧ l[i] ≤ 9 ∧ l[i] ≤ prevOf l i
      · rw [if_neg (fun h => hb.1 h hc), if_pos (by omega), if_pos (by omega), rd_nat l i hlt, wr_in (by omega) (by omega), wr1 (by omega)]
        by_cases h9' : s + l[i] > 9
        · rw [if_pos h9', if_neg (by omega)]
        · rw [if_neg h9', if_pos ⟨hc.1, hc.2.1, hc.2.2, by omega⟩, ih (i + 1) k _ (by omega) (by omega) (by omega) (by omega), prevOf_succ l i hlt]
      · rw [if_pos (hb.2 hc), if_neg (fun h => hc ⟨h.1, h.2.1, h.2.2.1⟩)]
    by_cases h1 : 1 ≤ l[i] ∧ l[i] ≤ 9
    · rw [if_pos (decide_eq_true h1)]
      by_cases hi0 : i = 0
      · subst hi0
        rw [if_neg (by omega)]
        exact hj false (by simp [prevOf]; omega)
      · have e : wrap64 ((i : Int) - 1) = ((i - 1 : Nat) : Int) := by unfold wrap64; omega
        rw [if_pos (by omega), e, if_pos (by omega), if_pos (by omega), rd_nat l (i - 1) (by omega)]
        refine hj _ ?_
        have hp : prevOf l i = l[i - 1] := by simp [prevOf, hi0]; rw [List.getElem?_eq_getElem (by omega)]; rfl
        rw [hp, decide_eq_true_iff]; omega
    · rw [if_neg (by simp; omega)]
      exact hj true (by simp; omega)
theorem specIsP_ev (l : List Int) (hl : l.length ≤ 1048576) : Ev (fun k => spec_IsPartition.f k l) (isP l) := by
  refine ⟨2 * l.length + 1, fun k hk => ?_⟩
  have h := specIsP_l0 l hl l.length 0 k 0 (by omega) (by omega) (by omega) (by omega)
  simpa [spec_IsPartition.f, isP, prevOf] using h

theorem within_f (x a b : Int) : impl_within.f x a b = some (decide (a ≤ x ∧ x ≤ b)) := by
  unfold impl_within.f
  by_cases h : a ≤ x
  · rw [if_pos h]; congr 1; by_cases h2 : x ≤ b
    · rw [decide_eq_true h2, decide_eq_true ⟨h, h2⟩]
    · rw [decide_eq_false h2, decide_eq_false (by omega)]
  · rw [if_neg h, decide_eq_false (by omega)]

theorem implIsP_l0 (l : List Int) (hl : l.length ≤ 1048576) (d : Nat) : ∀ (i k : Nat) (s : Int), i + d = l.length → 0 ≤ s → s ≤ 9 → 2 * d < k → impl_IsPartition.l0 k l s l l.length i = some (isPF (prevOf l i) s (l.drop i)) := by
  induction d with
  | zero =>
    intro i k s hi h0 h9 hk
    obtain ⟨k, rfl⟩ : ∃ m, k = m + 1 := ⟨k - 1, by omega⟩
    simp only [impl_IsPartition.l0]
    rw [if_neg (by omega), List.drop_of_length_le (by omega)]
    rfl
  | succ d ih =>
    intro i k s hi h0 h9 hk
    obtain ⟨k, rfl⟩ : ∃ m, k = m + 2 := ⟨k - 2, by omega⟩
    have hlt : i < l.length := by omega
    simp only [impl_IsPartition.l0]
    rw [if_pos (by omega), if_pos (by omega), if_pos (by omega), rd_nat l i hlt, within_f, drop_cons l i hlt]
    simp only [Option.bind_some, isPF]
    have hj : ∀ b : Bool, (b = true ↔ ¬ (1 ≤ l[i] ∧ l[i] ≤ 9 ∧ l[i] ≤ prevOf l i)) →
        impl_IsPartition.j1 (k + 1) l s l[i] l l.length i b = some (if 1 ≤ l[i] ∧ l[i] ≤ 9 ∧ l[i] ≤ prevOf l i ∧ s + l[i] ≤ 9 then isPF l[i] (s + l[i]) (l.drop (i + 1)) else false) := by
      intro b hb
      simp only [impl_IsPartition.j1]
      by_cases hc : 1 ≤ l[i] ∧ l[i] ≤ 9 ∧ l[i] ≤ prevOf l i
      · rw [if_neg (fun h => hb.1 h hc), wr_in (x := s + l[i]) (by omega) (by omega), wr1 (by omega)]
        by_cases h9' : s + l[i] > 9
        · rw [if_pos h9', if_neg (by omega)]
        · rw [if_neg h9', if_pos ⟨hc.1, hc.2.1, hc.2.2, by omega⟩, ih (i + 1) k _ (by omega) (by omega) (by omega) (by omega), prevOf_succ l i hlt]
      · rw [if_pos (hb.2 hc), if_neg (fun h => hc ⟨h.1, h.2.1, h.2.2.1⟩)]
    by_cases h1 : 1 ≤ l[i] ∧ l[i] ≤ 9
    · rw [if_pos (decide_eq_true h1)]
      by_cases hi0 : i = 0
      · subst hi0
        rw [if_neg (by omega)]
        exact hj false (by simp [prevOf]; omega)
      · have e : wrap64 ((i : Int) - 1) = ((i - 1 : Nat) : Int) := by unfold wrap64; omega
        rw [if_pos (by omega), e, if_pos (by omega), if_pos (by omega), rd_nat l (i - 1) (by omega)]
        refine hj _ ?_
        have hp : prevOf l i = l[i - 1] := by simp [prevOf, hi0]; rw [List.getElem?_eq_getElem (by omega)]; rfl
        rw [hp, decide_eq_true_iff]; omega
    · rw [if_neg (by simp; omega)]
      exact hj true (by simp; omega)
theorem implIsP_ev (l : List Int) (hl : l.length ≤ 1048576) : Ev (fun k => impl_IsPartition.f k l) (isP l) := by
  refine ⟨2 * l.length + 1, fun k hk => ?_⟩
  have h := implIsP_l0 l hl l.length 0 k 0 (by omega) (by omega) (by omega) (by omega)
  simpa [impl_IsPartition.f, isP, prevOf] using h

def okF (x : Int) : Bool := decide (0 ≤ x ∧ x ≤ 9)
def fillFrom : List Int → List (List Int) → Bool
  | p :: ps, r :: rs => decide ((r.length : Int) = p) && (r.all okF && fillFrom ps rs)
  | _, _ => true
def isF (p : List Int) (f : List (List Int)) : Bool := isP p && (decide (f.length = p.length) && fillFrom p f)
theorem fillFrom_get : ∀ (p : List Int) (f : List (List Int)), p.length = f.length → fillFrom p f = true → ∀ (i : Nat) (h : i < p.length) (h' : i < f.length), (f[i].length : Int) = p[i]
  | [], f, _, _, i, h, h' => by simp at h
  | p :: ps, [], _, _, i, h, h' => by simp at h'
  | p :: ps, r :: rs, hl, hf, i, h, h' => by
    simp only [fillFrom, Bool.and_eq_true, decide_eq_true_eq] at hf
    cases i with
    | zero => simpa using hf.1
    | succ i => simpa using fillFrom_get ps rs (by simpa using hl) hf.2.2 i (by simpa using h) (by simpa using h')
theorem specFill_l0 (p : List Int) (f : List (List Int)) (hp : isP p = true) (hlen : f.length = p.length) (d : Nat) : ∀ (i k : Nat), i + d = p.length → 12 * d < k →
    spec_IsFilling.l0 k p f i = some (fillFrom (p.drop i) (f.drop i)) := by
  have h9 := isP_length hp
  induction d with
  | zero =>
    intro i k hi hk
    obtain ⟨k, rfl⟩ : ∃ m, k = m + 1 := ⟨k - 1, by omega⟩
    simp only [spec_IsFilling.l0]
    rw [if_neg (by omega), List.drop_of_length_le (by omega)]
    rfl
  | succ d ih =>
    intro i k hi hk
    have hlt : i < p.length := by omega
    have hlt' : i < f.length := by omega
    have hp9 := isP_get hp i hlt
    have inner : ∀ (e j k : Nat), j + e = f[i].length → (f[i].length : Int) = p[i] → 12 * d + e + 1 < k → spec_IsFilling.l1 k p f i j = some ((f[i].drop j).all okF && fillFrom (p.drop (i + 1)) (f.drop (i + 1))) := by
      intro e
      induction e with
      | zero =>
        intro j k hj hq hk
        obtain ⟨k, rfl⟩ : ∃ m, k = m + 1 := ⟨k - 1, by omega⟩
        simp only [spec_IsFilling.l1]
        rw [if_pos (by omega), if_pos (by omega), rd_nat p i hlt, if_neg (by omega), wr1 (by omega), ih (i + 1) k (by omega) (by omega), List.drop_of_length_le (l := f[i]) (by omega)]
        simp
      | succ e ihe =>
        intro j k hj hq hk
        obtain ⟨k, rfl⟩ : ∃ m, k = m + 1 := ⟨k - 1, by omega⟩
        have hjl : j < f[i].length := by omega
        simp only [spec_IsFilling.l1]
        rw [if_pos (by omega), if_pos (by omega), rd_nat p i hlt, if_pos (by omega), if_pos (by omega), if_pos (by omega), rdL_nat f i hlt', if_pos (by omega), rd_nat f[i] j hjl, l1In_f, List.drop_eq_getElem_cons hjl]
        simp only [Option.bind_some, List.all_cons]
        by_cases h : 0 ≤ f[i][j] ∧ f[i][j] ≤ 9
        · rw [if_pos (decide_eq_true h), wr1 (by omega), ihe (j + 1) k (by omega) hq (by omega)]
          have : okF f[i][j] = true := decide_eq_true h
          rw [this, Bool.true_and]
        · rw [if_neg (by rw [decide_eq_true_eq]; exact h)]
          have : okF f[i][j] = false := decide_eq_false h
          rw [this]
          rfl
    obtain ⟨k, rfl⟩ : ∃ m, k = m + 1 := ⟨k - 1, by omega⟩
    simp only [spec_IsFilling.l0]
    rw [if_pos (by omega), if_pos (by omega), if_pos (by omega), rdL_nat f i hlt', rd_nat p i hlt, List.drop_eq_getElem_cons hlt, List.drop_eq_getElem_cons hlt']
    simp only [fillFrom]
    by_cases hq : (f[i].length : Int) = p[i]
    · rw [if_pos hq, decide_eq_true hq, Bool.true_and]
      have h0 := inner f[i].length 0 k (by omega) hq (by omega)
      simpa using h0
    · rw [if_neg hq, decide_eq_false hq]
      rfl
theorem isFill1_f (x : Int) : impl_IsFilling_1.f x = some (!okF x) := by
  unfold impl_IsFilling_1.f
  rw [within_f]
  rfl
theorem implFillC_l0 (l : List Int) (hl : l.length ≤ 1048576) (d : Nat) : ∀ (i k : Nat), i + d = l.length → d < k → ∃ r, slices_IndexFunc_int_int__impl_IsFilling_1.l0 k l l.length i = some r ∧ decide (r ≥ 0) = !((l.drop i).all okF) := by
  induction d with
  | zero =>
    intro i k hi hk
    obtain ⟨k, rfl⟩ : ∃ m, k = m + 1 := ⟨k - 1, by omega⟩
    simp only [slices_IndexFunc_int_int__impl_IsFilling_1.l0]
    rw [if_neg (by omega), List.drop_of_length_le (by omega)]
    exact ⟨_, rfl, by simp⟩
  | succ d ih =>
    intro i k hi hk
    obtain ⟨k, rfl⟩ : ∃ m, k = m + 1 := ⟨k - 1, by omega⟩
    have hlt : i < l.length := by omega
    simp only [slices_IndexFunc_int_int__impl_IsFilling_1.l0]
    rw [if_pos (by omega), if_pos (by omega), if_pos (by omega), rd_nat l i hlt, isFill1_f, List.drop_eq_getElem_cons hlt]
    simp only [Option.bind_some, List.all_cons]
    cases h : okF l[i]
    · rw [if_pos (by rfl)]
      exact ⟨_, rfl, by simp⟩
    · rw [if_neg (by simp), wr1 (by omega)]
      obtain ⟨r, h1, h2⟩ := ih (i + 1) k (by omega) (by omega)
      exact ⟨r, h1, by simpa using h2⟩
theorem implFillC_at (l : List Int) (hl : l.length ≤ 1048576) (k : Nat) (hk : l.length < k) : slices_ContainsFunc_int_int__impl_IsFilling_1.f k l = some (!(l.all okF)) := by
  obtain ⟨r, h, h2⟩ := implFillC_l0 l hl l.length 0 k (by omega) (by omega)
  have h' : slices_IndexFunc_int_int__impl_IsFilling_1.l0 k l l.length 0 = some r := h
  unfold slices_ContainsFunc_int_int__impl_IsFilling_1.f slices_IndexFunc_int_int__impl_IsFilling_1.f
  simp only [h', Option.bind_some, h2]
  simp
theorem implFill_l0 (p : List Int) (f : List (List Int)) (hp : isP p = true) (hlen : f.length = p.length) (d : Nat) : ∀ (i k : Nat), i + d = p.length → d + 11 < k →
    impl_IsFilling.l0 k p f f.length i = some (fillFrom (p.drop i) (f.drop i)) := by
  have h9 := isP_length hp
  induction d with
  | zero =>
    intro i k hi hk
    obtain ⟨k, rfl⟩ : ∃ m, k = m + 1 := ⟨k - 1, by omega⟩
    simp only [impl_IsFilling.l0]
    rw [if_neg (by omega), List.drop_of_length_le (by omega)]
    rfl
  | succ d ih =>
    intro i k hi hk
    have hlt : i < p.length := by omega
    have hlt' : i < f.length := by omega
    have hp9 := isP_get hp i hlt
    obtain ⟨k, rfl⟩ : ∃ m, k = m + 1 := ⟨k - 1, by omega⟩
    simp only [impl_IsFilling.l0]
    rw [if_pos (by omega), if_pos (by omega), if_pos (by omega), if_pos (by omega), rdL_nat f i hlt', rd_nat p i hlt, List.drop_eq_getElem_cons hlt, List.drop_eq_getElem_cons hlt']
    simp only [fillFrom]
    by_cases hq : (f[i].length : Int) = p[i]
    · rw [if_pos hq, decide_eq_true hq, Bool.true_and, implFillC_at _ (by omega) k (by omega)]
      simp only [Option.bind_some]
      cases h : f[i].all okF
      · rw [if_pos (by rfl)]; rfl
      · rw [if_neg (by simp), wr1 (by omega), ih (i + 1) k (by omega) (by omega)]
        rfl
    · rw [if_neg hq, decide_eq_false hq]
      rfl
theorem specFill_ev (p : List Int) (f : List (List Int)) (hl : p.length ≤ 1048576) : Ev (fun k => spec_IsFilling.f k p f) (isF p f) := by
  simp only [spec_IsFilling.f]
  refine Ev.bind (specIsP_ev p hl) ?_
  cases h : isP p
  · refine Ev.ite_false (by simp) (Ev.step (f := fun _ => some false) (fun k => by simp [spec_IsFilling.j0]) ?_)
    simpa [isF, h] using Ev.now false
  · refine Ev.ite_true rfl ?_
    by_cases hlen : f.length = p.length
    · refine ⟨12 * p.length + 2, fun k hk => ?_⟩
      obtain ⟨k, rfl⟩ : ∃ m, k = m + 1 := ⟨k - 1, by omega⟩
      have h0 := specFill_l0 p f h hlen p.length 0 k (by omega) (by omega)
      simp only [spec_IsFilling.j0]
      rw [if_neg (by simp [hlen])]
      simpa [isF, h, hlen] using h0
    · refine Ev.step (f := fun _ => some false) (fun k => ?_) (by simpa [isF, hlen] using Ev.now false)
      simp only [spec_IsFilling.j0]
      rw [if_pos (by simp; omega)]
theorem implFill_ev (p : List Int) (f : List (List Int)) (hl : p.length ≤ 1048576) : Ev (fun k => impl_IsFilling.f k p f) (isF p f) := by
  simp only [impl_IsFilling.f]
  refine Ev.bind (implIsP_ev p hl) ?_
  cases h : isP p
  · refine Ev.ite_false (by simp) (Ev.step (f := fun _ => some false) (fun k => by simp [impl_IsFilling.j0]) ?_)
    simpa [isF, h] using Ev.now false
  · refine Ev.ite_true rfl ?_
    by_cases hlen : f.length = p.length
    · refine ⟨p.length + 13, fun k hk => ?_⟩
      obtain ⟨k, rfl⟩ : ∃ m, k = m + 1 := ⟨k - 1, by omega⟩
      have h0 := implFill_l0 p f h hlen p.length 0 k (by omega) (by omega)
      simp only [impl_IsFilling.j0]
      rw [if_neg (by simp [hlen])]
      simpa [isF, h, hlen] using h0
    · refine Ev.step (f := fun _ => some false) (fun k => ?_) (by simpa [isF, hlen] using Ev.now false)
      simp only [impl_IsFilling.j0]
      rw [if_pos (by simp; omega)]

def hookOk (p : List Int) : Bool := (List.range p.length).all fun i => (List.range (p.getD i 0).toNat).all fun j => both (spec_HookOf.f 60 p i j) (impl_HookOf.f 60 p i j)
set_option maxHeartbeats 4000000 in
theorem facthook : allP.all hookOk = true := by decide +kernel
theorem hook_ev {p : List Int} (hp : isP p = true) (i j : Nat) (hi : i < p.length) (hj : (j : Int) < p[i]) : ∃ r, Ev (fun k => spec_HookOf.f k p i j) r ∧ Ev (fun k => impl_HookOf.f k p i j) r := by
  have h := of_all facthook (mem_allP hp)
  unfold hookOk at h
  have h1 := of_all h (x := i) (List.mem_range.2 hi)
  have h2 := of_all h1 (x := j) (List.mem_range.2 (by simp [hi]; omega))
  exact both_ev (spec_HookOf.mono p i j) (impl_HookOf.mono p i j) h2
theorem both_l0 (p : List Int) (f : List (List Int)) (hp : isP p = true) (hlen : f.length = p.length) (hrow : ∀ (i : Nat) (h : i < p.length) (h' : i < f.length), (f[i].length : Int) = p[i]) (d : Nat) : ∀ (i : Nat) (s : Int), i + d = p.length →
    ∃ r, Ev (fun k => spec_HookWeight.l0 k p f s i) r ∧ Ev (fun k => impl_HookWeight.l0 k p s f f.length i) r := by
  have h9 := isP_length hp
  induction d with
  | zero =>
    intro i s hi
    refine ⟨s, Ev.step (fun k => by simp only [spec_HookWeight.l0]; rfl) ?_, Ev.step (fun k => by simp only [impl_HookWeight.l0]; rfl) ?_⟩
    · exact Ev.ite_false (by omega) (Ev.now _)
    · exact Ev.ite_false (by omega) (Ev.now _)
  | succ d ih =>
    intro i s hi
    have hlt : i < p.length := by omega
    have hlt' : i < f.length := by omega
    have hp9 := isP_get hp i hlt
    have hq := hrow i hlt hlt'
    have inner : ∀ (e j : Nat) (s : Int), j + e = f[i].length → ∃ r, Ev (fun k => spec_HookWeight.l1 k p f s i j) r ∧ Ev (fun k => impl_HookWeight.l1 k p s i f f.length i f[i] f[i].length j) r := by
      intro e
      induction e with
      | zero =>
        intro j s hj
        obtain ⟨r, h1, h2⟩ := ih (i + 1) s (by omega)
        refine ⟨r, Ev.step (fun k => by simp only [spec_HookWeight.l1]; rfl) ?_, Ev.step (fun k => by simp only [impl_HookWeight.l1]; rfl) ?_⟩
        · refine Ev.ite_true (by omega) (Ev.ite_true (by omega) (Ev.ite_false (by rw [rd_nat p i hlt]; omega) ?_))
          rw [wr1 (by omega)]; exact h1
        · refine Ev.ite_false (by omega) ?_
          rw [wr1 (by omega)]; exact h2
      | succ e ihe =>
        intro j s hj
        have hjl : j < f[i].length := by omega
        obtain ⟨h, g1, g2⟩ := hook_ev hp i j hlt (by omega)
        obtain ⟨r, h1, h2⟩ := ihe (j + 1) (wrap64 (s + wrap64 (f[i][j] * h))) (by omega)
        refine ⟨r, Ev.step (fun k => by simp only [spec_HookWeight.l1]; rfl) ?_, Ev.step (fun k => by simp only [impl_HookWeight.l1]; rfl) ?_⟩
        · refine Ev.ite_true (by omega) (Ev.ite_true (by omega) (Ev.ite_true (by rw [rd_nat p i hlt]; omega) (Ev.ite_true (by omega) (Ev.ite_true (by omega) (Ev.ite_true (by rw [rdL_nat f i hlt']; omega) (Ev.bind g1 ?_))))))
          rw [wr1 (by omega), rdL_nat f i hlt', rd_nat f[i] j hjl]; exact h1
        · refine Ev.ite_true (by omega) (Ev.ite_true (by omega) (Ev.ite_true (by omega) (Ev.bind g2 ?_)))
          rw [wr1 (by omega), rd_nat f[i] j hjl]; exact h2
    obtain ⟨r, h1, h2⟩ := inner f[i].length 0 s (by omega)
    refine ⟨r, Ev.step (fun k => by simp only [spec_HookWeight.l0]; rfl) ?_, Ev.step (fun k => by simp only [impl_HookWeight.l0]; rfl) ?_⟩
    · exact Ev.ite_true (by omega) h1
    · refine Ev.ite_true (by omega) (Ev.ite_true (by omega) (Ev.ite_true (by omega) ?_))
      rw [rdL_nat f i hlt']; exact h2
theorem same (p : List Int) (f : List (List Int)) (hl : p.length ≤ 1048576) : ∃ r, Ev (fun k => spec_HookWeight.f k p f) r ∧ Ev (fun k => impl_HookWeight.f k p f) r := by
  have h1 := specFill_ev p f hl
  have h2 := implFill_ev p f hl
  cases h : isF p f
  · rw [h] at h1 h2
    refine ⟨-1, ?_, ?_⟩
    · simp only [spec_HookWeight.f]
      exact Ev.bind h1 (Ev.ite_false (by simp) (Ev.now _))
    · simp only [impl_HookWeight.f]
      exact Ev.bind h2 (Ev.ite_false (by simp) (Ev.now _))
  · rw [h] at h1 h2
    simp only [isF, Bool.and_eq_true, decide_eq_true_eq] at h
    obtain ⟨hp, hlen, hfill⟩ := h
    obtain ⟨r, e1, e2⟩ := both_l0 p f hp hlen (fillFrom_get p f hlen.symm hfill) p.length 0 0 (by omega)
    refine ⟨r, ?_, ?_⟩
    · simp only [spec_HookWeight.f]
      exact Ev.bind h1 (Ev.ite_true rfl e1)
    · simp only [impl_HookWeight.f]
      exact Ev.bind h2 (Ev.ite_true rfl e2)
theorem FnExactHookWeight : laws_FnExactHookWeight.Pure := by
  intro p f hp hf
  apply Ev.rounds
  simp only [laws_FnExactHookWeight.f]
  by_cases hl : p.length ≤ 1048576
  · refine Ev.ite_false (by omega) ?_
    obtain ⟨r, hr, hc⟩ := szIntSS_ev f hf.1 (fun x hx => (hf.2 x hx).1)
    refine Ev.bind hr ?_
    by_cases h0 : r < 0
    · exact Ev.ite_true h0 (Ev.now _)
    refine Ev.ite_false h0 ?_
    have hs : smallL f := hc.resolve_left h0
    obtain ⟨r, h1, h2⟩ := same p f hl
    have ht := toIntS_ev p hl
    have he := eqIntS_self p hl
    have ht2 := toIntSS_ev f hs
    have he2 := eqIntSS_self f hs
    repeat (first
      | exact Ev.now _
      | refine Ev.bind ht ?_
      | refine Ev.bind ht2 ?_
      | refine Ev.bind h1 ?_
      | refine Ev.bind h2 ?_
      | refine Ev.bind he ?_
      | refine Ev.bind he2 ?_
      | refine Ev.ite_true (by first | rfl | (simp; done) | omega | (dsimp only; omega)) ?_
      | refine Ev.ite_false (by first | (simp; done) | omega | (dsimp only; omega)) ?_)
  · exact Ev.ite_true (by omega) (Ev.now _)

end Go.Proofs.Ytcbfdekjdmmilaa.Pure
