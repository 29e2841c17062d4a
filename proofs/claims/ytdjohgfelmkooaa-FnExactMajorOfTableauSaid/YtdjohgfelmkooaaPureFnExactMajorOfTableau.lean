/- The program's MajorOfTableau answers as the reference's for every tableau of at most 2^20 numbers and rows, and leaves its argument alone; above that the law says nothing. No condition. -/
import Derived.Test.YtdjohgfelmkooaaPFnExactMajorOfTableaux13
import Derived.Test.YtdjohgfelmkooaaVFnExactMajorOfTableau
set_option linter.unusedVariables false
set_option linter.unusedSimpArgs false
namespace Go.Proofs.Ytdjohgfelmkooaa
open Go.ChangeShapes Go.WideShapes
theorem PrintWords.sized_ints {H : Type} {enc : TypeId × Value → H} {P : Program} {W : World} {base : Nat} {spare : Nat → Bool} {held : Bool} {t e : TypeId} {k : IntKind} {a : Option Addr} {len cap : Nat} {d : DataW H} {ps : List MemPlace} {ts : List TypeId} {ds : List (DataW H)} {j : Nat}
    (hsz : (DataW.weightsEach P ts ds).all (· ≤ reachBytes) = true) (ht : ts[j]? = some t) (hd : ds[j]? = some d) (hu : P.underlying t = some (.slice e)) (he : P.underlying e = some (.int k)) (hc : P.cellsOf e = 1) {B : Nat} (hB : P.bytesOf e = B)
    (h : DataW.Trod enc P W base spare held t (.slice a len cap) d ps) : len * B ≤ 140737488351232 :=
  Go.Proofs.YtdjohgfelmkooaaW.PrintWords.sized_ints hsz ht hd hu he hc hB h
end Go.Proofs.Ytdjohgfelmkooaa
namespace Go.Proofs.Ytdjohgfelmkooaa.Pure
open Go.RowKit Go.Proofs.Ytdjohgfelmkooaa.PFnExactMajorOfTableau Go.Proofs.YtdjohgfelmkooaaW.PrintWords Go.Proofs.YtdjohgfelmkooaaW.PrintLast

theorem wr_in {x : Int} (h : -9223372036854775808 ≤ x) (h' : x ≤ 9223372036854775807) : wrap64 x = x := by unfold wrap64; omega
theorem wr1 {i : Nat} (h : i < 4611686018427387904) : wrap64 ((i : Int) + 1) = ((i + 1 : Nat) : Int) := by unfold wrap64; omega
theorem Ev.ite_true {α : Type} {c : Prop} [Decidable c] {g f : Nat → Option α} {r : α} (hc : c) (h : Ev g r) : Ev (fun k => if c then g k else f k) r := by
  obtain ⟨K, h⟩ := h
  exact ⟨K, fun k hk => (if_pos hc).trans (h k hk)⟩
theorem Ev.ite_false {α : Type} {c : Prop} [Decidable c] {g f : Nat → Option α} {r : α} (hc : ¬ c) (h : Ev f r) : Ev (fun k => if c then g k else f k) r := by
  obtain ⟨K, h⟩ := h
  exact ⟨K, fun k hk => (if_neg hc).trans (h k hk)⟩
theorem rd_nat (l : List Int) (i : Nat) (h : i < l.length) : rd l (i : Int) = l[i] := by
  simp [rd, List.getD_eq_getElem?_getD, h]
/-- A statement that holds of all members of a list that can be run through. -/
theorem of_all {α : Type} {p : α → Bool} {l : List α} (h : l.all p = true) {x : α} (hx : x ∈ l) : p x = true := List.all_eq_true.mp h x hx
/-- Both answer, and alike. -/
def both {α : Type} [DecidableEq α] (a b : Option α) : Bool := match a, b with
  | some x, some y => decide (x = y)
  | _, _ => false
theorem both_ev {α : Type} [DecidableEq α] {f g : Nat → Option α} (hf : ∀ k, LeO (f k) (f (k + 1))) (hg : ∀ k, LeO (g k) (g (k + 1))) {n m : Nat} (h : both (f n) (g m) = true) : ∃ r, Ev f r ∧ Ev g r := by
  unfold both at h
  split at h
  · rename_i x y hx hy
    have e := of_decide_eq_true h
    subst e
    exact ⟨x, Ev.of hf hx, Ev.of hg hy⟩
  · cases h
theorem take_set_succ {α : Type} (y : List α) (i : Nat) (v : α) (h : i < y.length) : (y.set i v).take (i + 1) = y.take i ++ [v] := by
  rw [List.take_succ_eq_append_getElem (by simpa using h)]
  simp only [List.getElem_set_self]
  congr 1
  apply List.ext_getElem?
  intro j
  simp only [List.getElem?_take, List.getElem?_set]
  by_cases h : j < i
  · rw [if_pos h, if_neg (by omega), if_pos h]
  · rw [if_neg h, if_neg h]

theorem toIntS_l0 (l : List Int) (hl : l.length ≤ 1048576) (d : Nat) : ∀ (i : Nat) (y : List Int) (k : Nat), i + d = l.length → y.length = l.length → y.take i = l.take i → d < k → laws_toIntS.l0 k l y i = some l := by
  induction d with
  | zero =>
    intro i y k hi hy ht hk
    obtain ⟨k, rfl⟩ : ∃ m, k = m + 1 := ⟨k - 1, by omega⟩
    simp only [laws_toIntS.l0]
    rw [if_neg (by omega)]
    obtain rfl : i = l.length := by omega
    rw [List.take_of_length_le (by omega), List.take_of_length_le (by omega)] at ht
    rw [ht]
  | succ d ih =>
    intro i y k hi hy ht hk
    obtain ⟨k, rfl⟩ : ∃ m, k = m + 1 := ⟨k - 1, by omega⟩
    have hlt : i < l.length := by omega
    simp only [laws_toIntS.l0]
    rw [if_pos (by omega), if_pos (by omega), if_pos (by omega), wr1 (by omega), rd_nat l i hlt]
    refine ih (i + 1) _ k (by omega) (by simpa using hy) ?_ (by omega)
    rw [Int.toNat_natCast, take_set_succ y i _ (by omega), ht, List.take_succ_eq_append_getElem hlt]
theorem toIntS_ev (l : List Int) (hl : l.length ≤ 1048576) : Ev (fun k => laws_toIntS.f k l) l := by
  refine ⟨l.length + 1, fun k hk => ?_⟩
  show laws_toIntS.f k l = some l
  unfold laws_toIntS.f
  rw [if_pos (by omega), if_pos (by omega)]
  exact toIntS_l0 l hl l.length 0 _ k (by omega) (by simp) (by simp) (by omega)

theorem eqIntS_l0 (a b : List Int) (hl : a.length ≤ 1048576) (hab : a.length = b.length) (d : Nat) : ∀ (i k : Nat), i + d = a.length → a.take i = b.take i → d < k → laws_eqIntS.l0 k a b i = some (decide (a = b)) := by
  induction d with
  | zero =>
    intro i k hi ht hk
    obtain ⟨k, rfl⟩ : ∃ m, k = m + 1 := ⟨k - 1, by omega⟩
    simp only [laws_eqIntS.l0]
    rw [if_neg (by omega)]
    obtain rfl : i = a.length := by omega
    rw [List.take_of_length_le (by omega), List.take_of_length_le (by omega)] at ht
    rw [decide_eq_true ht]
  | succ d ih =>
    intro i k hi ht hk
    obtain ⟨k, rfl⟩ : ∃ m, k = m + 1 := ⟨k - 1, by omega⟩
    have hlt : i < a.length := by omega
    have hlt' : i < b.length := by omega
    simp only [laws_eqIntS.l0]
    rw [if_pos (by omega), if_pos (by omega), if_pos (by omega), wr1 (by omega), rd_nat a i hlt, rd_nat b i hlt']
    by_cases h : a[i] = b[i]
    · rw [if_pos h]
      refine ih (i + 1) k (by omega) ?_ (by omega)
      rw [List.take_succ_eq_append_getElem hlt, List.take_succ_eq_append_getElem hlt', ht, h]
    · rw [if_neg h, decide_eq_false]
      intro e
      subst e
      exact h rfl
theorem eqIntS_ev (a b : List Int) (hl : a.length ≤ 1048576) : Ev (fun k => laws_eqIntS.f k a b) (decide (a = b)) := by
  refine ⟨a.length + 1, fun k hk => ?_⟩
  show laws_eqIntS.f k a b = _
  unfold laws_eqIntS.f
  by_cases h : (a.length : Int) = (b.length : Int)
  · rw [if_pos h]
    exact eqIntS_l0 a b hl (by omega) a.length 0 k (by omega) (by simp) (by omega)
  · rw [if_neg h, decide_eq_false]
    intro e
    subst e
    exact h rfl
theorem eqIntS_self (a : List Int) (hl : a.length ≤ 1048576) : Ev (fun k => laws_eqIntS.f k a a) true := by
  have h := eqIntS_ev a a hl
  rwa [decide_eq_true rfl] at h

theorem rdL_nat (l : List (List Int)) (i : Nat) (h : i < l.length) : rd_L1 l (i : Int) = l[i] := by
  simp [rd_L1, List.getD_eq_getElem?_getD, h]

theorem toIntS_at (l : List Int) (hl : l.length ≤ 1048576) (k : Nat) (hk : l.length + 1 ≤ k) : laws_toIntS.f k l = some l := by
  unfold laws_toIntS.f
  rw [if_pos (by omega), if_pos (by omega)]
  exact toIntS_l0 l hl l.length 0 _ k (by omega) (by simp) (by simp) (by omega)
theorem eqIntS_at (a b : List Int) (hl : a.length ≤ 1048576) (k : Nat) (hk : a.length + 1 ≤ k) : laws_eqIntS.f k a b = some (decide (a = b)) := by
  unfold laws_eqIntS.f
  by_cases h : (a.length : Int) = (b.length : Int)
  · rw [if_pos h]
    exact eqIntS_l0 a b hl (by omega) a.length 0 k (by omega) (by simp) (by omega)
  · rw [if_neg h, decide_eq_false]
    intro e
    subst e
    exact h rfl
def smallL (l : List (List Int)) : Prop := l.length ≤ 1048576 ∧ ∀ x ∈ l, x.length ≤ 1048576
theorem szIntSS_l0 (l : List (List Int)) (hm : ∀ x ∈ l, x.length ≤ maxLen) (hl : l.length ≤ 1048576) (d : Nat) : ∀ (i : Nat) (a : Int) (k : Nat), i + d = l.length → 0 ≤ a → a ≤ 1048576 → d < k →
    ∃ r, laws_szIntSS.l0 k l a i = some r ∧ (r < 0 ∨ ∀ x ∈ l.drop i, x.length ≤ 1048576) := by
  induction d with
  | zero =>
    intro i a k hi h0 h1 hk
    obtain ⟨k, rfl⟩ : ∃ m, k = m + 1 := ⟨k - 1, by omega⟩
    simp only [laws_szIntSS.l0]
    rw [if_neg (by omega), List.drop_of_length_le (by omega)]
    exact ⟨_, rfl, .inr (by simp)⟩
  | succ d ih =>
    intro i a k hi h0 h1 hk
    obtain ⟨k, rfl⟩ : ∃ m, k = m + 1 := ⟨k - 1, by omega⟩
    have hlt : i < l.length := by omega
    have hx := hm _ (List.getElem_mem hlt)
    unfold maxLen at hx
    simp only [laws_szIntSS.l0, laws_szIntS.f]
    rw [if_pos (by omega), if_pos (by omega), rdL_nat l i hlt, wr_in (x := a - (l[i].length : Int)) (by omega) (by omega), wr1 (by omega), List.drop_eq_getElem_cons hlt]
    by_cases h : a - (l[i].length : Int) < 0
    · rw [if_pos h]
      exact ⟨-1, by simp, .inl (by omega)⟩
    · rw [if_neg h]
      simp only [Option.bind_some]
      rw [if_neg h]
      obtain ⟨r, hr, hc⟩ := ih (i + 1) (a - (l[i].length : Int)) k (by omega) (by omega) (by omega) (by omega)
      refine ⟨r, hr, hc.imp_right fun hc x hx => ?_⟩
      rcases List.mem_cons.1 hx with rfl | hx
      · omega
      · exact hc x hx
theorem szIntSS_ev (l : List (List Int)) (hn : l.length ≤ maxLen) (hm : ∀ x ∈ l, x.length ≤ maxLen) : ∃ r, Ev (fun k => laws_szIntSS.f k l 1048576) r ∧ (r < 0 ∨ smallL l) := by
  unfold maxLen at hn
  simp only [laws_szIntSS.f]
  rw [wr_in (x := 1048576 - (l.length : Int)) (by omega) (by omega)]
  by_cases h : 1048576 - (l.length : Int) < 0
  · exact ⟨-1, Ev.ite_true h (Ev.now _), .inl (by omega)⟩
  · have hall := fun k (hk : l.length < k) => szIntSS_l0 l hm (by omega) l.length 0 (1048576 - (l.length : Int)) k (by omega) (by omega) (by omega) hk
    obtain ⟨r, hr, hc⟩ := hall (l.length + 1) (by omega)
    refine ⟨r, Ev.ite_false h ⟨l.length + 1, fun k hk => ?_⟩, hc.imp_right fun hc => ⟨by omega, by simpa using hc⟩⟩
    exact at_rounds (fun k => laws_szIntSS.mono_l k _ _ _) hk hr
theorem toIntSS_l0 (l : List (List Int)) (hs : smallL l) (d : Nat) : ∀ (i : Nat) (y : List (List Int)) (k : Nat), i + d = l.length → y.length = l.length → y.take i = l.take i → d + 1048578 < k → laws_toIntSS.l0 k l y i = some l := by
  obtain ⟨hl, he⟩ := hs
  induction d with
  | zero =>
    intro i y k hi hy ht hk
    obtain ⟨k, rfl⟩ : ∃ m, k = m + 1 := ⟨k - 1, by omega⟩
    simp only [laws_toIntSS.l0]
    rw [if_neg (by omega)]
    obtain rfl : i = l.length := by omega
    rw [List.take_of_length_le (by omega), List.take_of_length_le (by omega)] at ht
    rw [ht]
  | succ d ih =>
    intro i y k hi hy ht hk
    obtain ⟨k, rfl⟩ : ∃ m, k = m + 1 := ⟨k - 1, by omega⟩
    have hlt : i < l.length := by omega
    have hx := he _ (List.getElem_mem hlt)
    simp only [laws_toIntSS.l0]
    rw [if_pos (by omega), if_pos (by omega), rdL_nat l i hlt, toIntS_at _ hx k (by omega)]
    simp only [Option.bind_some]
    rw [if_pos (by omega), wr1 (by omega)]
    refine ih (i + 1) _ k (by omega) (by simpa using hy) ?_ (by omega)
    rw [Int.toNat_natCast, take_set_succ y i _ (by omega), ht, List.take_succ_eq_append_getElem hlt]
theorem toIntSS_ev (l : List (List Int)) (hs : smallL l) : Ev (fun k => laws_toIntSS.f k l) l := by
  refine ⟨l.length + 1048579, fun k hk => ?_⟩
  show laws_toIntSS.f k l = some l
  have hl := hs.1
  unfold laws_toIntSS.f
  rw [if_pos (by omega), if_pos (by omega)]
  exact toIntSS_l0 l hs l.length 0 _ k (by omega) (by simp) (by simp) (by omega)
theorem eqIntSS_l0 (l : List (List Int)) (hs : smallL l) (d : Nat) : ∀ (i k : Nat), i + d = l.length → d + 1048578 < k → laws_eqIntSS.l0 k l l i = some true := by
  obtain ⟨hl, he⟩ := hs
  induction d with
  | zero =>
    intro i k hi hk
    obtain ⟨k, rfl⟩ : ∃ m, k = m + 1 := ⟨k - 1, by omega⟩
    simp only [laws_eqIntSS.l0]
    rw [if_neg (by omega)]
  | succ d ih =>
    intro i k hi hk
    obtain ⟨k, rfl⟩ : ∃ m, k = m + 1 := ⟨k - 1, by omega⟩
    have hlt : i < l.length := by omega
    have hx := he _ (List.getElem_mem hlt)
    simp only [laws_eqIntSS.l0]
    rw [if_pos (by omega), if_pos (by omega), rdL_nat l i hlt, if_pos (by omega), eqIntS_at _ _ hx k (by omega)]
    simp only [Option.bind_some, decide_true, if_true]
    rw [wr1 (by omega)]
    exact ih (i + 1) k (by omega) (by omega)
theorem eqIntSS_self (l : List (List Int)) (hs : smallL l) : Ev (fun k => laws_eqIntSS.f k l l) true := by
  refine ⟨l.length + 1048579, fun k hk => ?_⟩
  show laws_eqIntSS.f k l l = some true
  unfold laws_eqIntSS.f
  rw [if_pos rfl]
  exact eqIntSS_l0 l hs l.length 0 k (by omega) (by omega)

/-! Partitions: a plain test, and all of them. -/
def isPF (prev s : Int) : List Int → Bool
  | [] => true
  | x :: xs => if 1 ≤ x ∧ x ≤ 9 ∧ x ≤ prev ∧ s + x ≤ 9 then isPF x (s + x) xs else false
def isP (l : List Int) : Bool := isPF 9 0 l
/-- All lists of numbers of at most 'prev' that add to 's' at most 9. -/
def genP : Nat → Nat → Nat → List (List Int)
  | 0, _, _ => [[]]
  | n + 1, prev, s => [] :: (List.range' 1 (min prev (9 - s))).flatMap fun x => (genP n x (s + x)).map fun r => (x : Int) :: r
theorem mem_genP : ∀ (n prev s : Nat) (l : List Int), 9 < n + s → s ≤ 9 → isPF prev s l = true → l ∈ genP n prev s
  | 0, prev, s, l, h1, h2, _ => by omega
  | n + 1, prev, s, [], _, _, _ => by simp [genP]
  | n + 1, prev, s, x :: xs, h1, h2, h => by
    simp only [isPF] at h
    split at h
    · rename_i hc
      obtain ⟨c1, c2, c3, c4⟩ := hc
      obtain ⟨m, rfl⟩ : ∃ m : Nat, x = (m : Int) := ⟨x.toNat, by omega⟩
      have e : (s : Int) + (m : Int) = ((s + m : Nat) : Int) := by omega
      rw [e] at h
      have ih := mem_genP n m (s + m) xs (by omega) (by omega) h
      simp only [genP, List.mem_cons, List.mem_flatMap]
      refine Or.inr ⟨m, ?_, ?_⟩
      · simp only [List.mem_range'_1]; omega
      · exact List.mem_map.2 ⟨xs, ih, rfl⟩
    · cases h
def allP : List (List Int) := genP 10 9 0
theorem mem_allP {l : List Int} (h : isP l = true) : l ∈ allP := mem_genP 10 9 0 l (by omega) (by omega) h
theorem isPF_length : ∀ (l : List Int) (prev s : Int), isPF prev s l = true → s + l.length ≤ 9 ∨ l = []
  | [], _, _, _ => .inr rfl
  | x :: xs, prev, s, h => by
    simp only [isPF] at h
    split at h
    · rename_i hc
      rcases isPF_length xs x (s + x) h with h1 | rfl
      · left; simp only [List.length_cons]; omega
      · left; simp; omega
    · cases h
theorem isP_length {l : List Int} (h : isP l = true) : l.length ≤ 9 := by
  rcases isPF_length l 9 0 h with h | rfl
  · omega
  · simp
/-- What stands at place i, and behind it. -/
theorem drop_cons (l : List Int) (i : Nat) (h : i < l.length) : l.drop i = l[i] :: l.drop (i + 1) := List.drop_eq_getElem_cons h
def prevOf (l : List Int) (i : Nat) : Int := if i = 0 then 9 else l.getD (i - 1) 0
theorem prevOf_succ (l : List Int) (i : Nat) (h : i < l.length) : prevOf l (i + 1) = l[i] := by simp [prevOf, h]

theorem l1In_f (x a b : Int) : spec_l1In.f x a b = some (decide (a ≤ x ∧ x ≤ b)) := by
  unfold spec_l1In.f
  by_cases h : x ≥ a
  · rw [if_pos h]; congr 1; by_cases h2 : x ≤ b
    · rw [decide_eq_true h2, decide_eq_true ⟨h, h2⟩]
    · rw [decide_eq_false h2, decide_eq_false (by omega)]
  · rw [if_neg h, decide_eq_false (by omega)]

theorem specIsP_l0 (l : List Int) (hl : l.length ≤ 1048576) (d : Nat) : ∀ (i k : Nat) (s : Int), i + d = l.length → 0 ≤ s → s ≤ 9 → 2 * d < k → spec_IsPartition.l0 k l s i = some (isPF (prevOf l i) s (l.drop i)) := by
  induction d with
  | zero =>
    intro i k s hi h0 h9 hk
    obtain ⟨k, rfl⟩ : ∃ m, k = m + 1 := ⟨k - 1, by omega⟩
    simp only [spec_IsPartition.l0]
    rw [if_neg (by omega), List.drop_of_length_le (by omega)]
    rfl
  | succ d ih =>
    intro i k s hi h0 h9 hk
    obtain ⟨k, rfl⟩ : ∃ m, k = m + 2 := ⟨k - 2, by omega⟩
    have hlt : i < l.length := by omega
    simp only [spec_IsPartition.l0]
    rw [if_pos (by omega), if_pos (by omega), rd_nat l i hlt, l1In_f, drop_cons l i hlt]
    simp only [Option.bind_some, isPF]
    have hj : ∀ b : Bool, (b = true ↔ ¬ (1 ≤ l[i] ∧ l[i] ≤ 9 ∧ l[i] ≤ prevOf l i)) →
        spec_IsPartition.j1 (k + 1) l s i b = some (if 1 ≤ l[i] ∧ l[i] ≤ 9 ∧ l[i] ≤ prevOf l i ∧ s + l[i] ≤ 9 then isPF l[i] (s + l[i]) (l.drop (i + 1)) else false) := by
      intro b hb
      simp only [spec_IsPartition.j1]
      by_cases hc : 1 ≤ l[i] ∧ l[i] ≤ 9 ∧ l[i] ≤ prevOf l i
      · rw [if_neg (fun h => hb.1 h hc), if_pos (by omega), if_pos (by omega), rd_nat l i hlt, wr_in (by omega) (by omega), wr1 (by omega)]
        by_cases h9' : s + l[i] > 9
        · rw [if_pos h9', if_neg (by omega)]
        · rw [if_neg h9', if_pos ⟨hc.1, hc.2.1, hc.2.2, by omega⟩, ih (i + 1) k _ (by omega) (by omega) (by omega) (by omega), prevOf_succ l i hlt]
      · rw [if_pos (hb.2 hc), if_neg (fun h => hc ⟨h.1, h.2.1, h.2.2.1⟩)]
    by_cases h1 : 1 ≤ l[i] ∧ l[i] ≤ 9
    · rw [if_pos (decide_eq_true h1)]
      by_cases hi0 : i = 0
      · subst hi0
        rw [if_neg (by omega)]
        exact hj false (by simp [prevOf]; omega)
      · have e : wrap64 ((i : Int) - 1) = ((i - 1 : Nat) : Int) := by unfold wrap64; omega
        rw [if_pos (by omega), e, if_pos (by omega), if_pos (by omega), rd_nat l (i - 1) (by omega)]
        refine hj _ ?_
        have hp : prevOf l i = l[i - 1] := by simp [prevOf, hi0]; rw [List.getElem?_eq_getElem (by omega)]; rfl
        rw [hp, decide_eq_true_iff]; omega
    · rw [if_neg (by simp; omega)]
      exact hj true (by simp; omega)
theorem specIsP_ev (l : List Int) (hl : l.length ≤ 1048576) : Ev (fun k => spec_IsPartition.f k l) (isP l) := by
  refine ⟨2 * l.length + 1, fun k hk => ?_⟩
  have h := specIsP_l0 l hl l.length 0 k 0 (by omega) (by omega) (by omega) (by omega)
  simpa [spec_IsPartition.f, isP, prevOf] using h

theorem within_f (x a b : Int) : impl_within.f x a b = some (decide (a ≤ x ∧ x ≤ b)) := by
  unfold impl_within.f
  by_cases h : a ≤ x
  · rw [if_pos h]; congr 1; by_cases h2 : x ≤ b
    · rw [decide_eq_true h2, decide_eq_true ⟨h, h2⟩]
    · rw [decide_eq_false h2, decide_eq_false (by omega)]
  · rw [if_neg h, decide_eq_false (by omega)]

theorem implIsP_l0 (l : List Int) (hl : l.length ≤ 1048576) (d : Nat) : ∀ (i k : Nat) (s : Int), i + d = l.length → 0 ≤ s → s ≤ 9 → 2 * d < k → impl_IsPartition.l0 k l s l l.length i = some (isPF (prevOf l i) s (l.drop i)) := by
  induction d with
  | zero =>
    intro i k s hi h0 h9 hk
    obtain ⟨k, rfl⟩ : ∃ m, k = m + 1 := ⟨k - 1, by omega⟩
    simp only [impl_IsPartition.l0]
    rw [if_neg (by omega), List.drop_of_length_le (by omega)]
    rfl
  | succ d ih =>
    intro i k s hi h0 h9 hk
    obtain ⟨k, rfl⟩ : ∃ m, k = m + 2 := ⟨k - 2, by omega⟩
    have hlt : i < l.length := by omega
    simp only [impl_IsPartition.l0]
    rw [if_pos (by omega), if_pos (by omega), if_pos (by omega), rd_nat l i hlt, within_f, drop_cons l i hlt]
    simp only [Option.bind_some, isPF]
    have hj : ∀ b : Bool, (b = true ↔ ¬ (1 ≤ l[i] ∧ l[i] ≤ 9 ∧ l[i] ≤ prevOf l i)) →
        impl_IsPartition.j1 (k + 1) l s l[i] l l.length i b = some (if 1 ≤ l[i] ∧ l[i] ≤ 9 ∧ l[i] ≤ prevOf l i ∧ s + l[i] ≤ 9 then isPF l[i] (s + l[i]) (l.drop (i + 1)) else false) := by
      intro b hb
      simp only [impl_IsPartition.j1]
      by_cases hc : 1 ≤ l[i] ∧ l[i] ≤ 9 ∧ l[i] ≤ prevOf l i
      · rw [if_neg (fun h => hb.1 h hc), wr_in (x := s + l[i]) (by omega) (by omega), wr1 (by omega)]
        by_cases h9' : s + l[i] > 9
        · rw [if_pos h9', if_neg (by omega)]
        · rw [if_neg h9', if_pos ⟨hc.1, hc.2.1, hc.2.2, by omega⟩, ih (i + 1) k _ (by omega) (by omega) (by omega) (by omega), prevOf_succ l i hlt]
      · rw [if_pos (hb.2 hc), if_neg (fun h => hc ⟨h.1, h.2.1, h.2.2.1⟩)]
    by_cases h1 : 1 ≤ l[i] ∧ l[i] ≤ 9
    · rw [if_pos (decide_eq_true h1)]
      by_cases hi0 : i = 0
      · subst hi0
        rw [if_neg (by omega)]
        exact hj false (by simp [prevOf]; omega)
      · have e : wrap64 ((i : Int) - 1) = ((i - 1 : Nat) : Int) := by unfold wrap64; omega
        rw [if_pos (by omega), e, if_pos (by omega), if_pos (by omega), rd_nat l (i - 1) (by omega)]
        refine hj _ ?_
        have hp : prevOf l i = l[i - 1] := by simp [prevOf, hi0]; rw [List.getElem?_eq_getElem (by omega)]; rfl
        rw [hp, decide_eq_true_iff]; omega
    · rw [if_neg (by simp; omega)]
      exact hj true (by simp; omega)
theorem implIsP_ev (l : List Int) (hl : l.length ≤ 1048576) : Ev (fun k => impl_IsPartition.f k l) (isP l) := by
  refine ⟨2 * l.length + 1, fun k hk => ?_⟩
  have h := implIsP_l0 l hl l.length 0 k 0 (by omega) (by omega) (by omega) (by omega)
  simpa [impl_IsPartition.f, isP, prevOf] using h

-- Lists that hold each number from 1 to their length.
theorem dropc {α : Type} (l : List α) (i : Nat) (h : i < l.length) : l.drop i = l[i] :: l.drop (i + 1) := List.drop_eq_getElem_cons h
def ltC (w : List Int) (v : Int) : Nat := w.countP (fun x => decide (x < v))
def eqC (w : List Int) (v : Int) : Nat := w.countP (fun x => decide (x = v))
theorem ltC_succ (w : List Int) (v : Int) : ltC w (v + 1) = ltC w v + eqC w v := by
  induction w with
  | nil => rfl
  | cons x t ih =>
    simp only [ltC, eqC, List.countP_cons] at ih ⊢
    by_cases h1 : x < v
    · have h2 : x < v + 1 := by omega
      have h3 : ¬ x = v := by omega
      simp [h1, h2, h3]; omega
    · by_cases h3 : x = v
      · have h2 : x < v + 1 := by omega
        simp only [decide_eq_true_eq, if_neg h1, if_pos h2, if_pos h3]; omega
      · have h2 : ¬ x < v + 1 := by omega
        simp [h1, h2, h3]; omega
theorem ltC_le (w : List Int) (v : Int) : ltC w v ≤ w.length := List.countP_le_length
theorem eqC_pos {w : List Int} {v : Int} (h : v ∈ w) : 1 ≤ eqC w v := List.countP_pos_iff.2 ⟨v, h, by simp⟩
theorem eqC_none {w : List Int} {v : Int} (h : v ∉ w) : eqC w v = 0 := by
  refine List.countP_eq_zero.2 fun x hx => ?_
  simp only [decide_eq_true_eq]
  rintro rfl
  exact h hx
theorem ltC_all {w : List Int} {v : Int} (h : ∀ x ∈ w, x < v) : ltC w v = w.length := List.countP_eq_length.2 fun x hx => by simpa using h x hx
theorem ltC_none {w : List Int} {v : Int} (h : ∀ x ∈ w, v ≤ x) : ltC w v = 0 := List.countP_eq_zero.2 fun x hx => by simpa using h x hx
theorem ltC_inv {w : List Int} {v : Int} (h : ltC w v = w.length) : ∀ x ∈ w, x < v := fun x hx => by simpa using List.countP_eq_length.1 h x hx
def permP (w : List Int) : Prop := ∀ j : Nat, j < w.length → ((j + 1 : Nat) : Int) ∈ w
theorem permP_lt {w : List Int} (h : permP w) : ∀ j : Nat, j ≤ w.length → j ≤ ltC w ((j + 1 : Nat) : Int)
  | 0, _ => Nat.zero_le _
  | j + 1, hj => by
    have a := permP_lt h j (by omega)
    have b := eqC_pos (h j (by omega))
    have c := ltC_succ w ((j + 1 : Nat) : Int)
    have e : (((j + 1 + 1 : Nat)) : Int) = ((j + 1 : Nat) : Int) + 1 := by omega
    rw [e, c]; omega
theorem permP_lt' {w : List Int} (h : permP w) (d : Nat) : ∀ j : Nat, j + d = w.length → ltC w ((j + 1 : Nat) : Int) ≤ j := by
  induction d with
  | zero => intro j hj; have := ltC_le w ((j + 1 : Nat) : Int); omega
  | succ d ih =>
    intro j hj
    have a := ih (j + 1) (by omega)
    have b := eqC_pos (h j (by omega))
    have c := ltC_succ w ((j + 1 : Nat) : Int)
    have e : (((j + 1 + 1 : Nat)) : Int) = ((j + 1 : Nat) : Int) + 1 := by omega
    rw [e, c] at a; omega
theorem permP_eq {w : List Int} (h : permP w) (j : Nat) (hj : j ≤ w.length) : ltC w ((j + 1 : Nat) : Int) = j :=
  Nat.le_antisymm (permP_lt' h (w.length - j) j (by omega)) (permP_lt h j hj)
theorem permP_top {w : List Int} (h : permP w) : ∀ x ∈ w, x ≤ w.length := fun x hx => by
  have := ltC_inv (permP_eq h w.length (by omega)) x hx
  omega
def permB (w : List Int) : Bool := (List.range w.length).all fun j => decide (((j + 1 : Nat) : Int) ∈ w)
theorem permB_iff (w : List Int) : permB w = true ↔ permP w := by simp [permB, permP]
/-! The program's way. -/
theorem contains_l0 (l : List Int) (v : Int) (hl : l.length ≤ 1048576) (d : Nat) : ∀ (i k : Nat), i + d = l.length → d < k → ∃ r, slices_Index_int_int.l0 k l v l.length i = some r ∧ decide (r ≥ 0) = decide (v ∈ l.drop i) := by
  induction d with
  | zero =>
    intro i k hi hk
    obtain ⟨k, rfl⟩ : ∃ m, k = m + 1 := ⟨k - 1, by omega⟩
    simp only [slices_Index_int_int.l0]
    rw [if_neg (by omega), List.drop_of_length_le (by omega)]
    exact ⟨_, rfl, by simp⟩
  | succ d ih =>
    intro i k hi hk
    obtain ⟨k, rfl⟩ : ∃ m, k = m + 1 := ⟨k - 1, by omega⟩
    have hlt : i < l.length := by omega
    simp only [slices_Index_int_int.l0]
    have hd := dropc l i hlt
    rw [if_pos (by omega), if_pos (by omega), if_pos (by omega), rd_nat l i hlt]
    by_cases h : v = l[i]
    · rw [if_pos h]
      exact ⟨_, rfl, by rw [hd]; simp [h, -List.getElem_cons_drop]⟩
    · rw [if_neg h, wr1 (by omega)]
      obtain ⟨r, h1, h2⟩ := ih (i + 1) k (by omega) (by omega)
      exact ⟨r, h1, by rw [hd, h2]; simp [h, -List.getElem_cons_drop]⟩
theorem contains_ev (l : List Int) (v : Int) (hl : l.length ≤ 1048576) : Ev (fun k => slices_Contains_int_int.f k l v) (decide (v ∈ l)) := by
  refine ⟨l.length + 1, fun k hk => ?_⟩
  obtain ⟨r, h, h2⟩ := contains_l0 l v hl l.length 0 k (by omega) (by omega)
  have h' : slices_Index_int_int.l0 k l v l.length 0 = some r := h
  simp only [slices_Contains_int_int.f, slices_Index_int_int.f, h', Option.bind_some, h2, List.drop_zero]
theorem areOnce_l0 (l : List Int) (hl : l.length ≤ 1048576) (d : Nat) : ∀ (i : Nat), i + d = l.length → (∀ j : Nat, j < i → ((j + 1 : Nat) : Int) ∈ l) → Ev (fun k => impl_areOnce.l0 k l ((i + 1 : Nat) : Int)) (permB l) := by
  induction d with
  | zero =>
    intro i hi hb
    refine Ev.step (fun k => by simp only [impl_areOnce.l0]; rfl) (Ev.ite_false (by omega) ?_)
    have : permB l = true := (permB_iff l).2 fun j hj => hb j (by omega)
    rw [this]; exact Ev.now _
  | succ d ih =>
    intro i hi hb
    have h0 : ((i + 1 : Nat) : Int) ≤ (l.length : Int) := by omega
    refine Ev.step (fun k => by simp only [impl_areOnce.l0]; rfl) (Ev.ite_true h0 (Ev.bind (contains_ev l _ hl) ?_))
    rw [wr1 (i := i + 1) (by omega)]
    by_cases h : ((i + 1 : Nat) : Int) ∈ l
    · refine Ev.ite_true (decide_eq_true h) (ih (i + 1) (by omega) ?_)
      intro j hj
      by_cases e : j = i
      · rw [e]; exact h
      · exact hb j (by omega)
    · refine Ev.ite_false (by simpa using h) ?_
      have : permB l = false := by
        cases hp : permB l
        · rfl
        · exact absurd ((permB_iff l).1 hp i (by omega)) h
      rw [this]; exact Ev.now _
theorem areOnce_ev (l : List Int) (hl : l.length ≤ 1048576) : Ev (fun k => impl_areOnce.f k l) (permB l) := by
  simp only [impl_areOnce.f]
  exact areOnce_l0 l hl l.length 0 (by omega) (by omega)
/-! The reference's way. -/

theorem wr_sub1 {n : Nat} (h : n ≤ 1048576) : wrap64 ((n : Int) - 1) = (n : Int) - 1 := by unfold wrap64; omega
/-- What stands at a place of a list; 0 outside. -/
def atL (l : List Int) (a : Int) : Int := if 0 ≤ a ∧ a < l.length then rd l a else 0
theorem l2At_f (l : List Int) (a : Int) : spec_l2At.f l a = some (atL l a) := by
  unfold spec_l2At.f atL
  by_cases h1 : a < 0
  · rw [if_pos h1, if_neg (by omega)]
  · rw [if_neg h1]
    by_cases h2 : a ≥ (l.length : Int)
    · rw [if_pos h2, if_neg (by omega)]
    · rw [if_neg h2, if_pos (by omega), if_pos (by omega), if_pos (by omega)]
theorem at_f (l : List Int) (a : Int) (hl : l.length ≤ 1048576) : impl_at.f l a = some (atL l a) := by
  unfold impl_at.f
  rw [wr_sub1 hl, within_f]
  simp only [Option.bind_some]
  unfold atL
  by_cases h : 0 ≤ a ∧ a < l.length
  · rw [if_pos (by simpa using (by omega : 0 ≤ a ∧ a ≤ (l.length : Int) - 1)), if_pos h.1, if_pos h.2, if_pos h]
  · rw [if_neg (by simpa using (by omega : 0 ≤ a → (l.length : Int) - 1 < a)), if_neg h]
theorem atL_nat (l : List Int) (i : Nat) (h : i < l.length) : atL l (i : Int) = l[i] := by
  unfold atL
  rw [if_pos (by omega), rd_nat l i h]
/-! ### The shape. -/
def outer (p : List Int) (R : List (List Int)) (n : Nat) : List Int := (List.range n).map fun (i : Nat) => atL p i + ((R.getD i []).length : Int)
theorem outer_length (p : List Int) (R : List (List Int)) (n : Nat) : (outer p R n).length = n := by simp [outer]
theorem outer_succ (p : List Int) (R : List (List Int)) (n : Nat) : outer p R (n + 1) = outer p R n ++ [atL p n + ((R.getD n []).length : Int)] := by simp [outer, List.range_succ]
theorem outer_get (p : List Int) (R : List (List Int)) (n i : Nat) (h : i < (outer p R n).length) : (outer p R n)[i] = atL p i + ((R.getD i []).length : Int) := by simp [outer]
theorem isP_mem {p : List Int} (h : isP p = true) : ∀ x ∈ p, 1 ≤ x ∧ x ≤ 9 := by
  have key : ∀ (l : List Int) (a s : Int), isPF a s l = true → a ≤ 9 → ∀ x ∈ l, 1 ≤ x ∧ x ≤ 9 := by
    intro l
    induction l with
    | nil => intro a s _ _ x hx; cases hx
    | cons y l ih =>
      intro a s h ha x hx
      simp only [isPF] at h
      split at h
      · rename_i hc
        rcases List.mem_cons.1 hx with rfl | hx
        · omega
        · exact ih _ _ h (by omega) x hx
      · cases h
  exact key p 9 0 h (by decide)
theorem atL_range {p : List Int} (h : isP p = true) (a : Int) : 0 ≤ atL p a ∧ atL p a ≤ 9 := by
  unfold atL
  by_cases c : 0 ≤ a ∧ a < p.length
  · rw [if_pos c]
    obtain ⟨i, rfl⟩ : ∃ i : Nat, a = (i : Int) := ⟨a.toNat, by omega⟩
    have hi : i < p.length := by omega
    rw [rd_nat p i hi]
    have := isP_mem h _ (List.getElem_mem hi)
    omega
  · rw [if_neg c]; omega
theorem inside_spec (p O : List Int) (hO : O.length ≤ 1048576) (hp : isP p = true) (hl : p.length ≤ O.length) (hle : ∀ (i : Nat) (h1 : i < p.length) (h2 : i < O.length), p[i] ≤ O[i]) : Ev (fun k => spec_IsInside.f k p O) (isP O) := by
  have loop : ∀ (d i : Nat), i + d = p.length → Ev (fun k => spec_IsInside.l0 k p O i) true := by
    intro d
    induction d with
    | zero => intro i hi; exact Ev.step (fun k => by simp only [spec_IsInside.l0]; rfl) (Ev.ite_false (by omega) (Ev.now _))
    | succ d ih =>
      intro i hi
      have h1 : i < p.length := by omega
      have h2 : i < O.length := by omega
      have h3 := hle i h1 h2
      have hi5 : i < 4611686018427387904 := by omega
      refine Ev.step (fun k => by simp only [spec_IsInside.l0]; rfl) (Ev.ite_true (by omega) (Ev.ite_true (by omega) (Ev.ite_true (by omega) ?_)))
      rw [rd_nat p i h1, rd_nat O i h2, wr1 hi5]
      exact Ev.ite_false (by omega) (ih (i + 1) (by omega))
  simp only [spec_IsInside.f]
  refine Ev.bind (specIsP_ev p (by omega)) (Ev.ite_true hp (Ev.bind (specIsP_ev O hO) ?_))
  by_cases h : isP O = true
  · refine Ev.ite_true h (Ev.step (fun k => by simp only [spec_IsInside.j0]; rfl) (Ev.ite_false (by simpa using hl) ?_))
    rw [h]
    exact loop p.length 0 (by omega)
  · refine Ev.ite_false h (Ev.step (fun k => by simp only [spec_IsInside.j0]; rfl) (Ev.ite_true (c := true = true) rfl ?_))
    rw [Bool.eq_false_iff.2 h]
    exact Ev.now _
theorem inside_impl (p O : List Int) (hO : O.length ≤ 1048576) (hp : isP p = true) (hl : p.length ≤ O.length) (hle : ∀ (i : Nat) (h1 : i < p.length) (h2 : i < O.length), p[i] ≤ O[i]) : Ev (fun k => impl_IsInside.f k p O) (isP O) := by
  have loop : ∀ (d i : Nat), i + d = p.length → Ev (fun k => impl_IsInside.l0 k O p p.length i) true := by
    intro d
    induction d with
    | zero => intro i hi; exact Ev.step (fun k => by simp only [impl_IsInside.l0]; rfl) (Ev.ite_false (by omega) (Ev.now _))
    | succ d ih =>
      intro i hi
      have h1 : i < p.length := by omega
      have h2 : i < O.length := by omega
      have h3 := hle i h1 h2
      have hi5 : i < 4611686018427387904 := by omega
      refine Ev.step (fun k => by simp only [impl_IsInside.l0]; rfl) (Ev.ite_true (by omega) (Ev.ite_true (by omega) (Ev.ite_true (by omega) ?_)))
      rw [rd_nat p i h1, at_f O i hO, wr1 hi5, atL_nat O i h2]
      exact Ev.ite_false (by omega) (ih (i + 1) (by omega))
  simp only [impl_IsInside.f]
  refine Ev.bind (implIsP_ev p (by omega)) (Ev.ite_true hp (Ev.bind (implIsP_ev O hO) ?_))
  refine Ev.step (fun k => by simp only [impl_IsInside.j0]; rfl) ?_
  by_cases h : isP O = true
  · refine Ev.ite_false (by simp [h]) ?_
    rw [h]
    exact loop p.length 0 (by omega)
  · refine Ev.ite_true (by simpa using h) ?_
    rw [Bool.eq_false_iff.2 h]
    exact Ev.now _
def shapeR (p : List Int) (R : List (List Int)) : List Int × List Int × Bool := if isP p = true ∧ p.length ≤ R.length ∧ isP (outer p R R.length) = true then (outer p R R.length, p, true) else ([], [], false)
theorem outer_le (p : List Int) (R : List (List Int)) (i : Nat) (h1 : i < p.length) (h2 : i < (outer p R R.length).length) : p[i] ≤ (outer p R R.length)[i] := by
  rw [outer_get, atL_nat p i h1]; omega
theorem wr_len {p : List Int} (hp : isP p = true) (R : List (List Int)) (hs : smallL R) (i : Nat) (hi : i < R.length) : wrap64 (atL p i + ((R[i]).length : Int)) = atL p i + ((R.getD i []).length : Int) := by
  have h1 := atL_range hp (i : Int)
  have h2 := hs.2 _ (List.getElem_mem hi)
  rw [List.getD_eq_getElem?_getD, List.getElem?_eq_getElem hi, Option.getD_some]
  exact wr_in (by omega) (by omega)
theorem shape_spec (p : List Int) (R : List (List Int)) (hpl : p.length ≤ 1048576) (hs : smallL R) : Ev (fun k => spec_ShapeOf.f k p R) (shapeR p R) := by
  have hR := hs.1
  have loop : isP p = true → p.length ≤ R.length → ∀ (d i : Nat), i + d = R.length → Ev (fun k => spec_ShapeOf.l0 k i p R (outer p R i) p) (shapeR p R) := by
    intro hp hl d
    induction d with
    | zero =>
      intro i hi
      obtain rfl : i = R.length := by omega
      refine Ev.step (fun k => by simp only [spec_ShapeOf.l0]; rfl) (Ev.ite_false (by omega) (Ev.bind (a := isP (outer p R R.length)) ?_ ?_))
      · simp only [spec_IsShape.f]
        exact Ev.bind (inside_spec p _ (by rw [outer_length]; exact hR) hp (by rw [outer_length]; exact hl) (fun i h1 h2 => outer_le p R i h1 h2)) (Ev.now _)
      · by_cases h : isP (outer p R R.length) = true
        · have e : shapeR p R = (outer p R R.length, p, true) := if_pos ⟨hp, hl, h⟩
          rw [e]; exact Ev.ite_true h (Ev.now _)
        · have e : shapeR p R = ([], [], false) := if_neg (fun c => h c.2.2)
          rw [e]; exact Ev.ite_false h (Ev.now _)
    | succ d ih =>
      intro i hi
      have hlt : i < R.length := by omega
      have hi5 : i < 4611686018427387904 := by omega
      have ho : (outer p R i).length < 17592186044416 := by rw [outer_length]; omega
      refine Ev.step (fun k => by simp only [spec_ShapeOf.l0, l2At_f, Option.bind_some]; rfl) (Ev.ite_true (by omega) (Ev.ite_true (by omega) (Ev.ite_true ho ?_)))
      rw [rdL_nat R i hlt, wr_len hp R hs i hlt, wr1 hi5, ← outer_succ]
      exact ih (i + 1) (by omega)
  have no : Ev (fun k => spec_ShapeOf.j0 k true p R p) ([], [], false) := Ev.step (fun k => by simp only [spec_ShapeOf.j0]; rfl) (Ev.ite_true (c := true = true) rfl (Ev.now _))
  simp only [spec_ShapeOf.f, Option.bind_some, List.nil_append, List.length_nil, Nat.zero_add]
  refine Ev.ite_true (by omega) (Ev.bind (specIsP_ev p hpl) ?_)
  by_cases hp : isP p = true
  · refine Ev.ite_true hp ?_
    by_cases hl : p.length ≤ R.length
    · refine Ev.ite_false (by omega) ?_
      by_cases h9 : R.length ≤ 9
      · refine Ev.step (fun k => by simp only [spec_ShapeOf.j0]; rfl) (Ev.ite_false (by simp only [decide_eq_true_eq]; omega) ?_)
        exact loop hp hl R.length 0 (by omega)
      · have e : shapeR p R = ([], [], false) := by
          unfold shapeR
          rw [if_neg]
          intro c
          have := isP_length c.2.2
          rw [outer_length] at this
          omega
        rw [e, decide_eq_true (by omega)]
        exact no
    · have e : shapeR p R = ([], [], false) := if_neg (fun c => hl c.2.1)
      rw [e]
      exact Ev.ite_true (by omega) no
  · have e : shapeR p R = ([], [], false) := if_neg (fun c => hp c.1)
    rw [e]
    exact Ev.ite_false hp no
theorem shape_impl (p : List Int) (R : List (List Int)) (hpl : p.length ≤ 1048576) (hs : smallL R) : Ev (fun k => impl_ShapeOf.f k p R) (shapeR p R) := by
  have hR := hs.1
  have loop : isP p = true → p.length ≤ R.length → ∀ (d i : Nat), i + d = R.length → Ev (fun k => impl_ShapeOf.l0 k R R.length i p R (outer p R i) p) (shapeR p R) := by
    intro hp hl d
    induction d with
    | zero =>
      intro i hi
      obtain rfl : i = R.length := by omega
      refine Ev.step (fun k => by simp only [impl_ShapeOf.l0]; rfl) (Ev.ite_false (by omega) (Ev.bind (a := isP (outer p R R.length)) ?_ ?_))
      · simp only [impl_IsShape.f]
        exact Ev.bind (inside_impl p _ (by rw [outer_length]; exact hR) hp (by rw [outer_length]; exact hl) (fun i h1 h2 => outer_le p R i h1 h2)) (Ev.now _)
      · by_cases h : isP (outer p R R.length) = true
        · have e : shapeR p R = (outer p R R.length, p, true) := if_pos ⟨hp, hl, h⟩
          rw [e]; exact Ev.ite_true h (Ev.now _)
        · have e : shapeR p R = ([], [], false) := if_neg (fun c => h c.2.2)
          rw [e]; exact Ev.ite_false h (Ev.now _)
    | succ d ih =>
      intro i hi
      have hlt : i < R.length := by omega
      have hi5 : i < 4611686018427387904 := by omega
      have ho : (outer p R i).length < 17592186044416 := by rw [outer_length]; omega
      refine Ev.step (fun k => by simp only [impl_ShapeOf.l0]; rfl) (Ev.ite_true (by omega) (Ev.ite_true (by omega) (Ev.ite_true (by omega) ?_)))
      rw [at_f p i hpl, rdL_nat R i hlt]
      simp only [Option.bind_some]
      rw [wr_len hp R hs i hlt, wr1 hi5, ← outer_succ]
      exact Ev.ite_true ho (ih (i + 1) (by omega))
  have no : Ev (fun k => impl_ShapeOf.j0 k true p R) ([], [], false) := Ev.step (fun k => by simp only [impl_ShapeOf.j0]; rfl) (Ev.ite_true (c := true = true) rfl (Ev.now _))
  simp only [impl_ShapeOf.f]
  refine Ev.bind (implIsP_ev p hpl) ?_
  by_cases hp : isP p = true
  · refine Ev.ite_true hp ?_
    by_cases hl : p.length ≤ R.length
    · rw [decide_eq_false (by omega)]
      refine Ev.step (fun k => by simp only [impl_ShapeOf.j0, slices_Clone_int_int.f, Option.bind_some, List.nil_append, List.length_nil, Nat.zero_add]; rfl) (Ev.ite_false (by simp) ?_)
      rw [if_pos (by omega)]
      exact loop hp hl R.length 0 (by omega)
    · have e : shapeR p R = ([], [], false) := if_neg (fun c => hl c.2.1)
      rw [e, decide_eq_true (by omega)]
      exact no
  · have e : shapeR p R = ([], [], false) := if_neg (fun c => hp c.1)
    rw [e]
    exact Ev.ite_false hp no
/-! ### The entries. -/
theorem ent_spec {p : List Int} (hp : isP p = true) (R : List (List Int)) (i : Nat) (hi : i < R.length) (c : Int) (h1 : -100 ≤ c) (h2 : c ≤ 100) : Ev (fun k => spec_l5Entry.f k p R i c) (atL R[i] (c - atL p i)) := by
  have hr := atL_range hp (i : Int)
  have w : wrap64 (c - atL p i) = c - atL p i := wr_in (by omega) (by omega)
  have hi' : (i : Int) < (R.length : Int) := by omega
  simp only [spec_l5Entry.f]
  refine Ev.ite_false (by omega) ?_
  rw [decide_eq_false (by omega)]
  refine Ev.step (fun k => by simp only [spec_l5Entry.j0, l2At_f, Option.bind_some]; rfl) (Ev.ite_false (by simp) ?_)
  rw [w, rdL_nat R i hi]
  clear w
  generalize c - atL p (i : Int) = d
  by_cases a : d < 0
  · have e : atL R[i] d = 0 := if_neg (by omega)
    rw [e]
    exact Ev.ite_true a (Ev.now _)
  · refine Ev.ite_false a (Ev.ite_true (Int.natCast_nonneg _) (Ev.ite_true hi' ?_))
    by_cases b : d ≥ (R[i].length : Int)
    · have e : atL R[i] d = 0 := if_neg (by omega)
      rw [e]
      exact Ev.ite_true b (Ev.now _)
    · have e : atL R[i] d = rd R[i] d := if_pos (by omega)
      rw [e]
      exact Ev.ite_false b (Ev.ite_true (by omega) (Ev.ite_true (by omega) (Ev.now _)))
theorem ent_spec_neg (p : List Int) (R : List (List Int)) (c : Int) : Ev (fun k => spec_l5Entry.f k p R (-1) c) 0 := by
  simp only [spec_l5Entry.f]
  refine Ev.ite_true (by omega) ?_
  exact Ev.step (fun k => by simp only [spec_l5Entry.j0]; rfl) (Ev.ite_true (c := true = true) rfl (Ev.now _))
theorem ent_impl {p : List Int} (hp : isP p = true) (R : List (List Int)) (hs : smallL R) (i : Nat) (hi : i < R.length) (c : Int) (h1 : -100 ≤ c) (h2 : c ≤ 100) : impl_Tableau_entry.f p R i c = some (atL R[i] (c - atL p i)) := by
  have hr := atL_range hp (i : Int)
  have hl := isP_length hp
  have w : wrap64 (c - atL p i) = c - atL p i := wr_in (by omega) (by omega)
  unfold impl_Tableau_entry.f
  rw [wr_sub1 hs.1, within_f]
  simp only [Option.bind_some]
  rw [if_pos (by simpa using (by omega : (i : Int) ≤ (R.length : Int) - 1)), if_pos (by omega), if_pos (by omega), at_f p i (by omega), rdL_nat R i hi]
  simp only [Option.bind_some]
  rw [w, at_f R[i] _ (hs.2 _ (List.getElem_mem hi))]
  rfl
theorem tab_rows {p : List Int} (hp : isP p = true) (R : List (List Int)) (hs : smallL R) (hl : p.length ≤ R.length) (hO : isP (outer p R R.length) = true) (d : Nat) : ∀ (i : Nat), i + d = R.length →
    ∃ b : Bool, (b = true → ∀ row ∈ R.drop i, ∀ x ∈ row, 1 ≤ x ∧ x ≤ 9) ∧ Ev (fun k => spec_IsTableau.l0 k i p R (outer p R R.length) p) b ∧ Ev (fun k => impl_IsTableau.l0 k R R.length i p R) b := by
  have hR := isP_length hO
  rw [outer_length] at hR
  induction d with
  | zero =>
    intro i hi
    refine ⟨true, fun _ => ?_, Ev.step (fun k => by simp only [spec_IsTableau.l0]; rfl) (Ev.ite_false (by rw [outer_length]; omega) (Ev.now _)), Ev.step (fun k => by simp only [impl_IsTableau.l0]; rfl) (Ev.ite_false (by omega) (Ev.now _))⟩
    rw [List.drop_of_length_le (by omega)]
    intro row hr
    cases hr
  | succ d ih =>
    intro i hi
    have hlt : i < R.length := by omega
    have hlt' : (i : Int) < (R.length : Int) := by omega
    have hi5 : i < 4611686018427387904 := by omega
    obtain ⟨b1, hb1, s1, s2⟩ := ih (i + 1) (by omega)
    have hOl : i < (outer p R R.length).length := by rw [outer_length]; exact hlt
    have hOl' : (i : Int) < ((outer p R R.length).length : Int) := by omega
    have hOi : rd (outer p R R.length) i = atL p i + (R[i].length : Int) := by
      rw [rd_nat _ i hOl, outer_get, List.getD_eq_getElem?_getD, List.getElem?_eq_getElem hlt, Option.getD_some]
    have hOm := isP_mem hO _ (List.getElem_mem hOl)
    rw [← rd_nat _ i hOl, hOi] at hOm
    have hr := atL_range hp (i : Int)
    have hlr : R[i].length ≤ 9 := by omega
    have inner : ∀ (e j : Nat), j + e = R[i].length → ∃ b : Bool, (b = true → (∀ x ∈ R[i].drop j, 1 ≤ x ∧ x ≤ 9) ∧ ∀ row ∈ R.drop (i + 1), ∀ x ∈ row, 1 ≤ x ∧ x ≤ 9) ∧ Ev (fun k => spec_IsTableau.l1 k i (atL p i + (j : Int)) p R (outer p R R.length) p) b ∧ Ev (fun k => impl_IsTableau.l1 k i R[i] R R.length i R[i] R[i].length j p R) b := by
      intro e
      induction e with
      | zero =>
        intro j hj
        refine ⟨b1, fun h => ⟨?_, hb1 h⟩, Ev.step (fun k => by simp only [spec_IsTableau.l1]; rfl) (Ev.ite_true (Int.natCast_nonneg _) (Ev.ite_true hOl' (Ev.ite_false (by rw [hOi]; omega) ?_))), Ev.step (fun k => by simp only [impl_IsTableau.l1]; rfl) (Ev.ite_false (by omega) ?_)⟩
        · rw [List.drop_of_length_le (by omega)]
          intro x hx
          cases hx
        · rw [wr1 hi5]; exact s1
        · rw [wr1 hi5]; exact s2
      | succ e ihe =>
        intro j hj
        have hjl : j < R[i].length := by omega
        have hjl' : (j : Int) < (R[i].length : Int) := by omega
        have hj5 : j < 4611686018427387904 := by omega
        have hj1 : j + 1 + e = R[i].length := by omega
        have hc9 : atL p i + (j : Int) ≤ 100 := by omega
        have hc0 : 0 ≤ atL p i + (j : Int) := by omega
        have e1 := ent_spec hp R i hlt (atL p i + (j : Int)) (by omega) hc9
        rw [show atL p i + (j : Int) - atL p i = (j : Int) by omega, atL_nat R[i] j hjl] at e1
        have hLj : (j : Int) - 1 < 100 := by omega
        obtain ⟨L, hL⟩ : ∃ L, L = atL R[i] ((j : Int) - 1) := ⟨_, rfl⟩
        have hL0 : j = 0 → L = 0 := fun h => by rw [hL]; unfold atL; rw [if_neg (by omega)]
        have hLp : 0 < j → L = rd R[i] ((j : Int) - 1) := fun h => by rw [hL]; unfold atL; rw [if_pos (by omega)]
        obtain ⟨T, hT⟩ : ∃ T, T = if i = 0 then 0 else atL (R.getD (i - 1) []) (atL p i + (j : Int) - atL p ((i - 1 : Nat) : Int)) := ⟨_, rfl⟩
        have hT0 : i = 0 → T = 0 := fun h => by rw [hT, if_pos h]
        have eTs : Ev (fun k => spec_l5Entry.f k p R (wrap64 ((i : Int) - 1)) (atL p i + (j : Int))) T := by
          by_cases h : i = 0
          · rw [hT0 h, show wrap64 ((i : Int) - 1) = -1 by rw [h]; unfold wrap64; omega]
            exact ent_spec_neg p R _
          · have hi1 : i - 1 < R.length := by omega
            have w := wr_sub1 (n := i) (by omega)
            have hcast : ((i : Int) - 1) = ((i - 1 : Nat) : Int) := by omega
            have := ent_spec hp R (i - 1) hi1 (atL p i + (j : Int)) (by omega) hc9
            rw [w, hcast, hT, if_neg h, List.getD_eq_getElem?_getD, List.getElem?_eq_getElem hi1, Option.getD_some]
            exact this
        have eTi : 0 < i → impl_Tableau_entry.f p R (wrap64 ((i : Int) - 1)) (wrap64 (atL p i + (j : Int))) = some T := by
          intro h
          have hi1 : i - 1 < R.length := by omega
          have hcast : ((i : Int) - 1) = ((i - 1 : Nat) : Int) := by omega
          have := ent_impl hp R hs (i - 1) hi1 (atL p i + (j : Int)) (by omega) hc9
          have hne : ¬ i = 0 := by omega
          have w0 : wrap64 (atL p i + (j : Int)) = atL p i + (j : Int) := wr_in (by omega) (by omega)
          rw [w0, wr_sub1 (n := i) (by omega), hcast, this, hT, if_neg hne, List.getD_eq_getElem?_getD, List.getElem?_eq_getElem hi1, Option.getD_some]
        have eL : 0 < atL p i + (j : Int) → Ev (fun k => spec_l5Entry.f k p R i (wrap64 (atL p i + (j : Int) - 1))) L := by
          intro h
          have w0 : wrap64 (atL p i + (j : Int) - 1) = atL p i + (j : Int) - 1 := wr_in (by omega) (by omega)
          have := ent_spec hp R i hlt (atL p i + (j : Int) - 1) (by omega) (by omega)
          rw [show atL p i + (j : Int) - 1 - atL p i = (j : Int) - 1 by omega] at this
          rw [w0, hL]
          exact this
        have wc : wrap64 (atL p i + (j : Int) + 1) = atL p i + ((j + 1 : Nat) : Int) := by
          rw [wr_in (by omega) (by omega)]; omega
        have hlp := isP_length hp
        have hxr : rd R[i] (j : Int) = R[i][j] := rd_nat _ j hjl
        have specPre : ∀ r, Ev (fun k => spec_IsTableau.j2 k i (atL p i + (j : Int)) R[i][j] L p R (outer p R R.length) p) r → Ev (fun k => spec_IsTableau.l1 k i (atL p i + (j : Int)) p R (outer p R R.length) p) r := by
          intro r h
          refine Ev.step (fun k => by simp only [spec_IsTableau.l1]; rfl) (Ev.ite_true (Int.natCast_nonneg _) (Ev.ite_true hOl' (Ev.ite_true (by rw [hOi]; omega) (Ev.bind e1 ?_))))
          by_cases hc : atL p i + (j : Int) > 0
          · exact Ev.ite_true hc (Ev.bind (eL hc) h)
          · refine Ev.ite_false hc ?_
            rw [← hL0 (by omega)]
            exact h
        have wj : wrap64 ((j : Int) - 1) = (j : Int) - 1 := wr_sub1 (by omega)
        have atp : impl_at.f p (i : Int) = some (atL p i) := at_f p i (by omega)
        have tailT : ∀ (g : Nat → Option Bool) (r : Bool), T < R[i][j] → Ev g r → Ev (fun k => if (i : Int) > 0 then ((impl_at.f p i).bind fun t => ((impl_Tableau_entry.f p R (wrap64 ((i : Int) - 1)) (wrap64 (t + (j : Int)))).bind fun t2 => (if R[i][j] ≤ t2 then (some false) else g k))) else g k) r := by
          intro g r h hg
          by_cases hi0 : (i : Int) > 0
          · refine Ev.ite_true hi0 ?_
            rw [atp]
            simp only [Option.bind_some]
            rw [eTi (by omega)]
            exact Ev.ite_false (by omega) hg
          · exact Ev.ite_false hi0 hg
        have tailF : ∀ (g : Nat → Option Bool), ¬ T < R[i][j] → 1 ≤ R[i][j] → Ev (fun k => if (i : Int) > 0 then ((impl_at.f p i).bind fun t => ((impl_Tableau_entry.f p R (wrap64 ((i : Int) - 1)) (wrap64 (t + (j : Int)))).bind fun t2 => (if R[i][j] ≤ t2 then (some false) else g k))) else g k) false := by
          intro g h h1
          have hi0 : 0 < i := by
            rcases Nat.eq_zero_or_pos i with h0 | h0
            · have := hT0 h0; omega
            · exact h0
          refine Ev.ite_true (by omega) ?_
          rw [atp]
          simp only [Option.bind_some]
          rw [eTi hi0]
          exact Ev.ite_true (by omega) (Ev.now _)
        have implPre : ∀ (r : Bool), 1 ≤ R[i][j] ∧ R[i][j] ≤ 9 → L ≤ R[i][j] → Ev (fun k => if (i : Int) > 0 then ((impl_at.f p i).bind fun t => ((impl_Tableau_entry.f p R (wrap64 ((i : Int) - 1)) (wrap64 (t + (j : Int)))).bind fun t2 => (if R[i][j] ≤ t2 then (some false) else impl_IsTableau.l1 k i R[i] R R.length i R[i] R[i].length (wrap64 ((j : Int) + 1)) p R))) else impl_IsTableau.l1 k i R[i] R R.length i R[i] R[i].length (wrap64 ((j : Int) + 1)) p R) r → Ev (fun k => impl_IsTableau.l1 k i R[i] R R.length i R[i] R[i].length j p R) r := by
          intro r h1 h2 hg
          refine Ev.step (fun k => by simp only [impl_IsTableau.l1, within_f, Option.bind_some, hxr]; rfl) (Ev.ite_true hjl' (Ev.ite_true (Int.natCast_nonneg _) (Ev.ite_true hjl' (Ev.ite_true (decide_eq_true h1) ?_))))
          by_cases hj0 : (j : Int) > 0
          · have hL2 := hLp (by omega)
            rw [wj, ← hL2]
            exact Ev.ite_true hj0 (Ev.ite_true (by omega) (Ev.ite_true (by omega) (Ev.ite_false (by omega) hg)))
          · exact Ev.ite_false hj0 hg
        by_cases h1 : 1 ≤ R[i][j] ∧ R[i][j] ≤ 9
        · by_cases h2 : L ≤ R[i][j]
          · by_cases h3 : T < R[i][j]
            · obtain ⟨b, hb, t1, t2⟩ := ihe (j + 1) hj1
              refine ⟨b, fun h => ⟨?_, (hb h).2⟩, specPre b (Ev.step (fun k => by simp only [spec_IsTableau.j2, l1In_f, Option.bind_some]; rfl) (Ev.ite_true (decide_eq_true h1) (Ev.ite_false (by omega) (Ev.bind eTs (Ev.ite_false (show ¬ T ≥ R[i][j] by omega) ?_))))), implPre b h1 h2 (tailT _ b h3 ?_)⟩
              · rw [List.drop_eq_getElem_cons hjl]
                intro x hx
                rcases List.mem_cons.1 hx with rfl | hx
                · exact h1
                · exact (hb h).1 x hx
              · rw [wc]; exact t1
              · rw [wr1 hj5]; exact t2
            · refine ⟨false, fun h => (Bool.false_ne_true h).elim, specPre false (Ev.step (fun k => by simp only [spec_IsTableau.j2, l1In_f, Option.bind_some]; rfl) (Ev.ite_true (decide_eq_true h1) (Ev.ite_false (by omega) (Ev.bind eTs (Ev.ite_true (show T ≥ R[i][j] by omega) (Ev.now _)))))), implPre false h1 h2 (tailF _ h3 h1.1)⟩
          · refine ⟨false, fun h => (Bool.false_ne_true h).elim, specPre false (Ev.step (fun k => by simp only [spec_IsTableau.j2, l1In_f, Option.bind_some]; rfl) (Ev.ite_true (decide_eq_true h1) (Ev.ite_true (show L > R[i][j] by omega) (Ev.now _)))), ?_⟩
            have hj0 : 0 < j := by
              rcases Nat.eq_zero_or_pos j with h0 | h0
              · have := hL0 h0; omega
              · exact h0
            have hL2 := hLp hj0
            refine Ev.step (fun k => by simp only [impl_IsTableau.l1, within_f, Option.bind_some, hxr]; rfl) (Ev.ite_true hjl' (Ev.ite_true (Int.natCast_nonneg _) (Ev.ite_true hjl' (Ev.ite_true (decide_eq_true h1) (Ev.ite_true (by omega) ?_)))))
            rw [wj, ← hL2]
            exact Ev.ite_true (by omega) (Ev.ite_true (by omega) (Ev.ite_true (by omega) (Ev.now _)))
        · refine ⟨false, fun h => (Bool.false_ne_true h).elim, specPre false (Ev.step (fun k => by simp only [spec_IsTableau.j2, l1In_f, Option.bind_some]; rfl) (Ev.ite_false (by simpa using h1) (Ev.now _))), ?_⟩
          exact Ev.step (fun k => by simp only [impl_IsTableau.l1, within_f, Option.bind_some, hxr]; rfl) (Ev.ite_true hjl' (Ev.ite_true (Int.natCast_nonneg _) (Ev.ite_true hjl' (Ev.ite_false (by simpa using h1) (Ev.now _)))))
    obtain ⟨b, hb, t1, t2⟩ := inner R[i].length 0 (by omega)
    refine ⟨b, fun h => ?_, Ev.step (fun k => by simp only [spec_IsTableau.l0, l2At_f, Option.bind_some]; rfl) (Ev.ite_true hOl' ?_), Ev.step (fun k => by simp only [impl_IsTableau.l0]; rfl) (Ev.ite_true hlt' (Ev.ite_true (Int.natCast_nonneg _) (Ev.ite_true hlt' ?_)))⟩
    · have hb' := hb h
      rw [List.drop_eq_getElem_cons hlt]
      intro row hrow
      rcases List.mem_cons.1 hrow with rfl | hrow
      · exact hb'.1
      · exact hb'.2 row hrow
    · simpa using t1
    · rw [rdL_nat R i hlt]; exact t2
/-- The tableau's shape is one, and its entries are in order (both ways say the same). -/
theorem tab_same (p : List Int) (R : List (List Int)) (hpl : p.length ≤ 1048576) (hs : smallL R) : ∃ b : Bool, (b = true → (∀ row ∈ R, row.length ≤ 9 ∧ ∀ x ∈ row, 1 ≤ x ∧ x ≤ 9) ∧ R.length ≤ 9) ∧ Ev (fun k => spec_IsTableau.f k p R) b ∧ Ev (fun k => impl_IsTableau.f k p R) b := by
  have s1 := shape_spec p R hpl hs
  have s2 := shape_impl p R hpl hs
  simp only [spec_IsTableau.f, impl_IsTableau.f]
  by_cases h : isP p = true ∧ p.length ≤ R.length ∧ isP (outer p R R.length) = true
  · have e : shapeR p R = (outer p R R.length, p, true) := if_pos h
    rw [e] at s1 s2
    obtain ⟨b, hb, t1, t2⟩ := tab_rows h.1 R hs h.2.1 h.2.2 R.length 0 (by omega)
    refine ⟨b, fun c => ⟨fun row hrow => ⟨?_, hb c row (by simpa using hrow)⟩, ?_⟩, Ev.bind s1 (Ev.ite_true rfl t1), Ev.bind s2 (Ev.ite_true rfl t2)⟩
    · obtain ⟨i, hi, rfl⟩ := List.getElem_of_mem hrow
      have hOl : i < (outer p R R.length).length := by rw [outer_length]; exact hi
      have hm := isP_mem h.2.2 _ (List.getElem_mem hOl)
      rw [outer_get, List.getD_eq_getElem?_getD, List.getElem?_eq_getElem hi, Option.getD_some] at hm
      have hr := atL_range h.1 (i : Int)
      omega
    · have := isP_length h.2.2
      rwa [outer_length] at this
  · have e : shapeR p R = ([], [], false) := if_neg h
    rw [e] at s1 s2
    exact ⟨false, fun c => (Bool.false_ne_true c).elim, Ev.bind s1 (Ev.ite_false Bool.false_ne_true (Ev.now _)), Ev.bind s2 (Ev.ite_false Bool.false_ne_true (Ev.now _))⟩
/-! ### The numbers. -/
theorem flat_le (R : List (List Int)) (h : ∀ row ∈ R, row.length ≤ 9) : R.flatten.length ≤ 9 * R.length := by
  induction R with
  | nil => simp
  | cons a R ih =>
    have h1 := h a (List.mem_cons_self ..)
    have h2 := ih (fun row hr => h row (List.mem_cons_of_mem _ hr))
    simp only [List.flatten_cons, List.length_append, List.length_cons]
    omega
theorem take_flat (R : List (List Int)) (i : Nat) (hi : i < R.length) : (R.take (i + 1)).flatten = (R.take i).flatten ++ R[i] := by
  rw [List.take_add_one, List.getElem?_eq_getElem hi]
  simp only [List.flatten_append, Option.toList_some, List.flatten_cons, List.flatten_nil, List.append_nil]
theorem take_flat_le (R : List (List Int)) (h : ∀ row ∈ R, row.length ≤ 9) (h9 : R.length ≤ 9) (i : Nat) : (R.take i).flatten.length ≤ 81 := by
  have h1 := flat_le (R.take i) (fun row hr => h row (List.mem_of_mem_take hr))
  have h2 : (R.take i).length ≤ 9 := by rw [List.length_take]; omega
  omega
theorem nums_spec (p : List Int) (R : List (List Int)) (h : ∀ row ∈ R, row.length ≤ 9) (h9 : R.length ≤ 9) : Ev (fun k => spec_l5Numbers.f k p R) R.flatten := by
  have loop : ∀ (d i : Nat), i + d = R.length → Ev (fun k => spec_l5Numbers.l0 k (R.take i).flatten i p R) R.flatten := by
    intro d
    induction d with
    | zero =>
      intro i hi
      rw [List.take_of_length_le (by omega)]
      exact Ev.step (fun k => by simp only [spec_l5Numbers.l0]; rfl) (Ev.ite_false (by omega) (Ev.now _))
    | succ d ih =>
      intro i hi
      have hlt : i < R.length := by omega
      have hi5 : i < 4611686018427387904 := by omega
      have hf := take_flat_le R h h9 i
      have hr := h _ (List.getElem_mem hlt)
      refine Ev.step (fun k => by simp only [spec_l5Numbers.l0]; rfl) (Ev.ite_true (by omega) (Ev.ite_true (by omega) ?_))
      rw [rdL_nat R i hlt, wr1 hi5, ← take_flat R i hlt]
      exact Ev.ite_true (by omega) (ih (i + 1) (by omega))
  have := loop R.length 0 (by omega)
  simpa [spec_l5Numbers.f] using this
theorem nums_impl (R : List (List Int)) (h : ∀ row ∈ R, row.length ≤ 9) (h9 : R.length ≤ 9) : Ev (fun k => slices_Concat_int_int.f k R) R.flatten := by
  have loop1 : ∀ (d i : Nat), i + d = R.length → Ev (fun k => slices_Concat_int_int.l1 k (R.take i).flatten R R.length i) R.flatten := by
    intro d
    induction d with
    | zero =>
      intro i hi
      rw [List.take_of_length_le (by omega)]
      exact Ev.step (fun k => by simp only [slices_Concat_int_int.l1]; rfl) (Ev.ite_false (by omega) (Ev.now _))
    | succ d ih =>
      intro i hi
      have hlt : i < R.length := by omega
      have hi5 : i < 4611686018427387904 := by omega
      have hf := take_flat_le R h h9 i
      have hr := h _ (List.getElem_mem hlt)
      refine Ev.step (fun k => by simp only [slices_Concat_int_int.l1]; rfl) (Ev.ite_true (by omega) (Ev.ite_true (by omega) (Ev.ite_true (by omega) ?_)))
      rw [rdL_nat R i hlt, wr1 hi5, ← take_flat R i hlt]
      exact Ev.ite_true (by omega) (ih (i + 1) (by omega))
  have loop0 : ∀ (d i : Nat) (s : Int), i + d = R.length → 0 ≤ s → s ≤ 9 * (i : Int) → Ev (fun k => slices_Concat_int_int.l0 k R s R R.length i) R.flatten := by
    intro d
    induction d with
    | zero =>
      intro i s hi h0 hs
      refine Ev.step (fun k => by simp only [slices_Concat_int_int.l0, slices_Grow_int_int__nil.f]; rfl) (Ev.ite_false (by omega) ?_)
      rw [if_pos (by omega)]
      simp only [Option.bind_some]
      simpa using loop1 R.length 0 (by omega)
    | succ d ih =>
      intro i s hi h0 hs
      have hlt : i < R.length := by omega
      have hi5 : i < 4611686018427387904 := by omega
      have hr := h _ (List.getElem_mem hlt)
      have hw : wrap64 (s + (R[i].length : Int)) = s + (R[i].length : Int) := wr_in (by omega) (by omega)
      have a1 : ¬ (s + (R[i].length : Int) < 0) := by omega
      have a2 : 0 ≤ s + (R[i].length : Int) := by omega
      have a3 : s + (R[i].length : Int) ≤ 9 * ((i + 1 : Nat) : Int) := by omega
      have a4 : (i : Int) < (R.length : Int) := by omega
      have a5 := ih (i + 1) (s + (R[i].length : Int)) (by omega) a2 a3
      refine Ev.step (fun k => by simp only [slices_Concat_int_int.l0]; rfl) (Ev.ite_true a4 (Ev.ite_true (Int.natCast_nonneg _) (Ev.ite_true a4 ?_)))
      rw [rdL_nat R i hlt, wr1 hi5, hw]
      exact Ev.ite_false a1 a5
  have := loop0 R.length 0 0 (by omega) (by omega) (by omega)
  simpa [slices_Concat_int_int.f] using this
/-! ### Each number once. -/
theorem once_of {w : List Int} (h1 : ∀ x ∈ w, 1 ≤ x) (h : ∀ (k : Nat) (hk : k < w.length), w[k] ≤ w.length ∧ w[k] ∉ w.take k) : permP w := by
  have hc : ∀ v : Int, eqC w v ≤ 1 := by
    intro v
    by_cases hv : v ∈ w
    · obtain ⟨i, hi, rfl⟩ := List.getElem_of_mem hv
      have hsplit : eqC w w[i] = eqC (w.take i) w[i] + eqC (w.drop i) w[i] := by unfold eqC; rw [← List.countP_append, List.take_append_drop]
      have h2 := eqC_none (h i hi).2
      have h3 : eqC (w.drop i) w[i] = 1 + eqC (w.drop (i + 1)) w[i] := by
        rw [List.drop_eq_getElem_cons hi]
        unfold eqC
        rw [List.countP_cons]
        simp
        omega
      have h4 : eqC (w.drop (i + 1)) w[i] = 0 := by
        refine eqC_none fun hm => ?_
        obtain ⟨j, hj, e⟩ := List.getElem_of_mem hm
        rw [List.getElem_drop] at e
        rw [List.length_drop] at hj
        have h5 := (h (i + 1 + j) (by omega)).2
        apply h5
        rw [e]
        refine List.mem_take_iff_getElem.2 ⟨i, by omega, rfl⟩
      omega
    · rw [eqC_none hv]; omega
  have top : ltC w ((w.length + 1 : Nat) : Int) = w.length := ltC_all fun x hx => by
    obtain ⟨i, hi, rfl⟩ := List.getElem_of_mem hx
    have := (h i hi).1
    omega
  have low : ∀ j : Nat, ltC w ((j + 1 : Nat) : Int) ≤ j := by
    intro j
    induction j with
    | zero =>
      rw [ltC_none (fun x hx => by have := h1 x hx; omega)]
      omega
    | succ j ih =>
      have a := ltC_succ w ((j + 1 : Nat) : Int)
      have b := hc ((j + 1 : Nat) : Int)
      rw [show ((j + 1 : Nat) : Int) + 1 = ((j + 1 + 1 : Nat) : Int) by omega] at a
      omega
  have high : ∀ (d j : Nat), j + d = w.length → j ≤ ltC w ((j + 1 : Nat) : Int) := by
    intro d
    induction d with
    | zero =>
      intro j hj
      have : j = w.length := by omega
      rw [this, top]
      omega
    | succ d ih =>
      intro j hj
      have a := ltC_succ w ((j + 1 : Nat) : Int)
      have b := hc ((j + 1 : Nat) : Int)
      have c := ih (j + 1) (by omega)
      rw [show ((j + 1 : Nat) : Int) + 1 = ((j + 1 + 1 : Nat) : Int) by omega] at a
      omega
  intro j hj
  have a := ltC_succ w ((j + 1 : Nat) : Int)
  have b := low j
  have c := high (w.length - (j + 1)) (j + 1) (by omega)
  rw [show ((j + 1 : Nat) : Int) + 1 = ((j + 1 + 1 : Nat) : Int) by omega] at a
  by_cases hm : ((j + 1 : Nat) : Int) ∈ w
  · exact hm
  · rw [eqC_none hm] at a
    omega
theorem of_once {w : List Int} (h1 : ∀ x ∈ w, 1 ≤ x) (h : permP w) (k : Nat) (hk : k < w.length) : w[k] ≤ w.length ∧ w[k] ∉ w.take k := by
  have ht := permP_top h _ (List.getElem_mem hk)
  refine ⟨ht, fun hm => ?_⟩
  have h0 := h1 _ (List.getElem_mem hk)
  obtain ⟨j, hj⟩ : ∃ j : Nat, w[k] = ((j + 1 : Nat) : Int) := ⟨(w[k] - 1).toNat, by omega⟩
  have a := ltC_succ w ((j + 1 : Nat) : Int)
  have b := permP_eq h j (by omega)
  have c := permP_eq h (j + 1) (by omega)
  rw [show ((j + 1 : Nat) : Int) + 1 = ((j + 1 + 1 : Nat) : Int) by omega] at a
  have hsplit : eqC w w[k] = eqC (w.take k) w[k] + eqC (w.drop k) w[k] := by unfold eqC; rw [← List.countP_append, List.take_append_drop]
  have h2 := eqC_pos hm
  have h3 : 1 ≤ eqC (w.drop k) w[k] := eqC_pos (by rw [List.drop_eq_getElem_cons hk]; exact List.mem_cons_self ..)
  rw [hj] at hsplit h2 h3
  omega
theorem std_l0 (w : List Int) (hw : w.length ≤ 81) (h1 : ∀ x ∈ w, 1 ≤ x ∧ x ≤ 9) (d : Nat) : ∀ (i : Nat) (s : List Bool), i + d = w.length → s.length = 10 → (∀ v : Nat, v < 10 → s.getD v false = decide ((v : Int) ∈ w.take i)) →
    ∃ b : Bool, (b = true ↔ ∀ (k : Nat) (hk : k < w.length), i ≤ k → w[k] ≤ w.length ∧ w[k] ∉ w.take k) ∧ Ev (fun k => spec_IsStandard.l0 k w s i) b := by
  induction d with
  | zero =>
    intro i s hi hs hv
    exact ⟨true, ⟨fun _ k hk h => by omega, fun _ => rfl⟩, Ev.step (fun k => by simp only [spec_IsStandard.l0]; rfl) (Ev.ite_false (by omega) (Ev.now _))⟩
  | succ d ih =>
    intro i s hi hs hv
    have hlt : i < w.length := by omega
    have hlt' : (i : Int) < (w.length : Int) := by omega
    have hi5 : i < 4611686018427387904 := by omega
    have hx := h1 _ (List.getElem_mem hlt)
    have hrd : rd w (i : Int) = w[i] := rd_nat w i hlt
    obtain ⟨v, hvx⟩ : ∃ v : Nat, w[i] = (v : Int) := ⟨w[i].toNat, by omega⟩
    have hv10 : v < 10 := by omega
    have hs' : ((s.length : Nat) : Int) = 10 := by omega
    have hseen : rdOf false s w[i] = decide (w[i] ∈ w.take i) := by
      unfold rdOf
      rw [hvx, Int.toNat_natCast]
      exact hv v hv10
    by_cases c1 : w[i] ≤ (w.length : Int)
    · by_cases c2 : w[i] ∈ w.take i
      · refine ⟨false, ⟨fun h => (Bool.false_ne_true h).elim, fun h => absurd c2 (h i hlt (Nat.le_refl _)).2⟩, Ev.step (fun k => by simp only [spec_IsStandard.l0, hrd]; rfl) (Ev.ite_true hlt' (Ev.ite_true (Int.natCast_nonneg _) (Ev.ite_false (show ¬ w[i] > (w.length : Int) by omega) (Ev.ite_true (show 0 ≤ w[i] by omega) (Ev.ite_true (show w[i] < (s.length : Int) by omega) (Ev.ite_true (by rw [hseen]; exact decide_eq_true c2) (Ev.now _)))))))⟩
      · have hi1 : i + 1 + d = w.length := by omega
        obtain ⟨b, hb, t⟩ := ih (i + 1) (s.set (w[i]).toNat true) hi1 (by simpa using hs) (by
          intro u hu
          rw [List.take_add_one, List.getElem?_eq_getElem hlt]
          simp only [Option.toList_some, List.mem_append, List.mem_singleton]
          rw [hvx, Int.toNat_natCast, List.getD_eq_getElem?_getD, List.getElem?_set]
          by_cases e : v = u
          · subst e
            rw [if_pos rfl, if_pos (by omega)]
            simp
          · rw [if_neg e, ← List.getD_eq_getElem?_getD, hv u hu]
            congr 1
            have : ¬ (u : Int) = (v : Int) := by omega
            simp [this])
        refine ⟨b, hb.trans ⟨fun h k hk hik => ?_, fun h k hk hik => h k hk (by omega)⟩, Ev.step (fun k => by simp only [spec_IsStandard.l0, hrd]; rfl) (Ev.ite_true hlt' (Ev.ite_true (Int.natCast_nonneg _) (Ev.ite_false (show ¬ w[i] > (w.length : Int) by omega) (Ev.ite_true (show 0 ≤ w[i] by omega) (Ev.ite_true (show w[i] < (s.length : Int) by omega) (Ev.ite_false (by rw [hseen]; simpa using c2) ?_))))))⟩
        · by_cases e : k = i
          · subst e; exact ⟨c1, c2⟩
          · exact h k hk (by omega)
        · rw [wr1 hi5]; exact t
    · refine ⟨false, ⟨fun h => (Bool.false_ne_true h).elim, fun h => absurd (h i hlt (Nat.le_refl _)).1 c1⟩, Ev.step (fun k => by simp only [spec_IsStandard.l0, hrd]; rfl) (Ev.ite_true hlt' (Ev.ite_true (Int.natCast_nonneg _) (Ev.ite_true (show w[i] > (w.length : Int) by omega) (Ev.now _))))⟩
/-- Standard: both ways say the same. -/
theorem std_same (p : List Int) (R : List (List Int)) (hpl : p.length ≤ 1048576) (hs : smallL R) : ∃ b : Bool, (b = true → (∀ row ∈ R, row.length ≤ 9) ∧ R.length ≤ 9) ∧ Ev (fun k => spec_IsStandard.f k p R) b ∧ Ev (fun k => impl_IsStandard.f k p R) b := by
  obtain ⟨b, hb, t1, t2⟩ := tab_same p R hpl hs
  simp only [spec_IsStandard.f, impl_IsStandard.f]
  cases b with
  | false => exact ⟨false, fun c => (Bool.false_ne_true c).elim, Ev.bind t1 (Ev.ite_false Bool.false_ne_true (Ev.now _)), Ev.bind t2 (Ev.ite_false Bool.false_ne_true (Ev.now _))⟩
  | true =>
    obtain ⟨hrows, h9⟩ := hb rfl
    have hrl : ∀ row ∈ R, row.length ≤ 9 := fun row h => (hrows row h).1
    have hw : R.flatten.length ≤ 81 := by
      have := flat_le R hrl
      omega
    have h1 : ∀ x ∈ R.flatten, 1 ≤ x ∧ x ≤ 9 := by
      intro x hx
      obtain ⟨row, hr, hx⟩ := List.mem_flatten.1 hx
      exact (hrows row hr).2 x hx
    obtain ⟨c, hc, u⟩ := std_l0 R.flatten hw h1 R.flatten.length 0 (List.replicate 10 false) (by omega) (by simp) (by
      intro v hv
      have e : (List.replicate 10 false).getD v false = false := by
        rw [List.getD_eq_getElem?_getD, List.getElem?_replicate]
        split <;> rfl
      rw [e]
      simp)
    have e : c = permB R.flatten := by
      rw [Bool.eq_iff_iff, hc, permB_iff]
      constructor
      · intro h
        exact once_of (fun x hx => (h1 x hx).1) (fun k hk => h k hk (Nat.zero_le _))
      · intro h k hk _
        exact of_once (fun x hx => (h1 x hx).1) h k hk
    refine ⟨c, fun _ => ⟨hrl, h9⟩, Ev.bind t1 (Ev.ite_true rfl (Ev.bind (nums_spec p R hrl h9) (Ev.ite_true (by omega) u))), Ev.bind t2 (Ev.ite_true rfl (Ev.bind (nums_impl R hrl h9) (Ev.bind (areOnce_ev R.flatten (by omega)) ?_)))⟩
    rw [e]
    exact Ev.now _
/-! ### Where a number stands; the descents; their sum. -/
theorem row_same (p : List Int) (R : List (List Int)) (n : Int) (hs : smallL R) (d : Nat) : ∀ (i : Nat), i + d = R.length → ∃ z : Int, Ev (fun k => spec_RowOfEntry.l0 k n i p R) z ∧ Ev (fun k => slices_IndexFunc_int_int__impl_RowOfEntry_1.l0 k R R.length i n) z := by
  have hR := hs.1
  induction d with
  | zero =>
    intro i hi
    exact ⟨-1, Ev.step (fun k => by simp only [spec_RowOfEntry.l0]; rfl) (Ev.ite_false (by omega) (Ev.now _)), Ev.step (fun k => by simp only [slices_IndexFunc_int_int__impl_RowOfEntry_1.l0]; rfl) (Ev.ite_false (by omega) (Ev.now _))⟩
  | succ d ih =>
    intro i hi
    have hlt : i < R.length := by omega
    have hlt' : (i : Int) < (R.length : Int) := by omega
    have hi5 : i < 4611686018427387904 := by omega
    have hrow := hs.2 _ (List.getElem_mem hlt)
    have yes : ∀ (e j : Nat), j + e = R[i].length → n ∈ R[i].drop j → Ev (fun k => spec_RowOfEntry.l1 k n i j p R) (i : Int) := by
      intro e
      induction e with
      | zero => intro j hj hm; rw [List.drop_of_length_le (by omega)] at hm; cases hm
      | succ e ihe =>
        intro j hj hm
        have hjl : j < R[i].length := by omega
        have hj5 : j < 4611686018427387904 := by omega
        rw [List.drop_eq_getElem_cons hjl] at hm
        refine Ev.step (fun k => by simp only [spec_RowOfEntry.l1, rdL_nat R i hlt]; rfl) (Ev.ite_true (Int.natCast_nonneg _) (Ev.ite_true hlt' (Ev.ite_true (by omega) (Ev.ite_true (Int.natCast_nonneg _) ?_))))
        rw [rd_nat _ j hjl, wr1 hj5]
        by_cases c : R[i][j] = n
        · exact Ev.ite_true c (Ev.now _)
        · refine Ev.ite_false c (ihe (j + 1) (by omega) ?_)
          rcases List.mem_cons.1 hm with h | h
          · exact absurd h.symm c
          · exact h
    have no : ∀ (e j : Nat) (z : Int), j + e = R[i].length → n ∉ R[i].drop j → Ev (fun k => spec_RowOfEntry.l0 k n ((i + 1 : Nat) : Int) p R) z → Ev (fun k => spec_RowOfEntry.l1 k n i j p R) z := by
      intro e
      induction e with
      | zero =>
        intro j z hj hm hz
        refine Ev.step (fun k => by simp only [spec_RowOfEntry.l1, rdL_nat R i hlt]; rfl) (Ev.ite_true (Int.natCast_nonneg _) (Ev.ite_true hlt' (Ev.ite_false (by omega) ?_)))
        rw [wr1 hi5]; exact hz
      | succ e ihe =>
        intro j z hj hm hz
        have hjl : j < R[i].length := by omega
        have hj5 : j < 4611686018427387904 := by omega
        rw [List.drop_eq_getElem_cons hjl] at hm
        have c : ¬ R[i][j] = n := fun c => hm (by rw [c]; exact List.mem_cons_self ..)
        refine Ev.step (fun k => by simp only [spec_RowOfEntry.l1, rdL_nat R i hlt]; rfl) (Ev.ite_true (Int.natCast_nonneg _) (Ev.ite_true hlt' (Ev.ite_true (by omega) (Ev.ite_true (Int.natCast_nonneg _) ?_))))
        rw [rd_nat _ j hjl, wr1 hj5]
        exact Ev.ite_false c (ihe (j + 1) z (by omega) (fun h => hm (List.mem_cons_of_mem _ h)) hz)
    have hcon := contains_ev R[i] n hrow
    by_cases hm : n ∈ R[i]
    · refine ⟨(i : Int), Ev.step (fun k => by simp only [spec_RowOfEntry.l0]; rfl) (Ev.ite_true hlt' (by simpa using yes R[i].length 0 (by omega) (by simpa using hm))), Ev.step (fun k => by simp only [slices_IndexFunc_int_int__impl_RowOfEntry_1.l0, impl_RowOfEntry_1__c.f, rdL_nat R i hlt]; rfl) (Ev.ite_true hlt' (Ev.ite_true (Int.natCast_nonneg _) (Ev.ite_true hlt' (Ev.bind (Ev.bind hcon (Ev.now _)) (Ev.ite_true (decide_eq_true hm) (Ev.now _))))))⟩
    · obtain ⟨z, z1, z2⟩ := ih (i + 1) (by omega)
      refine ⟨z, Ev.step (fun k => by simp only [spec_RowOfEntry.l0]; rfl) (Ev.ite_true hlt' (by simpa using no R[i].length 0 z (by omega) (by simpa using hm) z1)), Ev.step (fun k => by simp only [slices_IndexFunc_int_int__impl_RowOfEntry_1.l0, impl_RowOfEntry_1__c.f, rdL_nat R i hlt]; rfl) (Ev.ite_true hlt' (Ev.ite_true (Int.natCast_nonneg _) (Ev.ite_true hlt' (Ev.bind (Ev.bind hcon (Ev.now _)) (Ev.ite_false (show ¬ decide (n ∈ R[i]) = true by simpa using hm) ?_)))))⟩
      rw [wr1 hi5]; exact z2
theorem entry_same (p : List Int) (R : List (List Int)) (hs : smallL R) (h1 : Ev (fun k => spec_IsStandard.f k p R) true) (h2 : Ev (fun k => impl_IsStandard.f k p R) true) (n : Int) : ∃ z : Int, Ev (fun k => spec_RowOfEntry.f k p R n) z ∧ Ev (fun k => impl_RowOfEntry.f k p R n) z := by
  obtain ⟨z, z1, z2⟩ := row_same p R n hs R.length 0 (by omega)
  simp only [spec_RowOfEntry.f, impl_RowOfEntry.f, slices_IndexFunc_int_int__impl_RowOfEntry_1.f]
  exact ⟨z, Ev.bind h1 (Ev.ite_true rfl (by simpa using z1)), Ev.bind h2 (Ev.ite_true rfl (Ev.bind (by simpa using z2) (Ev.now _)))⟩
theorem desc_same (p : List Int) (R : List (List Int)) (hs : smallL R) (h1 : Ev (fun k => spec_IsStandard.f k p R) true) (h2 : Ev (fun k => impl_IsStandard.f k p R) true) (hrl : ∀ row ∈ R, row.length ≤ 9) (h9 : R.length ≤ 9) : ∃ D : List Int, D.length ≤ 100 ∧ Ev (fun k => spec_DescentsOf.f k p R) D ∧ Ev (fun k => impl_DescentsOf.f k p R) D := by
  have hw : R.flatten.length ≤ 81 := by
    have := flat_le R hrl
    omega
  have n1 := nums_spec p R hrl h9
  have n2 := nums_impl R hrl h9
  have loop : ∀ (d i : Nat) (s : List Int), i + d = R.flatten.length + 1 → s.length ≤ i → ∃ D : List Int, D.length ≤ 100 ∧ Ev (fun k => spec_DescentsOf.l0 k s R.flatten.length i p R) D ∧ Ev (fun k => impl_DescentsOf.l0 k s i p R) D := by
    intro d
    induction d with
    | zero =>
      intro i s hi hsl
      exact ⟨s, by omega, Ev.step (fun k => by simp only [spec_DescentsOf.l0]; rfl) (Ev.ite_false (by omega) (Ev.now _)), Ev.step (fun k => by simp only [impl_DescentsOf.l0]; rfl) (Ev.bind n2 (Ev.ite_false (show ¬ (i : Int) < (R.flatten.length : Int) by omega) (Ev.now _)))⟩
    | succ d ih =>
      intro i s hi hsl
      by_cases c : i < R.flatten.length
      · have c' : (i : Int) < (R.flatten.length : Int) := by omega
        have hi5 : i < 4611686018427387904 := by omega
        have hsl' : s.length < 17592186044416 := by omega
        obtain ⟨a, a1, a2⟩ := entry_same p R hs h1 h2 ((i + 1 : Nat) : Int)
        obtain ⟨b, b1, b2⟩ := entry_same p R hs h1 h2 (i : Int)
        by_cases e : a > b
        · obtain ⟨D, hD, d1, d2⟩ := ih (i + 1) (s ++ [(i : Int)]) (by omega) (by simp; omega)
          refine ⟨D, hD, Ev.step (fun k => by simp only [spec_DescentsOf.l0]; rfl) (Ev.ite_true c' ?_), Ev.step (fun k => by simp only [impl_DescentsOf.l0]; rfl) (Ev.bind n2 (Ev.ite_true c' ?_))⟩
          · rw [wr1 hi5]; exact Ev.bind a1 (Ev.bind b1 (Ev.ite_true e (Ev.ite_true hsl' d1)))
          · rw [wr1 hi5]; exact Ev.bind a2 (Ev.bind b2 (Ev.ite_true e (Ev.ite_true hsl' d2)))
        · obtain ⟨D, hD, d1, d2⟩ := ih (i + 1) s (by omega) (by omega)
          refine ⟨D, hD, Ev.step (fun k => by simp only [spec_DescentsOf.l0]; rfl) (Ev.ite_true c' ?_), Ev.step (fun k => by simp only [impl_DescentsOf.l0]; rfl) (Ev.bind n2 (Ev.ite_true c' ?_))⟩
          · rw [wr1 hi5]; exact Ev.bind a1 (Ev.bind b1 (Ev.ite_false e d1))
          · rw [wr1 hi5]; exact Ev.bind a2 (Ev.bind b2 (Ev.ite_false e d2))
      · exact ⟨s, by omega, Ev.step (fun k => by simp only [spec_DescentsOf.l0]; rfl) (Ev.ite_false (by omega) (Ev.now _)), Ev.step (fun k => by simp only [impl_DescentsOf.l0]; rfl) (Ev.bind n2 (Ev.ite_false (show ¬ (i : Int) < (R.flatten.length : Int) by omega) (Ev.now _)))⟩
  obtain ⟨D, hD, d1, d2⟩ := loop R.flatten.length 1 [] (by omega) (by simp)
  simp only [spec_DescentsOf.f, impl_DescentsOf.f, Option.bind_some]
  exact ⟨D, hD, Ev.bind h1 (Ev.ite_true rfl (Ev.bind n1 d1)), Ev.bind h2 (Ev.ite_true rfl d2)⟩
theorem sum_same (l : List Int) (hl : l.length ≤ 100) : ∃ z : Int, Ev (fun k => spec_l12Total.f k l) z ∧ Ev (fun k => impl_sum.f k l) z := by
  have loop : ∀ (d i : Nat) (s : Int), i + d = l.length → ∃ z : Int, Ev (fun k => spec_l12Total.l0 k l s i) z ∧ Ev (fun k => impl_sum.l0 k s l l.length i) z := by
    intro d
    induction d with
    | zero =>
      intro i s hi
      exact ⟨s, Ev.step (fun k => by simp only [spec_l12Total.l0]; rfl) (Ev.ite_false (by omega) (Ev.now _)), Ev.step (fun k => by simp only [impl_sum.l0]; rfl) (Ev.ite_false (by omega) (Ev.now _))⟩
    | succ d ih =>
      intro i s hi
      have hi5 : i < 4611686018427387904 := by omega
      obtain ⟨z, z1, z2⟩ := ih (i + 1) (wrap64 (s + rd l i)) (by omega)
      refine ⟨z, Ev.step (fun k => by simp only [spec_l12Total.l0]; rfl) (Ev.ite_true (by omega) (Ev.ite_true (by omega) ?_)), Ev.step (fun k => by simp only [impl_sum.l0]; rfl) (Ev.ite_true (by omega) (Ev.ite_true (by omega) (Ev.ite_true (by omega) ?_)))⟩
      · rw [wr1 hi5]; exact z1
      · rw [wr1 hi5]; exact z2
  obtain ⟨z, z1, z2⟩ := loop l.length 0 0 (by omega)
  exact ⟨z, by simpa [spec_l12Total.f] using z1, by simpa [impl_sum.f] using z2⟩
theorem major_same (p : List Int) (R : List (List Int)) (hpl : p.length ≤ 1048576) (hs : smallL R) : ∃ z : Int, Ev (fun k => spec_MajorOfTableau.f k p R) z ∧ Ev (fun k => impl_MajorOfTableau.f k p R) z := by
  obtain ⟨b, hb, t1, t2⟩ := std_same p R hpl hs
  simp only [spec_MajorOfTableau.f, impl_MajorOfTableau.f]
  cases b with
  | false => exact ⟨-1, Ev.bind t1 (Ev.ite_false Bool.false_ne_true (Ev.now _)), Ev.bind t2 (Ev.ite_false Bool.false_ne_true (Ev.now _))⟩
  | true =>
    obtain ⟨hrl, h9⟩ := hb rfl
    obtain ⟨D, hD, d1, d2⟩ := desc_same p R hs t1 t2 hrl h9
    obtain ⟨z, z1, z2⟩ := sum_same D hD
    exact ⟨z, Ev.bind t1 (Ev.ite_true rfl (Ev.bind d1 (Ev.bind z1 (Ev.now _)))), Ev.bind t2 (Ev.ite_true rfl (Ev.bind d2 (Ev.bind z2 (Ev.now _))))⟩
theorem sz_ev (p : List Int) (R : List (List Int)) (hp : p.length ≤ maxLen) (hR : R.length ≤ maxLen) (hm : ∀ x ∈ R, x.length ≤ maxLen) : ∃ r, Ev (fun k => laws_szTableau.f k p R 1048576) r ∧ (r < 0 ∨ (p.length ≤ 1048576 ∧ smallL R)) := by
  unfold maxLen at hp
  have hR' : R.length ≤ 9223372036854775807 := hR
  simp only [laws_szTableau.f, laws_szIntS.f]
  rw [wr_in (x := 1048576 - (p.length : Int)) (by omega) (by omega)]
  by_cases h : 1048576 - (p.length : Int) < 0
  · rw [if_pos h]
    simp only [Option.bind_some]
    exact ⟨-1, Ev.ite_true (by omega) (Ev.now _), .inl (by omega)⟩
  · rw [if_neg h]
    simp only [Option.bind_some, laws_szIntSS.f]
    rw [wr_in (x := 1048576 - (p.length : Int) - (R.length : Int)) (by omega) (by omega)]
    by_cases h2 : 1048576 - (p.length : Int) - (R.length : Int) < 0
    · exact ⟨-1, Ev.ite_false h (Ev.bind (Ev.ite_true h2 (Ev.now _)) (Ev.ite_true (by omega) (Ev.now _))), .inl (by omega)⟩
    · have hRl : R.length ≤ 1048576 := by omega
      obtain ⟨r, hr, hc⟩ := szIntSS_l0 R hm hRl R.length 0 (1048576 - (p.length : Int) - (R.length : Int)) (R.length + 1) (by omega) (by omega) (by omega) (by omega)
      have hr' : Ev (fun k => laws_szIntSS.l0 k R (1048576 - (p.length : Int) - (R.length : Int)) 0) r := ⟨R.length + 1, fun k hk => at_rounds (fun k => laws_szIntSS.mono_l k _ _ _) hk hr⟩
      by_cases h3 : r < 0
      · exact ⟨-1, Ev.ite_false h (Ev.bind (Ev.ite_false h2 hr') (Ev.ite_true h3 (Ev.now _))), .inl (by omega)⟩
      · refine ⟨r, Ev.ite_false h (Ev.bind (Ev.ite_false h2 hr') (Ev.ite_false h3 (Ev.now _))), .inr ⟨by omega, hRl, ?_⟩⟩
        have := hc.resolve_left h3
        simpa using this
theorem FnExactMajorOfTableau : laws_FnExactMajorOfTableau.Pure := by
  intro p R hp hR
  apply Ev.rounds
  simp only [laws_FnExactMajorOfTableau.f]
  obtain ⟨r, hr, hc⟩ := sz_ev p R hp.1 hR.1 (fun x hx => (hR.2 x hx).1)
  refine Ev.bind hr ?_
  by_cases h0 : r < 0
  · exact Ev.ite_true h0 (Ev.now _)
  refine Ev.ite_false h0 ?_
  obtain ⟨hpl, hs⟩ := hc.resolve_left h0
  obtain ⟨z, z1, z2⟩ := major_same p R hpl hs
  have ht : Ev (fun k => laws_toTableau.f k p R) (p, R) := by
    simp only [laws_toTableau.f]
    exact Ev.bind (toIntS_ev p hpl) (Ev.bind (toIntSS_ev R hs) (Ev.now _))
  have he : Ev (fun k => laws_eqTableau.f k p R p R) true := by
    simp only [laws_eqTableau.f]
    exact Ev.bind (eqIntS_self p hpl) (Ev.ite_true rfl (Ev.bind (eqIntSS_self R hs) (Ev.ite_true rfl (Ev.now _))))
  exact Ev.bind ht (Ev.bind z1 (Ev.bind ht (Ev.bind z2 (Ev.ite_true rfl (Ev.bind ht (Ev.bind he (Ev.ite_true rfl (Ev.now _))))))))

end Go.Proofs.Ytdjohgfelmkooaa.Pure
