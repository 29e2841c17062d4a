/- The program's FromBeta answers as the reference's for every list of at most 2^20 numbers, leaves its argument alone, and its result shares no memory with argument or later result. No condition. -/
import Derived.Test.YtdjohgfelmkooaaPFnExactFromBetax6
import Derived.Test.YtdjohgfelmkooaaVFnExactFromBeta
set_option linter.unusedVariables false
set_option linter.unusedSimpArgs false
namespace Go.Proofs.Ytdjohgfelmkooaa
open Go.ChangeShapes Go.WideShapes
theorem PrintWords.sized_ints {H : Type} {enc : TypeId × Value → H} {P : Program} {W : World} {base : Nat} {spare : Nat → Bool} {held : Bool} {t e : TypeId} {k : IntKind} {a : Option Addr} {len cap : Nat} {d : DataW H} {ps : List MemPlace} {ts : List TypeId} {ds : List (DataW H)} {j : Nat}
    (hsz : (DataW.weightsEach P ts ds).all (· ≤ reachBytes) = true) (ht : ts[j]? = some t) (hd : ds[j]? = some d) (hu : P.underlying t = some (.slice e)) (he : P.underlying e = some (.int k)) (hc : P.cellsOf e = 1) {B : Nat} (hB : P.bytesOf e = B)
    (h : DataW.Trod enc P W base spare held t (.slice a len cap) d ps) : len * B ≤ 140737488351232 :=
  Go.Proofs.YtdjohgfelmkooaaW.PrintWords.sized_ints hsz ht hd hu he hc hB h
end Go.Proofs.Ytdjohgfelmkooaa
namespace Go.Proofs.Ytdjohgfelmkooaa.Pure
open Go.RowKit Go.Proofs.Ytdjohgfelmkooaa.PFnExactFromBeta Go.Proofs.YtdjohgfelmkooaaW.PrintWords Go.Proofs.YtdjohgfelmkooaaW.PrintLast

theorem wr_in {x : Int} (h : -9223372036854775808 ≤ x) (h' : x ≤ 9223372036854775807) : wrap64 x = x := by unfold wrap64; omega
theorem wr1 {i : Nat} (h : i < 4611686018427387904) : wrap64 ((i : Int) + 1) = ((i + 1 : Nat) : Int) := by unfold wrap64; omega
theorem Ev.ite_true {α : Type} {c : Prop} [Decidable c] {g f : Nat → Option α} {r : α} (hc : c) (h : Ev g r) : Ev (fun k => if c then g k else f k) r := by
  obtain ⟨K, h⟩ := h
  exact ⟨K, fun k hk => (if_pos hc).trans (h k hk)⟩
theorem Ev.ite_false {α : Type} {c : Prop} [Decidable c] {g f : Nat → Option α} {r : α} (hc : ¬ c) (h : Ev f r) : Ev (fun k => if c then g k else f k) r := by
  obtain ⟨K, h⟩ := h
  exact ⟨K, fun k hk => (if_neg hc).trans (h k hk)⟩
theorem rd_nat (l : List Int) (i : Nat) (h : i < l.length) : rd l (i : Int) = l[i] := by
  simp [rd, List.getD_eq_getElem?_getD, h]
/-- A statement that holds of all members of a list that can be run through. -/
theorem of_all {α : Type} {p : α → Bool} {l : List α} (h : l.all p = true) {x : α} (hx : x ∈ l) : p x = true := List.all_eq_true.mp h x hx
/-- Both answer, and alike. -/
def both {α : Type} [DecidableEq α] (a b : Option α) : Bool := match a, b with
  | some x, some y => decide (x = y)
  | _, _ => false
theorem both_ev {α : Type} [DecidableEq α] {f g : Nat → Option α} (hf : ∀ k, LeO (f k) (f (k + 1))) (hg : ∀ k, LeO (g k) (g (k + 1))) {n m : Nat} (h : both (f n) (g m) = true) : ∃ r, Ev f r ∧ Ev g r := by
  unfold both at h
  split at h
  · rename_i x y hx hy
    have e := of_decide_eq_true h
    subst e
    exact ⟨x, Ev.of hf hx, Ev.of hg hy⟩
  · cases h
theorem take_set_succ {α : Type} (y : List α) (i : Nat) (v : α) (h : i < y.length) : (y.set i v).take (i + 1) = y.take i ++ [v] := by
  rw [List.take_succ_eq_append_getElem (by simpa using h)]
  simp only [List.getElem_set_self]
  congr 1
  apply List.ext_getElem?
  intro j
  simp only [List.getElem?_take, List.getElem?_set]
  by_cases h : j < i
  · rw [if_pos h, if_neg (by omega), if_pos h]
  · rw [if_neg h, if_neg h]

theorem toIntS_l0 (l : List Int) (hl : l.length ≤ 1048576) (d : Nat) : ∀ (i : Nat) (y : List Int) (k : Nat), i + d = l.length → y.length = l.length → y.take i = l.take i → d < k → laws_toIntS.l0 k l y i = some l := by
  induction d with
  | zero =>
    intro i y k hi hy ht hk
    obtain ⟨k, rfl⟩ : ∃ m, k = m + 1 := ⟨k - 1, by omega⟩
    simp only [laws_toIntS.l0]
    rw [if_neg (by omega)]
    obtain rfl : i = l.length := by omega
    rw [List.take_of_length_le (by omega), List.take_of_length_le (by omega)] at ht
    rw [ht]
  | succ d ih =>
    intro i y k hi hy ht hk
    obtain ⟨k, rfl⟩ : ∃ m, k = m + 1 := ⟨k - 1, by omega⟩
    have hlt : i < l.length := by omega
    simp only [laws_toIntS.l0]
    rw [if_pos (by omega), if_pos (by omega), if_pos (by omega), wr1 (by omega), rd_nat l i hlt]
    refine ih (i + 1) _ k (by omega) (by simpa using hy) ?_ (by omega)
    rw [Int.toNat_natCast, take_set_succ y i _ (by omega), ht, List.take_succ_eq_append_getElem hlt]
theorem toIntS_ev (l : List Int) (hl : l.length ≤ 1048576) : Ev (fun k => laws_toIntS.f k l) l := by
  refine ⟨l.length + 1, fun k hk => ?_⟩
  show laws_toIntS.f k l = some l
  unfold laws_toIntS.f
  rw [if_pos (by omega), if_pos (by omega)]
  exact toIntS_l0 l hl l.length 0 _ k (by omega) (by simp) (by simp) (by omega)

theorem eqIntS_l0 (a b : List Int) (hl : a.length ≤ 1048576) (hab : a.length = b.length) (d : Nat) : ∀ (i k : Nat), i + d = a.length → a.take i = b.take i → d < k → laws_eqIntS.l0 k a b i = some (decide (a = b)) := by
  induction d with
  | zero =>
    intro i k hi ht hk
    obtain ⟨k, rfl⟩ : ∃ m, k = m + 1 := ⟨k - 1, by omega⟩
    simp only [laws_eqIntS.l0]
    rw [if_neg (by omega)]
    obtain rfl : i = a.length := by omega
    rw [List.take_of_length_le (by omega), List.take_of_length_le (by omega)] at ht
    rw [decide_eq_true ht]
  | succ d ih =>
    intro i k hi ht hk
    obtain ⟨k, rfl⟩ : ∃ m, k = m + 1 := ⟨k - 1, by omega⟩
    have hlt : i < a.length := by omega
    have hlt' : i < b.length := by omega
    simp only [laws_eqIntS.l0]
    rw [if_pos (by omega), if_pos (by omega), if_pos (by omega), wr1 (by omega), rd_nat a i hlt, rd_nat b i hlt']
    by_cases h : a[i] = b[i]
    · rw [if_pos h]
      refine ih (i + 1) k (by omega) ?_ (by omega)
      rw [List.take_succ_eq_append_getElem hlt, List.take_succ_eq_append_getElem hlt', ht, h]
    · rw [if_neg h, decide_eq_false]
      intro e
      subst e
      exact h rfl
theorem eqIntS_ev (a b : List Int) (hl : a.length ≤ 1048576) : Ev (fun k => laws_eqIntS.f k a b) (decide (a = b)) := by
  refine ⟨a.length + 1, fun k hk => ?_⟩
  show laws_eqIntS.f k a b = _
  unfold laws_eqIntS.f
  by_cases h : (a.length : Int) = (b.length : Int)
  · rw [if_pos h]
    exact eqIntS_l0 a b hl (by omega) a.length 0 k (by omega) (by simp) (by omega)
  · rw [if_neg h, decide_eq_false]
    intro e
    subst e
    exact h rfl
theorem eqIntS_self (a : List Int) (hl : a.length ≤ 1048576) : Ev (fun k => laws_eqIntS.f k a a) true := by
  have h := eqIntS_ev a a hl
  rwa [decide_eq_true rfl] at h

def markL (a : Int) (n : Nat) : List Int := (List.range n).map (fun (j : Nat) => a + (j : Int))
theorem markL_length (a : Int) (n : Nat) : (markL a n).length = n := by simp [markL]
theorem markL_get (a : Int) (n i : Nat) (h : i < (markL a n).length) : (markL a n)[i] = a + i := by simp [markL]
theorem markIntS_l0 (a : Int) (n : Nat) (h0 : 0 ≤ a) (h1 : a ≤ 4611686018427387904) (hn : n ≤ 4611686018427387) (d : Nat) : ∀ (i : Nat) (y : List Int) (k : Nat), i + d = n → y.length = n → y.take i = markL a i → d < k →
    laws_markIntS.l0 k y (a + i) i = some (a + n, markL a n) := by
  induction d with
  | zero =>
    intro i y k hi hy ht hk
    obtain ⟨k, rfl⟩ : ∃ m, k = m + 1 := ⟨k - 1, by omega⟩
    simp only [laws_markIntS.l0]
    rw [if_neg (by omega)]
    obtain rfl : i = n := by omega
    rw [List.take_of_length_le (by omega)] at ht
    rw [ht]
  | succ d ih =>
    intro i y k hi hy ht hk
    obtain ⟨k, rfl⟩ : ∃ m, k = m + 1 := ⟨k - 1, by omega⟩
    simp only [laws_markIntS.l0]
    rw [if_pos (by omega), if_pos (by omega), wr1 (by omega), wr_in (x := a + i + 1) (by omega) (by omega)]
    have e : a + (i : Int) + 1 = a + ((i + 1 : Nat) : Int) := by omega
    rw [e]
    refine ih (i + 1) _ k (by omega) (by simpa using hy) ?_ (by omega)
    rw [Int.toNat_natCast, take_set_succ y i _ (by omega), ht]
    simp [markL, List.range_succ]
theorem markIntS_ev (a : Int) (l : List Int) (h0 : 0 ≤ a) (h1 : a ≤ 4611686018427387904) (hn : l.length ≤ 4611686018427387) : Ev (fun k => laws_markIntS.f k l a) (a + l.length, markL a l.length) := by
  refine ⟨l.length + 1, fun k hk => ?_⟩
  show laws_markIntS.f k l a = _
  unfold laws_markIntS.f
  have h := markIntS_l0 a l.length h0 h1 hn l.length 0 l k (by omega) rfl (by simp [markL]) (by omega)
  simpa using h
theorem heldIntS_l0 (a : Int) (n : Nat) (h0 : 0 ≤ a) (h1 : a ≤ 4611686018427387904) (hn : n ≤ 4611686018427387) (d : Nat) : ∀ (i k : Nat), i + d = n → d < k →
    laws_heldIntS.l0 k (markL a n) (a + i) i = some (a + n) := by
  induction d with
  | zero =>
    intro i k hi hk
    obtain ⟨k, rfl⟩ : ∃ m, k = m + 1 := ⟨k - 1, by omega⟩
    simp only [laws_heldIntS.l0]
    rw [if_neg (by rw [markL_length]; omega)]
    obtain rfl : i = n := by omega
    rfl
  | succ d ih =>
    intro i k hi hk
    obtain ⟨k, rfl⟩ : ∃ m, k = m + 1 := ⟨k - 1, by omega⟩
    simp only [laws_heldIntS.l0]
    have hlt : i < (markL a n).length := by rw [markL_length]; omega
    rw [if_pos (by rw [markL_length]; omega), if_pos (by omega), rd_nat _ i hlt, markL_get, if_pos rfl, wr1 (by omega), wr_in (x := a + i + 1) (by omega) (by omega)]
    have e : a + (i : Int) + 1 = a + ((i + 1 : Nat) : Int) := by omega
    rw [e]
    exact ih (i + 1) k (by omega) (by omega)
theorem heldIntS_ev (a : Int) (n : Nat) (h0 : 0 ≤ a) (h1 : a ≤ 4611686018427387904) (hn : n ≤ 4611686018427387) : Ev (fun k => laws_heldIntS.f k (markL a n) a) (a + n) := by
  refine ⟨n + 1, fun k hk => ?_⟩
  show laws_heldIntS.f k (markL a n) a = _
  unfold laws_heldIntS.f
  have h := heldIntS_l0 a n h0 h1 hn n 0 k (by omega) (by omega)
  simpa using h

/-! Partitions: a plain test, and all of them. -/
def isPF (prev s : Int) : List Int → Bool
  | [] => true
  | x :: xs => if 1 ≤ x ∧ x ≤ 9 ∧ x ≤ prev ∧ s + x ≤ 9 then isPF x (s + x) xs else false
def isP (l : List Int) : Bool := isPF 9 0 l
/-- All lists of numbers of at most 'prev' that add to 's' at most 9. -/
def genP : Nat → Nat → Nat → List (List Int)
  | 0, _, _ => [[]]
  | n + 1, prev, s => [] :: (List.range' 1 (min prev (9 - s))).flatMap fun x => (genP n x (s + x)).map fun r => (x : Int) :: r
theorem mem_genP : ∀ (n prev s : Nat) (l : List Int), 9 < n + s → s ≤ 9 → isPF prev s l = true → l ∈ genP n prev s
  | 0, prev, s, l, h1, h2, _ => by omega
  | n + 1, prev, s, [], _, _, _ => by simp [genP]
  | n + 1, prev, s, x :: xs, h1, h2, h => by
    simp only [isPF] at h
    split at h
    · rename_i hc
      obtain ⟨c1, c2, c3, c4⟩ := hc
      obtain ⟨m, rfl⟩ : ∃ m : Nat, x = (m : Int) := ⟨x.toNat, by omega⟩
      have e : (s : Int) + (m : Int) = ((s + m : Nat) : Int) := by omega
      rw [e] at h
      have ih := mem_genP n m (s + m) xs (by omega) (by omega) h
      simp only [genP, List.mem_cons, List.mem_flatMap]
      refine Or.inr ⟨m, ?_, ?_⟩
      · simp only [List.mem_range'_1]; omega
      · exact List.mem_map.2 ⟨xs, ih, rfl⟩
    · cases h
def allP : List (List Int) := genP 10 9 0
theorem mem_allP {l : List Int} (h : isP l = true) : l ∈ allP := mem_genP 10 9 0 l (by omega) (by omega) h
theorem isPF_length : ∀ (l : List Int) (prev s : Int), isPF prev s l = true → s + l.length ≤ 9 ∨ l = []
  | [], _, _, _ => .inr rfl
  | x :: xs, prev, s, h => by
    simp only [isPF] at h
    split at h
    · rename_i hc
      rcases isPF_length xs x (s + x) h with h1 | rfl
      · left; simp only [List.length_cons]; omega
      · left; simp; omega
    · cases h
theorem isP_length {l : List Int} (h : isP l = true) : l.length ≤ 9 := by
  rcases isPF_length l 9 0 h with h | rfl
  · omega
  · simp
/-- What stands at place i, and behind it. -/
theorem drop_cons (l : List Int) (i : Nat) (h : i < l.length) : l.drop i = l[i] :: l.drop (i + 1) := List.drop_eq_getElem_cons h
def prevOf (l : List Int) (i : Nat) : Int := if i = 0 then 9 else l.getD (i - 1) 0
theorem prevOf_succ (l : List Int) (i : Nat) (h : i < l.length) : prevOf l (i + 1) = l[i] := by simp [prevOf, h]

theorem l1In_f (x a b : Int) : spec_l1In.f x a b = some (decide (a ≤ x ∧ x ≤ b)) := by
  unfold spec_l1In.f
  by_cases h : x ≥ a
  · rw [if_pos h]; congr 1; by_cases h2 : x ≤ b
    · rw [decide_eq_true h2, decide_eq_true ⟨h, h2⟩]
    · rw [decide_eq_false h2, decide_eq_false (by omega)]
  · rw [if_neg h, decide_eq_false (by omega)]

theorem specIsP_l0 (l : List Int) (hl : l.length ≤ 1048576) (d : Nat) : ∀ (i k : Nat) (s : Int), i + d = l.length → 0 ≤ s → s ≤ 9 → 2 * d < k → spec_IsPartition.l0 k l s i = some (isPF (prevOf l i) s (l.drop i)) := by
  induction d with
  | zero =>
    intro i k s hi h0 h9 hk
    obtain ⟨k, rfl⟩ : ∃ m, k = m + 1 := ⟨k - 1, by omega⟩
    simp only [spec_IsPartition.l0]
    rw [if_neg (by omega), List.drop_of_length_le (by omega)]
    rfl
  | succ d ih =>
    intro i k s hi h0 h9 hk
    obtain ⟨k, rfl⟩ : ∃ m, k = m + 2 := ⟨k - 2, by omega⟩
    have hlt : i < l.length := by omega
    simp only [spec_IsPartition.l0]
    rw [if_pos (by omega), if_pos (by omega), rd_nat l i hlt, l1In_f, drop_cons l i hlt]
    simp only [Option.bind_some, isPF]
    have hj : ∀ b : Bool, (b = true ↔ ¬ (1 ≤ l[i] ∧ l[i] ≤ 9 ∧ l[i] ≤ prevOf l i)) →
        spec_IsPartition.j1 (k + 1) l s i b = some (if 1 ≤ l[i] ∧ l[i] ≤ 9 ∧ l[i] ≤ prevOf l i ∧ s + l[i] ≤ 9 then isPF l[i] (s + l[i]) (l.drop (i + 1)) else false) := by
      intro b hb
      simp only [spec_IsPartition.j1]
      by_cases hc : 1 ≤ l[i] ∧ l[i] ≤ 9 ∧ l[i] ≤ prevOf l i
      · rw [if_neg (fun h => hb.1 h hc), if_pos (by omega), if_pos (by omega), rd_nat l i hlt, wr_in (by omega) (by omega), wr1 (by omega)]
        by_cases h9' : s + l[i] > 9
        · rw [if_pos h9', if_neg (by omega)]
        · rw [if_neg h9', if_pos ⟨hc.1, hc.2.1, hc.2.2, by omega⟩, ih (i + 1) k _ (by omega) (by omega) (by omega) (by omega), prevOf_succ l i hlt]
      · rw [if_pos (hb.2 hc), if_neg (fun h => hc ⟨h.1, h.2.1, h.2.2.1⟩)]
    by_cases h1 : 1 ≤ l[i] ∧ l[i] ≤ 9
    · rw [if_pos (decide_eq_true h1)]
      by_cases hi0 : i = 0
      · subst hi0
        rw [if_neg (by omega)]
        exact hj false (by simp [prevOf]; omega)
      · have e : wrap64 ((i : Int) - 1) = ((i - 1 : Nat) : Int) := by unfold wrap64; omega
        rw [if_pos (by omega), e, if_pos (by omega), if_pos (by omega), rd_nat l (i - 1) (by omega)]
        refine hj _ ?_
        have hp : prevOf l i = l[i - 1] := by simp [prevOf, hi0]; rw [List.getElem?_eq_getElem (by omega)]; rfl
        rw [hp, decide_eq_true_iff]; omega
    · rw [if_neg (by simp; omega)]
      exact hj true (by simp; omega)
theorem specIsP_ev (l : List Int) (hl : l.length ≤ 1048576) : Ev (fun k => spec_IsPartition.f k l) (isP l) := by
  refine ⟨2 * l.length + 1, fun k hk => ?_⟩
  have h := specIsP_l0 l hl l.length 0 k 0 (by omega) (by omega) (by omega) (by omega)
  simpa [spec_IsPartition.f, isP, prevOf] using h

theorem within_f (x a b : Int) : impl_within.f x a b = some (decide (a ≤ x ∧ x ≤ b)) := by
  unfold impl_within.f
  by_cases h : a ≤ x
  · rw [if_pos h]; congr 1; by_cases h2 : x ≤ b
    · rw [decide_eq_true h2, decide_eq_true ⟨h, h2⟩]
    · rw [decide_eq_false h2, decide_eq_false (by omega)]
  · rw [if_neg h, decide_eq_false (by omega)]

theorem implIsP_l0 (l : List Int) (hl : l.length ≤ 1048576) (d : Nat) : ∀ (i k : Nat) (s : Int), i + d = l.length → 0 ≤ s → s ≤ 9 → 2 * d < k → impl_IsPartition.l0 k l s l l.length i = some (isPF (prevOf l i) s (l.drop i)) := by
  induction d with
  | zero =>
    intro i k s hi h0 h9 hk
    obtain ⟨k, rfl⟩ : ∃ m, k = m + 1 := ⟨k - 1, by omega⟩
    simp only [impl_IsPartition.l0]
    rw [if_neg (by omega), List.drop_of_length_le (by omega)]
    rfl
  | succ d ih =>
    intro i k s hi h0 h9 hk
    obtain ⟨k, rfl⟩ : ∃ m, k = m + 2 := ⟨k - 2, by omega⟩
    have hlt : i < l.length := by omega
    simp only [impl_IsPartition.l0]
    rw [if_pos (by omega), if_pos (by omega), if_pos (by omega), rd_nat l i hlt, within_f, drop_cons l i hlt]
    simp only [Option.bind_some, isPF]
    have hj : ∀ b : Bool, (b = true ↔ ¬ (1 ≤ l[i] ∧ l[i] ≤ 9 ∧ l[i] ≤ prevOf l i)) →
        impl_IsPartition.j1 (k + 1) l s l[i] l l.length i b = some (if 1 ≤ l[i] ∧ l[i] ≤ 9 ∧ l[i] ≤ prevOf l i ∧ s + l[i] ≤ 9 then isPF l[i] (s + l[i]) (l.drop (i + 1)) else false) := by
      intro b hb
      simp only [impl_IsPartition.j1]
      by_cases hc : 1 ≤ l[i] ∧ l[i] ≤ 9 ∧ l[i] ≤ prevOf l i
      · rw [if_neg (fun h => hb.1 h hc), wr_in (x := s + l[i]) (by omega) (by omega), wr1 (by omega)]
        by_cases h9' : s + l[i] > 9
        · rw [if_pos h9', if_neg (by omega)]
        · rw [if_neg h9', if_pos ⟨hc.1, hc.2.1, hc.2.2, by omega⟩, ih (i + 1) k _ (by omega) (by omega) (by omega) (by omega), prevOf_succ l i hlt]
      · rw [if_pos (hb.2 hc), if_neg (fun h => hc ⟨h.1, h.2.1, h.2.2.1⟩)]
    by_cases h1 : 1 ≤ l[i] ∧ l[i] ≤ 9
    · rw [if_pos (decide_eq_true h1)]
      by_cases hi0 : i = 0
      · subst hi0
        rw [if_neg (by omega)]
        exact hj false (by simp [prevOf]; omega)
      · have e : wrap64 ((i : Int) - 1) = ((i - 1 : Nat) : Int) := by unfold wrap64; omega
        rw [if_pos (by omega), e, if_pos (by omega), if_pos (by omega), rd_nat l (i - 1) (by omega)]
        refine hj _ ?_
        have hp : prevOf l i = l[i - 1] := by simp [prevOf, hi0]; rw [List.getElem?_eq_getElem (by omega)]; rfl
        rw [hp, decide_eq_true_iff]; omega
    · rw [if_neg (by simp; omega)]
      exact hj true (by simp; omega)
theorem implIsP_ev (l : List Int) (hl : l.length ≤ 1048576) : Ev (fun k => impl_IsPartition.f k l) (isP l) := by
  refine ⟨2 * l.length + 1, fun k hk => ?_⟩
  have h := implIsP_l0 l hl l.length 0 k 0 (by omega) (by omega) (by omega) (by omega)
  simpa [impl_IsPartition.f, isP, prevOf] using h

theorem l2Same_l0 (a b : List Int) (hl : a.length ≤ 1048576) (hab : a.length = b.length) (d : Nat) : ∀ (i : Nat), i + d = a.length → a.take i = b.take i → Ev (fun k => spec_l2Same.l0 k a b i) (decide (a = b)) := by
  induction d with
  | zero =>
    intro i hi ht
    refine Ev.step (fun k => by simp only [spec_l2Same.l0]; rfl) (Ev.ite_false (by omega) ?_)
    obtain rfl : i = a.length := by omega
    rw [List.take_of_length_le (by omega), List.take_of_length_le (by omega)] at ht
    rw [decide_eq_true ht]; exact Ev.now _
  | succ d ih =>
    intro i hi ht
    have hlt : i < a.length := by omega
    have hlt' : i < b.length := by omega
    have w1 : wrap64 ((i : Int) + 1) = ((i + 1 : Nat) : Int) := wr1 (by omega)
    refine Ev.step (fun k => by simp only [spec_l2Same.l0]; rfl) (Ev.ite_true (by omega) (Ev.ite_true (Int.natCast_nonneg _) (Ev.ite_true (by omega) ?_)))
    rw [w1, rd_nat a i hlt, rd_nat b i hlt']
    by_cases h : a[i] = b[i]
    · refine Ev.ite_true h (ih (i + 1) (by omega) ?_)
      rw [List.take_succ_eq_append_getElem hlt, List.take_succ_eq_append_getElem hlt', ht, h]
    · refine Ev.ite_false h ?_
      rw [decide_eq_false (by intro e; subst e; exact h rfl)]; exact Ev.now _
theorem l2Same_ev (a b : List Int) (hl : a.length ≤ 1048576) : Ev (fun k => spec_l2Same.f k a b) (decide (a = b)) := by
  simp only [spec_l2Same.f]
  by_cases h : (a.length : Int) = (b.length : Int)
  · exact Ev.ite_true h (l2Same_l0 a b hl (by omega) a.length 0 (by omega) (by simp))
  · refine Ev.ite_false h ?_
    rw [decide_eq_false (by intro e; subst e; exact h rfl)]; exact Ev.now _

theorem equal_l0 (a b : List Int) (hl : a.length ≤ 1048576) (hab : a.length = b.length) (d : Nat) : ∀ (i k : Nat), i + d = a.length → a.take i = b.take i → d < k → slices_Equal_int_int.l0 k a b (a.length : Int) i = some (decide (a = b)) := by
  induction d with
  | zero =>
    intro i k hi ht hk
    obtain ⟨k, rfl⟩ : ∃ m, k = m + 1 := ⟨k - 1, by omega⟩
    simp only [slices_Equal_int_int.l0]
    rw [if_neg (by omega)]
    obtain rfl : i = a.length := by omega
    rw [List.take_of_length_le (by omega), List.take_of_length_le (by omega)] at ht
    rw [decide_eq_true ht]
  | succ d ih =>
    intro i k hi ht hk
    obtain ⟨k, rfl⟩ : ∃ m, k = m + 1 := ⟨k - 1, by omega⟩
    have hlt : i < a.length := by omega
    have hlt' : i < b.length := by omega
    simp only [slices_Equal_int_int.l0]
    rw [if_pos (by omega), if_pos (by omega), if_pos (by omega), if_pos (by omega), wr1 (by omega), rd_nat a i hlt, rd_nat b i hlt']
    by_cases h : a[i] = b[i]
    · rw [if_pos h]
      refine ih (i + 1) k (by omega) ?_ (by omega)
      rw [List.take_succ_eq_append_getElem hlt, List.take_succ_eq_append_getElem hlt', ht, h]
    · rw [if_neg h, decide_eq_false]
      intro e
      subst e
      exact h rfl
theorem equal_ev (a b : List Int) (hl : a.length ≤ 1048576) : Ev (fun k => slices_Equal_int_int.f k a b) (decide (a = b)) := by
  refine ⟨a.length + 1, fun k hk => ?_⟩
  show slices_Equal_int_int.f k a b = _
  unfold slices_Equal_int_int.f
  by_cases h : (a.length : Int) = (b.length : Int)
  · rw [if_pos h]
    exact equal_l0 a b hl (by omega) a.length 0 k (by omega) (by simp) (by omega)
  · rw [if_neg h, decide_eq_false]
    intro e
    subst e
    exact h rfl

def betaF (p : List Int) (n : Nat) : List Int := (impl_BetaNumbers.f 100 p n).getD []
def fitB (p : List Int) (n : Nat) : Bool := decide (both (spec_BetaNumbers.f 100 p n) (impl_BetaNumbers.f 100 p n) = true) && both (spec_FromBeta.f 200 (betaF p n)) (impl_FromBeta.f 200 (betaF p n)) && (decide ((betaF p n).length ≤ 20) && decide (((impl_FromBeta.f 200 (betaF p n)).getD ([], false)).1.length ≤ 20))
def fitAll (ps : List (List Int)) : Bool := ps.all fun p => (List.range 19).all fun n => decide (p.length ≤ n → fitB p n = true)
theorem rparts0 : fitAll (allP.take 20) = true := by decide +kernel
theorem rparts1 : fitAll ((allP.drop 20).take 20) = true := by decide +kernel
theorem rparts2 : fitAll ((allP.drop 40).take 20) = true := by decide +kernel
theorem rparts3 : fitAll ((allP.drop 60).take 20) = true := by decide +kernel
theorem rparts4 : fitAll (allP.drop 80) = true := by decide +kernel
theorem cut_at {α : Type} (l : List α) (a b : Nat) : (l.drop a).take b ++ l.drop (a + b) = l.drop a := by
  have := List.take_append_drop b (l.drop a)
  rwa [List.drop_drop] at this
theorem parts_fit (p : List Int) (h : isP p = true) (n : Nat) (hn : n ≤ 18) (hl : p.length ≤ n) : fitB p n = true := by
  have hm := mem_allP h
  have key : ∃ ps, p ∈ ps ∧ fitAll ps = true := by
    rw [← List.take_append_drop 20 allP, ← cut_at allP 20 20, ← cut_at allP 40 20, ← cut_at allP 60 20] at hm
    simp only [List.mem_append] at hm
    rcases hm with h | h | h | h | h
    · exact ⟨_, h, rparts0⟩
    · exact ⟨_, h, rparts1⟩
    · exact ⟨_, h, rparts2⟩
    · exact ⟨_, h, rparts3⟩
    · exact ⟨_, h, rparts4⟩
  obtain ⟨ps, h1, h2⟩ := key
  have h3 := of_all (of_all h2 h1) (x := n) (by simp; omega)
  exact of_decide_eq_true h3 hl
def goodB (l : List Int) : Prop := ∃ (p : List Int) (n : Nat), isP p = true ∧ n ≤ 18 ∧ p.length ≤ n ∧ betaF p n = l
theorem betaF_len (p : List Int) (h : isP p = true) (n : Nat) (hn : n ≤ 18) (hl : p.length ≤ n) : (betaF p n).length ≤ 1048576 := by
  have hf := parts_fit p h n hn hl
  simp only [fitB, Bool.and_eq_true, decide_eq_true_eq] at hf
  have := hf.2.1
  omega
theorem beta_ev (p : List Int) (n : Nat) (hp : p.length ≤ 1048576) : ∃ r : List Int, r.length ≤ 1048576 ∧ Ev (fun k => spec_BetaNumbers.f k p n) r ∧ Ev (fun k => impl_BetaNumbers.f k p n) r ∧ ((isP p = true ∧ p.length ≤ n ∧ n ≤ 18 ∧ r = betaF p n) ∨ (¬ (isP p = true ∧ p.length ≤ n ∧ n ≤ 18) ∧ r = [])) := by
  by_cases h : isP p = true
  · by_cases hn : p.length ≤ n ∧ n ≤ 18
    · have hf := parts_fit p h n hn.2 hn.1
      simp only [fitB, Bool.and_eq_true, decide_eq_true_eq] at hf
      have hb := hf.1.1
      unfold both at hb
      split at hb
      · rename_i x y hx hy
        have e := of_decide_eq_true hb
        subst e
        have hF : betaF p n = x := by unfold betaF; rw [hy]; rfl
        have hs := Ev.of (spec_BetaNumbers.mono p n) hx
        have hi := Ev.of (impl_BetaNumbers.mono p n) hy
        exact ⟨x, by rw [← hF]; exact betaF_len p h n hn.2 hn.1, hs, hi, .inl ⟨h, hn.1, hn.2, hF.symm⟩⟩
      · cases hb
    · have hb : (!decide ((p.length : Int) ≤ (n : Int) ∧ (n : Int) ≤ 18)) = true := by simp; omega
      refine ⟨[], by simp, ?_, ?_, .inr ⟨fun c => hn c.2, rfl⟩⟩
      · simp only [spec_BetaNumbers.f, Option.bind_some, l1In_f, hb]
        refine Ev.bind (specIsP_ev p hp) (Ev.ite_true h ?_)
        exact Ev.step (f := fun _ => some []) (fun k => by simp [spec_BetaNumbers.j0]) (Ev.now _)
      · simp only [impl_BetaNumbers.f, Option.bind_some, within_f, hb]
        refine Ev.bind (implIsP_ev p hp) (Ev.ite_true h ?_)
        exact Ev.step (f := fun _ => some []) (fun k => by simp [impl_BetaNumbers.j0]) (Ev.now _)
  · refine ⟨[], by simp, ?_, ?_, .inr ⟨fun c => h c.1, rfl⟩⟩
    · simp only [spec_BetaNumbers.f, Option.bind_some]
      refine Ev.bind (specIsP_ev p hp) (Ev.ite_false h ?_)
      exact Ev.step (f := fun _ => some []) (fun k => by simp [spec_BetaNumbers.j0]) (Ev.now _)
    · simp only [impl_BetaNumbers.f]
      refine Ev.bind (implIsP_ev p hp) (Ev.ite_false h ?_)
      exact Ev.step (f := fun _ => some []) (fun k => by simp [impl_BetaNumbers.j0]) (Ev.now _)
/-! What is no list of beta numbers: both say no. -/
theorem no_of (l p r : List Int) (hg : ¬ goodB l) (hp : p.length ≤ l.length) (hr : (isP p = true ∧ p.length ≤ l.length ∧ l.length ≤ 18 ∧ r = betaF p l.length) ∨ (¬ (isP p = true ∧ p.length ≤ l.length ∧ l.length ≤ 18) ∧ r = [])) : ¬ r = l := by
  intro e
  rcases hr with ⟨h1, h2, h3, h4⟩ | ⟨h1, h2⟩
  · exact hg ⟨p, l.length, h1, h3, h2, h4 ▸ e⟩
  · rw [h2] at e
    subst e
    have : p = [] := List.eq_nil_of_length_eq_zero (by simpa using hp)
    subst this
    exact h1 ⟨by decide, by simp, by simp⟩
theorem specNo_l0 (l : List Int) (hl : l.length ≤ 1048576) (hg : ¬ goodB l) (d : Nat) : ∀ (i : Nat) (p : List Int), i + d = l.length → p.length ≤ i → Ev (fun k => spec_FromBeta.l0 k l p l.length i) ([], false) := by
  induction d with
  | zero =>
    intro i p hi hp
    refine Ev.step (fun k => by simp only [spec_FromBeta.l0]; rfl) (Ev.ite_false (by omega) ?_)
    by_cases h18 : (l.length : Int) > 18
    · exact Ev.ite_true h18 (Ev.now _)
    · obtain ⟨r, hr0, h1, _, h2⟩ := beta_ev p l.length (by omega)
      refine Ev.ite_false h18 (Ev.bind h1 (Ev.bind (l2Same_ev r l hr0) (Ev.ite_false ?_ (Ev.now _))))
      simpa using no_of l p r hg (by omega) h2
  | succ d ih =>
    intro i p hi hp
    have hlt : i < l.length := by omega
    have hlt' : (i : Int) < (l.length : Int) := by omega
    have hpl : p.length < 17592186044416 := by omega
    refine Ev.step (fun k => by simp only [spec_FromBeta.l0]; rfl) (Ev.ite_true hlt' (Ev.ite_true (Int.natCast_nonneg _) (Ev.ite_true hlt' ?_)))
    simp only [l1In_f, Option.bind_some]
    rw [wr1 (i := i) (by omega)]
    by_cases h1 : 0 ≤ rd l (i : Int) ∧ rd l (i : Int) ≤ 27
    · refine Ev.ite_true (decide_eq_true h1) ?_
      generalize wrap64 (wrap64 (wrap64 (rd l (i : Int) - (l.length : Int)) + 1) + (i : Int)) = x
      by_cases h2 : x = 0
      · exact Ev.ite_true h2 (ih (i + 1) p (by omega) (by omega))
      · exact Ev.ite_false h2 (Ev.ite_true hpl (ih (i + 1) (p ++ [x]) (by omega) (by simp; omega)))
    · exact Ev.ite_false (by simpa using h1) (Ev.now _)
theorem trimmed_ev : ∀ (n : Nat) (p : List Int), p.length = n → n ≤ 1048576 → ∃ t, t.length ≤ p.length ∧ Ev (fun k => impl_trimmed.l0 k p) t := by
  intro n
  induction n with
  | zero =>
    intro p hp _
    refine ⟨p, Nat.le_refl _, Ev.step (fun k => by simp only [impl_trimmed.l0]; rfl) (Ev.ite_false (by omega) ?_)⟩
    exact Ev.now _
  | succ n ih =>
    intro p hp hn
    have e : wrap64 ((p.length : Int) - 1) = (n : Int) := by unfold wrap64; omega
    have a0 : (p.length : Int) > 0 := by omega
    have a1 : (0 : Int) ≤ (n : Int) := Int.natCast_nonneg _
    have a2 : (n : Int) < (p.length : Int) := by omega
    have a3 : (n : Int) ≤ (p.length : Int) := by omega
    have b : (p.take (n : Int).toNat).length = n := by rw [Int.toNat_natCast, List.length_take]; omega
    by_cases h : rd p (n : Int) = 0
    · obtain ⟨t, h1, h2⟩ := ih _ b (by omega)
      refine ⟨t, by omega, Ev.step (fun k => by simp only [impl_trimmed.l0, e]; rfl) (Ev.ite_true a0 (Ev.ite_true a1 (Ev.ite_true a2 (Ev.ite_true h (Ev.ite_true a3 h2)))))⟩
    · exact ⟨p, Nat.le_refl _, Ev.step (fun k => by simp only [impl_trimmed.l0, e]; rfl) (Ev.ite_true a0 (Ev.ite_true a1 (Ev.ite_true a2 (Ev.ite_false h (Ev.now _)))))⟩
theorem implNo_l0 (l : List Int) (hl : l.length ≤ 1048576) (hg : ¬ goodB l) (d : Nat) : ∀ (i : Nat) (p : List Int), i + d = l.length → p.length = i → Ev (fun k => impl_FromBeta.l0 k l p l l.length i) ([], false) := by
  induction d with
  | zero =>
    intro i p hi hp
    obtain ⟨t, ht, h0⟩ := trimmed_ev p.length p rfl (by omega)
    refine Ev.step (fun k => by simp only [impl_FromBeta.l0]; rfl) (Ev.ite_false (by omega) ?_)
    refine Ev.bind (a := t) h0 (Ev.bind (implIsP_ev t (by omega)) ?_)
    by_cases hP : isP t = true
    · obtain ⟨r, hr0, _, h1, h2⟩ := beta_ev t l.length (by omega)
      refine Ev.ite_true hP (Ev.bind h1 (Ev.bind (equal_ev r l hr0) (Ev.ite_false ?_ (Ev.now _))))
      simpa using no_of l t r hg (by omega) h2
    · exact Ev.ite_false hP (Ev.now _)
  | succ d ih =>
    intro i p hi hp
    have hlt' : (i : Int) < (l.length : Int) := by omega
    have hpl : p.length < 17592186044416 := by omega
    refine Ev.step (fun k => by simp only [impl_FromBeta.l0]; rfl) (Ev.ite_true hlt' (Ev.ite_true (Int.natCast_nonneg _) (Ev.ite_true hlt' (Ev.ite_true hpl ?_))))
    rw [wr1 (i := i) (by omega)]
    exact ih (i + 1) _ (by omega) (by simp; omega)
theorem same (l : List Int) (hl : l.length ≤ 1048576) : ∃ r : List Int × Bool, r.1.length ≤ 20 ∧ Ev (fun k => spec_FromBeta.f k l) r ∧ Ev (fun k => impl_FromBeta.f k l) r := by
  by_cases hg : goodB l
  · obtain ⟨p, n, h1, h2, h3, rfl⟩ := hg
    have h := parts_fit p h1 n h2 h3
    simp only [fitB, Bool.and_eq_true, decide_eq_true_eq] at h
    obtain ⟨r, hs, hi⟩ := both_ev (spec_FromBeta.mono _) (impl_FromBeta.mono _) h.1.2
    refine ⟨r, ?_, hs, hi⟩
    have h4 := h.2.2
    cases e : impl_FromBeta.f 200 (betaF p n) with
    | none => have := h.1.2; rw [e] at this; unfold both at this; split at this <;> simp_all
    | some z =>
      obtain ⟨K, hK⟩ := hi
      have hz := at_rounds (impl_FromBeta.mono (betaF p n)) (Nat.le_max_left 200 K) e
      have hK' : impl_FromBeta.f (max 200 K) (betaF p n) = some r := hK _ (Nat.le_max_right 200 K)
      rw [hK'] at hz
      rw [e] at h4
      simpa [Option.some.inj hz] using h4
  · exact ⟨([], false), by simp, specNo_l0 l hl hg l.length 0 [] (by omega) (by simp), implNo_l0 l hl hg l.length 0 [] (by omega) rfl⟩
theorem FnExactFromBeta : laws_FnExactFromBeta.Pure := by
  intro l h1 h2 h3
  apply Ev.rounds
  simp only [laws_FnExactFromBeta.f]
  by_cases hl : l.length ≤ 1048576
  · obtain ⟨r, hr, hs, hi⟩ := same l hl
    have hm := markIntS_ev 1 l (by omega) (by omega) (by omega)
    have hm2 := markIntS_ev 1 r.1 (by omega) (by omega) (by omega)
    have hh := heldIntS_ev 1 r.1.length (by omega) (by omega) (by omega)
    have ht := toIntS_ev l hl
    have he := eqIntS_self l hl
    have he2 := eqIntS_self r.1 (by omega)
    refine Ev.ite_false (by omega) ?_
    repeat (first
      | exact Ev.now _
      | refine Ev.bind ht ?_
      | refine Ev.bind hs ?_
      | refine Ev.bind hi ?_
      | refine Ev.bind he ?_
      | refine Ev.bind he2 ?_
      | refine Ev.bind hm ?_
      | refine Ev.bind hm2 ?_
      | refine Ev.bind hh ?_
      | refine Ev.ite_true (by first | rfl | (simp; done) | omega | (dsimp only; omega)) ?_
      | refine Ev.ite_false (by first | (simp; done) | omega | (dsimp only; omega)) ?_
      | refine Ev.step (fun k => by simp only [laws_FnExactFromBeta.j0]; rfl) ?_
      | refine Ev.step (fun k => by simp only [laws_FnExactFromBeta.j1]; rfl) ?_
      | refine Ev.step (fun k => by simp only [laws_FnExactFromBeta.j2]; rfl) ?_)
  · exact Ev.ite_true (by omega) (Ev.now _)

end Go.Proofs.Ytdjohgfelmkooaa.Pure
