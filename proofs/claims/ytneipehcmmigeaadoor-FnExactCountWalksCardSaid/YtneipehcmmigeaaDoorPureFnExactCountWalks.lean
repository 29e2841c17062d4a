/- The program's CountWalks answers as the reference's for all lists of at most 2^20 numbers and texts of at most 2^20 bytes, and leaves its arguments alone. No condition. -/
import Derived.Test.YtneipehcmmigeaaDoorPFnExactCountWalksx12
import Derived.Test.YtneipehcmmigeaaDoorVFnExactCountWalks
set_option linter.unusedVariables false
set_option linter.unusedSimpArgs false
namespace Go.Proofs.YtneipehcmmigeaaDoor
open Go.ChangeShapes Go.WideShapes
theorem PrintWords.sized_ints {H : Type} {enc : TypeId × Value → H} {P : Program} {W : World} {base : Nat} {spare : Nat → Bool} {held : Bool} {t e : TypeId} {k : IntKind} {a : Option Addr} {len cap : Nat} {d : DataW H} {ps : List MemPlace} {ts : List TypeId} {ds : List (DataW H)} {j : Nat}
    (hsz : (DataW.weightsEach P ts ds).all (· ≤ reachBytes) = true) (ht : ts[j]? = some t) (hd : ds[j]? = some d) (hu : P.underlying t = some (.slice e)) (he : P.underlying e = some (.int k)) (hc : P.cellsOf e = 1) {B : Nat} (hB : P.bytesOf e = B)
    (h : DataW.Trod enc P W base spare held t (.slice a len cap) d ps) : len * B ≤ 140737488351232 :=
  Go.Proofs.YtneipehcmmigeaaDoorW.PrintWords.sized_ints hsz ht hd hu he hc hB h
end Go.Proofs.YtneipehcmmigeaaDoor
namespace Go.Proofs.YtneipehcmmigeaaDoor.Pure
open Go.RowKit Go.Proofs.YtneipehcmmigeaaDoor.PFnExactCountWalks Go.Proofs.YtneipehcmmigeaaDoorW.PrintWords Go.Proofs.YtneipehcmmigeaaDoorW.PrintLast

theorem wr_in {x : Int} (h : -9223372036854775808 ≤ x) (h' : x ≤ 9223372036854775807) : wrap64 x = x := by unfold wrap64; omega
theorem wr1 {i : Nat} (h : i < 4611686018427387904) : wrap64 ((i : Int) + 1) = ((i + 1 : Nat) : Int) := by unfold wrap64; omega
theorem Ev.ite_true {α : Type} {c : Prop} [Decidable c] {g f : Nat → Option α} {r : α} (hc : c) (h : Ev g r) : Ev (fun k => if c then g k else f k) r := by
  obtain ⟨K, h⟩ := h
  exact ⟨K, fun k hk => (if_pos hc).trans (h k hk)⟩
theorem Ev.ite_false {α : Type} {c : Prop} [Decidable c] {g f : Nat → Option α} {r : α} (hc : ¬ c) (h : Ev f r) : Ev (fun k => if c then g k else f k) r := by
  obtain ⟨K, h⟩ := h
  exact ⟨K, fun k hk => (if_neg hc).trans (h k hk)⟩
theorem rd_nat (l : List Int) (i : Nat) (h : i < l.length) : rd l (i : Int) = l[i] := by
  simp [rd, List.getD_eq_getElem?_getD, h]
/-- A statement that holds of all members of a list that can be run through. -/
theorem of_all {α : Type} {p : α → Bool} {l : List α} (h : l.all p = true) {x : α} (hx : x ∈ l) : p x = true := List.all_eq_true.mp h x hx
/-- Both answer, and alike. -/
def both {α : Type} [DecidableEq α] (a b : Option α) : Bool := match a, b with
  | some x, some y => decide (x = y)
  | _, _ => false
theorem both_ev {α : Type} [DecidableEq α] {f g : Nat → Option α} (hf : ∀ k, LeO (f k) (f (k + 1))) (hg : ∀ k, LeO (g k) (g (k + 1))) {n m : Nat} (h : both (f n) (g m) = true) : ∃ r, Ev f r ∧ Ev g r := by
  unfold both at h
  split at h
  · rename_i x y hx hy
    have e := of_decide_eq_true h
    subst e
    exact ⟨x, Ev.of hf hx, Ev.of hg hy⟩
  · cases h
theorem take_set_succ {α : Type} (y : List α) (i : Nat) (v : α) (h : i < y.length) : (y.set i v).take (i + 1) = y.take i ++ [v] := by
  rw [List.take_succ_eq_append_getElem (by simpa using h)]
  simp only [List.getElem_set_self]
  congr 1
  apply List.ext_getElem?
  intro j
  simp only [List.getElem?_take, List.getElem?_set]
  by_cases h : j < i
  · rw [if_pos h, if_neg (by omega), if_pos h]
  · rw [if_neg h, if_neg h]

theorem toIntS_l0 (l : List Int) (hl : l.length ≤ 1048576) (d : Nat) : ∀ (i : Nat) (y : List Int) (k : Nat), i + d = l.length → y.length = l.length → y.take i = l.take i → d < k → laws_toIntS.l0 k l y i = some l := by
  induction d with
  | zero =>
    intro i y k hi hy ht hk
    obtain ⟨k, rfl⟩ : ∃ m, k = m + 1 := ⟨k - 1, by omega⟩
    simp only [laws_toIntS.l0]
    rw [if_neg (by omega)]
    obtain rfl : i = l.length := by omega
    rw [List.take_of_length_le (by omega), List.take_of_length_le (by omega)] at ht
    rw [ht]
  | succ d ih =>
    intro i y k hi hy ht hk
    obtain ⟨k, rfl⟩ : ∃ m, k = m + 1 := ⟨k - 1, by omega⟩
    have hlt : i < l.length := by omega
    simp only [laws_toIntS.l0]
    rw [if_pos (by omega), if_pos (by omega), if_pos (by omega), wr1 (by omega), rd_nat l i hlt]
    refine ih (i + 1) _ k (by omega) (by simpa using hy) ?_ (by omega)
    rw [Int.toNat_natCast, take_set_succ y i _ (by omega), ht, List.take_succ_eq_append_getElem hlt]
theorem toIntS_ev (l : List Int) (hl : l.length ≤ 1048576) : Ev (fun k => laws_toIntS.f k l) l := by
  refine ⟨l.length + 1, fun k hk => ?_⟩
  show laws_toIntS.f k l = some l
  unfold laws_toIntS.f
  rw [if_pos (by omega), if_pos (by omega)]
  exact toIntS_l0 l hl l.length 0 _ k (by omega) (by simp) (by simp) (by omega)

theorem eqIntS_l0 (a b : List Int) (hl : a.length ≤ 1048576) (hab : a.length = b.length) (d : Nat) : ∀ (i k : Nat), i + d = a.length → a.take i = b.take i → d < k → laws_eqIntS.l0 k a b i = some (decide (a = b)) := by
  induction d with
  | zero =>
    intro i k hi ht hk
    obtain ⟨k, rfl⟩ : ∃ m, k = m + 1 := ⟨k - 1, by omega⟩
    simp only [laws_eqIntS.l0]
    rw [if_neg (by omega)]
    obtain rfl : i = a.length := by omega
    rw [List.take_of_length_le (by omega), List.take_of_length_le (by omega)] at ht
    rw [decide_eq_true ht]
  | succ d ih =>
    intro i k hi ht hk
    obtain ⟨k, rfl⟩ : ∃ m, k = m + 1 := ⟨k - 1, by omega⟩
    have hlt : i < a.length := by omega
    have hlt' : i < b.length := by omega
    simp only [laws_eqIntS.l0]
    rw [if_pos (by omega), if_pos (by omega), if_pos (by omega), wr1 (by omega), rd_nat a i hlt, rd_nat b i hlt']
    by_cases h : a[i] = b[i]
    · rw [if_pos h]
      refine ih (i + 1) k (by omega) ?_ (by omega)
      rw [List.take_succ_eq_append_getElem hlt, List.take_succ_eq_append_getElem hlt', ht, h]
    · rw [if_neg h, decide_eq_false]
      intro e
      subst e
      exact h rfl
theorem eqIntS_ev (a b : List Int) (hl : a.length ≤ 1048576) : Ev (fun k => laws_eqIntS.f k a b) (decide (a = b)) := by
  refine ⟨a.length + 1, fun k hk => ?_⟩
  show laws_eqIntS.f k a b = _
  unfold laws_eqIntS.f
  by_cases h : (a.length : Int) = (b.length : Int)
  · rw [if_pos h]
    exact eqIntS_l0 a b hl (by omega) a.length 0 k (by omega) (by simp) (by omega)
  · rw [if_neg h, decide_eq_false]
    intro e
    subst e
    exact h rfl
theorem eqIntS_self (a : List Int) (hl : a.length ≤ 1048576) : Ev (fun k => laws_eqIntS.f k a a) true := by
  have h := eqIntS_ev a a hl
  rwa [decide_eq_true rfl] at h

theorem l1In_f (x a b : Int) : spec_l1In.f x a b = some (decide (a ≤ x ∧ x ≤ b)) := by
  unfold spec_l1In.f
  by_cases h : x ≥ a
  · rw [if_pos h]; congr 1; by_cases h2 : x ≤ b
    · rw [decide_eq_true h2, decide_eq_true ⟨h, h2⟩]
    · rw [decide_eq_false h2, decide_eq_false (by omega)]
  · rw [if_neg h, decide_eq_false (by omega)]

theorem within_f (x a b : Int) : impl_within.f x a b = some (decide (a ≤ x ∧ x ≤ b)) := by
  unfold impl_within.f
  by_cases h : a ≤ x
  · rw [if_pos h]; congr 1; by_cases h2 : x ≤ b
    · rw [decide_eq_true h2, decide_eq_true ⟨h, h2⟩]
    · rw [decide_eq_false h2, decide_eq_false (by omega)]
  · rw [if_neg h, decide_eq_false (by omega)]

/-! Partitions: a plain test, and all of them. -/
def isPF (prev s : Int) : List Int → Bool
  | [] => true
  | x :: xs => if 1 ≤ x ∧ x ≤ 9 ∧ x ≤ prev ∧ s + x ≤ 9 then isPF x (s + x) xs else false
def isP (l : List Int) : Bool := isPF 9 0 l
/-- All lists of numbers of at most 'prev' that add to 's' at most 9. -/
def genP : Nat → Nat → Nat → List (List Int)
  | 0, _, _ => [[]]
  | n + 1, prev, s => [] :: (List.range' 1 (min prev (9 - s))).flatMap fun x => (genP n x (s + x)).map fun r => (x : Int) :: r
theorem mem_genP : ∀ (n prev s : Nat) (l : List Int), 9 < n + s → s ≤ 9 → isPF prev s l = true → l ∈ genP n prev s
  | 0, prev, s, l, h1, h2, _ => by omega
  | n + 1, prev, s, [], _, _, _ => by simp [genP]
  | n + 1, prev, s, x :: xs, h1, h2, h => by
    simp only [isPF] at h
    split at h
    · rename_i hc
      obtain ⟨c1, c2, c3, c4⟩ := hc
      obtain ⟨m, rfl⟩ : ∃ m : Nat, x = (m : Int) := ⟨x.toNat, by omega⟩
      have e : (s : Int) + (m : Int) = ((s + m : Nat) : Int) := by omega
      rw [e] at h
      have ih := mem_genP n m (s + m) xs (by omega) (by omega) h
      simp only [genP, List.mem_cons, List.mem_flatMap]
      refine Or.inr ⟨m, ?_, ?_⟩
      · simp only [List.mem_range'_1]; omega
      · exact List.mem_map.2 ⟨xs, ih, rfl⟩
    · cases h
def allP : List (List Int) := genP 10 9 0
theorem mem_allP {l : List Int} (h : isP l = true) : l ∈ allP := mem_genP 10 9 0 l (by omega) (by omega) h
theorem isPF_length : ∀ (l : List Int) (prev s : Int), isPF prev s l = true → s + l.length ≤ 9 ∨ l = []
  | [], _, _, _ => .inr rfl
  | x :: xs, prev, s, h => by
    simp only [isPF] at h
    split at h
    · rename_i hc
      rcases isPF_length xs x (s + x) h with h1 | rfl
      · left; simp only [List.length_cons]; omega
      · left; simp; omega
    · cases h
theorem isP_length {l : List Int} (h : isP l = true) : l.length ≤ 9 := by
  rcases isPF_length l 9 0 h with h | rfl
  · omega
  · simp
/-- What stands at place i, and behind it. -/
theorem drop_cons (l : List Int) (i : Nat) (h : i < l.length) : l.drop i = l[i] :: l.drop (i + 1) := List.drop_eq_getElem_cons h
def prevOf (l : List Int) (i : Nat) : Int := if i = 0 then 9 else l.getD (i - 1) 0
theorem prevOf_succ (l : List Int) (i : Nat) (h : i < l.length) : prevOf l (i + 1) = l[i] := by simp [prevOf, h]

theorem specIsP_l0 (l : List Int) (hl : l.length ≤ 1048576) (d : Nat) : ∀ (i k : Nat) (s : Int), i + d = l.length → 0 ≤ s → s ≤ 9 → 2 * d < k → spec_IsPartition.l0 k l s i = some (isPF (prevOf l i) s (l.drop i)) := by
  induction d with
  | zero =>
    intro i k s hi h0 h9 hk
    obtain ⟨k, rfl⟩ : ∃ m, k = m + 1 := ⟨k - 1, by omega⟩
    simp only [spec_IsPartition.l0]
    rw [if_neg (by omega), List.drop_of_length_le (by omega)]
    rfl
  | succ d ih =>
    intro i k s hi h0 h9 hk
    obtain ⟨k, rfl⟩ : ∃ m, k = m + 2 := ⟨k - 2, by omega⟩
    have hlt : i < l.length := by omega
    simp only [spec_IsPartition.l0]
    rw [if_pos (by omega), if_pos (by omega), rd_nat l i hlt, l1In_f, drop_cons l i hlt]
    simp only [Option.bind_some, isPF]
    have hj : ∀ b : Bool, (b = true ↔ ¬ (1 ≤ l[i] ∧ l[i] ≤ 9 ∧ l[i] ≤ prevOf l i)) →
        spec_IsPartition.j1 (k + 1) l s i b = some (if 1 ≤ l[i] ∧ l[i] ≤ 9 ∧ l[i] ≤ prevOf l i ∧ s + l[i] ≤ 9 then isPF l[i] (s + l[i]) (l.drop (i + 1)) else false) := by
      intro b hb
      simp only [spec_IsPartition.j1]
      by_cases hc : 1 ≤ l[i] ∧ l[i] ≤ 9 ∧ l[i] ≤ prevOf l i
      · rw [if_neg (fun h => hb.1 h hc), if_pos (by omega), if_pos (by omega), rd_nat l i hlt, wr_in (by omega) (by omega), wr1 (by omega)]
        by_cases h9' : s + l[i] > 9
        · rw [if_pos h9', if_neg (by omega)]
        · rw [if_neg h9', if_pos ⟨hc.1, hc.2.1, hc.2.2, by omega⟩, ih (i + 1) k _ (by omega) (by omega) (by omega) (by omega), prevOf_succ l i hlt]
      · rw [if_pos (hb.2 hc), if_neg (fun h => hc ⟨h.1, h.2.1, h.2.2.1⟩)]
    by_cases h1 : 1 ≤ l[i] ∧ l[i] ≤ 9
    · rw [if_pos (decide_eq_true h1)]
      by_cases hi0 : i = 0
      · subst hi0
        rw [if_neg (by omega)]
        exact hj false (by simp [prevOf]; omega)
      · have e : wrap64 ((i : Int) - 1) = ((i - 1 : Nat) : Int) := by unfold wrap64; omega
        rw [if_pos (by omega), e, if_pos (by omega), if_pos (by omega), rd_nat l (i - 1) (by omega)]
        refine hj _ ?_
        have hp : prevOf l i = l[i - 1] := by simp [prevOf, hi0]; rw [List.getElem?_eq_getElem (by omega)]; rfl
        rw [hp, decide_eq_true_iff]; omega
    · rw [if_neg (by simp; omega)]
      exact hj true (by simp; omega)
theorem specIsP_ev (l : List Int) (hl : l.length ≤ 1048576) : Ev (fun k => spec_IsPartition.f k l) (isP l) := by
  refine ⟨2 * l.length + 1, fun k hk => ?_⟩
  have h := specIsP_l0 l hl l.length 0 k 0 (by omega) (by omega) (by omega) (by omega)
  simpa [spec_IsPartition.f, isP, prevOf] using h

theorem implIsP_l0 (l : List Int) (hl : l.length ≤ 1048576) (d : Nat) : ∀ (i k : Nat) (s : Int), i + d = l.length → 0 ≤ s → s ≤ 9 → 2 * d < k → impl_IsPartition.l0 k l s l l.length i = some (isPF (prevOf l i) s (l.drop i)) := by
  induction d with
  | zero =>
    intro i k s hi h0 h9 hk
    obtain ⟨k, rfl⟩ : ∃ m, k = m + 1 := ⟨k - 1, by omega⟩
    simp only [impl_IsPartition.l0]
    rw [if_neg (by omega), List.drop_of_length_le (by omega)]
    rfl
  | succ d ih =>
    intro i k s hi h0 h9 hk
    obtain ⟨k, rfl⟩ : ∃ m, k = m + 2 := ⟨k - 2, by omega⟩
    have hlt : i < l.length := by omega
    simp only [impl_IsPartition.l0]
    rw [if_pos (by omega), if_pos (by omega), if_pos (by omega), rd_nat l i hlt, within_f, drop_cons l i hlt]
    simp only [Option.bind_some, isPF]
    have hj : ∀ b : Bool, (b = true ↔ ¬ (1 ≤ l[i] ∧ l[i] ≤ 9 ∧ l[i] ≤ prevOf l i)) →
        impl_IsPartition.j1 (k + 1) l s l[i] l l.length i b = some (if 1 ≤ l[i] ∧ l[i] ≤ 9 ∧ l[i] ≤ prevOf l i ∧ s + l[i] ≤ 9 then isPF l[i] (s + l[i]) (l.drop (i + 1)) else false) := by
      intro b hb
      simp only [impl_IsPartition.j1]
      by_cases hc : 1 ≤ l[i] ∧ l[i] ≤ 9 ∧ l[i] ≤ prevOf l i
      · rw [if_neg (fun h => hb.1 h hc), wr_in (x := s + l[i]) (by omega) (by omega), wr1 (by omega)]
        by_cases h9' : s + l[i] > 9
        · rw [if_pos h9', if_neg (by omega)]
        · rw [if_neg h9', if_pos ⟨hc.1, hc.2.1, hc.2.2, by omega⟩, ih (i + 1) k _ (by omega) (by omega) (by omega) (by omega), prevOf_succ l i hlt]
      · rw [if_pos (hb.2 hc), if_neg (fun h => hc ⟨h.1, h.2.1, h.2.2.1⟩)]
    by_cases h1 : 1 ≤ l[i] ∧ l[i] ≤ 9
    · rw [if_pos (decide_eq_true h1)]
      by_cases hi0 : i = 0
      · subst hi0
        rw [if_neg (by omega)]
        exact hj false (by simp [prevOf]; omega)
      · have e : wrap64 ((i : Int) - 1) = ((i - 1 : Nat) : Int) := by unfold wrap64; omega
        rw [if_pos (by omega), e, if_pos (by omega), if_pos (by omega), rd_nat l (i - 1) (by omega)]
        refine hj _ ?_
        have hp : prevOf l i = l[i - 1] := by simp [prevOf, hi0]; rw [List.getElem?_eq_getElem (by omega)]; rfl
        rw [hp, decide_eq_true_iff]; omega
    · rw [if_neg (by simp; omega)]
      exact hj true (by simp; omega)
theorem implIsP_ev (l : List Int) (hl : l.length ≤ 1048576) : Ev (fun k => impl_IsPartition.f k l) (isP l) := by
  refine ⟨2 * l.length + 1, fun k hk => ?_⟩
  have h := implIsP_l0 l hl l.length 0 k 0 (by omega) (by omega) (by omega) (by omega)
  simpa [impl_IsPartition.f, isP, prevOf] using h

-- The size of a partition, -1 for what is none.
def szB (p : List Int) : Int := if isP p = true then p.sum else -1
theorem factsize : allP.all (fun p => decide (spec_l2Size.f 20 p = some p.sum) && decide (impl_sum.f 20 p = some p.sum)) = true := by decide +kernel
theorem specL2_ev {p : List Int} (h : isP p = true) : Ev (fun k => spec_l2Size.f k p) p.sum := by
  have a := of_all factsize (mem_allP h)
  simp only [Bool.and_eq_true, decide_eq_true_eq] at a
  exact Ev.of (spec_l2Size.mono p) a.1
theorem implSum_ev {p : List Int} (h : isP p = true) : Ev (fun k => impl_sum.f k p) p.sum := by
  have a := of_all factsize (mem_allP h)
  simp only [Bool.and_eq_true, decide_eq_true_eq] at a
  exact Ev.of (impl_sum.mono p) a.2

theorem equal_l0 (a b : List Int) (hl : a.length ≤ 1048576) (hab : a.length = b.length) (d : Nat) : ∀ (i k : Nat), i + d = a.length → a.take i = b.take i → d < k → slices_Equal_int_int.l0 k a b (a.length : Int) i = some (decide (a = b)) := by
  induction d with
  | zero =>
    intro i k hi ht hk
    obtain ⟨k, rfl⟩ : ∃ m, k = m + 1 := ⟨k - 1, by omega⟩
    simp only [slices_Equal_int_int.l0]
    rw [if_neg (by omega)]
    obtain rfl : i = a.length := by omega
    rw [List.take_of_length_le (by omega), List.take_of_length_le (by omega)] at ht
    rw [decide_eq_true ht]
  | succ d ih =>
    intro i k hi ht hk
    obtain ⟨k, rfl⟩ : ∃ m, k = m + 1 := ⟨k - 1, by omega⟩
    have hlt : i < a.length := by omega
    have hlt' : i < b.length := by omega
    simp only [slices_Equal_int_int.l0]
    rw [if_pos (by omega), if_pos (by omega), if_pos (by omega), if_pos (by omega), wr1 (by omega), rd_nat a i hlt, rd_nat b i hlt']
    by_cases h : a[i] = b[i]
    · rw [if_pos h]
      refine ih (i + 1) k (by omega) ?_ (by omega)
      rw [List.take_succ_eq_append_getElem hlt, List.take_succ_eq_append_getElem hlt', ht, h]
    · rw [if_neg h, decide_eq_false]
      intro e
      subst e
      exact h rfl
theorem equal_ev (a b : List Int) (hl : a.length ≤ 1048576) : Ev (fun k => slices_Equal_int_int.f k a b) (decide (a = b)) := by
  refine ⟨a.length + 1, fun k hk => ?_⟩
  show slices_Equal_int_int.f k a b = _
  unfold slices_Equal_int_int.f
  by_cases h : (a.length : Int) = (b.length : Int)
  · rw [if_pos h]
    exact equal_l0 a b hl (by omega) a.length 0 k (by omega) (by simp) (by omega)
  · rw [if_neg h, decide_eq_false]
    intro e
    subst e
    exact h rfl

theorem dropc {α : Type} (l : List α) (i : Nat) (h : i < l.length) : l.drop i = l[i] :: l.drop (i + 1) := List.drop_eq_getElem_cons h

/-! Lists of whole numbers in order (lexical), and spec.l12Before. -/
def cmpL : List Int → List Int → Int
  | [], [] => 0
  | [], _ :: _ => -1
  | _ :: _, [] => 1
  | x :: xs, y :: ys => if x = y then cmpL xs ys else if x < y then -1 else 1
theorem cmpL_anti : ∀ p q : List Int, cmpL p q = -cmpL q p
  | [], [] => rfl
  | [], _ :: _ => rfl
  | _ :: _, [] => rfl
  | x :: xs, y :: ys => by
    simp only [cmpL]
    by_cases e : x = y
    · subst e; simp only [if_true]; exact cmpL_anti xs ys
    · have e2 : ¬ y = x := fun h => e h.symm
      rw [if_neg e, if_neg e2]
      by_cases g : x < y
      · rw [if_pos g, if_neg (by omega)]
      · rw [if_neg g, if_pos (by omega)]; rfl
theorem cmpL_self (p : List Int) : cmpL p p = 0 := by have := cmpL_anti p p; omega
theorem cmpL_zero : ∀ p q : List Int, cmpL p q = 0 → p = q
  | [], [], _ => rfl
  | [], _ :: _, h => by simp [cmpL] at h
  | _ :: _, [], h => by simp [cmpL] at h
  | x :: xs, y :: ys, h => by
    simp only [cmpL] at h
    by_cases e : x = y
    · rw [if_pos e] at h; rw [e, cmpL_zero xs ys h]
    · rw [if_neg e] at h; split at h <;> omega
def LeL (p q : List Int) : Prop := cmpL p q ≤ 0
theorem LeL_trans : ∀ {p q r : List Int}, LeL p q → LeL q r → LeL p r
  | [], _, [], _, _ => by simp [LeL, cmpL]
  | [], _, _ :: _, _, _ => by simp [LeL, cmpL]
  | x :: xs, [], _, h, _ => by simp [LeL, cmpL] at h
  | x :: xs, y :: ys, [], _, h => by simp [LeL, cmpL] at h
  | x :: xs, y :: ys, z :: zs, h1, h2 => by
    simp only [LeL, cmpL] at h1 h2 ⊢
    by_cases e : x = y
    · rw [if_pos e] at h1
      subst e
      by_cases e2 : x = z
      · rw [if_pos e2] at h2 ⊢
        exact LeL_trans (p := xs) (q := ys) (r := zs) h1 h2
      · rw [if_neg e2] at h2 ⊢
        exact h2
    · rw [if_neg e] at h1
      have g : x < y := by
        by_cases g : x < y
        · exact g
        · rw [if_neg g] at h1; omega
      by_cases e2 : y = z
      · subst e2
        rw [if_neg e, if_pos g]; omega
      · rw [if_neg e2] at h2
        have g2 : y < z := by
          by_cases g2 : y < z
          · exact g2
          · rw [if_neg g2] at h2; omega
        rw [if_neg (by omega), if_pos (by omega)]; omega
theorem LeL_of_not {p q : List Int} (h : ¬ cmpL p q < 0) : LeL q p := by unfold LeL; rw [cmpL_anti]; omega
theorem LeL_of_lt {p q : List Int} (h : cmpL p q < 0) : LeL p q := by unfold LeL; omega
theorem LeL_refl (p : List Int) : LeL p p := by unfold LeL; rw [cmpL_self]; omega
theorem before_l0 (a b : List Int) (ha : a.length ≤ 1048576) (hb : b.length ≤ 1048576) (d : Nat) : ∀ (i : Nat), i + d = a.length → i ≤ b.length → Ev (fun k => spec_l12Before.l0 k a b i) (decide (cmpL (a.drop i) (b.drop i) < 0)) := by
  induction d with
  | zero =>
    intro i hi hb'
    refine Ev.step (fun k => by simp only [spec_l12Before.l0]; rfl) (Ev.ite_false (by omega) (Ev.step (fun k => by simp only [spec_l12Before.j1]; rfl) ?_))
    refine Ev.ite_false (by simp) ?_
    rw [List.drop_of_length_le (l := a) (by omega)]
    by_cases h : i < b.length
    · rw [dropc b i h]
      have : (a.length : Int) < b.length := by omega
      simp only [cmpL, this, decide_true]
      exact Ev.now _
    · rw [List.drop_of_length_le (l := b) (by omega)]
      have : ¬ (a.length : Int) < b.length := by omega
      simp only [cmpL, this, decide_false]
      exact Ev.now _
  | succ d ih =>
    intro i hi hb'
    have hlt : i < a.length := by omega
    have hlt' : (i : Int) < (a.length : Int) := by omega
    rw [dropc a i hlt]
    by_cases h : i < b.length
    · have h' : (i : Int) < (b.length : Int) := by omega
      have w1 : wrap64 ((i : Int) + 1) = ((i + 1 : Nat) : Int) := wr1 (by omega)
      rw [dropc b i h]
      refine Ev.step (fun k => by simp only [spec_l12Before.l0]; rfl) (Ev.ite_true hlt' ?_)
      rw [decide_eq_true h']
      refine Ev.step (fun k => by simp only [spec_l12Before.j1]; rfl) ?_
      refine Ev.ite_true (by trivial) (Ev.ite_true (Int.natCast_nonneg _) (Ev.ite_true hlt' (Ev.ite_true h' ?_)))
      rw [rd_nat a i hlt, rd_nat b i h, w1]
      by_cases e : a[i] = b[i]
      · refine Ev.ite_true e ?_
        simp only [cmpL, if_pos e]
        exact ih (i + 1) (by omega) (by omega)
      · refine Ev.ite_false e ?_
        simp only [cmpL, if_neg e]
        by_cases g : a[i] < b[i]
        · simp only [if_pos g, g, decide_true]; exact Ev.now _
        · simp only [if_neg g, g, decide_false]; exact Ev.now _
    · have h' : ¬ (i : Int) < (b.length : Int) := by omega
      refine Ev.step (fun k => by simp only [spec_l12Before.l0]; rfl) (Ev.ite_true hlt' ?_)
      rw [decide_eq_false h']
      refine Ev.step (fun k => by simp only [spec_l12Before.j1]; rfl) ?_
      refine Ev.ite_false (by simp) ?_
      rw [List.drop_of_length_le (l := b) (by omega)]
      have : ¬ (a.length : Int) < b.length := by omega
      simp only [cmpL, this, decide_false]
      exact Ev.now _
theorem before_ev (a b : List Int) (ha : a.length ≤ 1048576) (hb : b.length ≤ 1048576) : Ev (fun k => spec_l12Before.f k a b) (decide (cmpL a b < 0)) := by
  simp only [spec_l12Before.f]
  exact before_l0 a b ha hb a.length 0 (by omega) (by omega)
theorem cmpL_lt_irr (p : List Int) : ¬ cmpL p p < 0 := by rw [cmpL_self]; omega
theorem ltL_of {p q : List Int} (h : LeL p q) (hne : p ≠ q) : cmpL p q < 0 := by
  unfold LeL at h
  by_cases e : cmpL p q = 0
  · exact absurd (cmpL_zero p q e) hne
  · omega
theorem ltL_trans {p q r : List Int} (h1 : cmpL p q < 0) (h2 : LeL q r) : cmpL p r < 0 := by
  refine ltL_of (LeL_trans (LeL_of_lt h1) h2) (fun e => ?_)
  subst e
  unfold LeL at h2
  rw [cmpL_anti] at h2
  omega

theorem l2Same_l0 (a b : List Int) (hl : a.length ≤ 1048576) (hab : a.length = b.length) (d : Nat) : ∀ (i : Nat), i + d = a.length → a.take i = b.take i → Ev (fun k => spec_l2Same.l0 k a b i) (decide (a = b)) := by
  induction d with
  | zero =>
    intro i hi ht
    refine Ev.step (fun k => by simp only [spec_l2Same.l0]; rfl) (Ev.ite_false (by omega) ?_)
    obtain rfl : i = a.length := by omega
    rw [List.take_of_length_le (by omega), List.take_of_length_le (by omega)] at ht
    rw [decide_eq_true ht]; exact Ev.now _
  | succ d ih =>
    intro i hi ht
    have hlt : i < a.length := by omega
    have hlt' : i < b.length := by omega
    have w1 : wrap64 ((i : Int) + 1) = ((i + 1 : Nat) : Int) := wr1 (by omega)
    refine Ev.step (fun k => by simp only [spec_l2Same.l0]; rfl) (Ev.ite_true (by omega) (Ev.ite_true (Int.natCast_nonneg _) (Ev.ite_true (by omega) ?_)))
    rw [w1, rd_nat a i hlt, rd_nat b i hlt']
    by_cases h : a[i] = b[i]
    · refine Ev.ite_true h (ih (i + 1) (by omega) ?_)
      rw [List.take_succ_eq_append_getElem hlt, List.take_succ_eq_append_getElem hlt', ht, h]
    · refine Ev.ite_false h ?_
      rw [decide_eq_false (by intro e; subst e; exact h rfl)]; exact Ev.now _
theorem l2Same_ev (a b : List Int) (hl : a.length ≤ 1048576) : Ev (fun k => spec_l2Same.f k a b) (decide (a = b)) := by
  simp only [spec_l2Same.f]
  by_cases h : (a.length : Int) = (b.length : Int)
  · exact Ev.ite_true h (l2Same_l0 a b hl (by omega) a.length 0 (by omega) (by simp))
  · refine Ev.ite_false h ?_
    rw [decide_eq_false (by intro e; subst e; exact h rfl)]; exact Ev.now _

/-! Terms in order, each partition once, none with factor 0, told by a function (Rep); spec.l28Put keeps them. -/
theorem rdT_nat (l : List S33) (i : Nat) (h : i < l.length) : rd_T33 l (i : Int) = l[i] := by
  simp [rd_T33, List.getD_eq_getElem?_getD, h]
theorem rdL_nat (l : List (List Int)) (i : Nat) (h : i < l.length) : rd_L1 l (i : Int) = l[i] := by
  simp [rd_L1, List.getD_eq_getElem?_getD, h]
def Desc (l : List S33) : Prop := l.Pairwise fun x y => cmpL y.f0 x.f0 < 0
theorem Desc.app {a b : List S33} : Desc (a ++ b) ↔ Desc a ∧ Desc b ∧ ∀ x ∈ a, ∀ y ∈ b, cmpL y.f0 x.f0 < 0 := List.pairwise_append
theorem desc_eq : ∀ {a b : List S33}, Desc a → Desc b → (∀ x, x ∈ a ↔ x ∈ b) → a = b
  | [], [], _, _, _ => rfl
  | [], y :: b, _, _, h => absurd ((h y).2 List.mem_cons_self) (by simp)
  | x :: a, [], _, _, h => absurd ((h x).1 List.mem_cons_self) (by simp)
  | x :: a, y :: b, ha, hb, h => by
    unfold Desc at ha hb
    rw [List.pairwise_cons] at ha hb
    have e : x = y := by
      rcases List.mem_cons.1 ((h x).1 List.mem_cons_self) with e | e
      · exact e
      · rcases List.mem_cons.1 ((h y).2 List.mem_cons_self) with e2 | e2
        · exact e2.symm
        · have q1 := hb.1 x e
          have q2 := ha.1 y e2
          rw [cmpL_anti] at q2
          omega
    subst e
    have nx : ∀ z, (z ∈ a → z ≠ x) := fun z hz e => by
      subst e
      exact cmpL_lt_irr _ (ha.1 z hz)
    have ny : ∀ z, (z ∈ b → z ≠ x) := fun z hz e => by
      subst e
      exact cmpL_lt_irr _ (hb.1 z hz)
    rw [desc_eq ha.2 hb.2 (fun z => ⟨fun hz => ((List.mem_cons.1 ((h z).1 (List.mem_cons_of_mem _ hz))).resolve_left (nx z hz)), fun hz => ((List.mem_cons.1 ((h z).2 (List.mem_cons_of_mem _ hz))).resolve_left (ny z hz))⟩)]
theorem S33_eq {y : S33} {a : List Int} {b : Int} (h0 : y.f0 = a) (h1 : y.f1 = b) : y = (⟨a, b⟩ : S33) := by
  cases y; simp only at h0 h1; rw [h0, h1]
structure Rep (l : List S33) (F : List Int → Int) : Prop where
  ord : Desc l
  mem : ∀ x, x ∈ l ↔ (x.f1 = F x.f0 ∧ x.f1 ≠ 0)
theorem Rep.uniq {a b : List S33} {F : List Int → Int} (ha : Rep a F) (hb : Rep b F) : a = b := desc_eq ha.ord hb.ord (fun x => (ha.mem x).trans (hb.mem x).symm)
def addF (F : List Int → Int) (q : List Int) (f : Int) : List Int → Int := fun z => F z + if q = z then f else 0
theorem addF_same (F : List Int → Int) {q z : List Int} (f : Int) (h : q = z) : addF F q f z = F z + f := by simp [addF, h]
theorem addF_other (F : List Int → Int) {q z : List Int} (f : Int) (h : q ≠ z) : addF F q f z = F z := by simp [addF, h]
def tot (l : List S33) : Int := (l.map S33.f1).sum
theorem tot_app (a b : List S33) : tot (a ++ b) = tot a + tot b := by simp [tot, List.sum_append]
theorem tot_cons (x : S33) (b : List S33) : tot (x :: b) = x.f1 + tot b := by simp [tot]
theorem Rep.merge {a b : List S33} {x : S33} {F : List Int → Int} (h : Rep (a ++ x :: b) F) (h0 : ∀ z, 0 ≤ F z) {f : Int} (hf : 1 ≤ f) : Rep (a ++ (⟨x.f0, x.f1 + f⟩ : S33) :: b) (addF F x.f0 f) := by
  have ho := h.ord
  rw [Desc.app] at ho
  obtain ⟨o1, o2, o3⟩ := ho
  unfold Desc at o2
  rw [List.pairwise_cons] at o2
  obtain ⟨o4, o5⟩ := o2
  have hx := (h.mem x).1 (List.mem_append_right _ List.mem_cons_self)
  have hx0 := h0 x.f0
  have na : ∀ y ∈ a, x.f0 ≠ y.f0 := fun y hy e => by
    have := o3 y hy x List.mem_cons_self
    rw [e] at this
    exact cmpL_lt_irr _ this
  have nb : ∀ y ∈ b, x.f0 ≠ y.f0 := fun y hy e => by
    have := o4 y hy
    rw [e] at this
    exact cmpL_lt_irr _ this
  refine ⟨?_, fun y => ⟨fun hy => ?_, fun hy => ?_⟩⟩
  · rw [Desc.app]
    refine ⟨o1, List.pairwise_cons.2 ⟨fun y hy => o4 y hy, o5⟩, fun y hy z hz => ?_⟩
    rcases List.mem_cons.1 hz with rfl | hz
    · exact o3 y hy x List.mem_cons_self
    · exact o3 y hy z (List.mem_cons_of_mem _ hz)
  · rcases List.mem_append.1 hy with hy | hy
    · rw [addF_other _ _ (na y hy)]
      exact (h.mem y).1 (List.mem_append_left _ hy)
    · rcases List.mem_cons.1 hy with rfl | hy
      · rw [addF_same _ _ rfl]
        exact ⟨by show x.f1 + f = _; rw [hx.1], by show x.f1 + f ≠ 0; omega⟩
      · rw [addF_other _ _ (nb y hy)]
        exact (h.mem y).1 (List.mem_append_right _ (List.mem_cons_of_mem _ hy))
  · by_cases e : x.f0 = y.f0
    · rw [addF_same _ _ e] at hy
      have e2 : y = (⟨x.f0, x.f1 + f⟩ : S33) := S33_eq e.symm (by rw [hy.1, hx.1, e])
      rw [e2]
      exact List.mem_append_right _ List.mem_cons_self
    · rw [addF_other _ _ e] at hy
      rcases List.mem_append.1 ((h.mem y).2 hy) with h1 | h1
      · exact List.mem_append_left _ h1
      · rcases List.mem_cons.1 h1 with rfl | h1
        · exact absurd rfl e
        · exact List.mem_append_right _ (List.mem_cons_of_mem _ h1)
theorem Rep.insert {a b : List S33} {p : List Int} {F : List Int → Int} (h : Rep (a ++ b) F) {f : Int} (hf : 1 ≤ f) (ha : ∀ x ∈ a, cmpL p x.f0 < 0) (hb : ∀ x ∈ b, cmpL x.f0 p < 0) : Rep (a ++ (⟨p, f⟩ : S33) :: b) (addF F p f) := by
  have ho := h.ord
  rw [Desc.app] at ho
  obtain ⟨o1, o2, o3⟩ := ho
  have hne : ∀ x ∈ a ++ b, p ≠ x.f0 := fun x hx e => by
    rcases List.mem_append.1 hx with hx | hx
    · have := ha x hx; rw [e] at this; exact cmpL_lt_irr _ this
    · have := hb x hx; rw [e] at this; exact cmpL_lt_irr _ this
  have hp : F p = 0 := by
    by_cases e : F p = 0
    · exact e
    · exact absurd rfl (hne (⟨p, F p⟩ : S33) ((h.mem _).2 ⟨rfl, e⟩))
  have split : ∀ x, x ∈ a ++ (⟨p, f⟩ : S33) :: b → x = (⟨p, f⟩ : S33) ∨ x ∈ a ++ b := fun x hx => by
    rcases List.mem_append.1 hx with hx | hx
    · exact .inr (List.mem_append_left _ hx)
    · rcases List.mem_cons.1 hx with rfl | hx
      · exact .inl rfl
      · exact .inr (List.mem_append_right _ hx)
  refine ⟨?_, fun x => ⟨fun hx => ?_, fun hx => ?_⟩⟩
  · rw [Desc.app]
    refine ⟨o1, List.pairwise_cons.2 ⟨fun y hy => hb y hy, o2⟩, fun y hy z hz => ?_⟩
    rcases List.mem_cons.1 hz with rfl | hz
    · exact ha y hy
    · exact o3 y hy z hz
  · rcases split x hx with rfl | hx
    · rw [addF_same _ _ rfl]
      exact ⟨by show f = F p + f; omega, by show f ≠ 0; omega⟩
    · rw [addF_other _ _ (hne x hx)]
      exact (h.mem x).1 hx
  · by_cases e : p = x.f0
    · rw [addF_same _ _ e] at hx
      have e2 : x = (⟨p, f⟩ : S33) := S33_eq e.symm (by rw [hx.1, ← e, hp]; omega)
      rw [e2]
      exact List.mem_append_right _ List.mem_cons_self
    · rw [addF_other _ _ e] at hx
      rcases List.mem_append.1 ((h.mem x).2 hx) with h1 | h1
      · exact List.mem_append_left _ h1
      · exact List.mem_append_right _ (List.mem_cons_of_mem _ h1)
theorem put_l0 {cur : List S33} {p : List Int} {f T : Int} {F : List Int → Int} (hc : Rep cur F) (h0 : ∀ z, 0 ≤ F z ∧ F z ≤ T) (hf : 1 ≤ f) (hT : T + f ≤ 1000000000000000) (hl : ∀ x ∈ cur, x.f0.length ≤ 1048576) (hp : p.length ≤ 1048576) (hlen : cur.length ≤ 1000000000) : ∀ (i : Nat), i ≤ cur.length → (∀ x ∈ cur.drop i, cmpL x.f0 p < 0) →
    ∃ r : List S33, Ev (fun k => spec_l28Put.l0 k cur p f (i : Int)) r ∧ Rep r (addF F p f) ∧ tot r = tot cur + f ∧ r.length ≤ cur.length + 1
  | 0, _, hd => by
    have h0 : ¬ ((0 : Nat) : Int) > 0 := by omega
    refine ⟨(⟨p, f⟩ : S33) :: cur, Ev.step (fun k => by rw [spec_l28Put.l0]) (Ev.ite_false h0 ?_), ?_, by rw [tot_cons]; show f + tot cur = _; omega, by simp⟩
    · simp only [spec_l28Put.fin, if_neg h0, spec_l28Put.put]
      rw [if_pos (by omega)]
      simpa using Ev.now _
    · have := Rep.insert (a := []) (b := cur) (p := p) (by simpa using hc) hf (fun x hx => (by cases hx)) (by simpa using hd)
      simpa using this
  | i + 1, hi, hd => by
    have hlt : i < cur.length := by omega
    have hx := hl _ (List.getElem_mem hlt)
    have w : wrap64 (((i + 1 : Nat) : Int) - 1) = (i : Int) := by unfold wrap64; omega
    have hb := before_ev cur[i].f0 p hx hp
    have h1 : ((i + 1 : Nat) : Int) > 0 := by omega
    have sp : cur.drop i = cur[i] :: cur.drop (i + 1) := List.drop_eq_getElem_cons hlt
    by_cases c : cmpL cur[i].f0 p < 0
    · obtain ⟨r, r1, r2⟩ := put_l0 hc h0 hf hT hl hp hlen i (by omega) (fun x hx => by
        rw [sp] at hx
        rcases List.mem_cons.1 hx with rfl | hx
        · exact c
        · exact hd x hx)
      refine ⟨r, Ev.step (fun k => by rw [spec_l28Put.l0]) (Ev.ite_true h1 ?_), r2⟩
      rw [w]
      refine Ev.ite_true (by omega) (Ev.ite_true (by omega) ?_)
      rw [rdT_nat cur i hlt]
      exact Ev.bind hb (Ev.ite_true (by simpa using c) r1)
    · have hs := l2Same_ev cur[i].f0 p hx
      have cat : cur = cur.take i ++ cur[i] :: cur.drop (i + 1) := by rw [← sp, List.take_append_drop]
      have tcat : tot cur = tot (cur.take i) + (cur[i].f1 + tot (cur.drop (i + 1))) := by
        conv => lhs; rw [cat]
        rw [tot_app, tot_cons]
      by_cases e : cur[i].f0 = p
      · have hv := (hc.mem cur[i]).1 (List.getElem_mem hlt)
        have hv0 := h0 cur[i].f0
        have ww : wrap64 (cur[i].f1 + f) = cur[i].f1 + f := by
          rw [← hv.1] at hv0
          unfold wrap64; omega
        refine ⟨cur.set i (⟨cur[i].f0, wrap64 (cur[i].f1 + f)⟩ : S33), Ev.step (fun k => by rw [spec_l28Put.l0]) (Ev.ite_true h1 ?_), ?_, ?_, by simp⟩
        · rw [w]
          refine Ev.ite_true (by omega) (Ev.ite_true (by omega) ?_)
          rw [rdT_nat cur i hlt]
          refine Ev.bind hb (Ev.ite_false (by simpa using c) ?_)
          simp only [spec_l28Put.fin, w]
          refine Ev.ite_true h1 (Ev.ite_true (by omega) (Ev.ite_true (by omega) ?_))
          rw [rdT_nat cur i hlt, Int.toNat_natCast]
          exact Ev.bind hs (Ev.ite_true (by simpa using e) (Ev.now _))
        · rw [List.set_eq_take_append_cons_drop, if_pos hlt, ww, ← e]
          exact Rep.merge (by rw [← cat]; exact hc) (fun z => (h0 z).1) hf
        · rw [List.set_eq_take_append_cons_drop, if_pos hlt, ww, tot_app, tot_cons, tcat]
          show tot (cur.take i) + (cur[i].f1 + f + tot (cur.drop (i + 1))) = _
          omega
      · have hgt : cmpL p cur[i].f0 < 0 := ltL_of (LeL_of_not c) (fun h => e h.symm)
        refine ⟨(cur.take (i + 1) ++ [(⟨p, f⟩ : S33)]) ++ cur.drop (i + 1), Ev.step (fun k => by rw [spec_l28Put.l0]) (Ev.ite_true h1 ?_), ?_, ?_, by simp; omega⟩
        · rw [w]
          refine Ev.ite_true (by omega) (Ev.ite_true (by omega) ?_)
          rw [rdT_nat cur i hlt]
          refine Ev.bind hb (Ev.ite_false (by simpa using c) ?_)
          simp only [spec_l28Put.fin, w]
          refine Ev.ite_true h1 (Ev.ite_true (by omega) (Ev.ite_true (by omega) ?_))
          rw [rdT_nat cur i hlt]
          refine Ev.bind hs (Ev.ite_false (by simpa using e) ?_)
          simp only [spec_l28Put.put]
          rw [if_pos (by omega), Int.toNat_natCast]
          exact Ev.now _
        · rw [List.append_assoc, List.singleton_append]
          refine Rep.insert (by rw [List.take_append_drop]; exact hc) hf (fun x hx => ?_) hd
          have ho := hc.ord
          rw [cat, Desc.app] at ho
          rw [List.take_succ_eq_append_getElem hlt] at hx
          rcases List.mem_append.1 hx with hx | hx
          · exact ltL_trans hgt (LeL_of_lt (ho.2.2 x hx _ List.mem_cons_self))
          · rw [List.mem_singleton.1 hx]; exact hgt
        · have tk : tot cur = tot (cur.take (i + 1)) + tot (cur.drop (i + 1)) := by rw [← tot_app, List.take_append_drop]
          have t1 : tot [(⟨p, f⟩ : S33)] = f := by simp [tot]
          rw [tot_app, tot_app, t1, tk]; omega
theorem put_ev {cur : List S33} {p : List Int} {f T : Int} {F : List Int → Int} (hc : Rep cur F) (h0 : ∀ z, 0 ≤ F z ∧ F z ≤ T) (hf : 1 ≤ f) (hT : T + f ≤ 1000000000000000) (hl : ∀ x ∈ cur, x.f0.length ≤ 1048576) (hp : p.length ≤ 1048576) (hlen : cur.length ≤ 1000000000) :
    ∃ r : List S33, Ev (fun k => spec_l28Put.f k cur p f) r ∧ Rep r (addF F p f) ∧ tot r = tot cur + f ∧ r.length ≤ cur.length + 1 := by
  simp only [spec_l28Put.f]
  exact put_l0 hc h0 hf hT hl hp hlen cur.length (Nat.le_refl _) (fun x hx => by rw [List.drop_of_length_le (Nat.le_refl _)] at hx; cases hx)

/-! The steps of a partition: spec.RemoveBox/AddBox row by row, impl.stepped all at once (a finite check). -/
def stpS (p : List Int) (up : Bool) (i : Nat) : Option (List Int) := match (if up = true then spec_AddBox.f 100 p (i : Int) else spec_RemoveBox.f 100 p (i : Int)) with
  | some (q, true) => some q
  | _ => none
def stps (p : List Int) (up : Bool) : List (List Int) := (List.range' 0 (p.length + 1)).filterMap (stpS p up)
def sgn (up : Bool) : Int := if up = true then 1 else -1
def stepB1 (up : Bool) (p : List Int) : Bool :=
  (List.range' 0 (p.length + 1)).all (fun i => (spec_RemoveBox.f 100 p (i : Int)).isSome && (spec_AddBox.f 100 p (i : Int)).isSome) &&
  (decide (impl_stepped.f 100 p up = some (stps p up)) && (stps p up).all (fun q => pok q && (isP q && decide (q.sum = p.sum + sgn up))))
def stepB (p : List Int) : Bool := stepB1 true p && stepB1 false p
set_option maxRecDepth 100000 in
theorem stepP0 : ((allP.drop 0).take 10).all stepB = true := by decide +kernel
set_option maxRecDepth 100000 in
theorem stepP10 : ((allP.drop 10).take 10).all stepB = true := by decide +kernel
set_option maxRecDepth 100000 in
theorem stepP20 : ((allP.drop 20).take 10).all stepB = true := by decide +kernel
set_option maxRecDepth 100000 in
theorem stepP30 : ((allP.drop 30).take 10).all stepB = true := by decide +kernel
set_option maxRecDepth 100000 in
theorem stepP40 : ((allP.drop 40).take 10).all stepB = true := by decide +kernel
set_option maxRecDepth 100000 in
theorem stepP50 : ((allP.drop 50).take 10).all stepB = true := by decide +kernel
set_option maxRecDepth 100000 in
theorem stepP60 : ((allP.drop 60).take 10).all stepB = true := by decide +kernel
set_option maxRecDepth 100000 in
theorem stepP70 : ((allP.drop 70).take 10).all stepB = true := by decide +kernel
set_option maxRecDepth 100000 in
theorem stepP80 : ((allP.drop 80).take 10).all stepB = true := by decide +kernel
set_option maxRecDepth 100000 in
theorem stepP90 : ((allP.drop 90).take 10).all stepB = true := by decide +kernel
set_option maxRecDepth 100000 in
theorem stepA : allP.all stepB = true := by
  have e : allP = ((allP.drop 0).take 10 ++ ((allP.drop 10).take 10 ++ ((allP.drop 20).take 10 ++ ((allP.drop 30).take 10 ++ ((allP.drop 40).take 10 ++ ((allP.drop 50).take 10 ++ ((allP.drop 60).take 10 ++ ((allP.drop 70).take 10 ++ ((allP.drop 80).take 10 ++ ((allP.drop 90).take 10 ++ [])))))))))) := by decide +kernel
  rw [e]
  simp only [List.all_append, List.all_nil, Bool.and_true, stepP0, stepP10, stepP20, stepP30, stepP40, stepP50, stepP60, stepP70, stepP80, stepP90]
theorem stepB1_ok {p : List Int} (h : isP p = true) (up : Bool) : stepB1 up p = true := by
  have a := of_all stepA (mem_allP h)
  unfold stepB at a
  rw [Bool.and_eq_true] at a
  cases up
  · exact a.2
  · exact a.1
theorem stepped_ev {p : List Int} (h : isP p = true) (up : Bool) : Ev (fun k => impl_stepped.f k p up) (stps p up) := by
  have a := stepB1_ok h up
  simp only [stepB1, Bool.and_eq_true, decide_eq_true_eq] at a
  exact Ev.of (impl_stepped.mono p up) a.2.1
theorem stps_ok {p : List Int} (h : isP p = true) (up : Bool) {q : List Int} (hq : q ∈ stps p up) : pok q = true ∧ isP q = true ∧ q.sum = p.sum + sgn up := by
  have a := stepB1_ok h up
  simp only [stepB1, Bool.and_eq_true] at a
  have b := List.all_eq_true.1 a.2.2 q hq
  simp only [Bool.and_eq_true, decide_eq_true_eq] at b
  exact ⟨b.1, b.2.1, b.2.2⟩
/-- Both calls answer; what they say of the row is stpS. -/
theorem row_ev {p : List Int} (h : isP p = true) {i : Nat} (hi : i ≤ p.length) : ∃ a b, Ev (fun k => spec_RemoveBox.f k p (i : Int)) a ∧ Ev (fun k => spec_AddBox.f k p (i : Int)) b ∧ (stpS p true i = if b.2 = true then some b.1 else none) ∧ (stpS p false i = if a.2 = true then some a.1 else none) := by
  have a := stepB1_ok h true
  simp only [stepB1, Bool.and_eq_true] at a
  have b := List.all_eq_true.1 a.1 i (List.mem_range'_1.2 ⟨by omega, by omega⟩)
  rw [Bool.and_eq_true] at b
  obtain ⟨x, hx⟩ := Option.isSome_iff_exists.1 b.1
  obtain ⟨y, hy⟩ := Option.isSome_iff_exists.1 b.2
  refine ⟨x, y, Ev.of (spec_RemoveBox.mono p _) hx, Ev.of (spec_AddBox.mono p _) hy, ?_, ?_⟩
  · unfold stpS
    rw [if_pos rfl, hy]
    obtain ⟨q, c⟩ := y
    cases c <;> rfl
  · unfold stpS
    rw [if_neg (by simp), hx]
    obtain ⟨q, c⟩ := x
    cases c <;> rfl
theorem isP_len {p : List Int} (h : isP p = true) : p.length ≤ 9 := isP_length h
/-- The counts behind a list's steps. -/
def rowsF (F : List Int → Int) (S : List (List Int)) (f : Int) : List Int → Int := S.foldl (fun F q => addF F q f) F
def allF (up : Bool) : (List Int → Int) → List S33 → (List Int → Int)
  | F, [] => F
  | F, x :: L => allF up (rowsF F (stps x.f0 up) x.f1) L
/-- The parts of one size, each of them a partition. -/
def Fine (n : Int) (L : List S33) : Prop := ∀ x ∈ L, (isP x.f0 = true ∧ x.f0.sum = n) ∧ 1 ≤ x.f1
def BF (F : List Int → Int) (T : Int) : Prop := ∀ z, 0 ≤ F z ∧ F z ≤ T
theorem BF.add {F : List Int → Int} {T f : Int} (h : BF F T) (hf : 0 ≤ f) (q : List Int) : BF (addF F q f) (T + f) := fun z => by
  have := h z
  unfold addF
  split <;> omega
theorem BF.mono {F : List Int → Int} {T T' : Int} (h : BF F T) (hT : T ≤ T') : BF F T' := fun z => by
  have := h z
  omega
/-- What the counts say where they are not 0. -/
def On (n : Int) (F : List Int → Int) : Prop := ∀ z, F z ≠ 0 → isP z = true ∧ z.sum = n
theorem On.add {n f : Int} {F : List Int → Int} (h : On n F) {q : List Int} (hq : isP q = true ∧ q.sum = n) : On n (addF F q f) := fun z hz => by
  by_cases e : q = z
  · rw [← e]; exact hq
  · rw [addF_other _ _ e] at hz; exact h z hz
theorem Rep.fine {n : Int} {F : List Int → Int} {l : List S33} (h : Rep l F) (ho : On n F) (hb : ∀ z, 0 ≤ F z) : Fine n l := fun x hx => by
  obtain ⟨e1, e2⟩ := (h.mem x).1 hx
  refine ⟨ho _ (by rw [← e1]; exact e2), ?_⟩
  have := hb x.f0
  omega
theorem spec_rows (L : List S33) (up : Bool) (n M : Int) (j : Nat) (hj : j < L.length) (hp : isP L[j].f0 = true ∧ L[j].f0.sum = n) (hf : 1 ≤ L[j].f1) (hM : M ≤ 100000000000000)
    (ih : ∀ (cur : List S33) (F : List Int → Int) (T : Int), Rep cur F → BF F T → On (n + sgn up) F → tot cur ≤ T → cur.length ≤ 20 * (j + 1) → T + 10 * tot (L.drop (j + 1)) ≤ M →
      ∃ r, Ev (fun k => spec_l28Step.l0 k L up cur ((j + 1 : Nat) : Int)) r ∧ Rep r (allF up F (L.drop (j + 1))) ∧ BF (allF up F (L.drop (j + 1))) (T + 10 * tot (L.drop (j + 1))) ∧ On (n + sgn up) (allF up F (L.drop (j + 1))) ∧ tot r ≤ T + 10 * tot (L.drop (j + 1)))
    (hL : L.length ≤ 1000) (hq0 : 0 ≤ tot (L.drop (j + 1))) (d : Nat) : ∀ (i : Nat) (cur : List S33) (F : List Int → Int) (T : Int), i + d = L[j].f0.length + 1 → Rep cur F → BF F T → On (n + sgn up) F → tot cur ≤ T → cur.length ≤ 20 * j + i → T + (d : Int) * L[j].f1 + 10 * tot (L.drop (j + 1)) ≤ M →
    ∃ r, Ev (fun k => spec_l28Step.l1 k L up cur (j : Int) (i : Int)) r ∧ Rep r (allF up (rowsF F ((List.range' i d).filterMap (stpS L[j].f0 up)) L[j].f1) (L.drop (j + 1))) ∧ BF (allF up (rowsF F ((List.range' i d).filterMap (stpS L[j].f0 up)) L[j].f1) (L.drop (j + 1))) (T + (d : Int) * L[j].f1 + 10 * tot (L.drop (j + 1))) ∧ On (n + sgn up) (allF up (rowsF F ((List.range' i d).filterMap (stpS L[j].f0 up)) L[j].f1) (L.drop (j + 1))) ∧ tot r ≤ T + (d : Int) * L[j].f1 + 10 * tot (L.drop (j + 1)) := by
  induction d with
  | zero =>
    intro i cur F T hi hc hb ho ht hl hT
    have h9 := isP_len hp.1
    simp only [Int.natCast_zero, Int.zero_mul, Int.add_zero] at hT ⊢
    obtain ⟨r, r1, r2⟩ := ih cur F T hc hb ho ht (by omega) hT
    refine ⟨r, Ev.step (fun k => by rw [spec_l28Step.l1]) (Ev.ite_true (by omega) (Ev.ite_true (by omega) ?_)), r2⟩
    rw [rdT_nat L j hj]
    refine Ev.ite_false (by omega) ?_
    rw [wr1 (by omega)]
    exact r1
  | succ d ihd =>
    intro i cur F T hi hc hb ho ht hl hT
    have h9 := isP_len hp.1
    have hil : i ≤ L[j].f0.length := by omega
    have hd : ((d + 1 : Nat) : Int) * L[j].f1 = (d : Int) * L[j].f1 + L[j].f1 := by
      rw [Int.natCast_add, Int.add_mul]; simp
    rw [hd] at hT ⊢
    have hd0 : 0 ≤ (d : Int) * L[j].f1 := Int.mul_nonneg (by omega) (by omega)
    obtain ⟨a, b, ha, hbv, ea, eb⟩ := row_ev hp.1 hil
    have hr : List.range' i (d + 1) = i :: List.range' (i + 1) d := rfl
    rw [hr]
    -- no step at this row
    have no : stpS L[j].f0 up i = none → ∃ r, Ev (fun k => spec_l28Step.l1 k L up cur (j : Int) ((i + 1 : Nat) : Int)) r ∧ Rep r (allF up (rowsF F ((i :: List.range' (i + 1) d).filterMap (stpS L[j].f0 up)) L[j].f1) (L.drop (j + 1))) ∧ BF (allF up (rowsF F ((i :: List.range' (i + 1) d).filterMap (stpS L[j].f0 up)) L[j].f1) (L.drop (j + 1))) (T + ((d : Int) * L[j].f1 + L[j].f1) + 10 * tot (L.drop (j + 1))) ∧ On (n + sgn up) (allF up (rowsF F ((i :: List.range' (i + 1) d).filterMap (stpS L[j].f0 up)) L[j].f1) (L.drop (j + 1))) ∧ tot r ≤ T + ((d : Int) * L[j].f1 + L[j].f1) + 10 * tot (L.drop (j + 1)) := by
      intro e
      obtain ⟨r, r1, r2, r3, r4, r5⟩ := ihd (i + 1) cur F T (by omega) hc hb ho ht (by omega) (by omega)
      rw [List.filterMap_cons_none e]
      exact ⟨r, r1, r2, r3.mono (by omega), r4, by omega⟩
    have yes : ∀ q, stpS L[j].f0 up i = some q → ∃ r c, Ev (fun k => spec_l28Put.f k cur q L[j].f1) c ∧ Ev (fun k => spec_l28Step.l1 k L up c (j : Int) ((i + 1 : Nat) : Int)) r ∧ Rep r (allF up (rowsF F ((i :: List.range' (i + 1) d).filterMap (stpS L[j].f0 up)) L[j].f1) (L.drop (j + 1))) ∧ BF (allF up (rowsF F ((i :: List.range' (i + 1) d).filterMap (stpS L[j].f0 up)) L[j].f1) (L.drop (j + 1))) (T + ((d : Int) * L[j].f1 + L[j].f1) + 10 * tot (L.drop (j + 1))) ∧ On (n + sgn up) (allF up (rowsF F ((i :: List.range' (i + 1) d).filterMap (stpS L[j].f0 up)) L[j].f1) (L.drop (j + 1))) ∧ tot r ≤ T + ((d : Int) * L[j].f1 + L[j].f1) + 10 * tot (L.drop (j + 1)) := by
      intro q e
      have hq := stps_ok hp.1 up (q := q) (List.mem_filterMap.2 ⟨i, List.mem_range'_1.2 ⟨by omega, by omega⟩, e⟩)
      have hq9 := isP_len hq.2.1
      have hfine := hc.fine ho (fun z => (hb z).1)
      obtain ⟨c, c1, c2, c3, c4⟩ := put_ev (T := T) hc hb hf (by omega) (fun x hx => by have := isP_len (hfine x hx).1.1; omega) (p := q) (by omega) (by omega)
      obtain ⟨r, r1, r2, r3, r4, r5⟩ := ihd (i + 1) c (addF F q L[j].f1) (T + L[j].f1) (by omega) c2 (hb.add (by omega) q) (ho.add ⟨hq.2.1, by rw [hq.2.2, hp.2]⟩) (by omega) (by omega) (by omega)
      rw [List.filterMap_cons_some e]
      exact ⟨r, c, c1, r1, r2, r3.mono (by omega), r4, by omega⟩
    have start : ∀ {r : List S33} {g : Nat → Option (List S33)}, Ev (fun k => (spec_RemoveBox.f k L[j].f0 (i : Int)).bind fun bt162 => (if up = true then ((spec_AddBox.f k L[j].f0 (i : Int)).bind fun bt167 => (if bt167.2 = true then ((spec_l28Put.f k cur bt167.1 L[j].f1).bind fun t172 => (spec_l28Step.l1 k L up t172 (j : Int) ((i + 1 : Nat) : Int))) else (spec_l28Step.l1 k L up cur (j : Int) ((i + 1 : Nat) : Int)))) else (if bt162.2 = true then ((spec_l28Put.f k cur bt162.1 L[j].f1).bind fun t176 => (spec_l28Step.l1 k L up t176 (j : Int) ((i + 1 : Nat) : Int))) else (spec_l28Step.l1 k L up cur (j : Int) ((i + 1 : Nat) : Int))))) r → Ev (fun k => spec_l28Step.l1 k L up cur (j : Int) (i : Int)) r := by
      intro r g h
      refine Ev.step (fun k => by rw [spec_l28Step.l1]) (Ev.ite_true (by omega) (Ev.ite_true (by omega) ?_))
      rw [rdT_nat L j hj, wr1 (by omega)]
      exact Ev.ite_true (by omega) h
    cases up with
    | true =>
      by_cases hbt : b.2 = true
      · rw [if_pos hbt] at ea
        obtain ⟨r, c, c1, r1, r2⟩ := yes b.1 ea
        exact ⟨r, start (g := fun _ => none) (Ev.bind ha (Ev.ite_true rfl (Ev.bind hbv (Ev.ite_true hbt (Ev.bind c1 r1))))), r2⟩
      · rw [if_neg hbt] at ea
        obtain ⟨r, r1, r2⟩ := no ea
        exact ⟨r, start (g := fun _ => none) (Ev.bind ha (Ev.ite_true rfl (Ev.bind hbv (Ev.ite_false hbt r1)))), r2⟩
    | false =>
      by_cases hat : a.2 = true
      · rw [if_pos hat] at eb
        obtain ⟨r, c, c1, r1, r2⟩ := yes a.1 eb
        exact ⟨r, start (g := fun _ => none) (Ev.bind ha (Ev.ite_false (by simp) (Ev.ite_true hat (Ev.bind c1 r1)))), r2⟩
      · rw [if_neg hat] at eb
        obtain ⟨r, r1, r2⟩ := no eb
        exact ⟨r, start (g := fun _ => none) (Ev.bind ha (Ev.ite_false (by simp) (Ev.ite_false hat r1))), r2⟩

/-! Both sides' step over a whole list. -/
theorem tot_nonneg {n : Int} {L : List S33} (h : Fine n L) : 0 ≤ tot L := by
  induction L with
  | nil => simp [tot]
  | cons x L ih =>
    rw [tot_cons]
    have := ih (fun y hy => h y (List.mem_cons_of_mem _ hy))
    have := (h x List.mem_cons_self).2
    omega
theorem Fine.drop {n : Int} {L : List S33} (h : Fine n L) (j : Nat) : Fine n (L.drop j) := fun x hx => h x (List.mem_of_mem_drop hx)
theorem spec_step_l0 (L : List S33) (up : Bool) (n M : Int) (hM : M ≤ 100000000000000) (hf : Fine n L) (hL : L.length ≤ 1000) (d : Nat) : ∀ (j : Nat), j + d = L.length → ∀ (cur : List S33) (F : List Int → Int) (T : Int), Rep cur F → BF F T → On (n + sgn up) F → tot cur ≤ T → cur.length ≤ 20 * j → T + 10 * tot (L.drop j) ≤ M →
      ∃ r, Ev (fun k => spec_l28Step.l0 k L up cur (j : Int)) r ∧ Rep r (allF up F (L.drop j)) ∧ BF (allF up F (L.drop j)) (T + 10 * tot (L.drop j)) ∧ On (n + sgn up) (allF up F (L.drop j)) ∧ tot r ≤ T + 10 * tot (L.drop j) := by
  induction d with
  | zero =>
    intro j hj cur F T hc hb ho ht hl hT
    rw [List.drop_of_length_le (by omega)]
    simp only [allF, show tot ([] : List S33) = 0 from rfl, Int.mul_zero, Int.add_zero]
    exact ⟨cur, Ev.step (fun k => by rw [spec_l28Step.l0]) (Ev.ite_false (by omega) (Ev.now _)), hc, hb, ho, ht⟩
  | succ d ih =>
    intro j hj cur F T hc hb ho ht hl hT
    have hlt : j < L.length := by omega
    have hx := hf L[j] (List.getElem_mem hlt)
    have hq0 := tot_nonneg (hf.drop (j + 1))
    rw [dropc L j hlt, tot_cons] at hT
    have h9 := isP_len hx.1.1
    have hm : ((L[j].f0.length + 1 : Nat) : Int) * L[j].f1 ≤ 10 * L[j].f1 := Int.mul_le_mul_of_nonneg_right (by omega) (by omega)
    obtain ⟨r, r1, r2, r3, r4, r5⟩ := spec_rows L up n M j hlt hx.1 hx.2 hM (fun c G T' => ih (j + 1) (by omega) c G T') hL hq0 (L[j].f0.length + 1) 0 cur F T (by omega) hc hb ho ht (by omega) (by omega)
    rw [dropc L j hlt, tot_cons]
    have r1' : Ev (fun k => spec_l28Step.l1 k L up cur (j : Int) 0) r := r1
    exact ⟨r, Ev.step (fun k => by rw [spec_l28Step.l0]) (Ev.ite_true (by omega) r1'), r2, r3.mono (by omega), r4, by omega⟩
theorem spec_step (L : List S33) (up : Bool) (n T : Int) (hf : Fine n L) (hL : L.length ≤ 1000) (hT : tot L ≤ T) (hT2 : T ≤ 10000000000000) :
    ∃ r, Ev (fun k => spec_l28Step.f k L up) r ∧ Rep r (allF up (fun _ => 0) L) ∧ BF (allF up (fun _ => 0) L) (10 * T) ∧ On (n + sgn up) (allF up (fun _ => 0) L) ∧ tot r ≤ 10 * T := by
  obtain ⟨r, r1, r2, r3, r4, r5⟩ := spec_step_l0 L up n (10 * T) (by omega) hf hL L.length 0 (by omega) [] (fun _ => 0) 0 ⟨List.Pairwise.nil, fun x => ⟨fun h => (by cases h), fun h => absurd h.1 h.2⟩⟩ (fun z => ⟨Int.le_refl _, Int.le_refl _⟩) (fun z h => absurd rfl h) (by simp [tot]) (by simp) (by rw [List.drop_zero]; omega)
  rw [List.drop_zero] at r2 r3 r4 r5
  simp only [spec_l28Step.f]
  exact ⟨r, r1, r2, r3.mono (by omega), r4, by omega⟩
/-! The program's: a map. -/
theorem adding_f {l0 : List Int} {a : Int} {m : Mt} (h : pok l0 = true) (hm : m.length < 100000) : adding.f l0 a m = some ((l0, wrap64 (mget m l0 + a)) :: m) := by
  unfold adding.f
  rw [if_pos (by rw [Bool.and_eq_true]; exact ⟨h, decide_eq_true hm⟩)]
theorem mget_add {m : Mt} {F : List Int → Int} {T f : Int} (h : ∀ z, mget m z = F z) (hb : BF F T) (hf : 0 ≤ f) (hT : T + f ≤ 1000000000000000) (q : List Int) : ∀ z, mget ((q, wrap64 (mget m q + f)) :: m) z = addF F q f z := fun z => by
  have h1 := h q
  have h2 := hb q
  have h3 : wrap64 (mget m q + f) = F q + f := by rw [h1]; unfold wrap64; omega
  simp only [mget]
  by_cases e : q = z
  · rw [if_pos e, h3, addF_same _ _ e, e]
  · rw [if_neg e, addF_other _ _ e, h z]
/-- What is to come behind a map that says F: the list of terms. -/
def Goes (out : List S33 × Bool) (n2 : Int) (s : ByteArray) (pos : Nat) (G : List Int → Int) : Prop := ∀ m : Mt, (∀ z, mget m z = G z) → m.length ≤ 50000 → Ev (fun k => (impl_termsOf.f k n2 m).bind fun t => impl_WalkTerms.l0 k t n2 s (pos + 1)) out
theorem impl_l2 (L : List S33) (up : Bool) (n2 M : Int) (s : ByteArray) (pos : Nat) (out : List S33 × Bool) (j : Nat) (hj : j < L.length) (hL : L.length ≤ 1000) (p : List Int) (f : Int) (hf : 1 ≤ f) (hM : M ≤ 100000000000000) (S : List (List Int)) (hS : ∀ q ∈ S, pok q = true) (hSl : S.length ≤ 10)
    (next : ∀ (m : Mt) (F : List Int → Int) (T : Int), (∀ z, mget m z = F z) → BF F T → m.length ≤ 20 * (j + 1) → T + 10 * tot (L.drop (j + 1)) ≤ M → Goes out n2 s pos (allF up F (L.drop (j + 1))) → Ev (fun k => impl_WalkTerms.l1 k n2 up m s pos L L.length ((j + 1 : Nat) : Int)) out)
    (hq0 : 0 ≤ tot (L.drop (j + 1))) (d : Nat) : ∀ (i : Nat) (m : Mt) (F : List Int → Int) (T : Int), i + d = S.length → (∀ z, mget m z = F z) → BF F T → m.length ≤ 20 * j + i → T + (d : Int) * f + 10 * tot (L.drop (j + 1)) ≤ M → Goes out n2 s pos (allF up (rowsF F (S.drop i) f) (L.drop (j + 1))) →
      Ev (fun k => impl_WalkTerms.l2 k n2 up m s pos L L.length (j : Int) S S.length (i : Int) p f) out := by
  induction d with
  | zero =>
    intro i m F T hi hm hb hl hT hg
    rw [List.drop_of_length_le (by omega)] at hg
    simp only [Int.natCast_zero, Int.zero_mul, Int.add_zero] at hT
    refine Ev.step (fun k => by rw [impl_WalkTerms.l2]) (Ev.ite_false (by omega) ?_)
    rw [wr1 (by omega)]
    exact next m F T hm hb (by omega) hT hg
  | succ d ih =>
    intro i m F T hi hm hb hl hT hg
    have hlt : i < S.length := by omega
    have hd : ((d + 1 : Nat) : Int) * f = (d : Int) * f + f := by rw [Int.natCast_add, Int.add_mul]; simp
    rw [hd] at hT
    have hd0 : 0 ≤ (d : Int) * f := Int.mul_nonneg (by omega) (by omega)
    have hq := hS S[i] (List.getElem_mem hlt)
    rw [dropc S i hlt] at hg
    have h2 := ih (i + 1) ((S[i], wrap64 (mget m S[i] + f)) :: m) (addF F S[i] f) (T + f) (by omega) (mget_add hm hb (by omega) (by omega) _) (hb.add (by omega) _) (by simp only [List.length_cons]; omega) (by omega) hg
    refine Ev.step (fun k => by rw [impl_WalkTerms.l2]) (Ev.ite_true (by omega) (Ev.ite_true (by omega) (Ev.ite_true (by omega) ?_)))
    rw [rdL_nat S i hlt, adding_f hq (by omega), wr1 (by omega)]
    exact h2
theorem stps_len (p : List Int) (h : isP p = true) (up : Bool) : (stps p up).length ≤ 10 := by
  have h1 := List.length_filterMap_le (stpS p up) (List.range' 0 (p.length + 1))
  have h2 := isP_len h
  unfold stps
  rw [List.length_range'] at h1
  omega
theorem impl_l1 (L : List S33) (up : Bool) (n n2 M : Int) (s : ByteArray) (pos : Nat) (out : List S33 × Bool) (hL : L.length ≤ 1000) (hM : M ≤ 100000000000000) (hf : Fine n L) (d : Nat) : ∀ (j : Nat) (m : Mt) (F : List Int → Int) (T : Int), j + d = L.length → (∀ z, mget m z = F z) → BF F T → m.length ≤ 20 * j → T + 10 * tot (L.drop j) ≤ M → Goes out n2 s pos (allF up F (L.drop j)) →
      Ev (fun k => impl_WalkTerms.l1 k n2 up m s pos L L.length (j : Int)) out := by
  induction d with
  | zero =>
    intro j m F T hj hm hb hl hT hg
    rw [List.drop_of_length_le (by omega)] at hg
    exact Ev.step (fun k => by rw [impl_WalkTerms.l1]) (Ev.ite_false (by omega) (hg m hm (by omega)))
  | succ d ih =>
    intro j m F T hj hm hb hl hT hg
    have hlt : j < L.length := by omega
    have hx := hf L[j] (List.getElem_mem hlt)
    have hq0 := tot_nonneg (hf.drop (j + 1))
    rw [dropc L j hlt, tot_cons] at hT
    rw [dropc L j hlt] at hg
    have h10 := stps_len _ hx.1.1 up
    have hmm : ((stps L[j].f0 up).length : Int) * L[j].f1 ≤ 10 * L[j].f1 := Int.mul_le_mul_of_nonneg_right (by omega) (by omega)
    have h2 := impl_l2 L up n2 M s pos out j hlt hL L[j].f0 L[j].f1 hx.2 hM (stps L[j].f0 up) (fun q hq => (stps_ok hx.1.1 up hq).1) h10 (fun m' F' T' => ih (j + 1) m' F' T' (by omega)) hq0 (stps L[j].f0 up).length 0 m F T (by omega) hm hb (by omega) (by omega) (by simpa [allF] using hg)
    refine Ev.step (fun k => by rw [impl_WalkTerms.l1]) (Ev.ite_true (by omega) (Ev.ite_true (by omega) (Ev.ite_true (by omega) ?_)))
    rw [rdT_nat L j hlt]
    exact Ev.bind (stepped_ev hx.1.1 up) h2

/-! impl.termsOf: the terms of a map; the whole text. -/
theorem sumA : allP.all (fun p => decide (0 ≤ p.sum)) = true := by decide +kernel
theorem isP_sum {p : List Int} (h : isP p = true) : 0 ≤ p.sum := of_decide_eq_true (of_all sumA (mem_allP h))
def descB : List (List Int) → Bool
  | [] => true
  | q :: l => l.all (fun r => decide (cmpL r q < 0)) && descB l
theorem descB_ok : ∀ {l : List (List Int)}, descB l = true → l.Pairwise fun x y => cmpL y x < 0
  | [], _ => List.Pairwise.nil
  | q :: l, h => by
    simp only [descB, Bool.and_eq_true, List.all_eq_true, decide_eq_true_eq] at h
    exact List.pairwise_cons.2 ⟨fun r hr => h.1 r hr, descB_ok h.2⟩
def partsB (n : Nat) : Bool := match impl_PartitionsOf.f 300 (n : Int) with
  | some Q => (descB Q && decide (Q.length ≤ 97)) && (Q.all pok && (allP.filter fun q => decide (q.sum = (n : Int))).all fun q => decide (q ∈ Q))
  | none => false
theorem partsA : (List.range 10).all partsB = true := by decide +kernel
theorem parts_ev {n : Int} (h : n ≤ 9) : ∃ Q : List (List Int), Ev (fun k => impl_PartitionsOf.f k n) Q ∧ (Q.Pairwise fun x y => cmpL y x < 0) ∧ Q.length ≤ 97 ∧ (∀ q ∈ Q, pok q = true) ∧ ∀ q, isP q = true → q.sum = n → q ∈ Q := by
  by_cases h0 : 0 ≤ n
  · obtain ⟨m, rfl⟩ : ∃ m : Nat, n = (m : Int) := ⟨n.toNat, by omega⟩
    have a := of_all partsA (x := m) (List.mem_range.2 (by omega))
    unfold partsB at a
    split at a
    · rename_i Q hQ
      simp only [Bool.and_eq_true, decide_eq_true_eq] at a
      obtain ⟨⟨a1, a2⟩, a3, a4⟩ := a
      refine ⟨Q, Ev.of (impl_PartitionsOf.mono _) hQ, descB_ok a1, a2, List.all_eq_true.1 a3, fun q hq hs => ?_⟩
      exact of_decide_eq_true (List.all_eq_true.1 a4 q (List.mem_filter.2 ⟨mem_allP hq, decide_eq_true hs⟩))
    · cases a
  · refine ⟨[], ?_, List.Pairwise.nil, by simp, fun q hq => (by cases hq), fun q hq hs => ?_⟩
    · simp only [impl_PartitionsOf.f, within_f, Option.bind_some]
      exact Ev.ite_false (by simp; omega) (Ev.now _)
    · have : 0 ≤ q.sum := by
        have := isP_sum hq
        omega
      omega
def term (m : Mt) (q : List Int) : Option S33 := if mget m q = 0 then none else some (⟨q, mget m q⟩ : S33)
theorem getting_f {q : List Int} {m : Mt} (h : pok q = true) : getting.f q m = some (mget m q) := by
  unfold getting.f
  rw [if_pos h]
theorem terms_l0 (m : Mt) (Q : List (List Int)) (hQ : ∀ q ∈ Q, pok q = true) (hl : Q.length ≤ 97) (d : Nat) : ∀ (i : Nat) (out : List S33), i + d = Q.length → out.length ≤ i → Ev (fun k => impl_termsOf.l0 k m out Q Q.length (i : Int)) (out ++ (Q.drop i).filterMap (term m)) := by
  induction d with
  | zero =>
    intro i out hi ho
    rw [List.drop_of_length_le (by omega), List.filterMap_nil, List.append_nil]
    exact Ev.step (fun k => by rw [impl_termsOf.l0]) (Ev.ite_false (by omega) (Ev.now _))
  | succ d ih =>
    intro i out hi ho
    have hlt : i < Q.length := by omega
    refine Ev.step (fun k => by rw [impl_termsOf.l0]) (Ev.ite_true (by omega) (Ev.ite_true (by omega) (Ev.ite_true (by omega) ?_)))
    rw [rdL_nat Q i hlt, getting_f (hQ _ (List.getElem_mem hlt)), wr1 (by omega), dropc Q i hlt]
    simp only [Option.bind_some]
    by_cases c : mget m Q[i] = 0
    · rw [List.filterMap_cons_none (by simp [term, c])]
      exact Ev.ite_true c (ih (i + 1) out (by omega) (by omega))
    · rw [List.filterMap_cons_some (b := (⟨Q[i], mget m Q[i]⟩ : S33)) (by simp [term, c])]
      have h := ih (i + 1) (out ++ [(⟨Q[i], mget m Q[i]⟩ : S33)]) (by omega) (by simp; omega)
      rw [List.append_assoc, List.singleton_append] at h
      exact Ev.ite_false c (Ev.ite_true (by omega) h)
theorem terms_ev {n : Int} (hn : n ≤ 9) {G : List Int → Int} (hG : On n G) : ∃ r : List S33, Rep r G ∧ r.length ≤ 97 ∧ ∀ m : Mt, (∀ z, mget m z = G z) → Ev (fun k => impl_termsOf.f k n m) r := by
  obtain ⟨Q, q1, q2, q3, q4, q5⟩ := parts_ev hn
  let t : List Int → Option S33 := fun q => if G q = 0 then none else some (⟨q, G q⟩ : S33)
  refine ⟨Q.filterMap t, ⟨?_, fun x => ⟨fun hx => ?_, fun hx => ?_⟩⟩, Nat.le_trans (List.length_filterMap_le _ _) q3, fun m hm => ?_⟩
  · unfold Desc
    rw [List.pairwise_filterMap]
    refine q2.imp (fun {a b} hab x hx y hy => ?_)
    have ex : x.f0 = a := by
      by_cases c : G a = 0
      · simp [t, c] at hx
      · simp [t, c] at hx; rw [← hx]
    have ey : y.f0 = b := by
      by_cases c : G b = 0
      · simp [t, c] at hy
      · simp [t, c] at hy; rw [← hy]
    rw [ex, ey]; exact hab
  · obtain ⟨q, hq, e⟩ := List.mem_filterMap.1 hx
    by_cases c : G q = 0
    · simp [t, c] at e
    · simp [t, c] at e
      rw [← e]
      exact ⟨rfl, c⟩
  · refine List.mem_filterMap.2 ⟨x.f0, ?_, ?_⟩
    · have := hG x.f0 (by rw [← hx.1]; exact hx.2)
      exact q5 _ this.1 this.2
    · have c : G x.f0 ≠ 0 := by rw [← hx.1]; exact hx.2
      simp only [t, if_neg c]
      congr 1
      exact (S33_eq rfl hx.1).symm
  · have e : t = term m := by
      funext q
      simp only [t, term, hm q]
    simp only [impl_termsOf.f]
    refine Ev.bind q1 ?_
    have h := terms_l0 m Q q4 q3 Q.length 0 [] (by omega) (by simp)
    rw [List.drop_zero, List.nil_append] at h
    rw [e]
    exact h
def pw (k : Nat) : Int := (10 : Int) ^ k
theorem pw_succ (k : Nat) : pw (k + 1) = 10 * pw k := by unfold pw; rw [Int.pow_succ]; omega
theorem pw_pos (k : Nat) : 1 ≤ pw k := by
  induction k with
  | zero => simp [pw]
  | succ k ih => rw [pw_succ]; omega
theorem pw_le {k : Nat} (h : k ≤ 10) : pw k ≤ 10000000000 := by
  have : ∀ j : Nat, j ≤ 10 → pw j ≤ 10000000000 := by
    intro j hj
    have : (List.range 11).all (fun j => decide (pw j ≤ 10000000000)) = true := by decide
    exact of_decide_eq_true (List.all_eq_true.1 this j (List.mem_range.2 (by omega)))
  exact this k h
/-- One step of both. -/
theorem step_both (s : ByteArray) (pos : Nat) (up : Bool) (n : Int) (L : List S33) (hn : n + sgn up ≤ 9) (hf : Fine n L) (hL : L.length ≤ 97) (hT : tot L ≤ pw pos) (hp : pos ≤ 9) :
    ∃ r : List S33, Fine (n + sgn up) r ∧ r.length ≤ 97 ∧ tot r ≤ pw (pos + 1) ∧ Ev (fun k => spec_l28Step.f k L up) r ∧ ∀ out, Ev (fun k => impl_WalkTerms.l0 k r (n + sgn up) s (pos + 1)) out → Ev (fun k => impl_WalkTerms.l1 k (n + sgn up) up [] s pos L L.length 0) out := by
  have hpw := pw_le (k := pos) (by omega)
  obtain ⟨r, r1, r2, r3, r4, r5⟩ := spec_step L up n (pw pos) hf (by omega) hT (by omega)
  obtain ⟨q, q1, q2, q3⟩ := terms_ev hn r4
  obtain rfl := r2.uniq q1
  refine ⟨r, r2.fine r4 (fun z => (r3 z).1), q2, by rw [pw_succ]; exact r5, r1, fun out ho => ?_⟩
  have h := impl_l1 L up n (n + sgn up) (10 * tot L) s pos out (by omega) (by omega) hf L.length 0 [] (fun _ => 0) 0 (by omega) (fun z => rfl) (fun z => ⟨Int.le_refl _, Int.le_refl _⟩) (by simp) (by rw [List.drop_zero]; omega) (fun m hm _ => by
    rw [List.drop_zero] at hm
    exact Ev.bind (q3 m hm) ho)
  exact h
theorem bt_ud (s : ByteArray) (i : Nat) (h : i < s.size) : bt s (i : Int) = ((s.data.toList[i]'(by simpa using h)).toNat : Int) := by
  unfold bt
  rw [dif_pos (by simpa using h)]
  simp [ByteArray.getElem_eq_getElem_data]
theorem bt_cases {s : ByteArray} (hs : s.data.toList.all ud = true) {i : Nat} (h : i < s.size) : bt s (i : Int) = 117 ∨ bt s (i : Int) = 100 := by
  have a := List.all_eq_true.1 hs (s.data.toList[i]'(by simpa using h)) (List.getElem_mem _)
  rw [bt_ud s i h]
  unfold ud at a
  simp only [Bool.or_eq_true, beq_iff_eq] at a
  omega
theorem text_both (s : ByteArray) (hs : s.data.toList.all ud = true) (h10 : s.size ≤ 10) (d : Nat) : ∀ (pos : Nat) (n : Int) (L : List S33), pos + d = s.size → n ≤ 9 → -(pos : Int) ≤ n → Fine n L → L.length ≤ 97 → tot L ≤ pw pos →
    ∃ r : List S33, ∃ b : Bool, Ev (fun k => spec_WalkTerms.l0 k s L n (pos : Int)) (r, b) ∧ Ev (fun k => impl_WalkTerms.l0 k L n s pos) (r, b) ∧ r.length ≤ 97 ∧ ∀ x ∈ r, x.f0.length ≤ 9 := by
  induction d with
  | zero =>
    intro pos n L hp hn hn2 hf hL hT
    exact ⟨L, true, Ev.step (fun k => by rw [spec_WalkTerms.l0]) (Ev.ite_false (by omega) (Ev.now _)), Ev.step (fun k => by rw [impl_WalkTerms.l0]) (Ev.ite_false (by omega) (Ev.now _)), hL, fun x hx => isP_len (hf x hx).1.1⟩
  | succ d ih =>
    intro pos n L hp hn hn2 hf hL hT
    have hlt : pos < s.size := by omega
    have hc := bt_cases hs hlt
    have one : ∀ (up : Bool) (n2 : Int), n2 = n + sgn up → ∃ r : List S33, ∃ b : Bool, Ev (fun k => if n2 > 9 then (some (([] : List S33), false)) else ((spec_l28Step.f k L up).bind fun t => spec_WalkTerms.l0 k s t n2 ((pos + 1 : Nat) : Int))) (r, b) ∧ Ev (fun k => impl_WalkTerms.j2 k L n2 up s pos) (r, b) ∧ r.length ≤ 97 ∧ ∀ x ∈ r, x.f0.length ≤ 9 := by
      intro up n2 e
      subst e
      have hsg : sgn up = 1 ∨ sgn up = -1 := by cases up <;> simp [sgn]
      by_cases c : n + sgn up > 9
      · exact ⟨[], false, Ev.ite_true c (Ev.now _), Ev.step (fun k => by rw [impl_WalkTerms.j2]) (Ev.ite_true c (Ev.now _)), by simp, fun x hx => (by cases hx)⟩
      · obtain ⟨r, r1, r2, r3, r4, r5⟩ := step_both s pos up n L (by omega) hf hL hT (by omega)
        obtain ⟨o, b, o1, o2, o3⟩ := ih (pos + 1) (n + sgn up) r (by omega) (by omega) (by omega) r1 r2 r3
        exact ⟨o, b, Ev.ite_false c (Ev.bind r4 o1), Ev.step (fun k => by rw [impl_WalkTerms.j2]) (Ev.ite_false c (r5 _ o2)), o3⟩
    rcases hc with hc | hc
    · have w1 : wrap64 ((wrap64 (n + (wrap64 (2 * 1)))) - 1) = n + 1 := by unfold wrap64; omega
      have w2 : wrap64 ((wrap64 (n - 1)) + 2) = n + 1 := by unfold wrap64; omega
      have hb : ((bt s (pos : Int)) == 117) = true := beq_iff_eq.2 hc
      obtain ⟨r, b, o1, o2, o3⟩ := one true (n + 1) rfl
      refine ⟨r, b, Ev.step (fun k => by rw [spec_WalkTerms.l0]) (Ev.ite_true (by clear w1 w2; omega) (Ev.ite_true (by clear w1 w2; omega) ?_)), Ev.step (fun k => by rw [impl_WalkTerms.l0]) (Ev.ite_true hlt (Ev.ite_true (by clear w1 w2; omega) (Ev.ite_true hc ?_))), o3⟩
      · rw [hb]
        simp only [spec_l1Bit.f, if_pos, Option.bind_some, w1]
        rw [wr1 (by clear w1 w2; omega)]
        exact o1
      · rw [hb, w2]
        exact o2
    · have w1 : wrap64 ((wrap64 (n + (wrap64 (2 * 0)))) - 1) = n + -1 := by unfold wrap64; omega
      have w2 : wrap64 (n - 1) = n + -1 := by unfold wrap64; omega
      have hne : ¬ (bt s (pos : Int)) = 117 := by clear w1 w2; omega
      have hb : ((bt s (pos : Int)) == 117) = false := beq_eq_false_iff_ne.2 hne
      obtain ⟨r, b, o1, o2, o3⟩ := one false (n + -1) rfl
      refine ⟨r, b, Ev.step (fun k => by rw [spec_WalkTerms.l0]) (Ev.ite_true (by clear w1 w2; omega) (Ev.ite_true (by clear w1 w2; omega) ?_)), Ev.step (fun k => by rw [impl_WalkTerms.l0]) (Ev.ite_true hlt (Ev.ite_true (by clear w1 w2; omega) (Ev.ite_false hne ?_))), o3⟩
      · rw [hb]
        simp only [spec_l1Bit.f, if_neg (show ¬ (false = true) by decide), Option.bind_some, w1]
        rw [wr1 (by clear w1 w2; omega)]
        exact o1
      · rw [hb, w2]
        exact o2

theorem clone_f (l : List Int) (hl : l.length ≤ 1048576) : slices_Clone_int_int.f l = some l := by
  simp only [slices_Clone_int_int.f, Option.bind_some, List.nil_append, List.length_nil]
  rw [if_pos (by omega)]

theorem specWalk_l0 (s : ByteArray) (hs : s.size ≤ 1048576) (d : Nat) : ∀ (i : Nat), i + d = s.size → (s.data.toList.take i).all ud = true → Ev (fun k => spec_IsWalk.l0 k s (i : Int)) (s.data.toList.all ud && decide (s.size ≤ 10)) := by
  induction d with
  | zero =>
    intro i hi ht
    rw [List.take_of_length_le (by simp; omega)] at ht
    rw [ht, Bool.true_and]
    have e : decide (s.size ≤ 10) = decide ((s.size : Int) ≤ 10) := by
      by_cases c : s.size ≤ 10
      · rw [decide_eq_true c, decide_eq_true (by omega)]
      · rw [decide_eq_false c, decide_eq_false (by omega)]
    rw [e]
    exact Ev.step (fun k => by rw [spec_IsWalk.l0]) (Ev.ite_false (by omega) (Ev.now _))
  | succ d ih =>
    intro i hi ht
    have hlt : i < s.size := by omega
    have hx := bt_ud s i hlt
    have hg : s.data.toList[i]? = some (s.data.toList[i]'(by simpa using hlt)) := List.getElem?_eq_getElem (by simpa using hlt)
    have htk : s.data.toList.take (i + 1) = s.data.toList.take i ++ [s.data.toList[i]'(by simpa using hlt)] := by
      rw [List.take_add_one, hg]; rfl
    have go : ud (s.data.toList[i]'(by simpa using hlt)) = true → Ev (fun k => spec_IsWalk.l0 k s (wrap64 ((i : Int) + 1))) (s.data.toList.all ud && decide (s.size ≤ 10)) := fun hu => by
      rw [wr1 (by omega)]
      exact ih (i + 1) (by omega) (by rw [htk, List.all_append, ht, Bool.true_and, List.all_cons, hu]; rfl)
    refine Ev.step (fun k => by rw [spec_IsWalk.l0]) (Ev.ite_true (by omega) (Ev.ite_true (by omega) ?_))
    by_cases c : bt s (i : Int) = 117
    · refine Ev.ite_true c (go ?_)
      unfold ud
      rw [hx] at c
      simp only [Bool.or_eq_true, beq_iff_eq]
      omega
    · refine Ev.ite_false c ?_
      by_cases c2 : bt s (i : Int) = 100
      · refine Ev.ite_true c2 (go ?_)
        unfold ud
        rw [hx] at c2
        simp only [Bool.or_eq_true, beq_iff_eq]
        omega
      · refine Ev.ite_false c2 ?_
        have hu : ud (s.data.toList[i]'(by simpa using hlt)) = false := by
          unfold ud
          rw [hx] at c c2
          simp only [Bool.or_eq_false_iff, beq_eq_false_iff_ne]
          omega
        have hall : s.data.toList.all ud = false := by
          rw [List.all_eq_false]
          exact ⟨s.data.toList[i]'(by simpa using hlt), List.getElem_mem _, by rw [hu]; exact Bool.false_ne_true⟩
        rw [hall]
        exact Ev.now _
def walkB (s : ByteArray) : Bool := s.data.toList.all ud && decide (s.size ≤ 10)
theorem specWalk_ev (s : ByteArray) (hs : s.size ≤ 1048576) : Ev (fun k => spec_IsWalk.f k s) (walkB s) := by
  simp only [spec_IsWalk.f]
  exact specWalk_l0 s hs s.size 0 (by omega) (by simp)
theorem implWalk_f (s : ByteArray) (hs : s.size ≤ 1048576) : impl_IsWalk.f s = some (walkB s) := by
  unfold impl_IsWalk.f
  rw [if_pos hs]; rfl
theorem fine_one {p : List Int} (h : isP p = true) : Fine p.sum [(⟨p, 1⟩ : S33)] := fun x hx => by
  rw [List.mem_singleton.1 hx]
  exact ⟨⟨h, rfl⟩, Int.le_refl 1⟩
theorem sum9 : allP.all (fun p => decide (p.sum ≤ 9)) = true := by decide +kernel
theorem walk_both (p : List Int) (hp : p.length ≤ 1048576) (s : ByteArray) (hs : s.size ≤ 1048576) :
    ∃ r : List S33, ∃ b : Bool, Ev (fun k => spec_WalkTerms.f k p s) (r, b) ∧ Ev (fun k => impl_WalkTerms.f k p s) (r, b) ∧ r.length ≤ 97 ∧ ∀ x ∈ r, x.f0.length ≤ 9 := by
  by_cases h : isP p = true ∧ walkB s = true
  · obtain ⟨h1, h2⟩ := h
    have hw := h2
    unfold walkB at hw
    rw [Bool.and_eq_true, decide_eq_true_eq] at hw
    have h9 := of_decide_eq_true (of_all sum9 (mem_allP h1))
    have h0 := isP_sum h1
    have hl := isP_len h1
    obtain ⟨r, b, o1, o2, o3⟩ := text_both s hw.1 hw.2 s.size 0 p.sum [(⟨p, 1⟩ : S33)] (by omega) h9 (by omega) (fine_one h1) (by simp) (by simp [tot, pw])
    refine ⟨r, b, ?_, ?_, o3⟩
    · simp only [spec_WalkTerms.f]
      refine Ev.bind (specIsP_ev p hp) (Ev.ite_true h1 (Ev.bind (specWalk_ev s hs) ?_))
      rw [h2]
      refine Ev.step (fun k => by rw [spec_WalkTerms.j0]) (Ev.ite_false (by decide) ?_)
      simp only [Option.bind_some, List.nil_append, List.length_nil, Nat.zero_add]
      exact Ev.ite_true (by omega) (Ev.bind (specL2_ev h1) o1)
    · simp only [impl_WalkTerms.f, implWalk_f s hs, Option.bind_some]
      refine Ev.bind (implIsP_ev p hp) (Ev.ite_true h1 ?_)
      rw [h2]
      refine Ev.step (fun k => by rw [impl_WalkTerms.j0]) (Ev.ite_false (by decide) ?_)
      rw [clone_f p hp]
      simp only [Option.bind_some]
      exact Ev.bind (implSum_ev h1) o2
  · refine ⟨[], false, ?_, ?_, by simp, fun x hx => (by cases hx)⟩
    · simp only [spec_WalkTerms.f]
      refine Ev.bind (specIsP_ev p hp) ?_
      by_cases h1 : isP p = true
      · have h2 : walkB s = false := Bool.eq_false_iff.2 (fun e => h ⟨h1, e⟩)
        refine Ev.ite_true h1 (Ev.bind (specWalk_ev s hs) ?_)
        rw [h2]
        exact Ev.step (fun k => by rw [spec_WalkTerms.j0]) (Ev.ite_true (by decide) (Ev.now _))
      · exact Ev.ite_false h1 (Ev.step (fun k => by rw [spec_WalkTerms.j0]) (Ev.ite_true rfl (Ev.now _)))
    · simp only [impl_WalkTerms.f, implWalk_f s hs, Option.bind_some]
      refine Ev.bind (implIsP_ev p hp) ?_
      by_cases h1 : isP p = true
      · have h2 : walkB s = false := Bool.eq_false_iff.2 (fun e => h ⟨h1, e⟩)
        refine Ev.ite_true h1 ?_
        rw [h2]
        exact Ev.step (fun k => by rw [impl_WalkTerms.j0]) (Ev.ite_true (by decide) (Ev.now _))
      · exact Ev.ite_false h1 (Ev.step (fun k => by rw [impl_WalkTerms.j0]) (Ev.ite_true rfl (Ev.now _)))
/-- The factor of the first term of a partition. -/
def cw (q : List Int) : List S33 → Int
  | [] => 0
  | x :: l => if x.f0 = q then x.f1 else cw q l
theorem specCount_l0 (q : List Int) (l : List S33) (hl : l.length ≤ 97) (h9 : ∀ x ∈ l, x.f0.length ≤ 9) (d : Nat) : ∀ (i : Nat), i + d = l.length → Ev (fun k => spec_CountWalks.l0 k q l (i : Int)) (cw q (l.drop i)) := by
  induction d with
  | zero =>
    intro i hi
    rw [List.drop_of_length_le (by omega)]
    show Ev _ (0 : Int)
    exact Ev.step (fun k => by rw [spec_CountWalks.l0]) (Ev.ite_false (by omega) (Ev.now _))
  | succ d ih =>
    intro i hi
    have hlt : i < l.length := by omega
    have hx := h9 _ (List.getElem_mem hlt)
    refine Ev.step (fun k => by rw [spec_CountWalks.l0]) (Ev.ite_true (by omega) (Ev.ite_true (by omega) ?_))
    rw [rdT_nat l i hlt, wr1 (by omega), dropc l i hlt]
    refine Ev.bind (l2Same_ev l[i].f0 q (by omega)) ?_
    by_cases c : l[i].f0 = q
    · rw [cw, if_pos c]
      exact Ev.ite_true (by simpa using c) (Ev.now _)
    · rw [cw, if_neg c]
      exact Ev.ite_false (by simpa using c) (ih (i + 1) (by omega))
theorem index_l0 (q : List Int) (l : List S33) (hl : l.length ≤ 97) (h9 : ∀ x ∈ l, x.f0.length ≤ 9) (d : Nat) : ∀ (i : Nat), i + d = l.length →
    (Ev (fun k => slices_IndexFunc_Term__impl_CountWalks_1.l0 k l l.length (i : Int) q) (-1) ∧ cw q (l.drop i) = 0) ∨ ∃ j : Nat, ∃ h : j < l.length, Ev (fun k => slices_IndexFunc_Term__impl_CountWalks_1.l0 k l l.length (i : Int) q) (j : Int) ∧ cw q (l.drop i) = l[j].f1 := by
  induction d with
  | zero =>
    intro i hi
    rw [List.drop_of_length_le (by omega)]
    exact .inl ⟨Ev.step (fun k => by rw [slices_IndexFunc_Term__impl_CountWalks_1.l0]) (Ev.ite_false (by omega) (Ev.now _)), rfl⟩
  | succ d ih =>
    intro i hi
    have hlt : i < l.length := by omega
    have hx := h9 _ (List.getElem_mem hlt)
    have test : Ev (fun k => impl_CountWalks_1__c.f k l[i].f0 l[i].f1 q) (decide (l[i].f0 = q)) := by
      simp only [impl_CountWalks_1__c.f]
      exact Ev.bind (equal_ev l[i].f0 q (by omega)) (Ev.now _)
    rw [dropc l i hlt]
    by_cases c : l[i].f0 = q
    · refine .inr ⟨i, hlt, Ev.step (fun k => by rw [slices_IndexFunc_Term__impl_CountWalks_1.l0]) (Ev.ite_true (by omega) (Ev.ite_true (by omega) (Ev.ite_true (by omega) ?_))), by rw [cw, if_pos c]⟩
      rw [rdT_nat l i hlt]
      exact Ev.bind test (Ev.ite_true (by simpa using c) (Ev.now _))
    · have on : ∀ r : Int, Ev (fun k => slices_IndexFunc_Term__impl_CountWalks_1.l0 k l l.length ((i + 1 : Nat) : Int) q) r → Ev (fun k => slices_IndexFunc_Term__impl_CountWalks_1.l0 k l l.length (i : Int) q) r := fun r h => by
        refine Ev.step (fun k => by rw [slices_IndexFunc_Term__impl_CountWalks_1.l0]) (Ev.ite_true (by omega) (Ev.ite_true (by omega) (Ev.ite_true (by omega) ?_)))
        rw [rdT_nat l i hlt, wr1 (by omega)]
        exact Ev.bind test (Ev.ite_false (by simpa using c) h)
      rw [cw, if_neg c]
      rcases ih (i + 1) (by omega) with ⟨h1, h2⟩ | ⟨j, hj, h1, h2⟩
      · exact .inl ⟨on _ h1, h2⟩
      · exact .inr ⟨j, hj, on _ h1, h2⟩
theorem same (p q : List Int) (hp : p.length ≤ 1048576) (s : ByteArray) (hs : s.size ≤ 1048576) : ∃ r : Int, Ev (fun k => spec_CountWalks.f k p q s) r ∧ Ev (fun k => impl_CountWalks.f k p q s) r := by
  obtain ⟨l, b, h1, h2, h3, h4⟩ := walk_both p hp s hs
  refine ⟨cw q l, ?_, ?_⟩
  · simp only [spec_CountWalks.f]
    refine Ev.bind h1 ?_
    have h := specCount_l0 q l h3 h4 l.length 0 (by omega)
    rw [List.drop_zero] at h
    exact h
  · simp only [impl_CountWalks.f]
    refine Ev.bind h2 ?_
    rcases index_l0 q l h3 h4 l.length 0 (by omega) with ⟨e1, e2⟩ | ⟨j, hj, e1, e2⟩
    · rw [List.drop_zero] at e2
      have e1' : Ev (fun k => slices_IndexFunc_Term__impl_CountWalks_1.f k l q) (-1) := e1
      refine Ev.bind e1' (Ev.ite_true (by decide) ?_)
      rw [e2]; exact Ev.now _
    · rw [List.drop_zero] at e2
      have e1' : Ev (fun k => slices_IndexFunc_Term__impl_CountWalks_1.f k l q) (j : Int) := e1
      refine Ev.bind e1' (Ev.ite_false (by omega) (Ev.ite_true (by omega) (Ev.ite_true (by show (j : Int) < (l.length : Int); omega) ?_)))
      show Ev (fun k => some (rd_T33 l (j : Int)).f1) _
      rw [rdT_nat l j hj, e2]; exact Ev.now _
theorem FnExactCountWalks : laws_FnExactCountWalks.Pure := by
  intro p q s h1 h2 h3 h4 h5 h6 h7
  apply Ev.rounds
  simp only [laws_FnExactCountWalks.f]
  by_cases hp : p.length ≤ 1048576
  · by_cases hq : q.length ≤ 1048576
    · by_cases hs : s.size ≤ 1048576
      · obtain ⟨r, r1, r2⟩ := same p q hp s hs
        have tp := toIntS_ev p hp
        have tq := toIntS_ev q hq
        have ep := eqIntS_self p hp
        have eq := eqIntS_self q hq
        refine Ev.ite_false (by omega) (Ev.ite_false (by omega) (Ev.ite_false (by omega) ?_))
        exact Ev.bind tp (Ev.bind tq (Ev.bind r1 (Ev.bind tp (Ev.bind tq (Ev.bind r2 (Ev.ite_true rfl (Ev.bind tp (Ev.bind ep (Ev.ite_true rfl (Ev.bind tq (Ev.bind eq (Ev.ite_true rfl (Ev.now _)))))))))))))
      · exact Ev.ite_false (by omega) (Ev.ite_false (by omega) (Ev.ite_true (by omega) (Ev.now _)))
    · exact Ev.ite_false (by omega) (Ev.ite_true (by omega) (Ev.now _))
  · exact Ev.ite_true (by omega) (Ev.now _)

end Go.Proofs.YtneipehcmmigeaaDoor.Pure
