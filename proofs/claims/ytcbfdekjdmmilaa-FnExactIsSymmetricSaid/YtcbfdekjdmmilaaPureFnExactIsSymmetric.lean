/- The program's IsSymmetric answers as the reference's for every polynomial of at most 2^20 monomials and numbers, and leaves its argument alone; above that the law says nothing. No condition. -/
import Derived.Test.YtcbfdekjdmmilaaPFnExactIsSymmetricx10
import Derived.Test.YtcbfdekjdmmilaaWSized
set_option linter.unusedVariables false
set_option linter.unusedSimpArgs false
namespace Go.Proofs.Ytcbfdekjdmmilaa
open Go.ChangeShapes Go.WideShapes
theorem PrintWords.sized_ints {H : Type} {enc : TypeId × Value → H} {P : Program} {W : World} {base : Nat} {spare : Nat → Bool} {held : Bool} {t e : TypeId} {k : IntKind} {a : Option Addr} {len cap : Nat} {d : DataW H} {ps : List MemPlace} {ts : List TypeId} {ds : List (DataW H)} {j : Nat}
    (hsz : (DataW.weightsEach P ts ds).all (· ≤ reachBytes) = true) (ht : ts[j]? = some t) (hd : ds[j]? = some d) (hu : P.underlying t = some (.slice e)) (he : P.underlying e = some (.int k)) (hc : P.cellsOf e = 1) {B : Nat} (hB : P.bytesOf e = B)
    (h : DataW.Trod enc P W base spare held t (.slice a len cap) d ps) : len * B ≤ 140737488351232 :=
  Go.Proofs.YtcbfdekjdmmilaaW.PrintWords.sized_ints hsz ht hd hu he hc hB h
end Go.Proofs.Ytcbfdekjdmmilaa
namespace Go.Proofs.Ytcbfdekjdmmilaa.Pure
open Go.RowKit Go.Proofs.Ytcbfdekjdmmilaa.PFnExactIsSymmetric Go.Proofs.YtcbfdekjdmmilaaW.PrintWords Go.Proofs.YtcbfdekjdmmilaaW.PrintLast

theorem wr_in {x : Int} (h : -9223372036854775808 ≤ x) (h' : x ≤ 9223372036854775807) : wrap64 x = x := by unfold wrap64; omega
theorem wr1 {i : Nat} (h : i < 4611686018427387904) : wrap64 ((i : Int) + 1) = ((i + 1 : Nat) : Int) := by unfold wrap64; omega
theorem Ev.ite_true {α : Type} {c : Prop} [Decidable c] {g f : Nat → Option α} {r : α} (hc : c) (h : Ev g r) : Ev (fun k => if c then g k else f k) r := by
  obtain ⟨K, h⟩ := h
  exact ⟨K, fun k hk => (if_pos hc).trans (h k hk)⟩
theorem Ev.ite_false {α : Type} {c : Prop} [Decidable c] {g f : Nat → Option α} {r : α} (hc : ¬ c) (h : Ev f r) : Ev (fun k => if c then g k else f k) r := by
  obtain ⟨K, h⟩ := h
  exact ⟨K, fun k hk => (if_neg hc).trans (h k hk)⟩
theorem rd_nat (l : List Int) (i : Nat) (h : i < l.length) : rd l (i : Int) = l[i] := by
  simp [rd, List.getD_eq_getElem?_getD, h]
/-- A statement that holds of all members of a list that can be run through. -/
theorem of_all {α : Type} {p : α → Bool} {l : List α} (h : l.all p = true) {x : α} (hx : x ∈ l) : p x = true := List.all_eq_true.mp h x hx
/-- Both answer, and alike. -/
def both {α : Type} [DecidableEq α] (a b : Option α) : Bool := match a, b with
  | some x, some y => decide (x = y)
  | _, _ => false
theorem both_ev {α : Type} [DecidableEq α] {f g : Nat → Option α} (hf : ∀ k, LeO (f k) (f (k + 1))) (hg : ∀ k, LeO (g k) (g (k + 1))) {n m : Nat} (h : both (f n) (g m) = true) : ∃ r, Ev f r ∧ Ev g r := by
  unfold both at h
  split at h
  · rename_i x y hx hy
    have e := of_decide_eq_true h
    subst e
    exact ⟨x, Ev.of hf hx, Ev.of hg hy⟩
  · cases h
theorem take_set_succ {α : Type} (y : List α) (i : Nat) (v : α) (h : i < y.length) : (y.set i v).take (i + 1) = y.take i ++ [v] := by
  rw [List.take_succ_eq_append_getElem (by simpa using h)]
  simp only [List.getElem_set_self]
  congr 1
  apply List.ext_getElem?
  intro j
  simp only [List.getElem?_take, List.getElem?_set]
  by_cases h : j < i
  · rw [if_pos h, if_neg (by omega), if_pos h]
  · rw [if_neg h, if_neg h]

theorem toIntS_l0 (l : List Int) (hl : l.length ≤ 1048576) (d : Nat) : ∀ (i : Nat) (y : List Int) (k : Nat), i + d = l.length → y.length = l.length → y.take i = l.take i → d < k → laws_toIntS.l0 k l y i = some l := by
  induction d with
  | zero =>
    intro i y k hi hy ht hk
    obtain ⟨k, rfl⟩ : ∃ m, k = m + 1 := ⟨k - 1, by omega⟩
    simp only [laws_toIntS.l0]
    rw [if_neg (by omega)]
    obtain rfl : i = l.length := by omega
    rw [List.take_of_length_le (by omega), List.take_of_length_le (by omega)] at ht
    rw [ht]
  | succ d ih =>
    intro i y k hi hy ht hk
    obtain ⟨k, rfl⟩ : ∃ m, k = m + 1 := ⟨k - 1, by omega⟩
    have hlt : i < l.length := by omega
    simp only [laws_toIntS.l0]
    rw [if_pos (by omega), if_pos (by omega), if_pos (by omega), wr1 (by omega), rd_nat l i hlt]
    refine ih (i + 1) _ k (by omega) (by simpa using hy) ?_ (by omega)
    rw [Int.toNat_natCast, take_set_succ y i _ (by omega), ht, List.take_succ_eq_append_getElem hlt]
theorem toIntS_ev (l : List Int) (hl : l.length ≤ 1048576) : Ev (fun k => laws_toIntS.f k l) l := by
  refine ⟨l.length + 1, fun k hk => ?_⟩
  show laws_toIntS.f k l = some l
  unfold laws_toIntS.f
  rw [if_pos (by omega), if_pos (by omega)]
  exact toIntS_l0 l hl l.length 0 _ k (by omega) (by simp) (by simp) (by omega)

theorem eqIntS_l0 (a b : List Int) (hl : a.length ≤ 1048576) (hab : a.length = b.length) (d : Nat) : ∀ (i k : Nat), i + d = a.length → a.take i = b.take i → d < k → laws_eqIntS.l0 k a b i = some (decide (a = b)) := by
  induction d with
  | zero =>
    intro i k hi ht hk
    obtain ⟨k, rfl⟩ : ∃ m, k = m + 1 := ⟨k - 1, by omega⟩
    simp only [laws_eqIntS.l0]
    rw [if_neg (by omega)]
    obtain rfl : i = a.length := by omega
    rw [List.take_of_length_le (by omega), List.take_of_length_le (by omega)] at ht
    rw [decide_eq_true ht]
  | succ d ih =>
    intro i k hi ht hk
    obtain ⟨k, rfl⟩ : ∃ m, k = m + 1 := ⟨k - 1, by omega⟩
    have hlt : i < a.length := by omega
    have hlt' : i < b.length := by omega
    simp only [laws_eqIntS.l0]
    rw [if_pos (by omega), if_pos (by omega), if_pos (by omega), wr1 (by omega), rd_nat a i hlt, rd_nat b i hlt']
    by_cases h : a[i] = b[i]
    · rw [if_pos h]
      refine ih (i + 1) k (by omega) ?_ (by omega)
      rw [List.take_succ_eq_append_getElem hlt, List.take_succ_eq_append_getElem hlt', ht, h]
    · rw [if_neg h, decide_eq_false]
      intro e
      subst e
      exact h rfl
theorem eqIntS_ev (a b : List Int) (hl : a.length ≤ 1048576) : Ev (fun k => laws_eqIntS.f k a b) (decide (a = b)) := by
  refine ⟨a.length + 1, fun k hk => ?_⟩
  show laws_eqIntS.f k a b = _
  unfold laws_eqIntS.f
  by_cases h : (a.length : Int) = (b.length : Int)
  · rw [if_pos h]
    exact eqIntS_l0 a b hl (by omega) a.length 0 k (by omega) (by simp) (by omega)
  · rw [if_neg h, decide_eq_false]
    intro e
    subst e
    exact h rfl
theorem eqIntS_self (a : List Int) (hl : a.length ≤ 1048576) : Ev (fun k => laws_eqIntS.f k a a) true := by
  have h := eqIntS_ev a a hl
  rwa [decide_eq_true rfl] at h

-- Polynomials as a law takes them in: their size, the copy, the copy's comparison with itself.
def conv (m : S76) : S56 := ⟨m.f0, m.f1⟩
def smallM (l : List S76) : Prop := l.length ≤ 1048576 ∧ ∀ m ∈ l, m.f0.length ≤ 1048576
theorem rdT76_nat (l : List S76) (i : Nat) (h : i < l.length) : rd_T76 l (i : Int) = l[i] := by
  simp [rd_T76, List.getD_eq_getElem?_getD, h]
theorem rdT56_nat (l : List S56) (i : Nat) (h : i < l.length) : rd_T56 l (i : Int) = l[i] := by
  simp [rd_T56, List.getD_eq_getElem?_getD, h]
theorem szMonoS_l0 (l : List S76) (hl : l.length ≤ 1048576) (hm : ∀ m ∈ l, m.f0.length ≤ maxLen) (d : Nat) : ∀ (i : Nat) (a : Int), i + d = l.length → 0 ≤ a → a ≤ 1048576 →
    ∃ r : Int, Ev (fun k => laws_szMonoS.l0 k l a i) r ∧ (r < 0 ∨ ∀ m ∈ l.drop i, m.f0.length ≤ 1048576) := by
  induction d with
  | zero =>
    intro i a hi h0 h1
    refine ⟨a, Ev.step (fun k => by simp only [laws_szMonoS.l0]; rfl) (Ev.ite_false (by omega) (Ev.now _)), .inr ?_⟩
    rw [List.drop_of_length_le (by omega)]; simp
  | succ d ih =>
    intro i a hi h0 h1
    have hlt : i < l.length := by omega
    have hlt' : (i : Int) < (l.length : Int) := by omega
    have hx := hm _ (List.getElem_mem hlt)
    unfold maxLen at hx
    have w1 : wrap64 ((i : Int) + 1) = ((i + 1 : Nat) : Int) := wr1 (by omega)
    have w2 : wrap64 (a - (l[i].f0.length : Int)) = a - (l[i].f0.length : Int) := wr_in (by omega) (by omega)
    rw [List.drop_eq_getElem_cons hlt]
    by_cases h : a - (l[i].f0.length : Int) < 0
    · refine ⟨-1, Ev.step (fun k => by simp only [laws_szMonoS.l0, laws_szMono.f, laws_szIntS.f]; rfl) ?_, .inl (by omega)⟩
      rw [rdT76_nat l i hlt, w2, if_pos h]
      simp only [Option.bind_some]
      rw [if_pos (by omega)]
      simp only [Option.bind_some]
      exact Ev.ite_true hlt' (Ev.ite_true (Int.natCast_nonneg _) (Ev.ite_true (by omega) (Ev.now _)))
    · obtain ⟨r, hr, hc⟩ := ih (i + 1) (a - (l[i].f0.length : Int)) (by omega) (by omega) (by omega)
      refine ⟨r, Ev.step (fun k => by simp only [laws_szMonoS.l0, laws_szMono.f, laws_szIntS.f]; rfl) ?_, hc.imp_right fun hc m hm => ?_⟩
      · rw [rdT76_nat l i hlt, w2, if_neg h]
        simp only [Option.bind_some]
        rw [if_neg h, w1]
        simp only [Option.bind_some]
        exact Ev.ite_true hlt' (Ev.ite_true (Int.natCast_nonneg _) (Ev.ite_false h hr))
      · rcases List.mem_cons.1 hm with rfl | hm
        · omega
        · exact hc m hm
theorem szPoly_ev (v : Int) (l : List S76) (hn : l.length ≤ maxLen) (hm : ∀ m ∈ l, m.f0.length ≤ maxLen) : ∃ r : Int, Ev (fun k => laws_szPoly.f k v l 1048576) r ∧ (r < 0 ∨ smallM l) := by
  unfold maxLen at hn
  simp only [laws_szPoly.f, laws_szMonoS.f]
  rw [wr_in (x := 1048576 - (l.length : Int)) (by omega) (by omega)]
  by_cases h : 1048576 - (l.length : Int) < 0
  · exact ⟨-1, Ev.bind (Ev.ite_true h (Ev.now _)) (Ev.ite_true (by omega) (Ev.now _)), .inl (by omega)⟩
  · obtain ⟨r, hr, hc⟩ := szMonoS_l0 l (by omega) hm l.length 0 (1048576 - (l.length : Int)) (by omega) (by omega) (by omega)
    by_cases h0 : r < 0
    · exact ⟨-1, Ev.bind (Ev.ite_false h hr) (Ev.ite_true h0 (Ev.now _)), .inl (by omega)⟩
    · refine ⟨r, Ev.bind (Ev.ite_false h hr) (Ev.ite_false h0 (Ev.now _)), .inr ⟨by omega, ?_⟩⟩
      simpa using hc.resolve_left h0
theorem toMonoS_l0 (l : List S76) (hs : smallM l) (d : Nat) : ∀ (i : Nat) (y : List S56), i + d = l.length → y.length = l.length → y.take i = (l.take i).map conv → Ev (fun k => laws_toMonoS.l0 k l y i) (l.map conv) := by
  obtain ⟨hl, he⟩ := hs
  induction d with
  | zero =>
    intro i y hi hy ht
    obtain rfl : i = l.length := by omega
    rw [List.take_of_length_le (by omega), List.take_of_length_le (by omega)] at ht
    subst ht
    exact Ev.step (fun k => by simp only [laws_toMonoS.l0]; rfl) (Ev.ite_false (by omega) (Ev.now _))
  | succ d ih =>
    intro i y hi hy ht
    have hlt : i < l.length := by omega
    have hlt' : (i : Int) < (l.length : Int) := by omega
    have hlt2 : (i : Int) < (y.length : Int) := by omega
    have hx := he _ (List.getElem_mem hlt)
    have w1 : wrap64 ((i : Int) + 1) = ((i + 1 : Nat) : Int) := wr1 (by omega)
    refine Ev.step (fun k => by simp only [laws_toMonoS.l0, laws_toMono.f]; rfl) ?_
    rw [rdT76_nat l i hlt, w1]
    refine Ev.ite_true hlt' (Ev.ite_true (Int.natCast_nonneg _) (Ev.bind (Ev.bind (toIntS_ev _ hx) (Ev.now _)) (Ev.ite_true hlt2 ?_)))
    refine ih (i + 1) _ (by omega) (by simpa using hy) ?_
    rw [Int.toNat_natCast, take_set_succ y i _ (by omega), ht, List.take_succ_eq_append_getElem hlt, List.map_append]
    rfl
theorem toPoly_ev (v : Int) (l : List S76) (hs : smallM l) : Ev (fun k => laws_toPoly.f k v l) (v, l.map conv) := by
  have hl := hs.1
  simp only [laws_toPoly.f, laws_toMonoS.f]
  refine Ev.bind (Ev.ite_true (by omega) (Ev.ite_true (by omega) ?_)) (Ev.now _)
  exact toMonoS_l0 l hs l.length 0 _ (by omega) (by simp) (by simp)
theorem eqMonoS_l0 (l : List S56) (hl : l.length ≤ 1048576) (he : ∀ m ∈ l, m.f0.length ≤ 1048576) (d : Nat) : ∀ (i : Nat), i + d = l.length → Ev (fun k => laws_eqMonoS.l0 k l l i) true := by
  induction d with
  | zero =>
    intro i hi
    exact Ev.step (fun k => by simp only [laws_eqMonoS.l0]; rfl) (Ev.ite_false (by omega) (Ev.now _))
  | succ d ih =>
    intro i hi
    have hlt : i < l.length := by omega
    have hlt' : (i : Int) < (l.length : Int) := by omega
    have hx := he _ (List.getElem_mem hlt)
    have w1 : wrap64 ((i : Int) + 1) = ((i + 1 : Nat) : Int) := wr1 (by omega)
    refine Ev.step (fun k => by simp only [laws_eqMonoS.l0, laws_eqMono.f]; rfl) ?_
    rw [rdT56_nat l i hlt, w1]
    exact Ev.ite_true hlt' (Ev.ite_true (Int.natCast_nonneg _) (Ev.ite_true hlt' (Ev.bind (Ev.bind (eqIntS_self _ hx) (Ev.ite_true (by first | rfl | trivial) (Ev.ite_true (by first | rfl | trivial) (Ev.now _)))) (Ev.ite_true (by first | rfl | trivial) (ih (i + 1) (by omega))))))
theorem eqPoly_self (v : Int) (l : List S56) (hl : l.length ≤ 1048576) (he : ∀ m ∈ l, m.f0.length ≤ 1048576) : Ev (fun k => laws_eqPoly.f k v l v l) true := by
  simp only [laws_eqPoly.f, laws_eqMonoS.f]
  exact Ev.ite_true (by first | rfl | trivial) (Ev.bind (Ev.ite_true (by first | rfl | trivial) (eqMonoS_l0 l hl he l.length 0 (by omega))) (Ev.ite_true rfl (Ev.now _)))

theorem l1In_f (x a b : Int) : spec_l1In.f x a b = some (decide (a ≤ x ∧ x ≤ b)) := by
  unfold spec_l1In.f
  by_cases h : x ≥ a
  · rw [if_pos h]; congr 1; by_cases h2 : x ≤ b
    · rw [decide_eq_true h2, decide_eq_true ⟨h, h2⟩]
    · rw [decide_eq_false h2, decide_eq_false (by omega)]
  · rw [if_neg h, decide_eq_false (by omega)]

theorem within_f (x a b : Int) : impl_within.f x a b = some (decide (a ≤ x ∧ x ≤ b)) := by
  unfold impl_within.f
  by_cases h : a ≤ x
  · rw [if_pos h]; congr 1; by_cases h2 : x ≤ b
    · rw [decide_eq_true h2, decide_eq_true ⟨h, h2⟩]
    · rw [decide_eq_false h2, decide_eq_false (by omega)]
  · rw [if_neg h, decide_eq_false (by omega)]

theorem dropc {α : Type} (l : List α) (i : Nat) (h : i < l.length) : l.drop i = l[i] :: l.drop (i + 1) := List.drop_eq_getElem_cons h

-- What both texts take for a polynomial in order.
def cmpL : List Int → List Int → Int
  | [], [] => 0
  | [], _ :: _ => -1
  | _ :: _, [] => 1
  | x :: xs, y :: ys => if x = y then cmpL xs ys else if x < y then -1 else 1
theorem before_l0 (a b : List Int) (ha : a.length ≤ 1048576) (hb : b.length ≤ 1048576) (d : Nat) : ∀ (i : Nat), i + d = a.length → i ≤ b.length → Ev (fun k => spec_l12Before.l0 k a b i) (decide (cmpL (a.drop i) (b.drop i) < 0)) := by
  induction d with
  | zero =>
    intro i hi hb'
    refine Ev.step (fun k => by simp only [spec_l12Before.l0]; rfl) (Ev.ite_false (by omega) (Ev.step (fun k => by simp only [spec_l12Before.j1]; rfl) ?_))
    refine Ev.ite_false (by simp) ?_
    rw [List.drop_of_length_le (l := a) (by omega)]
    by_cases h : i < b.length
    · rw [dropc b i h]
      have : (a.length : Int) < b.length := by omega
      simp only [cmpL, this, decide_true]
      exact Ev.now _
    · rw [List.drop_of_length_le (l := b) (by omega)]
      have : ¬ (a.length : Int) < b.length := by omega
      simp only [cmpL, this, decide_false]
      exact Ev.now _
  | succ d ih =>
    intro i hi hb'
    have hlt : i < a.length := by omega
    have hlt' : (i : Int) < (a.length : Int) := by omega
    rw [dropc a i hlt]
    by_cases h : i < b.length
    · have h' : (i : Int) < (b.length : Int) := by omega
      have w1 : wrap64 ((i : Int) + 1) = ((i + 1 : Nat) : Int) := wr1 (by omega)
      rw [dropc b i h]
      refine Ev.step (fun k => by simp only [spec_l12Before.l0]; rfl) (Ev.ite_true hlt' ?_)
      rw [decide_eq_true h']
      refine Ev.step (fun k => by simp only [spec_l12Before.j1]; rfl) ?_
      refine Ev.ite_true (by trivial) (Ev.ite_true (Int.natCast_nonneg _) (Ev.ite_true hlt' (Ev.ite_true h' ?_)))
      rw [rd_nat a i hlt, rd_nat b i h, w1]
      by_cases e : a[i] = b[i]
      · refine Ev.ite_true e ?_
        simp only [cmpL, if_pos e]
        exact ih (i + 1) (by omega) (by omega)
      · refine Ev.ite_false e ?_
        simp only [cmpL, if_neg e]
        by_cases g : a[i] < b[i]
        · simp only [if_pos g, g, decide_true]; exact Ev.now _
        · simp only [if_neg g, g, decide_false]; exact Ev.now _
    · have h' : ¬ (i : Int) < (b.length : Int) := by omega
      refine Ev.step (fun k => by simp only [spec_l12Before.l0]; rfl) (Ev.ite_true hlt' ?_)
      rw [decide_eq_false h']
      refine Ev.step (fun k => by simp only [spec_l12Before.j1]; rfl) ?_
      refine Ev.ite_false (by simp) ?_
      rw [List.drop_of_length_le (l := b) (by omega)]
      have : ¬ (a.length : Int) < b.length := by omega
      simp only [cmpL, this, decide_false]
      exact Ev.now _
theorem before_ev (a b : List Int) (ha : a.length ≤ 1048576) (hb : b.length ≤ 1048576) : Ev (fun k => spec_l12Before.f k a b) (decide (cmpL a b < 0)) := by
  simp only [spec_l12Before.f]
  exact before_l0 a b ha hb a.length 0 (by omega) (by omega)
theorem cmpInt_f (x y : Int) : cmp_Compare_int.f x y = some (if x = y then 0 else if x < y then -1 else 1) := by
  simp only [cmp_Compare_int.f, cmp_isNaN_int.f, Option.bind_some, bne_self_eq_false]
  by_cases e : x = y
  · subst e; simp
  · by_cases g : x < y
    · simp [e, g]
    · have : y < x := by omega
      simp [e, g, this]
theorem compare_l0 (a b : List Int) (ha : a.length ≤ 1048576) (hb : b.length ≤ 1048576) (d : Nat) : ∀ (i : Nat), i + d = a.length → i ≤ b.length → Ev (fun k => slices_Compare_int_int.l0 k a b a a.length i) (cmpL (a.drop i) (b.drop i)) := by
  induction d with
  | zero =>
    intro i hi hb'
    refine Ev.step (fun k => by simp only [slices_Compare_int_int.l0]; rfl) (Ev.ite_false (by omega) ?_)
    rw [List.drop_of_length_le (l := a) (by omega)]
    by_cases h : i < b.length
    · rw [dropc b i h]
      exact Ev.ite_true (by omega) (Ev.now _)
    · rw [List.drop_of_length_le (l := b) (by omega)]
      exact Ev.ite_false (by omega) (Ev.now _)
  | succ d ih =>
    intro i hi hb'
    have hlt : i < a.length := by omega
    have hlt' : (i : Int) < (a.length : Int) := by omega
    have w1 : wrap64 ((i : Int) + 1) = ((i + 1 : Nat) : Int) := wr1 (by omega)
    rw [dropc a i hlt]
    refine Ev.step (fun k => by simp only [slices_Compare_int_int.l0]; rfl) (Ev.ite_true hlt' (Ev.ite_true (Int.natCast_nonneg _) (Ev.ite_true hlt' ?_)))
    by_cases h : i < b.length
    · have h' : (i : Int) < (b.length : Int) := by omega
      rw [dropc b i h, rd_nat a i hlt, rd_nat b i h, w1, cmpInt_f]
      simp only [Option.bind_some]
      refine Ev.ite_false (by omega) (Ev.ite_true h' ?_)
      by_cases e : a[i] = b[i]
      · simp only [cmpL, if_pos e]
        refine Ev.ite_true (by trivial) ?_
        exact ih (i + 1) (by omega) (by omega)
      · simp only [cmpL, if_neg e]
        refine Ev.ite_false (by split <;> omega) (Ev.now _)
    · rw [List.drop_of_length_le (l := b) (by omega)]
      exact Ev.ite_true (by omega) (Ev.now _)
theorem compare_ev (a b : List Int) (ha : a.length ≤ 1048576) (hb : b.length ≤ 1048576) : Ev (fun k => slices_Compare_int_int.f k a b) (cmpL a b) := by
  simp only [slices_Compare_int_int.f]
  exact compare_l0 a b ha hb a.length 0 (by omega) (by omega)
def okE (x : Int) : Bool := decide (0 ≤ x ∧ x ≤ 18)
def okM (v : Int) (m : S56) : Bool := m.f0.all okE && (decide ((m.f0.length : Int) = v) && (m.f1 != 0))
theorem specMono_l0 (f0 : List Int) (f1 v : Int) (hl : f0.length ≤ 1048576) (d : Nat) : ∀ (i : Nat), i + d = f0.length → Ev (fun k => spec_l20Mono.l0 k v i f0 f1) ((f0.drop i).all okE && (decide ((f0.length : Int) = v) && (f1 != 0))) := by
  induction d with
  | zero =>
    intro i hi
    refine Ev.step (fun k => by simp only [spec_l20Mono.l0]; rfl) (Ev.ite_false (by omega) ?_)
    rw [List.drop_of_length_le (by omega)]
    by_cases e : (f0.length : Int) = v
    · rw [decide_eq_true e]; exact Ev.ite_true e (by simpa using Ev.now _)
    · rw [decide_eq_false e]; exact Ev.ite_false e (by simpa using Ev.now _)
  | succ d ih =>
    intro i hi
    have hlt : i < f0.length := by omega
    have hlt' : (i : Int) < (f0.length : Int) := by omega
    have w1 : wrap64 ((i : Int) + 1) = ((i + 1 : Nat) : Int) := wr1 (by omega)
    rw [dropc f0 i hlt]
    refine Ev.step (fun k => by simp only [spec_l20Mono.l0]; rfl) (Ev.ite_true hlt' (Ev.ite_true (Int.natCast_nonneg _) ?_))
    rw [rd_nat f0 i hlt, l1In_f, w1]
    simp only [Option.bind_some, List.all_cons]
    by_cases h : 0 ≤ f0[i] ∧ f0[i] ≤ 18
    · have : okE f0[i] = true := decide_eq_true h
      rw [this, Bool.true_and]
      exact Ev.ite_true (by simp only [decide_eq_true_eq]; exact h) (ih (i + 1) (by omega))
    · have : okE f0[i] = false := decide_eq_false h
      rw [this]
      exact Ev.ite_false (by simp only [decide_eq_true_eq]; exact h) (by simpa using Ev.now _)
theorem specMono_ev (m : S56) (v : Int) (hl : m.f0.length ≤ 1048576) : Ev (fun k => spec_l20Mono.f k m.f0 m.f1 v) (okM v m) := by
  simp only [spec_l20Mono.f]
  exact specMono_l0 m.f0 m.f1 v hl m.f0.length 0 (by omega)
theorem isPoly1_f (x : Int) : impl_IsPoly_1.f x = some (!okE x) := by
  unfold impl_IsPoly_1.f
  rw [within_f]
  rfl
theorem containsE_l0 (l : List Int) (hl : l.length ≤ 1048576) (d : Nat) : ∀ (i : Nat), i + d = l.length → ∃ r : Int, Ev (fun k => slices_IndexFunc_int_int__impl_IsPoly_1.l0 k l l.length i) r ∧ decide (r ≥ 0) = !((l.drop i).all okE) := by
  induction d with
  | zero =>
    intro i hi
    refine ⟨-1, Ev.step (fun k => by simp only [slices_IndexFunc_int_int__impl_IsPoly_1.l0]; rfl) (Ev.ite_false (by omega) (Ev.now _)), ?_⟩
    rw [List.drop_of_length_le (by omega)]; simp
  | succ d ih =>
    intro i hi
    have hlt : i < l.length := by omega
    have hlt' : (i : Int) < (l.length : Int) := by omega
    have w1 : wrap64 ((i : Int) + 1) = ((i + 1 : Nat) : Int) := wr1 (by omega)
    rw [dropc l i hlt]
    cases h : okE l[i]
    · refine ⟨i, Ev.step (fun k => by simp only [slices_IndexFunc_int_int__impl_IsPoly_1.l0]; rfl) (Ev.ite_true hlt' (Ev.ite_true (Int.natCast_nonneg _) (Ev.ite_true hlt' ?_))), by simp only [List.all_cons, h, Bool.false_and, Bool.not_false, decide_eq_true_eq]; omega⟩
      rw [rd_nat l i hlt, isPoly1_f, h]
      simp only [Option.bind_some]
      exact Ev.ite_true rfl (Ev.now _)
    · obtain ⟨r, r1, r2⟩ := ih (i + 1) (by omega)
      refine ⟨r, Ev.step (fun k => by simp only [slices_IndexFunc_int_int__impl_IsPoly_1.l0]; rfl) (Ev.ite_true hlt' (Ev.ite_true (Int.natCast_nonneg _) (Ev.ite_true hlt' ?_))), by simp only [List.all_cons, h, Bool.true_and]; exact r2⟩
      rw [rd_nat l i hlt, isPoly1_f, h, w1]
      simp only [Option.bind_some]
      exact Ev.ite_false (by simp) r1
theorem containsE_ev (l : List Int) (hl : l.length ≤ 1048576) : Ev (fun k => slices_ContainsFunc_int_int__impl_IsPoly_1.f k l) (!(l.all okE)) := by
  obtain ⟨r, r1, r2⟩ := containsE_l0 l hl l.length 0 (by omega)
  simp only [slices_ContainsFunc_int_int__impl_IsPoly_1.f, slices_IndexFunc_int_int__impl_IsPoly_1.f]
  refine Ev.bind r1 ?_
  rw [r2]; exact Ev.now _
def bigM (l : List S56) : Prop := l.length ≤ 1048576 ∧ ∀ m ∈ l, m.f0.length ≤ 1048576
def okAt (v : Int) (l : List S56) (i : Nat) : Bool := okM v (l.getD i z56) && (i == 0 || decide (cmpL (l.getD i z56).f0 (l.getD (i - 1) z56).f0 < 0))
def polyFrom (v : Int) (l : List S56) : Nat → Nat → Bool
  | _, 0 => true
  | i, d + 1 => okAt v l i && polyFrom v l (i + 1) d
theorem polyFrom_at {v : Int} {l : List S56} : ∀ {d i : Nat}, polyFrom v l i d = true → ∀ j, i ≤ j → j < i + d → okAt v l j = true
  | 0, i, _, j, h1, h2 => by omega
  | d + 1, i, h, j, h1, h2 => by
    simp only [polyFrom, Bool.and_eq_true] at h
    by_cases e : j = i
    · subst e; exact h.1
    · exact polyFrom_at h.2 j (by omega) (by omega)
def isPoly (v : Int) (l : List S56) : Bool := polyFrom v l 0 l.length && decide (1 ≤ v ∧ v ≤ 4)
theorem getD_m (l : List S56) (i : Nat) (h : i < l.length) : l.getD i z56 = l[i] := by simp [List.getD_eq_getElem?_getD, h]
theorem specPoly_l0 (v : Int) (l : List S56) (hs : bigM l) (d : Nat) : ∀ (i : Nat), i + d = l.length → Ev (fun k => spec_IsPoly.l0 k i v l) (polyFrom v l i d && decide (1 ≤ v ∧ v ≤ 4)) := by
  obtain ⟨hl, he⟩ := hs
  induction d with
  | zero =>
    intro i hi
    refine Ev.step (fun k => by simp only [spec_IsPoly.l0]; rfl) (Ev.ite_false (by omega) ?_)
    rw [l1In_f]
    simp only [Option.bind_some, polyFrom, Bool.true_and]
    exact Ev.now _
  | succ d ih =>
    intro i hi
    have hlt : i < l.length := by omega
    have hlt' : (i : Int) < (l.length : Int) := by omega
    have w1 : wrap64 ((i : Int) + 1) = ((i + 1 : Nat) : Int) := wr1 (by omega)
    have hx := he _ (List.getElem_mem hlt)
    refine Ev.step (fun k => by simp only [spec_IsPoly.l0]; rfl) (Ev.ite_true hlt' (Ev.ite_true (Int.natCast_nonneg _) ?_))
    rw [rdT56_nat l i hlt, w1]
    refine Ev.bind (specMono_ev l[i] v hx) ?_
    simp only [polyFrom, okAt, getD_m l i hlt]
    cases hm : okM v l[i]
    · exact Ev.ite_false (by simp) (by simpa using Ev.now _)
    · refine Ev.ite_true rfl ?_
      by_cases h0 : i = 0
      · subst h0
        refine Ev.ite_false (by omega) ?_
        simpa using ih 1 (by omega)
      · have h1 : i - 1 < l.length := by omega
        have hx1 := he _ (List.getElem_mem h1)
        have e1 : wrap64 ((i : Int) - 1) = ((i - 1 : Nat) : Int) := by unfold wrap64; omega
        have hb := before_ev l[i].f0 l[i - 1].f0 hx hx1
        refine Ev.ite_true (by omega) ?_
        rw [e1, rdT56_nat l (i - 1) h1]
        refine Ev.ite_true (Int.natCast_nonneg _) (Ev.ite_true (by omega) (Ev.bind hb ?_))
        simp only [getD_m l (i - 1) h1, Bool.true_and]
        have e0 : (i == 0) = false := by simpa using h0
        rw [e0, Bool.false_or]
        cases hc : decide (cmpL l[i].f0 l[i - 1].f0 < 0)
        · exact Ev.ite_false (by simp) (by simpa using Ev.now _)
        · exact Ev.ite_true rfl (by simpa using ih (i + 1) (by omega))
theorem specPoly_ev (v : Int) (l : List S56) (hs : bigM l) : Ev (fun k => spec_IsPoly.f k v l) (isPoly v l) := by
  simp only [spec_IsPoly.f]
  exact specPoly_l0 v l hs l.length 0 (by omega)
theorem implPoly_l0 (v : Int) (l : List S56) (hs : bigM l) (d : Nat) : ∀ (i : Nat), i + d = l.length → Ev (fun k => impl_IsPoly.l0 k l l.length i v l) (polyFrom v l i d) := by
  obtain ⟨hl, he⟩ := hs
  induction d with
  | zero =>
    intro i hi
    exact Ev.step (fun k => by simp only [impl_IsPoly.l0]; rfl) (Ev.ite_false (by omega) (Ev.now _))
  | succ d ih =>
    intro i hi
    have hlt : i < l.length := by omega
    have hlt' : (i : Int) < (l.length : Int) := by omega
    have w1 : wrap64 ((i : Int) + 1) = ((i + 1 : Nat) : Int) := wr1 (by omega)
    have hx := he _ (List.getElem_mem hlt)
    have no : Ev (fun k => impl_IsPoly.j1 k l l.length i true v l l[i].f0 l[i].f1) false := by
      refine Ev.step (fun k => by simp only [impl_IsPoly.j1]; rfl) ?_
      exact Ev.ite_true (by trivial) (Ev.now _)
    have yes : Ev (fun k => impl_IsPoly.j1 k l l.length i false v l l[i].f0 l[i].f1) (l[i].f0.all okE && polyFrom v l (i + 1) d) := by
      refine Ev.step (fun k => by simp only [impl_IsPoly.j1]; rfl) ?_
      refine Ev.ite_false (by simp) (Ev.bind (containsE_ev _ hx) ?_)
      rw [w1]
      cases hE : l[i].f0.all okE
      · exact Ev.ite_true rfl (Ev.now _)
      · exact Ev.ite_false (by simp) (by simpa using ih (i + 1) (by omega))
    refine Ev.step (fun k => by simp only [impl_IsPoly.l0]; rfl) (Ev.ite_true hlt' (Ev.ite_true (Int.natCast_nonneg _) (Ev.ite_true hlt' ?_)))
    rw [rdT56_nat l i hlt]
    simp only [polyFrom, okAt, okM, getD_m l i hlt]
    by_cases e : (l[i].f0.length : Int) = v
    · refine Ev.ite_true e ?_
      by_cases z : l[i].f1 = 0
      · refine Ev.ite_true z ?_
        have : (l[i].f1 != 0) = false := by simpa using z
        rw [this]
        simpa using no
      · refine Ev.ite_false z ?_
        have : (l[i].f1 != 0) = true := by simpa using z
        rw [this, decide_eq_true e, Bool.and_true, Bool.and_true]
        by_cases h0 : i = 0
        · subst h0
          refine Ev.ite_false (by omega) ?_
          simpa using yes
        · have h1 : i - 1 < l.length := by omega
          have hx1 := he _ (List.getElem_mem h1)
          have e1 : wrap64 ((i : Int) - 1) = ((i - 1 : Nat) : Int) := by unfold wrap64; omega
          refine Ev.ite_true (by omega) ?_
          rw [e1, rdT56_nat l (i - 1) h1]
          refine Ev.ite_true (Int.natCast_nonneg _) (Ev.ite_true (by omega) (Ev.bind (compare_ev l[i].f0 l[i - 1].f0 hx hx1) ?_))
          simp only [getD_m l (i - 1) h1]
          have e0 : (i == 0) = false := by simpa using h0
          rw [e0, Bool.false_or]
          by_cases hc : cmpL l[i].f0 l[i - 1].f0 < 0
          · have g : decide (cmpL l[i].f0 l[i - 1].f0 ≥ 0) = false := by simp; omega
            rw [g, decide_eq_true hc, Bool.and_true]
            exact yes
          · have g : decide (cmpL l[i].f0 l[i - 1].f0 ≥ 0) = true := by simp; omega
            rw [g, decide_eq_false hc, Bool.and_false, Bool.false_and]
            exact no
    · refine Ev.ite_false e ?_
      rw [decide_eq_false e]
      simpa using no
theorem implPoly_ev (v : Int) (l : List S56) (hs : bigM l) : Ev (fun k => impl_IsPoly.f k v l) (isPoly v l) := by
  simp only [impl_IsPoly.f, within_f, Option.bind_some, isPoly]
  by_cases h : 1 ≤ v ∧ v ≤ 4
  · rw [decide_eq_true h, Bool.and_true]
    exact Ev.ite_true rfl (implPoly_l0 v l hs l.length 0 (by omega))
  · rw [decide_eq_false h, Bool.and_false]
    exact Ev.ite_false (by simp) (Ev.now _)
theorem big_conv {l : List S76} (h : smallM l) : bigM (l.map conv) := by
  refine ⟨by simpa using h.1, fun m hm => ?_⟩
  obtain ⟨x, hx, rfl⟩ := List.mem_map.1 hm
  exact h.2 x hx

theorem l2Same_l0 (a b : List Int) (hl : a.length ≤ 1048576) (hab : a.length = b.length) (d : Nat) : ∀ (i : Nat), i + d = a.length → a.take i = b.take i → Ev (fun k => spec_l2Same.l0 k a b i) (decide (a = b)) := by
  induction d with
  | zero =>
    intro i hi ht
    refine Ev.step (fun k => by simp only [spec_l2Same.l0]; rfl) (Ev.ite_false (by omega) ?_)
    obtain rfl : i = a.length := by omega
    rw [List.take_of_length_le (by omega), List.take_of_length_le (by omega)] at ht
    rw [decide_eq_true ht]; exact Ev.now _
  | succ d ih =>
    intro i hi ht
    have hlt : i < a.length := by omega
    have hlt' : i < b.length := by omega
    have w1 : wrap64 ((i : Int) + 1) = ((i + 1 : Nat) : Int) := wr1 (by omega)
    refine Ev.step (fun k => by simp only [spec_l2Same.l0]; rfl) (Ev.ite_true (by omega) (Ev.ite_true (Int.natCast_nonneg _) (Ev.ite_true (by omega) ?_)))
    rw [w1, rd_nat a i hlt, rd_nat b i hlt']
    by_cases h : a[i] = b[i]
    · refine Ev.ite_true h (ih (i + 1) (by omega) ?_)
      rw [List.take_succ_eq_append_getElem hlt, List.take_succ_eq_append_getElem hlt', ht, h]
    · refine Ev.ite_false h ?_
      rw [decide_eq_false (by intro e; subst e; exact h rfl)]; exact Ev.now _
theorem l2Same_ev (a b : List Int) (hl : a.length ≤ 1048576) : Ev (fun k => spec_l2Same.f k a b) (decide (a = b)) := by
  simp only [spec_l2Same.f]
  by_cases h : (a.length : Int) = (b.length : Int)
  · exact Ev.ite_true h (l2Same_l0 a b hl (by omega) a.length 0 (by omega) (by simp))
  · refine Ev.ite_false h ?_
    rw [decide_eq_false (by intro e; subst e; exact h rfl)]; exact Ev.now _

theorem equal_l0 (a b : List Int) (hl : a.length ≤ 1048576) (hab : a.length = b.length) (d : Nat) : ∀ (i k : Nat), i + d = a.length → a.take i = b.take i → d < k → slices_Equal_int_int.l0 k a b (a.length : Int) i = some (decide (a = b)) := by
  induction d with
  | zero =>
    intro i k hi ht hk
    obtain ⟨k, rfl⟩ : ∃ m, k = m + 1 := ⟨k - 1, by omega⟩
    simp only [slices_Equal_int_int.l0]
    rw [if_neg (by omega)]
    obtain rfl : i = a.length := by omega
    rw [List.take_of_length_le (by omega), List.take_of_length_le (by omega)] at ht
    rw [decide_eq_true ht]
  | succ d ih =>
    intro i k hi ht hk
    obtain ⟨k, rfl⟩ : ∃ m, k = m + 1 := ⟨k - 1, by omega⟩
    have hlt : i < a.length := by omega
    have hlt' : i < b.length := by omega
    simp only [slices_Equal_int_int.l0]
    rw [if_pos (by omega), if_pos (by omega), if_pos (by omega), if_pos (by omega), wr1 (by omega), rd_nat a i hlt, rd_nat b i hlt']
    by_cases h : a[i] = b[i]
    · rw [if_pos h]
      refine ih (i + 1) k (by omega) ?_ (by omega)
      rw [List.take_succ_eq_append_getElem hlt, List.take_succ_eq_append_getElem hlt', ht, h]
    · rw [if_neg h, decide_eq_false]
      intro e
      subst e
      exact h rfl
theorem equal_ev (a b : List Int) (hl : a.length ≤ 1048576) : Ev (fun k => slices_Equal_int_int.f k a b) (decide (a = b)) := by
  refine ⟨a.length + 1, fun k hk => ?_⟩
  show slices_Equal_int_int.f k a b = _
  unfold slices_Equal_int_int.f
  by_cases h : (a.length : Int) = (b.length : Int)
  · rw [if_pos h]
    exact equal_l0 a b hl (by omega) a.length 0 k (by omega) (by simp) (by omega)
  · rw [if_neg h, decide_eq_false]
    intro e
    subst e
    exact h rfl

-- FactorAt of both.
theorem factor_l0 (v : Int) (l : List S56) (q : List Int) (hs : bigM l) (hp : isPoly v l = true) (d : Nat) : ∀ (i : Nat), i + d = l.length → ∃ r t : Int, Ev (fun k => spec_FactorAt.l0 k q i v l) r ∧ Ev (fun k => impl_Mono__impl_FactorAt_1.l0 k l l.length i q) t ∧ ((t < 0 ∧ r = 0) ∨ (0 ≤ t ∧ t < l.length ∧ r = (rd_T56 l t).f1)) := by
  have hl := hs.1
  induction d with
  | zero =>
    intro i hi
    refine ⟨0, -1, Ev.step (fun k => by simp only [spec_FactorAt.l0]; rfl) (Ev.ite_false (by omega) (Ev.step (fun k => by simp only [spec_FactorAt.j1]; rfl) ?_)), Ev.step (fun k => by simp only [impl_Mono__impl_FactorAt_1.l0]; rfl) (Ev.ite_false (by omega) (Ev.now _)), .inl ⟨by omega, rfl⟩⟩
    exact Ev.ite_false (by simp) (Ev.now _)
  | succ d ih =>
    intro i hi
    have hlt : i < l.length := by omega
    have hlt' : (i : Int) < (l.length : Int) := by omega
    have w1 : wrap64 ((i : Int) + 1) = ((i + 1 : Nat) : Int) := wr1 (by omega)
    have hx := hs.2 _ (List.getElem_mem hlt)
    have h1 := specPoly_ev v l hs
    rw [hp] at h1
    have s1 := l2Same_ev l[i].f0 q hx
    have s2 := equal_ev l[i].f0 q hx
    by_cases e : l[i].f0 = q
    · rw [decide_eq_true e] at s1 s2
      refine ⟨l[i].f1, i, Ev.step (fun k => by simp only [spec_FactorAt.l0]; rfl) (Ev.ite_true hlt' (Ev.bind h1 (Ev.step (fun k => by simp only [spec_FactorAt.j1]; rfl) ?_))), Ev.step (fun k => by simp only [impl_Mono__impl_FactorAt_1.l0, impl_FactorAt_1__c.f]; rfl) ?_, .inr ⟨Int.natCast_nonneg _, hlt', by rw [rdT56_nat l i hlt]⟩⟩
      · rw [rdT56_nat l i hlt]
        exact Ev.ite_true (by trivial) (Ev.ite_true (Int.natCast_nonneg _) (Ev.ite_true hlt' (Ev.bind s1 (Ev.ite_true rfl (Ev.now _)))))
      · rw [rdT56_nat l i hlt]
        exact Ev.ite_true hlt' (Ev.ite_true (Int.natCast_nonneg _) (Ev.ite_true hlt' (Ev.bind (Ev.bind s2 (Ev.now _)) (Ev.ite_true rfl (Ev.now _)))))
    · rw [decide_eq_false e] at s1 s2
      obtain ⟨r, t, r1, r2, hc⟩ := ih (i + 1) (by omega)
      refine ⟨r, t, Ev.step (fun k => by simp only [spec_FactorAt.l0]; rfl) (Ev.ite_true hlt' (Ev.bind h1 (Ev.step (fun k => by simp only [spec_FactorAt.j1]; rfl) ?_))), Ev.step (fun k => by simp only [impl_Mono__impl_FactorAt_1.l0, impl_FactorAt_1__c.f]; rfl) ?_, hc⟩
      · rw [rdT56_nat l i hlt, w1]
        exact Ev.ite_true (by trivial) (Ev.ite_true (Int.natCast_nonneg _) (Ev.ite_true hlt' (Ev.bind s1 (Ev.ite_false (by simp) r1))))
      · rw [rdT56_nat l i hlt, w1]
        exact Ev.ite_true hlt' (Ev.ite_true (Int.natCast_nonneg _) (Ev.ite_true hlt' (Ev.bind (Ev.bind s2 (Ev.now _)) (Ev.ite_false (by simp) r2))))
theorem search_ev (l : List S56) (q : List Int) (hs : bigM l) (d : Nat) : ∀ (i : Nat), i + d = l.length → ∃ t : Int, Ev (fun k => impl_Mono__impl_FactorAt_1.l0 k l l.length i q) t := by
  have hl := hs.1
  induction d with
  | zero =>
    intro i hi
    exact ⟨-1, Ev.step (fun k => by simp only [impl_Mono__impl_FactorAt_1.l0]; rfl) (Ev.ite_false (by omega) (Ev.now _))⟩
  | succ d ih =>
    intro i hi
    have hlt : i < l.length := by omega
    have hlt' : (i : Int) < (l.length : Int) := by omega
    have w1 : wrap64 ((i : Int) + 1) = ((i + 1 : Nat) : Int) := wr1 (by omega)
    have hx := hs.2 _ (List.getElem_mem hlt)
    have s2 := equal_ev l[i].f0 q hx
    obtain ⟨t, ht⟩ := ih (i + 1) (by omega)
    cases e : decide (l[i].f0 = q)
    · rw [e] at s2
      refine ⟨t, Ev.step (fun k => by simp only [impl_Mono__impl_FactorAt_1.l0, impl_FactorAt_1__c.f]; rfl) ?_⟩
      rw [rdT56_nat l i hlt, w1]
      exact Ev.ite_true hlt' (Ev.ite_true (Int.natCast_nonneg _) (Ev.ite_true hlt' (Ev.bind (Ev.bind s2 (Ev.now _)) (Ev.ite_false (by simp) ht))))
    · rw [e] at s2
      refine ⟨i, Ev.step (fun k => by simp only [impl_Mono__impl_FactorAt_1.l0, impl_FactorAt_1__c.f]; rfl) ?_⟩
      rw [rdT56_nat l i hlt, w1]
      exact Ev.ite_true hlt' (Ev.ite_true (Int.natCast_nonneg _) (Ev.ite_true hlt' (Ev.bind (Ev.bind s2 (Ev.now _)) (Ev.ite_true rfl (Ev.now _)))))
theorem factor_ev (v : Int) (l : List S56) (q : List Int) (hs : bigM l) : ∃ r : Int, Ev (fun k => spec_FactorAt.f k v l q) r ∧ Ev (fun k => impl_FactorAt.f k v l q) r := by
  have h1 := specPoly_ev v l hs
  have h2 := implPoly_ev v l hs
  simp only [spec_FactorAt.f, impl_FactorAt.f, impl_Mono__impl_FactorAt_1.f]
  cases hp : isPoly v l
  · rw [hp] at h1 h2
    obtain ⟨t, ht⟩ := search_ev l q hs l.length 0 (by omega)
    refine ⟨0, Ev.step (fun k => by simp only [spec_FactorAt.l0]; rfl) ?_, Ev.bind ht (Ev.bind h2 (Ev.ite_false (by simp) (Ev.now _)))⟩
    by_cases h : (0 : Int) < (l.length : Int)
    · refine Ev.ite_true h (Ev.bind h1 (Ev.step (fun k => by simp only [spec_FactorAt.j1]; rfl) ?_))
      exact Ev.ite_false (by simp) (Ev.now _)
    · refine Ev.ite_false h (Ev.step (fun k => by simp only [spec_FactorAt.j1]; rfl) ?_)
      exact Ev.ite_false (by simp) (Ev.now _)
  · obtain ⟨r, t, r1, r2, hc⟩ := factor_l0 v l q hs hp l.length 0 (by omega)
    rw [hp] at h2
    refine ⟨r, r1, Ev.bind r2 (Ev.bind h2 (Ev.ite_true rfl ?_))⟩
    rcases hc with ⟨h, rfl⟩ | ⟨h, h', rfl⟩
    · exact Ev.ite_true h (Ev.now _)
    · exact Ev.ite_false (by omega) (Ev.ite_true h (Ev.ite_true h' (Ev.now _)))

theorem sym_l0 (v : Int) (l : List S56) (hs : bigM l) (hp : isPoly v l = true) (d : Nat) : ∀ (i : Nat), i + d = l.length → ∃ r : Bool, Ev (fun k => spec_IsSymmetric.l0 k i v l) r ∧ Ev (fun k => impl_IsSymmetric.l0 k l l.length i v l) r := by
  have hl := hs.1
  have h1 := specPoly_ev v l hs
  have hp' := hp
  rw [hp] at h1
  simp only [isPoly, Bool.and_eq_true, decide_eq_true_eq] at hp'
  obtain ⟨hpf, hv1, hv4⟩ := hp'
  induction d with
  | zero =>
    intro i hi
    refine ⟨true, Ev.step (fun k => by simp only [spec_IsSymmetric.l0]; rfl) (Ev.ite_false (by omega) (Ev.step (fun k => by simp only [spec_IsSymmetric.j1]; rfl) ?_)), Ev.step (fun k => by simp only [impl_IsSymmetric.l0]; rfl) (Ev.ite_false (by omega) (Ev.now _))⟩
    exact Ev.ite_false (by simp) (Ev.bind h1 (Ev.now _))
  | succ d ih =>
    intro i hi
    have hlt : i < l.length := by omega
    have hlt' : (i : Int) < (l.length : Int) := by omega
    have w1 : wrap64 ((i : Int) + 1) = ((i + 1 : Nat) : Int) := wr1 (by omega)
    have hx := hs.2 _ (List.getElem_mem hlt)
    have ha := polyFrom_at hpf i (by omega) (by omega)
    simp only [okAt, okM, getD_m l i hlt, Bool.and_eq_true, decide_eq_true_eq] at ha
    have hv : (l[i].f0.length : Int) = v := ha.1.2.1
    have inner : ∀ (e j : Nat), j + e = l[i].f0.length → 1 ≤ j → ∃ r : Bool, Ev (fun k => spec_IsSymmetric.l1 k i j v l) r ∧ Ev (fun k => impl_IsSymmetric.l1 k j l l.length i v l l[i].f0 l[i].f1) r := by
      intro e
      induction e with
      | zero =>
        intro j hj hj1
        obtain ⟨r, r1, r2⟩ := ih (i + 1) (by omega)
        refine ⟨r, Ev.step (fun k => by simp only [spec_IsSymmetric.l1]; rfl) (Ev.ite_false (by omega) ?_), Ev.step (fun k => by simp only [impl_IsSymmetric.l1]; rfl) (Ev.ite_false (by omega) ?_)⟩
        · rw [w1]; exact r1
        · rw [w1]; exact r2
      | succ e ihe =>
        intro j hj hj1
        have hjl : j < l[i].f0.length := by omega
        have hjl' : (j : Int) < (l[i].f0.length : Int) := by omega
        have hjv : (j : Int) < v := by rw [← hv]; exact hjl'
        have hbig : 0 + l[i].f0.length < 17592186044416 := by omega
        have hA : j + 1 + e = l[i].f0.length := by omega
        have hB : 1 ≤ j + 1 := by omega
        have e1 : wrap64 ((j : Int) - 1) = ((j - 1 : Nat) : Int) := by unfold wrap64; omega
        have hj2 : ((j - 1 : Nat) : Int) < (l[i].f0.length : Int) := Int.ofNat_lt.2 (Nat.lt_of_le_of_lt (Nat.sub_le _ _) hjl)
        have w2 : wrap64 ((j : Int) + 1) = ((j + 1 : Nat) : Int) := wr1 (by omega)
        obtain ⟨c, c1, c2⟩ := factor_ev v l ((l[i].f0.set ((j - 1 : Nat) : Int).toNat (rd l[i].f0 j)).set (j : Int).toNat (rd l[i].f0 ((j - 1 : Nat) : Int))) hs
        obtain ⟨r, r1, r2⟩ := ihe (j + 1) hA hB
        by_cases hc : c = l[i].f1
        · refine ⟨r, Ev.step (fun k => by simp only [spec_IsSymmetric.l1]; rfl) (Ev.ite_true hjv ?_), Ev.step (fun k => by simp only [impl_IsSymmetric.l1, slices_Clone_int_int.f]; rfl) (Ev.ite_true hjv ?_)⟩
          · simp only [Option.bind_some, List.nil_append, List.length_nil]
            rw [rdT56_nat l i hlt, e1, w2]
            exact Ev.ite_true (Int.natCast_nonneg _) (Ev.ite_true hlt' (Ev.ite_true hbig (Ev.ite_true (Int.natCast_nonneg _) (Ev.ite_true hjl' (Ev.ite_true (Int.natCast_nonneg _) (Ev.ite_true hj2 (Ev.ite_true hj2 (Ev.ite_true hjl' (Ev.bind c1 (Ev.ite_true hc r1))))))))))
          · simp only [Option.bind_some, List.nil_append, List.length_nil]
            rw [if_pos hbig, e1, w2]
            simp only [Option.bind_some]
            exact Ev.ite_true (Int.natCast_nonneg _) (Ev.ite_true hjl' (Ev.ite_true (Int.natCast_nonneg _) (Ev.ite_true hj2 (Ev.bind c2 (Ev.ite_true hc r2)))))
        · refine ⟨false, Ev.step (fun k => by simp only [spec_IsSymmetric.l1]; rfl) (Ev.ite_true hjv ?_), Ev.step (fun k => by simp only [impl_IsSymmetric.l1, slices_Clone_int_int.f]; rfl) (Ev.ite_true hjv ?_)⟩
          · simp only [Option.bind_some, List.nil_append, List.length_nil]
            rw [rdT56_nat l i hlt, e1, w2]
            exact Ev.ite_true (Int.natCast_nonneg _) (Ev.ite_true hlt' (Ev.ite_true hbig (Ev.ite_true (Int.natCast_nonneg _) (Ev.ite_true hjl' (Ev.ite_true (Int.natCast_nonneg _) (Ev.ite_true hj2 (Ev.ite_true hj2 (Ev.ite_true hjl' (Ev.bind c1 (Ev.ite_false hc (Ev.now _)))))))))))
          · simp only [Option.bind_some, List.nil_append, List.length_nil]
            rw [if_pos hbig, e1, w2]
            simp only [Option.bind_some]
            exact Ev.ite_true (Int.natCast_nonneg _) (Ev.ite_true hjl' (Ev.ite_true (Int.natCast_nonneg _) (Ev.ite_true hj2 (Ev.bind c2 (Ev.ite_false hc (Ev.now _))))))
    obtain ⟨r, r1, r2⟩ := inner (l[i].f0.length - 1) 1 (by omega) (by omega)
    refine ⟨r, Ev.step (fun k => by simp only [spec_IsSymmetric.l0]; rfl) (Ev.ite_true hlt' (Ev.bind h1 (Ev.step (fun k => by simp only [spec_IsSymmetric.j1]; rfl) ?_))), Ev.step (fun k => by simp only [impl_IsSymmetric.l0]; rfl) ?_⟩
    · exact Ev.ite_true (by trivial) r1
    · rw [rdT56_nat l i hlt]
      exact Ev.ite_true hlt' (Ev.ite_true (Int.natCast_nonneg _) (Ev.ite_true hlt' r2))
theorem same (v : Int) (l : List S56) (hs : bigM l) : ∃ r : Bool, Ev (fun k => spec_IsSymmetric.f k v l) r ∧ Ev (fun k => impl_IsSymmetric.f k v l) r := by
  have h1 := specPoly_ev v l hs
  have h2 := implPoly_ev v l hs
  simp only [spec_IsSymmetric.f, impl_IsSymmetric.f]
  cases hp : isPoly v l
  · rw [hp] at h1 h2
    refine ⟨false, Ev.step (fun k => by simp only [spec_IsSymmetric.l0]; rfl) ?_, Ev.bind h2 (Ev.ite_false (by simp) (Ev.now _))⟩
    by_cases h : (0 : Int) < (l.length : Int)
    · refine Ev.ite_true h (Ev.bind h1 (Ev.step (fun k => by simp only [spec_IsSymmetric.j1]; rfl) ?_))
      exact Ev.ite_false (by simp) (Ev.bind h1 (Ev.now _))
    · refine Ev.ite_false h (Ev.step (fun k => by simp only [spec_IsSymmetric.j1]; rfl) ?_)
      exact Ev.ite_false (by simp) (Ev.bind h1 (Ev.now _))
  · obtain ⟨r, r1, r2⟩ := sym_l0 v l hs hp l.length 0 (by omega)
    rw [hp] at h2
    exact ⟨r, r1, Ev.bind h2 (Ev.ite_true rfl r2)⟩
theorem FnExactIsSymmetric : laws_FnExactIsSymmetric.Pure := by
  intro v l hv hl
  apply Ev.rounds
  simp only [laws_FnExactIsSymmetric.f]
  obtain ⟨r, hr, hc⟩ := szPoly_ev v l hl.1 (fun m hm => (hl.2 m hm).1.1)
  refine Ev.bind hr ?_
  by_cases h0 : r < 0
  · exact Ev.ite_true h0 (Ev.now _)
  refine Ev.ite_false h0 ?_
  have hs : smallM l := hc.resolve_left h0
  have hb := big_conv hs
  have ht := toPoly_ev v l hs
  obtain ⟨t, h1, h2⟩ := same v _ hb
  have he := eqPoly_self v _ hb.1 hb.2
  repeat (first
    | exact Ev.now _
    | refine Ev.bind ht ?_
    | refine Ev.bind h1 ?_
    | refine Ev.bind h2 ?_
    | refine Ev.bind he ?_
    | refine Ev.ite_true (by first | rfl | (simp; done) | omega | (dsimp only; omega)) ?_
    | refine Ev.ite_false (by first | (simp; done) | omega | (dsimp only; omega)) ?_)

end Go.Proofs.Ytcbfdekjdmmilaa.Pure
