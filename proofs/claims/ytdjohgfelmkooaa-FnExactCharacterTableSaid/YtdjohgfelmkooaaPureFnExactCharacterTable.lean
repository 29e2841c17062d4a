/- The program's CharacterTable answers as the reference's for every number, and its result shares no memory with a later result. No condition. -/
import Derived.Test.YtdjohgfelmkooaaPFnExactCharacterTablex15
import Derived.Test.YtdjohgfelmkooaaVFnExactCharacterTable
set_option linter.unusedVariables false
set_option linter.unusedSimpArgs false
namespace Go.Proofs.Ytdjohgfelmkooaa
open Go.ChangeShapes Go.WideShapes
theorem PrintWords.sized_ints {H : Type} {enc : TypeId × Value → H} {P : Program} {W : World} {base : Nat} {spare : Nat → Bool} {held : Bool} {t e : TypeId} {k : IntKind} {a : Option Addr} {len cap : Nat} {d : DataW H} {ps : List MemPlace} {ts : List TypeId} {ds : List (DataW H)} {j : Nat}
    (hsz : (DataW.weightsEach P ts ds).all (· ≤ reachBytes) = true) (ht : ts[j]? = some t) (hd : ds[j]? = some d) (hu : P.underlying t = some (.slice e)) (he : P.underlying e = some (.int k)) (hc : P.cellsOf e = 1) {B : Nat} (hB : P.bytesOf e = B)
    (h : DataW.Trod enc P W base spare held t (.slice a len cap) d ps) : len * B ≤ 140737488351232 :=
  Go.Proofs.YtdjohgfelmkooaaW.PrintWords.sized_ints hsz ht hd hu he hc hB h
end Go.Proofs.Ytdjohgfelmkooaa
namespace Go.Proofs.Ytdjohgfelmkooaa.Pure
open Go.RowKit Go.Proofs.Ytdjohgfelmkooaa.PFnExactCharacterTable Go.Proofs.YtdjohgfelmkooaaW.PrintWords Go.Proofs.YtdjohgfelmkooaaW.PrintLast

theorem wr_in {x : Int} (h : -9223372036854775808 ≤ x) (h' : x ≤ 9223372036854775807) : wrap64 x = x := by unfold wrap64; omega
theorem wr1 {i : Nat} (h : i < 4611686018427387904) : wrap64 ((i : Int) + 1) = ((i + 1 : Nat) : Int) := by unfold wrap64; omega
theorem Ev.ite_true {α : Type} {c : Prop} [Decidable c] {g f : Nat → Option α} {r : α} (hc : c) (h : Ev g r) : Ev (fun k => if c then g k else f k) r := by
  obtain ⟨K, h⟩ := h
  exact ⟨K, fun k hk => (if_pos hc).trans (h k hk)⟩
theorem Ev.ite_false {α : Type} {c : Prop} [Decidable c] {g f : Nat → Option α} {r : α} (hc : ¬ c) (h : Ev f r) : Ev (fun k => if c then g k else f k) r := by
  obtain ⟨K, h⟩ := h
  exact ⟨K, fun k hk => (if_neg hc).trans (h k hk)⟩
theorem rd_nat (l : List Int) (i : Nat) (h : i < l.length) : rd l (i : Int) = l[i] := by
  simp [rd, List.getD_eq_getElem?_getD, h]
/-- A statement that holds of all members of a list that can be run through. -/
theorem of_all {α : Type} {p : α → Bool} {l : List α} (h : l.all p = true) {x : α} (hx : x ∈ l) : p x = true := List.all_eq_true.mp h x hx
/-- Both answer, and alike. -/
def both {α : Type} [DecidableEq α] (a b : Option α) : Bool := match a, b with
  | some x, some y => decide (x = y)
  | _, _ => false
theorem both_ev {α : Type} [DecidableEq α] {f g : Nat → Option α} (hf : ∀ k, LeO (f k) (f (k + 1))) (hg : ∀ k, LeO (g k) (g (k + 1))) {n m : Nat} (h : both (f n) (g m) = true) : ∃ r, Ev f r ∧ Ev g r := by
  unfold both at h
  split at h
  · rename_i x y hx hy
    have e := of_decide_eq_true h
    subst e
    exact ⟨x, Ev.of hf hx, Ev.of hg hy⟩
  · cases h
theorem take_set_succ {α : Type} (y : List α) (i : Nat) (v : α) (h : i < y.length) : (y.set i v).take (i + 1) = y.take i ++ [v] := by
  rw [List.take_succ_eq_append_getElem (by simpa using h)]
  simp only [List.getElem_set_self]
  congr 1
  apply List.ext_getElem?
  intro j
  simp only [List.getElem?_take, List.getElem?_set]
  by_cases h : j < i
  · rw [if_pos h, if_neg (by omega), if_pos h]
  · rw [if_neg h, if_neg h]

theorem eqIntS_l0 (a b : List Int) (hl : a.length ≤ 1048576) (hab : a.length = b.length) (d : Nat) : ∀ (i k : Nat), i + d = a.length → a.take i = b.take i → d < k → laws_eqIntS.l0 k a b i = some (decide (a = b)) := by
  induction d with
  | zero =>
    intro i k hi ht hk
    obtain ⟨k, rfl⟩ : ∃ m, k = m + 1 := ⟨k - 1, by omega⟩
    simp only [laws_eqIntS.l0]
    rw [if_neg (by omega)]
    obtain rfl : i = a.length := by omega
    rw [List.take_of_length_le (by omega), List.take_of_length_le (by omega)] at ht
    rw [decide_eq_true ht]
  | succ d ih =>
    intro i k hi ht hk
    obtain ⟨k, rfl⟩ : ∃ m, k = m + 1 := ⟨k - 1, by omega⟩
    have hlt : i < a.length := by omega
    have hlt' : i < b.length := by omega
    simp only [laws_eqIntS.l0]
    rw [if_pos (by omega), if_pos (by omega), if_pos (by omega), wr1 (by omega), rd_nat a i hlt, rd_nat b i hlt']
    by_cases h : a[i] = b[i]
    · rw [if_pos h]
      refine ih (i + 1) k (by omega) ?_ (by omega)
      rw [List.take_succ_eq_append_getElem hlt, List.take_succ_eq_append_getElem hlt', ht, h]
    · rw [if_neg h, decide_eq_false]
      intro e
      subst e
      exact h rfl
theorem eqIntS_ev (a b : List Int) (hl : a.length ≤ 1048576) : Ev (fun k => laws_eqIntS.f k a b) (decide (a = b)) := by
  refine ⟨a.length + 1, fun k hk => ?_⟩
  show laws_eqIntS.f k a b = _
  unfold laws_eqIntS.f
  by_cases h : (a.length : Int) = (b.length : Int)
  · rw [if_pos h]
    exact eqIntS_l0 a b hl (by omega) a.length 0 k (by omega) (by simp) (by omega)
  · rw [if_neg h, decide_eq_false]
    intro e
    subst e
    exact h rfl
theorem eqIntS_self (a : List Int) (hl : a.length ≤ 1048576) : Ev (fun k => laws_eqIntS.f k a a) true := by
  have h := eqIntS_ev a a hl
  rwa [decide_eq_true rfl] at h

def markL (a : Int) (n : Nat) : List Int := (List.range n).map (fun (j : Nat) => a + (j : Int))
theorem markL_length (a : Int) (n : Nat) : (markL a n).length = n := by simp [markL]
theorem markL_get (a : Int) (n i : Nat) (h : i < (markL a n).length) : (markL a n)[i] = a + i := by simp [markL]
theorem markIntS_l0 (a : Int) (n : Nat) (h0 : 0 ≤ a) (h1 : a ≤ 4611686018427387904) (hn : n ≤ 4611686018427387) (d : Nat) : ∀ (i : Nat) (y : List Int) (k : Nat), i + d = n → y.length = n → y.take i = markL a i → d < k →
    laws_markIntS.l0 k y (a + i) i = some (a + n, markL a n) := by
  induction d with
  | zero =>
    intro i y k hi hy ht hk
    obtain ⟨k, rfl⟩ : ∃ m, k = m + 1 := ⟨k - 1, by omega⟩
    simp only [laws_markIntS.l0]
    rw [if_neg (by omega)]
    obtain rfl : i = n := by omega
    rw [List.take_of_length_le (by omega)] at ht
    rw [ht]
  | succ d ih =>
    intro i y k hi hy ht hk
    obtain ⟨k, rfl⟩ : ∃ m, k = m + 1 := ⟨k - 1, by omega⟩
    simp only [laws_markIntS.l0]
    rw [if_pos (by omega), if_pos (by omega), wr1 (by omega), wr_in (x := a + i + 1) (by omega) (by omega)]
    have e : a + (i : Int) + 1 = a + ((i + 1 : Nat) : Int) := by omega
    rw [e]
    refine ih (i + 1) _ k (by omega) (by simpa using hy) ?_ (by omega)
    rw [Int.toNat_natCast, take_set_succ y i _ (by omega), ht]
    simp [markL, List.range_succ]
theorem markIntS_ev (a : Int) (l : List Int) (h0 : 0 ≤ a) (h1 : a ≤ 4611686018427387904) (hn : l.length ≤ 4611686018427387) : Ev (fun k => laws_markIntS.f k l a) (a + l.length, markL a l.length) := by
  refine ⟨l.length + 1, fun k hk => ?_⟩
  show laws_markIntS.f k l a = _
  unfold laws_markIntS.f
  have h := markIntS_l0 a l.length h0 h1 hn l.length 0 l k (by omega) rfl (by simp [markL]) (by omega)
  simpa using h
theorem heldIntS_l0 (a : Int) (n : Nat) (h0 : 0 ≤ a) (h1 : a ≤ 4611686018427387904) (hn : n ≤ 4611686018427387) (d : Nat) : ∀ (i k : Nat), i + d = n → d < k →
    laws_heldIntS.l0 k (markL a n) (a + i) i = some (a + n) := by
  induction d with
  | zero =>
    intro i k hi hk
    obtain ⟨k, rfl⟩ : ∃ m, k = m + 1 := ⟨k - 1, by omega⟩
    simp only [laws_heldIntS.l0]
    rw [if_neg (by rw [markL_length]; omega)]
    obtain rfl : i = n := by omega
    rfl
  | succ d ih =>
    intro i k hi hk
    obtain ⟨k, rfl⟩ : ∃ m, k = m + 1 := ⟨k - 1, by omega⟩
    simp only [laws_heldIntS.l0]
    have hlt : i < (markL a n).length := by rw [markL_length]; omega
    rw [if_pos (by rw [markL_length]; omega), if_pos (by omega), rd_nat _ i hlt, markL_get, if_pos rfl, wr1 (by omega), wr_in (x := a + i + 1) (by omega) (by omega)]
    have e : a + (i : Int) + 1 = a + ((i + 1 : Nat) : Int) := by omega
    rw [e]
    exact ih (i + 1) k (by omega) (by omega)
theorem heldIntS_ev (a : Int) (n : Nat) (h0 : 0 ≤ a) (h1 : a ≤ 4611686018427387904) (hn : n ≤ 4611686018427387) : Ev (fun k => laws_heldIntS.f k (markL a n) a) (a + n) := by
  refine ⟨n + 1, fun k hk => ?_⟩
  show laws_heldIntS.f k (markL a n) a = _
  unfold laws_heldIntS.f
  have h := heldIntS_l0 a n h0 h1 hn n 0 k (by omega) (by omega)
  simpa using h

theorem rdL_nat (l : List (List Int)) (i : Nat) (h : i < l.length) : rd_L1 l (i : Int) = l[i] := by
  simp [rd_L1, List.getD_eq_getElem?_getD, h]

theorem eqIntS_at (a b : List Int) (hl : a.length ≤ 1048576) (k : Nat) (hk : a.length + 1 ≤ k) : laws_eqIntS.f k a b = some (decide (a = b)) := by
  unfold laws_eqIntS.f
  by_cases h : (a.length : Int) = (b.length : Int)
  · rw [if_pos h]
    exact eqIntS_l0 a b hl (by omega) a.length 0 k (by omega) (by simp) (by omega)
  · rw [if_neg h, decide_eq_false]
    intro e
    subst e
    exact h rfl
def smallL (l : List (List Int)) : Prop := l.length ≤ 1048576 ∧ ∀ x ∈ l, x.length ≤ 1048576
theorem eqIntSS_l0 (l : List (List Int)) (hs : smallL l) (d : Nat) : ∀ (i k : Nat), i + d = l.length → d + 1048578 < k → laws_eqIntSS.l0 k l l i = some true := by
  obtain ⟨hl, he⟩ := hs
  induction d with
  | zero =>
    intro i k hi hk
    obtain ⟨k, rfl⟩ : ∃ m, k = m + 1 := ⟨k - 1, by omega⟩
    simp only [laws_eqIntSS.l0]
    rw [if_neg (by omega)]
  | succ d ih =>
    intro i k hi hk
    obtain ⟨k, rfl⟩ : ∃ m, k = m + 1 := ⟨k - 1, by omega⟩
    have hlt : i < l.length := by omega
    have hx := he _ (List.getElem_mem hlt)
    simp only [laws_eqIntSS.l0]
    rw [if_pos (by omega), if_pos (by omega), rdL_nat l i hlt, if_pos (by omega), eqIntS_at _ _ hx k (by omega)]
    simp only [Option.bind_some, decide_true, if_true]
    rw [wr1 (by omega)]
    exact ih (i + 1) k (by omega) (by omega)
theorem eqIntSS_self (l : List (List Int)) (hs : smallL l) : Ev (fun k => laws_eqIntSS.f k l l) true := by
  refine ⟨l.length + 1048579, fun k hk => ?_⟩
  show laws_eqIntSS.f k l l = some true
  unfold laws_eqIntSS.f
  rw [if_pos rfl]
  exact eqIntSS_l0 l hs l.length 0 k (by omega) (by omega)

-- Rows of rows, marked and held.
def tot : List (List Int) → Int
  | [] => 0
  | x :: xs => (x.length : Int) + tot xs
def markLL : Int → List (List Int) → List (List Int)
  | _, [] => []
  | a, x :: xs => markL a x.length :: markLL (a + x.length) xs
theorem tot_nonneg : ∀ (l : List (List Int)), 0 ≤ tot l
  | [] => by simp [tot]
  | x :: xs => by have := tot_nonneg xs; simp only [tot]; omega
theorem tot_le {m : Nat} : ∀ (l : List (List Int)), (∀ x ∈ l, x.length ≤ m) → tot l ≤ (l.length : Int) * (m : Int)
  | [], _ => by simp [tot]
  | x :: xs, h => by
    have h1 := tot_le xs (fun y hy => h y (List.mem_cons_of_mem _ hy))
    have h2 := h x (List.mem_cons_self ..)
    simp only [tot, List.length_cons]
    rw [show (((xs.length + 1 : Nat)) : Int) * (m : Int) = (xs.length : Int) * (m : Int) + (m : Int) by rw [Int.natCast_succ, Int.add_mul, Int.one_mul]]
    generalize (xs.length : Int) * (m : Int) = z at *
    omega
theorem rdL_mid (pre : List (List Int)) (x : List Int) (s : List (List Int)) : rd_L1 (pre ++ x :: s) (pre.length : Int) = x := by
  rw [rdL_nat _ pre.length (by simp)]; simp
theorem set_mid (pre : List (List Int)) (x v : List Int) (s : List (List Int)) : (pre ++ x :: s).set ((pre.length : Nat) : Int).toNat v = (pre ++ [v]) ++ s := by
  simp
theorem markSS_l0 : ∀ (s pre : List (List Int)) (b : Int), pre.length + s.length ≤ 1048576 → (∀ x ∈ s, x.length ≤ 1048576) → 0 ≤ b → b + tot s ≤ 2305843009213693952 →
    Ev (fun k => laws_markIntSS.l0 k (pre ++ s) b (pre.length : Int)) (b + tot s, pre ++ markLL b s)
  | [], pre, b, h1, h2, h3, h4 => by
    refine Ev.step (fun k => by simp only [laws_markIntSS.l0]; rfl) (Ev.ite_false (by simp) ?_)
    simp only [tot, markLL, Int.add_zero]
    exact Ev.now _
  | x :: s, pre, b, h1, h2, h3, h4 => by
    have hx := h2 x (List.mem_cons_self ..)
    have ht := tot_nonneg s
    simp only [tot] at h4
    simp only [List.length_cons] at h1
    have hm := markIntS_ev b x h3 (by omega) (by omega)
    have ih := markSS_l0 s (pre ++ [markL b x.length]) (b + x.length) (by simp; omega) (fun y hy => h2 y (List.mem_cons_of_mem _ hy)) (by omega) (by omega)
    have hlt : (pre.length : Int) < ((pre ++ x :: s).length : Int) := by simp only [List.length_append, List.length_cons]; omega
    have w1 : wrap64 ((pre.length : Int) + 1) = ((pre.length + 1 : Nat) : Int) := wr1 (by omega)
    refine Ev.step (fun k => by simp only [laws_markIntSS.l0]; rfl) (Ev.ite_true hlt (Ev.ite_true (Int.natCast_nonneg _) ?_))
    rw [rdL_mid, w1]
    refine Ev.bind hm ?_
    rw [set_mid]
    simp only [tot, markLL]
    rw [show b + ((x.length : Int) + tot s) = b + x.length + tot s by rw [Int.add_assoc], show pre ++ markL b x.length :: markLL (b + x.length) s = (pre ++ [markL b x.length]) ++ markLL (b + x.length) s by simp]
    simpa using ih
theorem markSS_ev (l : List (List Int)) (a : Int) (hl : l.length ≤ 1048576) (he : ∀ x ∈ l, x.length ≤ 1048576) (h0 : 0 ≤ a) (h1 : a ≤ 1152921504606846976) : Ev (fun k => laws_markIntSS.f k l a) (a + tot l, markLL a l) := by
  have ht := tot_le (m := 1048576) l he
  have hb : (l.length : Int) * ((1048576 : Nat) : Int) ≤ 1099511627776 := by
    have : (l.length : Int) * ((1048576 : Nat) : Int) ≤ ((1048576 : Nat) : Int) * ((1048576 : Nat) : Int) := Int.mul_le_mul_of_nonneg_right (by omega) (by omega)
    exact Int.le_trans this (by decide)
  have h := markSS_l0 l [] a (by simpa using hl) he h0 (by omega)
  simpa [laws_markIntSS.f] using h

theorem heldSS_l0 : ∀ (s pre : List (List Int)) (b : Int), pre.length + s.length ≤ 1048576 → (∀ x ∈ s, x.length ≤ 1048576) → 0 ≤ b → b + tot s ≤ 2305843009213693952 →
    Ev (fun k => laws_heldIntSS.l0 k (pre ++ markLL b s) b (pre.length : Int)) (b + tot s)
  | [], pre, b, h1, h2, h3, h4 => by
    refine Ev.step (fun k => by simp only [laws_heldIntSS.l0]; rfl) (Ev.ite_false (by simp [markLL]) ?_)
    simp only [tot, Int.add_zero]
    exact Ev.now _
  | x :: s, pre, b, h1, h2, h3, h4 => by
    have hx := h2 x (List.mem_cons_self ..)
    have ht := tot_nonneg s
    simp only [tot] at h4
    simp only [List.length_cons] at h1
    have hm := heldIntS_ev b x.length h3 (by omega) (by omega)
    have ih := heldSS_l0 s (pre ++ [markL b x.length]) (b + x.length) (by simp; omega) (fun y hy => h2 y (List.mem_cons_of_mem _ hy)) (by omega) (by omega)
    have hlt : (pre.length : Int) < ((pre ++ markLL b (x :: s)).length : Int) := by simp only [markLL, List.length_append, List.length_cons]; omega
    have w1 : wrap64 ((pre.length : Int) + 1) = ((pre.length + 1 : Nat) : Int) := wr1 (by omega)
    have hneg : ¬ (b + (x.length : Int) < 0) := by omega
    refine Ev.step (fun k => by simp only [laws_heldIntSS.l0]; rfl) (Ev.ite_true hlt (Ev.ite_true (Int.natCast_nonneg _) ?_))
    simp only [markLL]
    rw [rdL_mid, w1]
    refine Ev.bind hm (Ev.ite_false hneg ?_)
    simp only [tot]
    rw [show b + ((x.length : Int) + tot s) = b + x.length + tot s by rw [Int.add_assoc], show pre ++ markL b x.length :: markLL (b + x.length) s = (pre ++ [markL b x.length]) ++ markLL (b + x.length) s by simp]
    simpa using ih
theorem heldSS_ev (l : List (List Int)) (a : Int) (hl : l.length ≤ 1048576) (he : ∀ x ∈ l, x.length ≤ 1048576) (h0 : 0 ≤ a) (h1 : a ≤ 1152921504606846976) : Ev (fun k => laws_heldIntSS.f k (markLL a l) a) (a + tot l) := by
  have ht := tot_le (m := 1048576) l he
  have hb : (l.length : Int) * ((1048576 : Nat) : Int) ≤ 1099511627776 := by
    have : (l.length : Int) * ((1048576 : Nat) : Int) ≤ ((1048576 : Nat) : Int) * ((1048576 : Nat) : Int) := Int.mul_le_mul_of_nonneg_right (by omega) (by omega)
    exact Int.le_trans this (by decide)
  have h := heldSS_l0 l [] a (by simpa using hl) he h0 (by omega)
  simpa [laws_heldIntSS.f] using h

theorem l1In_f (x a b : Int) : spec_l1In.f x a b = some (decide (a ≤ x ∧ x ≤ b)) := by
  unfold spec_l1In.f
  by_cases h : x ≥ a
  · rw [if_pos h]; congr 1; by_cases h2 : x ≤ b
    · rw [decide_eq_true h2, decide_eq_true ⟨h, h2⟩]
    · rw [decide_eq_false h2, decide_eq_false (by omega)]
  · rw [if_neg h, decide_eq_false (by omega)]

theorem within_f (x a b : Int) : impl_within.f x a b = some (decide (a ≤ x ∧ x ≤ b)) := by
  unfold impl_within.f
  by_cases h : a ≤ x
  · rw [if_pos h]; congr 1; by_cases h2 : x ≤ b
    · rw [decide_eq_true h2, decide_eq_true ⟨h, h2⟩]
    · rw [decide_eq_false h2, decide_eq_false (by omega)]
  · rw [if_neg h, decide_eq_false (by omega)]

/-! Partitions: a plain test, and all of them. -/
def isPF (prev s : Int) : List Int → Bool
  | [] => true
  | x :: xs => if 1 ≤ x ∧ x ≤ 9 ∧ x ≤ prev ∧ s + x ≤ 9 then isPF x (s + x) xs else false
def isP (l : List Int) : Bool := isPF 9 0 l
/-- All lists of numbers of at most 'prev' that add to 's' at most 9. -/
def genP : Nat → Nat → Nat → List (List Int)
  | 0, _, _ => [[]]
  | n + 1, prev, s => [] :: (List.range' 1 (min prev (9 - s))).flatMap fun x => (genP n x (s + x)).map fun r => (x : Int) :: r
theorem mem_genP : ∀ (n prev s : Nat) (l : List Int), 9 < n + s → s ≤ 9 → isPF prev s l = true → l ∈ genP n prev s
  | 0, prev, s, l, h1, h2, _ => by omega
  | n + 1, prev, s, [], _, _, _ => by simp [genP]
  | n + 1, prev, s, x :: xs, h1, h2, h => by
    simp only [isPF] at h
    split at h
    · rename_i hc
      obtain ⟨c1, c2, c3, c4⟩ := hc
      obtain ⟨m, rfl⟩ : ∃ m : Nat, x = (m : Int) := ⟨x.toNat, by omega⟩
      have e : (s : Int) + (m : Int) = ((s + m : Nat) : Int) := by omega
      rw [e] at h
      have ih := mem_genP n m (s + m) xs (by omega) (by omega) h
      simp only [genP, List.mem_cons, List.mem_flatMap]
      refine Or.inr ⟨m, ?_, ?_⟩
      · simp only [List.mem_range'_1]; omega
      · exact List.mem_map.2 ⟨xs, ih, rfl⟩
    · cases h
def allP : List (List Int) := genP 10 9 0
theorem mem_allP {l : List Int} (h : isP l = true) : l ∈ allP := mem_genP 10 9 0 l (by omega) (by omega) h
theorem isPF_length : ∀ (l : List Int) (prev s : Int), isPF prev s l = true → s + l.length ≤ 9 ∨ l = []
  | [], _, _, _ => .inr rfl
  | x :: xs, prev, s, h => by
    simp only [isPF] at h
    split at h
    · rename_i hc
      rcases isPF_length xs x (s + x) h with h1 | rfl
      · left; simp only [List.length_cons]; omega
      · left; simp; omega
    · cases h
theorem isP_length {l : List Int} (h : isP l = true) : l.length ≤ 9 := by
  rcases isPF_length l 9 0 h with h | rfl
  · omega
  · simp
/-- What stands at place i, and behind it. -/
theorem drop_cons (l : List Int) (i : Nat) (h : i < l.length) : l.drop i = l[i] :: l.drop (i + 1) := List.drop_eq_getElem_cons h
def prevOf (l : List Int) (i : Nat) : Int := if i = 0 then 9 else l.getD (i - 1) 0
theorem prevOf_succ (l : List Int) (i : Nat) (h : i < l.length) : prevOf l (i + 1) = l[i] := by simp [prevOf, h]

theorem specIsP_l0 (l : List Int) (hl : l.length ≤ 1048576) (d : Nat) : ∀ (i k : Nat) (s : Int), i + d = l.length → 0 ≤ s → s ≤ 9 → 2 * d < k → spec_IsPartition.l0 k l s i = some (isPF (prevOf l i) s (l.drop i)) := by
  induction d with
  | zero =>
    intro i k s hi h0 h9 hk
    obtain ⟨k, rfl⟩ : ∃ m, k = m + 1 := ⟨k - 1, by omega⟩
    simp only [spec_IsPartition.l0]
    rw [if_neg (by omega), List.drop_of_length_le (by omega)]
    rfl
  | succ d ih =>
    intro i k s hi h0 h9 hk
    obtain ⟨k, rfl⟩ : ∃ m, k = m + 2 := ⟨k - 2, by omega⟩
    have hlt : i < l.length := by omega
    simp only [spec_IsPartition.l0]
    rw [if_pos (by omega), if_pos (by omega), rd_nat l i hlt, l1In_f, drop_cons l i hlt]
    simp only [Option.bind_some, isPF]
    have hj : ∀ b : Bool, (b = true ↔ ¬ (1 ≤ l[i] ∧ l[i] ≤ 9 ∧ l[i] ≤ prevOf l i)) →
        spec_IsPartition.j1 (k + 1) l s i b = some (if 1 ≤ l[i] ∧ l[i] ≤ 9 ∧ l[i] ≤ prevOf l i ∧ s + l[i] ≤ 9 then isPF l[i] (s + l[i]) (l.drop (i + 1)) else false) := by
      intro b hb
      simp only [spec_IsPartition.j1]
      by_cases hc : 1 ≤ l[i] ∧ l[i] ≤ 9 ∧ l[i] ≤ prevOf l i
      · rw [if_neg (fun h => hb.1 h hc), if_pos (by omega), if_pos (by omega), rd_nat l i hlt, wr_in (by omega) (by omega), wr1 (by omega)]
        by_cases h9' : s + l[i] > 9
        · rw [if_pos h9', if_neg (by omega)]
        · rw [if_neg h9', if_pos ⟨hc.1, hc.2.1, hc.2.2, by omega⟩, ih (i + 1) k _ (by omega) (by omega) (by omega) (by omega), prevOf_succ l i hlt]
      · rw [if_pos (hb.2 hc), if_neg (fun h => hc ⟨h.1, h.2.1, h.2.2.1⟩)]
    by_cases h1 : 1 ≤ l[i] ∧ l[i] ≤ 9
    · rw [if_pos (decide_eq_true h1)]
      by_cases hi0 : i = 0
      · subst hi0
        rw [if_neg (by omega)]
        exact hj false (by simp [prevOf]; omega)
      · have e : wrap64 ((i : Int) - 1) = ((i - 1 : Nat) : Int) := by unfold wrap64; omega
        rw [if_pos (by omega), e, if_pos (by omega), if_pos (by omega), rd_nat l (i - 1) (by omega)]
        refine hj _ ?_
        have hp : prevOf l i = l[i - 1] := by simp [prevOf, hi0]; rw [List.getElem?_eq_getElem (by omega)]; rfl
        rw [hp, decide_eq_true_iff]; omega
    · rw [if_neg (by simp; omega)]
      exact hj true (by simp; omega)
theorem specIsP_ev (l : List Int) (hl : l.length ≤ 1048576) : Ev (fun k => spec_IsPartition.f k l) (isP l) := by
  refine ⟨2 * l.length + 1, fun k hk => ?_⟩
  have h := specIsP_l0 l hl l.length 0 k 0 (by omega) (by omega) (by omega) (by omega)
  simpa [spec_IsPartition.f, isP, prevOf] using h

theorem implIsP_l0 (l : List Int) (hl : l.length ≤ 1048576) (d : Nat) : ∀ (i k : Nat) (s : Int), i + d = l.length → 0 ≤ s → s ≤ 9 → 2 * d < k → impl_IsPartition.l0 k l s l l.length i = some (isPF (prevOf l i) s (l.drop i)) := by
  induction d with
  | zero =>
    intro i k s hi h0 h9 hk
    obtain ⟨k, rfl⟩ : ∃ m, k = m + 1 := ⟨k - 1, by omega⟩
    simp only [impl_IsPartition.l0]
    rw [if_neg (by omega), List.drop_of_length_le (by omega)]
    rfl
  | succ d ih =>
    intro i k s hi h0 h9 hk
    obtain ⟨k, rfl⟩ : ∃ m, k = m + 2 := ⟨k - 2, by omega⟩
    have hlt : i < l.length := by omega
    simp only [impl_IsPartition.l0]
    rw [if_pos (by omega), if_pos (by omega), if_pos (by omega), rd_nat l i hlt, within_f, drop_cons l i hlt]
    simp only [Option.bind_some, isPF]
    have hj : ∀ b : Bool, (b = true ↔ ¬ (1 ≤ l[i] ∧ l[i] ≤ 9 ∧ l[i] ≤ prevOf l i)) →
        impl_IsPartition.j1 (k + 1) l s l[i] l l.length i b = some (if 1 ≤ l[i] ∧ l[i] ≤ 9 ∧ l[i] ≤ prevOf l i ∧ s + l[i] ≤ 9 then isPF l[i] (s + l[i]) (l.drop (i + 1)) else false) := by
      intro b hb
      simp only [impl_IsPartition.j1]
      by_cases hc : 1 ≤ l[i] ∧ l[i] ≤ 9 ∧ l[i] ≤ prevOf l i
      · rw [if_neg (fun h => hb.1 h hc), wr_in (x := s + l[i]) (by omega) (by omega), wr1 (by omega)]
        by_cases h9' : s + l[i] > 9
        · rw [if_pos h9', if_neg (by omega)]
        · rw [if_neg h9', if_pos ⟨hc.1, hc.2.1, hc.2.2, by omega⟩, ih (i + 1) k _ (by omega) (by omega) (by omega) (by omega), prevOf_succ l i hlt]
      · rw [if_pos (hb.2 hc), if_neg (fun h => hc ⟨h.1, h.2.1, h.2.2.1⟩)]
    by_cases h1 : 1 ≤ l[i] ∧ l[i] ≤ 9
    · rw [if_pos (decide_eq_true h1)]
      by_cases hi0 : i = 0
      · subst hi0
        rw [if_neg (by omega)]
        exact hj false (by simp [prevOf]; omega)
      · have e : wrap64 ((i : Int) - 1) = ((i - 1 : Nat) : Int) := by unfold wrap64; omega
        rw [if_pos (by omega), e, if_pos (by omega), if_pos (by omega), rd_nat l (i - 1) (by omega)]
        refine hj _ ?_
        have hp : prevOf l i = l[i - 1] := by simp [prevOf, hi0]; rw [List.getElem?_eq_getElem (by omega)]; rfl
        rw [hp, decide_eq_true_iff]; omega
    · rw [if_neg (by simp; omega)]
      exact hj true (by simp; omega)
theorem implIsP_ev (l : List Int) (hl : l.length ≤ 1048576) : Ev (fun k => impl_IsPartition.f k l) (isP l) := by
  refine ⟨2 * l.length + 1, fun k hk => ?_⟩
  have h := implIsP_l0 l hl l.length 0 k 0 (by omega) (by omega) (by omega) (by omega)
  simpa [impl_IsPartition.f, isP, prevOf] using h

-- The size of a partition, -1 for what is none.
def szB (p : List Int) : Int := if isP p = true then p.sum else -1
theorem factsize : allP.all (fun p => decide (spec_l2Size.f 20 p = some p.sum) && decide (impl_sum.f 20 p = some p.sum)) = true := by decide +kernel
theorem specL2_ev {p : List Int} (h : isP p = true) : Ev (fun k => spec_l2Size.f k p) p.sum := by
  have a := of_all factsize (mem_allP h)
  simp only [Bool.and_eq_true, decide_eq_true_eq] at a
  exact Ev.of (spec_l2Size.mono p) a.1
theorem implSum_ev {p : List Int} (h : isP p = true) : Ev (fun k => impl_sum.f k p) p.sum := by
  have a := of_all factsize (mem_allP h)
  simp only [Bool.and_eq_true, decide_eq_true_eq] at a
  exact Ev.of (impl_sum.mono p) a.2

theorem implSize_ev (l : List Int) (hl : l.length ≤ 1048576) : Ev (fun k => impl_SizeOf.f k l) (szB l) := by
  simp only [impl_SizeOf.f, szB]
  refine Ev.bind (implIsP_ev l hl) ?_
  by_cases h : isP l = true
  · rw [if_pos h]; exact Ev.ite_true h (Ev.bind (implSum_ev h) (Ev.now _))
  · rw [if_neg h]; exact Ev.ite_false h (Ev.now _)

-- RibbonsInside of both, with the ribbons' heights: alike over all partitions of at most 9 and k from 1 to 9.
def rb (p : List Int) (k : Int) (a b : Option (List S63)) : Bool := match a, b with
  | some x, some y => (decide (x.map (fun s => (s.f0, s.f1)) = y.map (fun s => (s.f0, s.f1))) && decide (x.length ≤ 100)) && x.all (fun s => (isP s.f1 && decide (s.f1.sum = p.sum - k)) && both (spec_RibbonHeight.f 60 s.f0 s.f1) (impl_RibbonHeight.f 60 s.f0 s.f1))
  | _, _ => false
def ks : List Int := [1, 2, 3, 4, 5, 6, 7, 8, 9]
set_option maxHeartbeats 400000000 in
theorem rparts0 : ((allP.drop 0).take 10).all (fun p => ks.all (fun k => rb p k (spec_RibbonsInside.f 100 p k) (impl_RibbonsInside.f 100 p k))) = true := by decide +kernel
set_option maxHeartbeats 400000000 in
theorem rparts1 : ((allP.drop 10).take 10).all (fun p => ks.all (fun k => rb p k (spec_RibbonsInside.f 100 p k) (impl_RibbonsInside.f 100 p k))) = true := by decide +kernel
set_option maxHeartbeats 400000000 in
theorem rparts2 : ((allP.drop 20).take 10).all (fun p => ks.all (fun k => rb p k (spec_RibbonsInside.f 100 p k) (impl_RibbonsInside.f 100 p k))) = true := by decide +kernel
set_option maxHeartbeats 400000000 in
theorem rparts3 : ((allP.drop 30).take 10).all (fun p => ks.all (fun k => rb p k (spec_RibbonsInside.f 100 p k) (impl_RibbonsInside.f 100 p k))) = true := by decide +kernel
set_option maxHeartbeats 400000000 in
theorem rparts4 : ((allP.drop 40).take 10).all (fun p => ks.all (fun k => rb p k (spec_RibbonsInside.f 100 p k) (impl_RibbonsInside.f 100 p k))) = true := by decide +kernel
set_option maxHeartbeats 400000000 in
theorem rparts5 : ((allP.drop 50).take 10).all (fun p => ks.all (fun k => rb p k (spec_RibbonsInside.f 100 p k) (impl_RibbonsInside.f 100 p k))) = true := by decide +kernel
set_option maxHeartbeats 400000000 in
theorem rparts6 : ((allP.drop 60).take 10).all (fun p => ks.all (fun k => rb p k (spec_RibbonsInside.f 100 p k) (impl_RibbonsInside.f 100 p k))) = true := by decide +kernel
set_option maxHeartbeats 400000000 in
theorem rparts7 : ((allP.drop 70).take 10).all (fun p => ks.all (fun k => rb p k (spec_RibbonsInside.f 100 p k) (impl_RibbonsInside.f 100 p k))) = true := by decide +kernel
set_option maxHeartbeats 400000000 in
theorem rparts8 : ((allP.drop 80).take 10).all (fun p => ks.all (fun k => rb p k (spec_RibbonsInside.f 100 p k) (impl_RibbonsInside.f 100 p k))) = true := by decide +kernel
set_option maxHeartbeats 400000000 in
theorem rparts9 : ((allP.drop 90).take 10).all (fun p => ks.all (fun k => rb p k (spec_RibbonsInside.f 100 p k) (impl_RibbonsInside.f 100 p k))) = true := by decide +kernel
theorem rparts {p : List Int} (h : p ∈ allP) : ks.all (fun k => rb p k (spec_RibbonsInside.f 100 p k) (impl_RibbonsInside.f 100 p k)) = true := by
  have hl : allP.length = 97 := by decide +kernel
  obtain ⟨i, hi, rfl⟩ := List.getElem_of_mem h
  have pick : ∀ q, 10 * q ≤ i → i < 10 * q + 10 → allP[i] ∈ (allP.drop (10 * q)).take 10 := fun q h1 h2 => by
    rw [List.mem_take_iff_getElem]
    refine ⟨i - 10 * q, by simp; omega, ?_⟩
    simp only [List.getElem_drop]
    congr 1
    omega
  by_cases h0 : i < 10
  · exact of_all rparts0 (pick 0 (by omega) (by omega))
  by_cases h1 : i < 20
  · exact of_all rparts1 (pick 1 (by omega) (by omega))
  by_cases h2 : i < 30
  · exact of_all rparts2 (pick 2 (by omega) (by omega))
  by_cases h3 : i < 40
  · exact of_all rparts3 (pick 3 (by omega) (by omega))
  by_cases h4 : i < 50
  · exact of_all rparts4 (pick 4 (by omega) (by omega))
  by_cases h5 : i < 60
  · exact of_all rparts5 (pick 5 (by omega) (by omega))
  by_cases h6 : i < 70
  · exact of_all rparts6 (pick 6 (by omega) (by omega))
  by_cases h7 : i < 80
  · exact of_all rparts7 (pick 7 (by omega) (by omega))
  by_cases h8 : i < 90
  · exact of_all rparts8 (pick 8 (by omega) (by omega))
  by_cases h9 : i < 100
  · exact of_all rparts9 (pick 9 (by omega) (by omega))
  omega
theorem psum {p : List Int} (h : isP p = true) : 0 ≤ p.sum ∧ p.sum ≤ 9 := by
  have a : allP.all (fun p => decide (0 ≤ p.sum ∧ p.sum ≤ 9)) = true := by decide +kernel
  exact of_decide_eq_true (of_all a (mem_allP h))
theorem ptail {p : List Int} (h : isP p = true) : isP p.tail = true := by
  have a : allP.all (fun p => isP p.tail) = true := by decide +kernel
  exact of_all a (mem_allP h)
theorem S54_eq : ∀ {x y : List S63}, x.map (fun s => (s.f0, s.f1)) = y.map (fun s => (s.f0, s.f1)) → x = y
  | [], [], _ => rfl
  | [], _ :: _, h => by simp at h
  | _ :: _, [], h => by simp at h
  | a :: x, b :: y, h => by
    simp only [List.map_cons, List.cons.injEq, Prod.mk.injEq] at h
    have e : a = b := by cases a; cases b; simp_all
    rw [e, S54_eq h.2]
theorem ribbons {p : List Int} {a : Int} (h : isP p = true) (ha : 1 ≤ a ∧ a ≤ 9) : ∃ x : List S63, Ev (fun k => spec_RibbonsInside.f k p a) x ∧ Ev (fun k => impl_RibbonsInside.f k p a) x ∧ x.length ≤ 100 ∧ ∀ s ∈ x, isP s.f1 = true ∧ s.f1.sum = p.sum - a ∧ ∃ r, Ev (fun k => spec_RibbonHeight.f k s.f0 s.f1) r ∧ Ev (fun k => impl_RibbonHeight.f k s.f0 s.f1) r := by
  have hk : a ∈ ks := by
    simp only [ks, List.mem_cons, List.not_mem_nil, or_false]; omega
  have hr := of_all (rparts (mem_allP h)) hk
  unfold rb at hr
  split at hr
  · rename_i x y hx hy
    simp only [Bool.and_eq_true, decide_eq_true_eq, List.all_eq_true] at hr
    obtain rfl := S54_eq hr.1.1
    refine ⟨x, Ev.of (spec_RibbonsInside.mono p a) hx, Ev.of (impl_RibbonsInside.mono p a) hy, hr.1.2, fun s hs => ⟨(hr.2 s hs).1.1, (hr.2 s hs).1.2, ?_⟩⟩
    exact both_ev (spec_RibbonHeight.mono s.f0 s.f1) (impl_RibbonHeight.mono s.f0 s.f1) (hr.2 s hs).2
  · cases hr

-- The characters of both, at partitions of one size.
theorem rdT54_nat (l : List S63) (i : Nat) (h : i < l.length) : rd_T63 l (i : Int) = l[i] := by
  simp [rd_T63, List.getD_eq_getElem?_getD, h]
theorem char_ev : ∀ (q p : List Int), isP p = true → isP q = true → p.sum = q.sum → ∃ r, Ev (fun k => spec_l22Character.f k p q) r ∧ Ev (fun k => impl_CharacterOf.f k p q) r
  | [], p, hp, hq, hs => by
    have hl := isP_length hp
    refine ⟨1, Ev.step (fun k => by simp only [spec_l22Character.f]; rfl) (Ev.ite_true (by simp) (Ev.now _)), Ev.step (fun k => by simp only [impl_CharacterOf.f]; rfl) ?_⟩
    refine Ev.bind (implSize_ev p (by omega)) (Ev.bind (implSize_ev [] (by simp)) ?_)
    have h1 : szB p = p.sum := if_pos hp
    have h2 : szB [] = 0 := rfl
    rw [h1, h2]
    simp only [List.sum_nil] at hs
    refine Ev.ite_true hs (Ev.bind (implSize_ev p (by omega)) ?_)
    rw [h1, hs]
    refine Ev.step (fun k => by simp only [impl_CharacterOf.j0]; rfl) ?_
    exact Ev.ite_false (by simp) (Ev.ite_true (by simp) (Ev.now _))
  | a :: q, p, hp, hq, hs => by
    have hl := isP_length hp
    have hlq := isP_length hq
    have hq' : isP q = true := ptail hq
    have ha : 1 ≤ a ∧ a ≤ 9 := by
      have h := hq
      simp only [isP, isPF] at h
      split at h
      · rename_i hc; omega
      · cases h
    have hsum : (a :: q).sum = a + q.sum := by simp
    obtain ⟨x, hx, hy, hxl, hin⟩ := ribbons hp ha
    have loop : ∀ (d i : Nat) (s : Int), i + d = x.length → ∃ r, Ev (fun k => spec_l22Character.l0 k (a :: q) s x i) r ∧ Ev (fun k => impl_CharacterOf.l0 k (a :: q) s x x.length i) r := by
      intro d
      induction d with
      | zero =>
        intro i s hi
        exact ⟨s, Ev.step (fun k => by simp only [spec_l22Character.l0]; rfl) (Ev.ite_false (by omega) (Ev.now _)), Ev.step (fun k => by simp only [impl_CharacterOf.l0]; rfl) (Ev.ite_false (by omega) (Ev.now _))⟩
      | succ d ih =>
        intro i s hi
        have hlt : i < x.length := by omega
        obtain ⟨hp1, hs1, hh, h1, h2⟩ := hin _ (List.getElem_mem hlt)
        obtain ⟨c, c1, c2⟩ := char_ev q x[i].f1 hp1 hq' (by omega)
        have w1 : wrap64 ((i : Int) + 1) = ((i + 1 : Nat) : Int) := wr1 (by omega)
        by_cases ho : Int.tmod hh 2 = 1
        · obtain ⟨r, r1, r2⟩ := ih (i + 1) (wrap64 (s + wrap64 (-c))) (by omega)
          refine ⟨r, Ev.step (fun k => by simp only [spec_l22Character.l0]; rfl) ?_, Ev.step (fun k => by simp only [impl_CharacterOf.l0]; rfl) ?_⟩
          · rw [rdT54_nat x i hlt, w1, show (a :: q).drop 1 = q from rfl]
            exact Ev.ite_true (by omega) (Ev.ite_true (Int.natCast_nonneg _) (Ev.ite_true (by simp only [List.length_cons]; omega) (Ev.bind c1 (Ev.bind h1 (Ev.ite_true ho r1)))))
          · rw [rdT54_nat x i hlt, w1, show (a :: q).drop 1 = q from rfl]
            exact Ev.ite_true (by omega) (Ev.ite_true (Int.natCast_nonneg _) (Ev.ite_true (by omega) (Ev.ite_true (by simp only [List.length_cons]; omega) (Ev.bind c2 (Ev.bind h2 (Ev.ite_true ho r2))))))
        · obtain ⟨r, r1, r2⟩ := ih (i + 1) (wrap64 (s + c)) (by omega)
          refine ⟨r, Ev.step (fun k => by simp only [spec_l22Character.l0]; rfl) ?_, Ev.step (fun k => by simp only [impl_CharacterOf.l0]; rfl) ?_⟩
          · rw [rdT54_nat x i hlt, w1, show (a :: q).drop 1 = q from rfl]
            exact Ev.ite_true (by omega) (Ev.ite_true (Int.natCast_nonneg _) (Ev.ite_true (by simp only [List.length_cons]; omega) (Ev.bind c1 (Ev.bind h1 (Ev.ite_false ho r1)))))
          · rw [rdT54_nat x i hlt, w1, show (a :: q).drop 1 = q from rfl]
            exact Ev.ite_true (by omega) (Ev.ite_true (Int.natCast_nonneg _) (Ev.ite_true (by omega) (Ev.ite_true (by simp only [List.length_cons]; omega) (Ev.bind c2 (Ev.bind h2 (Ev.ite_false ho r2))))))
    obtain ⟨r, r1, r2⟩ := loop x.length 0 0 (by omega)
    refine ⟨r, Ev.step (fun k => by simp only [spec_l22Character.f]; rfl) ?_, Ev.step (fun k => by simp only [impl_CharacterOf.f]; rfl) ?_⟩
    · exact Ev.ite_false (by simp only [List.length_cons]; omega) (Ev.ite_true (by simp only [List.length_cons]; omega) (Ev.bind hx r1))
    · refine Ev.bind (implSize_ev p (by omega)) (Ev.bind (implSize_ev (a :: q) (by omega)) ?_)
      have h1 : szB p = p.sum := if_pos hp
      have h2 : szB (a :: q) = (a :: q).sum := if_pos hq
      rw [h1, h2]
      refine Ev.ite_true hs (Ev.bind (implSize_ev p (by omega)) ?_)
      rw [h1]
      have hd : decide (p.sum < 0) = false := by have := psum hp; simp; omega
      rw [hd]
      refine Ev.step (fun k => by simp only [impl_CharacterOf.j0]; rfl) ?_
      exact Ev.ite_false (by simp) (Ev.ite_false (by simp only [List.length_cons]; omega) (Ev.ite_true (by simp only [List.length_cons]; omega) (Ev.bind hy r2)))

-- PartitionsOf of both, for n from 0 to 9.
theorem factparts : (List.range 10).all (fun n => match spec_PartitionsOf.f 300 n, impl_PartitionsOf.f 300 n with
  | some x, some y => (decide (x = y) && decide (x.length ≤ 100)) && x.all (fun p => isP p && decide (p.sum = n))
  | _, _ => false) = true := by decide +kernel
theorem partsOf {n : Int} (h : 0 ≤ n ∧ n ≤ 9) : ∃ x : List (List Int), Ev (fun k => spec_PartitionsOf.f k n) x ∧ Ev (fun k => impl_PartitionsOf.f k n) x ∧ x.length ≤ 100 ∧ ∀ p ∈ x, isP p = true ∧ p.sum = n := by
  obtain ⟨m, rfl⟩ : ∃ m : Nat, n = (m : Int) := ⟨n.toNat, by omega⟩
  have a := of_all factparts (x := m) (List.mem_range.2 (by omega))
  split at a
  · rename_i x y hx hy
    simp only [Bool.and_eq_true, decide_eq_true_eq, List.all_eq_true] at a
    obtain ⟨⟨rfl, a2⟩, a3⟩ := a
    exact ⟨x, Ev.of (spec_PartitionsOf.mono _) hx, Ev.of (impl_PartitionsOf.mono _) hy, a2, a3⟩
  · cases a

theorem row_loop (x : List (List Int)) (n : Int) (hx : ∀ p ∈ x, isP p = true ∧ p.sum = n) (hxl : x.length ≤ 100) (i : Nat) (hi : i < x.length) (d : Nat) : ∀ (j : Nat) (s : List Int), j + d = x.length → s.length = j →
    ∃ r : List Int, r.length ≤ 100 ∧ (∀ (y R : List (List Int)), y.length < 1000 → Ev (fun k => spec_CharacterTable.l0 k (y ++ [r]) x ((i + 1 : Nat) : Int)) R → Ev (fun k => spec_CharacterTable.l1 k y x i s j) R) ∧ Ev (fun k => impl_vectorOf__impl_CharacterTable_1.l0 k s x x.length j x[i]) r := by
  have hi5 : i < 4611686018427387904 := by omega
  have hi' : (i : Int) < (x.length : Int) := by omega
  induction d with
  | zero =>
    intro j s hj hs
    have c1 : ¬ (j : Int) < (x.length : Int) := by omega
    refine ⟨s, by omega, fun y R hy h => Ev.step (fun k => by simp only [spec_CharacterTable.l1]; rfl) (Ev.ite_false c1 (Ev.ite_true (Nat.lt_trans hy (by decide)) ?_)), Ev.step (fun k => by simp only [impl_vectorOf__impl_CharacterTable_1.l0]; rfl) (Ev.ite_false c1 (Ev.now _))⟩
    rw [wr1 hi5]; exact h
  | succ d ih =>
    intro j s hj hs
    have hlt : j < x.length := by omega
    have hlt' : (j : Int) < (x.length : Int) := by omega
    have hsl : s.length < 17592186044416 := by omega
    obtain ⟨hp, hps⟩ := hx _ (List.getElem_mem hi)
    obtain ⟨hq, hqs⟩ := hx _ (List.getElem_mem hlt)
    obtain ⟨c, c1, c2⟩ := char_ev x[j] x[i] hp hq (by rw [hps, hqs])
    obtain ⟨r, hr, r1, r2⟩ := ih (j + 1) (s ++ [c]) (by omega) (by simp [hs])
    have hj5 : j < 4611686018427387904 := by omega
    refine ⟨r, hr, fun y R hy h => Ev.step (fun k => by simp only [spec_CharacterTable.l1]; rfl) ?_, Ev.step (fun k => by simp only [impl_vectorOf__impl_CharacterTable_1.l0]; rfl) ?_⟩
    · rw [wr1 hj5, rdL_nat x j hlt, rdL_nat x i hi]
      exact Ev.ite_true hlt' (Ev.ite_true (Int.natCast_nonneg _) (Ev.ite_true hi' (Ev.ite_true (Int.natCast_nonneg _) (Ev.bind c1 (Ev.ite_true hsl (r1 y R hy h))))))
    · rw [wr1 hj5, rdL_nat x j hlt]
      simp only [impl_CharacterTable_1__c.f]
      exact Ev.ite_true hlt' (Ev.ite_true (Int.natCast_nonneg _) (Ev.ite_true hlt' (Ev.bind (Ev.bind c2 (Ev.now _)) (Ev.ite_true hsl r2))))
theorem table_loop (x : List (List Int)) (n : Int) (hn : 0 ≤ n ∧ n ≤ 6) (hx : ∀ p ∈ x, isP p = true ∧ p.sum = n) (hxl : x.length ≤ 100) (hp : Ev (fun k => impl_PartitionsOf.f k n) x) (d : Nat) : ∀ (i : Nat) (y : List (List Int)), i + d = x.length → y.length = i → (∀ z ∈ y, z.length ≤ 100) →
    ∃ r : List (List Int), (r.length ≤ 100 ∧ ∀ z ∈ r, z.length ≤ 100) ∧ Ev (fun k => spec_CharacterTable.l0 k y x i) r ∧ Ev (fun k => impl_CharacterTable.l0 k y x x.length i) r := by
  induction d with
  | zero =>
    intro i y hi hy hz
    have c1 : ¬ (i : Int) < (x.length : Int) := by omega
    exact ⟨y, ⟨by omega, hz⟩, Ev.step (fun k => by simp only [spec_CharacterTable.l0]; rfl) (Ev.ite_false c1 (Ev.now _)), Ev.step (fun k => by simp only [impl_CharacterTable.l0]; rfl) (Ev.ite_false c1 (Ev.now _))⟩
  | succ d ih =>
    intro i y hi hy hz
    have hlt : i < x.length := by omega
    have hlt' : (i : Int) < (x.length : Int) := by omega
    have hyl : y.length < 5864062014805 := by omega
    obtain ⟨hP, hs⟩ := hx _ (List.getElem_mem hlt)
    have hl := isP_length hP
    have hzB : szB x[i] = n := by unfold szB; rw [if_pos hP]; exact hs
    obtain ⟨r, hr, r1, r2⟩ := row_loop x n hx hxl i hlt x.length 0 [] (by omega) rfl
    obtain ⟨R, hR, R1, R2⟩ := ih (i + 1) (y ++ [r]) (by omega) (by simp [hy]) (by
      intro z h
      rcases List.mem_append.1 h with h | h
      · exact hz z h
      · rw [List.mem_singleton.1 h]; exact hr)
    have hi5 : i < 4611686018427387904 := by omega
    have hy5 : y.length < 1000 := by omega
    refine ⟨R, hR, Ev.step (fun k => by simp only [spec_CharacterTable.l0]; rfl) (Ev.ite_true hlt' (r1 y R hy5 R1)), Ev.step (fun k => by simp only [impl_CharacterTable.l0]; rfl) ?_⟩
    rw [wr1 hi5, rdL_nat x i hlt]
    refine Ev.ite_true hlt' (Ev.ite_true (Int.natCast_nonneg _) (Ev.ite_true hlt' (Ev.bind (a := r) ?_ (Ev.ite_true hyl R2))))
    simp only [impl_vectorOf__impl_CharacterTable_1.f, within_f, Option.bind_some]
    refine Ev.bind (implSize_ev x[i] (by omega)) ?_
    rw [hzB]
    refine Ev.ite_true (by simp; omega) (Ev.bind (implSize_ev x[i] (by omega)) ?_)
    rw [hzB]
    exact Ev.bind hp r2
theorem same (n : Int) : ∃ r : List (List Int), (r.length ≤ 100 ∧ ∀ z ∈ r, z.length ≤ 100) ∧ Ev (fun k => spec_CharacterTable.f k n) r ∧ Ev (fun k => impl_CharacterTable.f k n) r := by
  simp only [spec_CharacterTable.f, impl_CharacterTable.f, within_f, l1In_f, Option.bind_some]
  by_cases hn : 0 ≤ n ∧ n ≤ 6
  · obtain ⟨x, x1, x2, hxl, hx⟩ := partsOf (n := n) (by omega)
    obtain ⟨r, hr, r1, r2⟩ := table_loop x n hn hx hxl x2 x.length 0 [] (by omega) rfl (by simp)
    exact ⟨r, hr, Ev.ite_true (by simpa using hn) (Ev.bind x1 r1), Ev.ite_true (by simpa using hn) (Ev.bind x2 r2)⟩
  · exact ⟨[], by simp, Ev.ite_false (by simpa using hn) (Ev.now _), Ev.ite_false (by simpa using hn) (Ev.now _)⟩
theorem FnExactCharacterTable : laws_FnExactCharacterTable.Pure := by
  intro n h1
  apply Ev.rounds
  simp only [laws_FnExactCharacterTable.f]
  obtain ⟨r, ⟨hr, hr2⟩, hs, hi⟩ := same n
  have hx : ∀ x ∈ r, x.length ≤ 1048576 := fun x hx => Nat.le_trans (hr2 x hx) (by decide)
  have he2 := eqIntSS_self r ⟨by omega, hx⟩
  have hm2 := markSS_ev r 1 (by omega) hx (by omega) (by omega)
  have hh := heldSS_ev r 1 (by omega) hx (by omega) (by omega)
  have htn := tot_nonneg r
  repeat (first
    | exact Ev.now _
    | refine Ev.bind hs ?_
    | refine Ev.bind hi ?_
    | refine Ev.bind he2 ?_
    | refine Ev.bind hm2 ?_
    | refine Ev.bind hh ?_
    | refine Ev.ite_true (by first | rfl | (simp; done) | omega | (dsimp only; omega)) ?_
    | refine Ev.ite_false (by first | (simp; done) | omega | (dsimp only; omega)) ?_)

end Go.Proofs.Ytdjohgfelmkooaa.Pure
