/- The program's CombineVectors answers as the reference's for every list of numbers and list of lists, of at most 2^20 numbers each, leaves its arguments alone, and its result shares no memory with arguments or later result; above that the law says nothing. No condition. -/
import Derived.Test.YtdjohgfelmkooaaPFnExactCombineVectorsx4
import Derived.Test.YtdjohgfelmkooaaWSized
set_option linter.unusedVariables false
set_option linter.unusedSimpArgs false
namespace Go.Proofs.Ytdjohgfelmkooaa
open Go.ChangeShapes Go.WideShapes
theorem PrintWords.sized_ints {H : Type} {enc : TypeId × Value → H} {P : Program} {W : World} {base : Nat} {spare : Nat → Bool} {held : Bool} {t e : TypeId} {k : IntKind} {a : Option Addr} {len cap : Nat} {d : DataW H} {ps : List MemPlace} {ts : List TypeId} {ds : List (DataW H)} {j : Nat}
    (hsz : (DataW.weightsEach P ts ds).all (· ≤ reachBytes) = true) (ht : ts[j]? = some t) (hd : ds[j]? = some d) (hu : P.underlying t = some (.slice e)) (he : P.underlying e = some (.int k)) (hc : P.cellsOf e = 1) {B : Nat} (hB : P.bytesOf e = B)
    (h : DataW.Trod enc P W base spare held t (.slice a len cap) d ps) : len * B ≤ 140737488351232 :=
  Go.Proofs.YtdjohgfelmkooaaW.PrintWords.sized_ints hsz ht hd hu he hc hB h
end Go.Proofs.Ytdjohgfelmkooaa
namespace Go.Proofs.Ytdjohgfelmkooaa.Pure
open Go.RowKit Go.Proofs.Ytdjohgfelmkooaa.PFnExactCombineVectors Go.Proofs.YtdjohgfelmkooaaW.PrintWords Go.Proofs.YtdjohgfelmkooaaW.PrintLast

theorem wr_in {x : Int} (h : -9223372036854775808 ≤ x) (h' : x ≤ 9223372036854775807) : wrap64 x = x := by unfold wrap64; omega
theorem wr1 {i : Nat} (h : i < 4611686018427387904) : wrap64 ((i : Int) + 1) = ((i + 1 : Nat) : Int) := by unfold wrap64; omega
theorem Ev.ite_true {α : Type} {c : Prop} [Decidable c] {g f : Nat → Option α} {r : α} (hc : c) (h : Ev g r) : Ev (fun k => if c then g k else f k) r := by
  obtain ⟨K, h⟩ := h
  exact ⟨K, fun k hk => (if_pos hc).trans (h k hk)⟩
theorem Ev.ite_false {α : Type} {c : Prop} [Decidable c] {g f : Nat → Option α} {r : α} (hc : ¬ c) (h : Ev f r) : Ev (fun k => if c then g k else f k) r := by
  obtain ⟨K, h⟩ := h
  exact ⟨K, fun k hk => (if_neg hc).trans (h k hk)⟩
theorem rd_nat (l : List Int) (i : Nat) (h : i < l.length) : rd l (i : Int) = l[i] := by
  simp [rd, List.getD_eq_getElem?_getD, h]
/-- A statement that holds of all members of a list that can be run through. -/
theorem of_all {α : Type} {p : α → Bool} {l : List α} (h : l.all p = true) {x : α} (hx : x ∈ l) : p x = true := List.all_eq_true.mp h x hx
/-- Both answer, and alike. -/
def both {α : Type} [DecidableEq α] (a b : Option α) : Bool := match a, b with
  | some x, some y => decide (x = y)
  | _, _ => false
theorem both_ev {α : Type} [DecidableEq α] {f g : Nat → Option α} (hf : ∀ k, LeO (f k) (f (k + 1))) (hg : ∀ k, LeO (g k) (g (k + 1))) {n m : Nat} (h : both (f n) (g m) = true) : ∃ r, Ev f r ∧ Ev g r := by
  unfold both at h
  split at h
  · rename_i x y hx hy
    have e := of_decide_eq_true h
    subst e
    exact ⟨x, Ev.of hf hx, Ev.of hg hy⟩
  · cases h
theorem take_set_succ {α : Type} (y : List α) (i : Nat) (v : α) (h : i < y.length) : (y.set i v).take (i + 1) = y.take i ++ [v] := by
  rw [List.take_succ_eq_append_getElem (by simpa using h)]
  simp only [List.getElem_set_self]
  congr 1
  apply List.ext_getElem?
  intro j
  simp only [List.getElem?_take, List.getElem?_set]
  by_cases h : j < i
  · rw [if_pos h, if_neg (by omega), if_pos h]
  · rw [if_neg h, if_neg h]

theorem toIntS_l0 (l : List Int) (hl : l.length ≤ 1048576) (d : Nat) : ∀ (i : Nat) (y : List Int) (k : Nat), i + d = l.length → y.length = l.length → y.take i = l.take i → d < k → laws_toIntS.l0 k l y i = some l := by
  induction d with
  | zero =>
    intro i y k hi hy ht hk
    obtain ⟨k, rfl⟩ : ∃ m, k = m + 1 := ⟨k - 1, by omega⟩
    simp only [laws_toIntS.l0]
    rw [if_neg (by omega)]
    obtain rfl : i = l.length := by omega
    rw [List.take_of_length_le (by omega), List.take_of_length_le (by omega)] at ht
    rw [ht]
  | succ d ih =>
    intro i y k hi hy ht hk
    obtain ⟨k, rfl⟩ : ∃ m, k = m + 1 := ⟨k - 1, by omega⟩
    have hlt : i < l.length := by omega
    simp only [laws_toIntS.l0]
    rw [if_pos (by omega), if_pos (by omega), if_pos (by omega), wr1 (by omega), rd_nat l i hlt]
    refine ih (i + 1) _ k (by omega) (by simpa using hy) ?_ (by omega)
    rw [Int.toNat_natCast, take_set_succ y i _ (by omega), ht, List.take_succ_eq_append_getElem hlt]
theorem toIntS_ev (l : List Int) (hl : l.length ≤ 1048576) : Ev (fun k => laws_toIntS.f k l) l := by
  refine ⟨l.length + 1, fun k hk => ?_⟩
  show laws_toIntS.f k l = some l
  unfold laws_toIntS.f
  rw [if_pos (by omega), if_pos (by omega)]
  exact toIntS_l0 l hl l.length 0 _ k (by omega) (by simp) (by simp) (by omega)

theorem eqIntS_l0 (a b : List Int) (hl : a.length ≤ 1048576) (hab : a.length = b.length) (d : Nat) : ∀ (i k : Nat), i + d = a.length → a.take i = b.take i → d < k → laws_eqIntS.l0 k a b i = some (decide (a = b)) := by
  induction d with
  | zero =>
    intro i k hi ht hk
    obtain ⟨k, rfl⟩ : ∃ m, k = m + 1 := ⟨k - 1, by omega⟩
    simp only [laws_eqIntS.l0]
    rw [if_neg (by omega)]
    obtain rfl : i = a.length := by omega
    rw [List.take_of_length_le (by omega), List.take_of_length_le (by omega)] at ht
    rw [decide_eq_true ht]
  | succ d ih =>
    intro i k hi ht hk
    obtain ⟨k, rfl⟩ : ∃ m, k = m + 1 := ⟨k - 1, by omega⟩
    have hlt : i < a.length := by omega
    have hlt' : i < b.length := by omega
    simp only [laws_eqIntS.l0]
    rw [if_pos (by omega), if_pos (by omega), if_pos (by omega), wr1 (by omega), rd_nat a i hlt, rd_nat b i hlt']
    by_cases h : a[i] = b[i]
    · rw [if_pos h]
      refine ih (i + 1) k (by omega) ?_ (by omega)
      rw [List.take_succ_eq_append_getElem hlt, List.take_succ_eq_append_getElem hlt', ht, h]
    · rw [if_neg h, decide_eq_false]
      intro e
      subst e
      exact h rfl
theorem eqIntS_ev (a b : List Int) (hl : a.length ≤ 1048576) : Ev (fun k => laws_eqIntS.f k a b) (decide (a = b)) := by
  refine ⟨a.length + 1, fun k hk => ?_⟩
  show laws_eqIntS.f k a b = _
  unfold laws_eqIntS.f
  by_cases h : (a.length : Int) = (b.length : Int)
  · rw [if_pos h]
    exact eqIntS_l0 a b hl (by omega) a.length 0 k (by omega) (by simp) (by omega)
  · rw [if_neg h, decide_eq_false]
    intro e
    subst e
    exact h rfl
theorem eqIntS_self (a : List Int) (hl : a.length ≤ 1048576) : Ev (fun k => laws_eqIntS.f k a a) true := by
  have h := eqIntS_ev a a hl
  rwa [decide_eq_true rfl] at h

theorem rdL_nat (l : List (List Int)) (i : Nat) (h : i < l.length) : rd_L1 l (i : Int) = l[i] := by
  simp [rd_L1, List.getD_eq_getElem?_getD, h]

theorem toIntS_at (l : List Int) (hl : l.length ≤ 1048576) (k : Nat) (hk : l.length + 1 ≤ k) : laws_toIntS.f k l = some l := by
  unfold laws_toIntS.f
  rw [if_pos (by omega), if_pos (by omega)]
  exact toIntS_l0 l hl l.length 0 _ k (by omega) (by simp) (by simp) (by omega)
theorem eqIntS_at (a b : List Int) (hl : a.length ≤ 1048576) (k : Nat) (hk : a.length + 1 ≤ k) : laws_eqIntS.f k a b = some (decide (a = b)) := by
  unfold laws_eqIntS.f
  by_cases h : (a.length : Int) = (b.length : Int)
  · rw [if_pos h]
    exact eqIntS_l0 a b hl (by omega) a.length 0 k (by omega) (by simp) (by omega)
  · rw [if_neg h, decide_eq_false]
    intro e
    subst e
    exact h rfl
def smallL (l : List (List Int)) : Prop := l.length ≤ 1048576 ∧ ∀ x ∈ l, x.length ≤ 1048576
theorem szIntSS_l0 (l : List (List Int)) (hm : ∀ x ∈ l, x.length ≤ maxLen) (hl : l.length ≤ 1048576) (d : Nat) : ∀ (i : Nat) (a : Int) (k : Nat), i + d = l.length → 0 ≤ a → a ≤ 1048576 → d < k →
    ∃ r, laws_szIntSS.l0 k l a i = some r ∧ (r < 0 ∨ ∀ x ∈ l.drop i, x.length ≤ 1048576) := by
  induction d with
  | zero =>
    intro i a k hi h0 h1 hk
    obtain ⟨k, rfl⟩ : ∃ m, k = m + 1 := ⟨k - 1, by omega⟩
    simp only [laws_szIntSS.l0]
    rw [if_neg (by omega), List.drop_of_length_le (by omega)]
    exact ⟨_, rfl, .inr (by simp)⟩
  | succ d ih =>
    intro i a k hi h0 h1 hk
    obtain ⟨k, rfl⟩ : ∃ m, k = m + 1 := ⟨k - 1, by omega⟩
    have hlt : i < l.length := by omega
    have hx := hm _ (List.getElem_mem hlt)
    unfold maxLen at hx
    simp only [laws_szIntSS.l0, laws_szIntS.f]
    rw [if_pos (by omega), if_pos (by omega), rdL_nat l i hlt, wr_in (x := a - (l[i].length : Int)) (by omega) (by omega), wr1 (by omega), List.drop_eq_getElem_cons hlt]
    by_cases h : a - (l[i].length : Int) < 0
    · rw [if_pos h]
      exact ⟨-1, by simp, .inl (by omega)⟩
    · rw [if_neg h]
      simp only [Option.bind_some]
      rw [if_neg h]
      obtain ⟨r, hr, hc⟩ := ih (i + 1) (a - (l[i].length : Int)) k (by omega) (by omega) (by omega) (by omega)
      refine ⟨r, hr, hc.imp_right fun hc x hx => ?_⟩
      rcases List.mem_cons.1 hx with rfl | hx
      · omega
      · exact hc x hx
theorem szIntSS_ev (l : List (List Int)) (hn : l.length ≤ maxLen) (hm : ∀ x ∈ l, x.length ≤ maxLen) : ∃ r, Ev (fun k => laws_szIntSS.f k l 1048576) r ∧ (r < 0 ∨ smallL l) := by
  unfold maxLen at hn
  simp only [laws_szIntSS.f]
  rw [wr_in (x := 1048576 - (l.length : Int)) (by omega) (by omega)]
  by_cases h : 1048576 - (l.length : Int) < 0
  · exact ⟨-1, Ev.ite_true h (Ev.now _), .inl (by omega)⟩
  · have hall := fun k (hk : l.length < k) => szIntSS_l0 l hm (by omega) l.length 0 (1048576 - (l.length : Int)) k (by omega) (by omega) (by omega) hk
    obtain ⟨r, hr, hc⟩ := hall (l.length + 1) (by omega)
    refine ⟨r, Ev.ite_false h ⟨l.length + 1, fun k hk => ?_⟩, hc.imp_right fun hc => ⟨by omega, by simpa using hc⟩⟩
    exact at_rounds (fun k => laws_szIntSS.mono_l k _ _ _) hk hr
theorem toIntSS_l0 (l : List (List Int)) (hs : smallL l) (d : Nat) : ∀ (i : Nat) (y : List (List Int)) (k : Nat), i + d = l.length → y.length = l.length → y.take i = l.take i → d + 1048578 < k → laws_toIntSS.l0 k l y i = some l := by
  obtain ⟨hl, he⟩ := hs
  induction d with
  | zero =>
    intro i y k hi hy ht hk
    obtain ⟨k, rfl⟩ : ∃ m, k = m + 1 := ⟨k - 1, by omega⟩
    simp only [laws_toIntSS.l0]
    rw [if_neg (by omega)]
    obtain rfl : i = l.length := by omega
    rw [List.take_of_length_le (by omega), List.take_of_length_le (by omega)] at ht
    rw [ht]
  | succ d ih =>
    intro i y k hi hy ht hk
    obtain ⟨k, rfl⟩ : ∃ m, k = m + 1 := ⟨k - 1, by omega⟩
    have hlt : i < l.length := by omega
    have hx := he _ (List.getElem_mem hlt)
    simp only [laws_toIntSS.l0]
    rw [if_pos (by omega), if_pos (by omega), rdL_nat l i hlt, toIntS_at _ hx k (by omega)]
    simp only [Option.bind_some]
    rw [if_pos (by omega), wr1 (by omega)]
    refine ih (i + 1) _ k (by omega) (by simpa using hy) ?_ (by omega)
    rw [Int.toNat_natCast, take_set_succ y i _ (by omega), ht, List.take_succ_eq_append_getElem hlt]
theorem toIntSS_ev (l : List (List Int)) (hs : smallL l) : Ev (fun k => laws_toIntSS.f k l) l := by
  refine ⟨l.length + 1048579, fun k hk => ?_⟩
  show laws_toIntSS.f k l = some l
  have hl := hs.1
  unfold laws_toIntSS.f
  rw [if_pos (by omega), if_pos (by omega)]
  exact toIntSS_l0 l hs l.length 0 _ k (by omega) (by simp) (by simp) (by omega)
theorem eqIntSS_l0 (l : List (List Int)) (hs : smallL l) (d : Nat) : ∀ (i k : Nat), i + d = l.length → d + 1048578 < k → laws_eqIntSS.l0 k l l i = some true := by
  obtain ⟨hl, he⟩ := hs
  induction d with
  | zero =>
    intro i k hi hk
    obtain ⟨k, rfl⟩ : ∃ m, k = m + 1 := ⟨k - 1, by omega⟩
    simp only [laws_eqIntSS.l0]
    rw [if_neg (by omega)]
  | succ d ih =>
    intro i k hi hk
    obtain ⟨k, rfl⟩ : ∃ m, k = m + 1 := ⟨k - 1, by omega⟩
    have hlt : i < l.length := by omega
    have hx := he _ (List.getElem_mem hlt)
    simp only [laws_eqIntSS.l0]
    rw [if_pos (by omega), if_pos (by omega), rdL_nat l i hlt, if_pos (by omega), eqIntS_at _ _ hx k (by omega)]
    simp only [Option.bind_some, decide_true, if_true]
    rw [wr1 (by omega)]
    exact ih (i + 1) k (by omega) (by omega)
theorem eqIntSS_self (l : List (List Int)) (hs : smallL l) : Ev (fun k => laws_eqIntSS.f k l l) true := by
  refine ⟨l.length + 1048579, fun k hk => ?_⟩
  show laws_eqIntSS.f k l l = some true
  unfold laws_eqIntSS.f
  rw [if_pos rfl]
  exact eqIntSS_l0 l hs l.length 0 k (by omega) (by omega)

def markL (a : Int) (n : Nat) : List Int := (List.range n).map (fun (j : Nat) => a + (j : Int))
theorem markL_length (a : Int) (n : Nat) : (markL a n).length = n := by simp [markL]
theorem markL_get (a : Int) (n i : Nat) (h : i < (markL a n).length) : (markL a n)[i] = a + i := by simp [markL]
theorem markIntS_l0 (a : Int) (n : Nat) (h0 : 0 ≤ a) (h1 : a ≤ 4611686018427387904) (hn : n ≤ 4611686018427387) (d : Nat) : ∀ (i : Nat) (y : List Int) (k : Nat), i + d = n → y.length = n → y.take i = markL a i → d < k →
    laws_markIntS.l0 k y (a + i) i = some (a + n, markL a n) := by
  induction d with
  | zero =>
    intro i y k hi hy ht hk
    obtain ⟨k, rfl⟩ : ∃ m, k = m + 1 := ⟨k - 1, by omega⟩
    simp only [laws_markIntS.l0]
    rw [if_neg (by omega)]
    obtain rfl : i = n := by omega
    rw [List.take_of_length_le (by omega)] at ht
    rw [ht]
  | succ d ih =>
    intro i y k hi hy ht hk
    obtain ⟨k, rfl⟩ : ∃ m, k = m + 1 := ⟨k - 1, by omega⟩
    simp only [laws_markIntS.l0]
    rw [if_pos (by omega), if_pos (by omega), wr1 (by omega), wr_in (x := a + i + 1) (by omega) (by omega)]
    have e : a + (i : Int) + 1 = a + ((i + 1 : Nat) : Int) := by omega
    rw [e]
    refine ih (i + 1) _ k (by omega) (by simpa using hy) ?_ (by omega)
    rw [Int.toNat_natCast, take_set_succ y i _ (by omega), ht]
    simp [markL, List.range_succ]
theorem markIntS_ev (a : Int) (l : List Int) (h0 : 0 ≤ a) (h1 : a ≤ 4611686018427387904) (hn : l.length ≤ 4611686018427387) : Ev (fun k => laws_markIntS.f k l a) (a + l.length, markL a l.length) := by
  refine ⟨l.length + 1, fun k hk => ?_⟩
  show laws_markIntS.f k l a = _
  unfold laws_markIntS.f
  have h := markIntS_l0 a l.length h0 h1 hn l.length 0 l k (by omega) rfl (by simp [markL]) (by omega)
  simpa using h
theorem heldIntS_l0 (a : Int) (n : Nat) (h0 : 0 ≤ a) (h1 : a ≤ 4611686018427387904) (hn : n ≤ 4611686018427387) (d : Nat) : ∀ (i k : Nat), i + d = n → d < k →
    laws_heldIntS.l0 k (markL a n) (a + i) i = some (a + n) := by
  induction d with
  | zero =>
    intro i k hi hk
    obtain ⟨k, rfl⟩ : ∃ m, k = m + 1 := ⟨k - 1, by omega⟩
    simp only [laws_heldIntS.l0]
    rw [if_neg (by rw [markL_length]; omega)]
    obtain rfl : i = n := by omega
    rfl
  | succ d ih =>
    intro i k hi hk
    obtain ⟨k, rfl⟩ : ∃ m, k = m + 1 := ⟨k - 1, by omega⟩
    simp only [laws_heldIntS.l0]
    have hlt : i < (markL a n).length := by rw [markL_length]; omega
    rw [if_pos (by rw [markL_length]; omega), if_pos (by omega), rd_nat _ i hlt, markL_get, if_pos rfl, wr1 (by omega), wr_in (x := a + i + 1) (by omega) (by omega)]
    have e : a + (i : Int) + 1 = a + ((i + 1 : Nat) : Int) := by omega
    rw [e]
    exact ih (i + 1) k (by omega) (by omega)
theorem heldIntS_ev (a : Int) (n : Nat) (h0 : 0 ≤ a) (h1 : a ≤ 4611686018427387904) (hn : n ≤ 4611686018427387) : Ev (fun k => laws_heldIntS.f k (markL a n) a) (a + n) := by
  refine ⟨n + 1, fun k hk => ?_⟩
  show laws_heldIntS.f k (markL a n) a = _
  unfold laws_heldIntS.f
  have h := heldIntS_l0 a n h0 h1 hn n 0 k (by omega) (by omega)
  simpa using h

-- Rows of rows, marked and held.
def tot : List (List Int) → Int
  | [] => 0
  | x :: xs => (x.length : Int) + tot xs
def markLL : Int → List (List Int) → List (List Int)
  | _, [] => []
  | a, x :: xs => markL a x.length :: markLL (a + x.length) xs
theorem tot_nonneg : ∀ (l : List (List Int)), 0 ≤ tot l
  | [] => by simp [tot]
  | x :: xs => by have := tot_nonneg xs; simp only [tot]; omega
theorem tot_le {m : Nat} : ∀ (l : List (List Int)), (∀ x ∈ l, x.length ≤ m) → tot l ≤ (l.length : Int) * (m : Int)
  | [], _ => by simp [tot]
  | x :: xs, h => by
    have h1 := tot_le xs (fun y hy => h y (List.mem_cons_of_mem _ hy))
    have h2 := h x (List.mem_cons_self ..)
    simp only [tot, List.length_cons]
    rw [show (((xs.length + 1 : Nat)) : Int) * (m : Int) = (xs.length : Int) * (m : Int) + (m : Int) by rw [Int.natCast_succ, Int.add_mul, Int.one_mul]]
    generalize (xs.length : Int) * (m : Int) = z at *
    omega
theorem rdL_mid (pre : List (List Int)) (x : List Int) (s : List (List Int)) : rd_L1 (pre ++ x :: s) (pre.length : Int) = x := by
  rw [rdL_nat _ pre.length (by simp)]; simp
theorem set_mid (pre : List (List Int)) (x v : List Int) (s : List (List Int)) : (pre ++ x :: s).set ((pre.length : Nat) : Int).toNat v = (pre ++ [v]) ++ s := by
  simp
theorem markSS_l0 : ∀ (s pre : List (List Int)) (b : Int), pre.length + s.length ≤ 1048576 → (∀ x ∈ s, x.length ≤ 1048576) → 0 ≤ b → b + tot s ≤ 2305843009213693952 →
    Ev (fun k => laws_markIntSS.l0 k (pre ++ s) b (pre.length : Int)) (b + tot s, pre ++ markLL b s)
  | [], pre, b, h1, h2, h3, h4 => by
    refine Ev.step (fun k => by simp only [laws_markIntSS.l0]; rfl) (Ev.ite_false (by simp) ?_)
    simp only [tot, markLL, Int.add_zero]
    exact Ev.now _
  | x :: s, pre, b, h1, h2, h3, h4 => by
    have hx := h2 x (List.mem_cons_self ..)
    have ht := tot_nonneg s
    simp only [tot] at h4
    simp only [List.length_cons] at h1
    have hm := markIntS_ev b x h3 (by omega) (by omega)
    have ih := markSS_l0 s (pre ++ [markL b x.length]) (b + x.length) (by simp; omega) (fun y hy => h2 y (List.mem_cons_of_mem _ hy)) (by omega) (by omega)
    have hlt : (pre.length : Int) < ((pre ++ x :: s).length : Int) := by simp only [List.length_append, List.length_cons]; omega
    have w1 : wrap64 ((pre.length : Int) + 1) = ((pre.length + 1 : Nat) : Int) := wr1 (by omega)
    refine Ev.step (fun k => by simp only [laws_markIntSS.l0]; rfl) (Ev.ite_true hlt (Ev.ite_true (Int.natCast_nonneg _) ?_))
    rw [rdL_mid, w1]
    refine Ev.bind hm ?_
    rw [set_mid]
    simp only [tot, markLL]
    rw [show b + ((x.length : Int) + tot s) = b + x.length + tot s by rw [Int.add_assoc], show pre ++ markL b x.length :: markLL (b + x.length) s = (pre ++ [markL b x.length]) ++ markLL (b + x.length) s by simp]
    simpa using ih
theorem markSS_ev (l : List (List Int)) (a : Int) (hl : l.length ≤ 1048576) (he : ∀ x ∈ l, x.length ≤ 1048576) (h0 : 0 ≤ a) (h1 : a ≤ 1152921504606846976) : Ev (fun k => laws_markIntSS.f k l a) (a + tot l, markLL a l) := by
  have ht := tot_le (m := 1048576) l he
  have hb : (l.length : Int) * ((1048576 : Nat) : Int) ≤ 1099511627776 := by
    have : (l.length : Int) * ((1048576 : Nat) : Int) ≤ ((1048576 : Nat) : Int) * ((1048576 : Nat) : Int) := Int.mul_le_mul_of_nonneg_right (by omega) (by omega)
    exact Int.le_trans this (by decide)
  have h := markSS_l0 l [] a (by simpa using hl) he h0 (by omega)
  simpa [laws_markIntSS.f] using h

theorem both_l0 (v : List Int) (f : List (List Int)) (hv : v.length = f.length) (hf : f.length ≤ 1048576) (d : Nat) : ∀ (i : Nat) (y : List Int), i + d = f.length → y.length ≤ 1048576 →
    ∃ r : List Int × Bool, r.1.length ≤ 1048576 ∧ Ev (fun k => spec_CombineVectors.l0 k v f y i) r ∧ Ev (fun k => impl_CombineVectors.l0 k v y f f.length i) r := by
  induction d with
  | zero =>
    intro i y hi hy
    exact ⟨(y, true), hy, Ev.step (fun k => by simp only [spec_CombineVectors.l0]; rfl) (Ev.ite_false (by omega) (Ev.now _)), Ev.step (fun k => by simp only [impl_CombineVectors.l0]; rfl) (Ev.ite_false (by omega) (Ev.now _))⟩
  | succ d ih =>
    intro i y hi hy
    have hlt : i < f.length := by omega
    have hlt' : (i : Int) < (f.length : Int) := by omega
    have hltv : i < v.length := by omega
    have hltv' : (i : Int) < (v.length : Int) := by omega
    by_cases hq : (f[i].length : Int) = (y.length : Int)
    · have inner : ∀ (e j : Nat) (y : List Int), j + e = y.length → (f[i].length : Int) = (y.length : Int) → y.length ≤ 1048576 →
          ∃ r : List Int × Bool, r.1.length ≤ 1048576 ∧ Ev (fun k => spec_CombineVectors.l1 k v f y i j) r ∧ Ev (fun k => impl_CombineVectors.l1 k v y i f f.length i f[i] f[i].length j) r := by
        intro e
        induction e with
        | zero =>
          intro j y hj hq hy
          obtain ⟨r, hr, r1, r2⟩ := ih (i + 1) y (by omega) hy
          have w1 : wrap64 ((i : Int) + 1) = ((i + 1 : Nat) : Int) := wr1 (by omega)
          refine ⟨r, hr, Ev.step (fun k => by simp only [spec_CombineVectors.l1]; rfl) (Ev.ite_false (by omega) ?_), Ev.step (fun k => by simp only [impl_CombineVectors.l1]; rfl) (Ev.ite_false (by omega) ?_)⟩
          · rw [w1]; exact r1
          · rw [w1]; exact r2
        | succ e ihe =>
          intro j y hj hq hy
          have hjl : j < y.length := by omega
          have hjl' : (j : Int) < (y.length : Int) := by omega
          have hjf' : (j : Int) < (f[i].length : Int) := by omega
          have hj1 : j + 1 + e = y.length := by omega
          have w2 : wrap64 ((j : Int) + 1) = ((j + 1 : Nat) : Int) := wr1 (by omega)
          obtain ⟨r, hr, r1, r2⟩ := ihe (j + 1) (y.set (j : Int).toNat (wrap64 (rd y j + wrap64 (rd v i * rd f[i] j)))) (by simpa using hj1) (by simpa using hq) (by simpa using hy)
          refine ⟨r, hr, Ev.step (fun k => by simp only [spec_CombineVectors.l1]; rfl) (Ev.ite_true hjl' (Ev.ite_true (Int.natCast_nonneg _) (Ev.ite_true (Int.natCast_nonneg _) (Ev.ite_true hltv' (Ev.ite_true hlt' ?_))))), Ev.step (fun k => by simp only [impl_CombineVectors.l1]; rfl) (Ev.ite_true hjf' (Ev.ite_true (Int.natCast_nonneg _) (Ev.ite_true hjf' (Ev.ite_true hjl' (Ev.ite_true (Int.natCast_nonneg _) (Ev.ite_true hltv' ?_))))))⟩
          · rw [w2, rdL_nat f i hlt]; exact Ev.ite_true hjf' r1
          · rw [w2]; exact r2
      obtain ⟨r, hr, r1, r2⟩ := inner y.length 0 y (by omega) hq hy
      refine ⟨r, hr, Ev.step (fun k => by simp only [spec_CombineVectors.l0]; rfl) (Ev.ite_true hlt' (Ev.ite_true (Int.natCast_nonneg _) ?_)), Ev.step (fun k => by simp only [impl_CombineVectors.l0]; rfl) (Ev.ite_true hlt' (Ev.ite_true (Int.natCast_nonneg _) (Ev.ite_true hlt' ?_)))⟩
      · rw [rdL_nat f i hlt]; exact Ev.ite_true hq r1
      · rw [rdL_nat f i hlt]; exact Ev.ite_true hq r2
    · refine ⟨([], false), by simp, Ev.step (fun k => by simp only [spec_CombineVectors.l0]; rfl) (Ev.ite_true hlt' (Ev.ite_true (Int.natCast_nonneg _) ?_)), Ev.step (fun k => by simp only [impl_CombineVectors.l0]; rfl) (Ev.ite_true hlt' (Ev.ite_true (Int.natCast_nonneg _) (Ev.ite_true hlt' ?_)))⟩
      · rw [rdL_nat f i hlt]; exact Ev.ite_false hq (Ev.now _)
      · rw [rdL_nat f i hlt]; exact Ev.ite_false hq (Ev.now _)
theorem same (v : List Int) (f : List (List Int)) (hvl : v.length ≤ 1048576) (hs : smallL f) : ∃ r : List Int × Bool, r.1.length ≤ 1048576 ∧ Ev (fun k => spec_CombineVectors.f k v f) r ∧ Ev (fun k => impl_CombineVectors.f k v f) r := by
  obtain ⟨hf, he⟩ := hs
  have s0 : Ev (fun k => spec_CombineVectors.j0 k v f true) ([], false) := by
    refine Ev.step (fun k => by simp only [spec_CombineVectors.j0]; rfl) ?_
    exact Ev.ite_true (by trivial) (Ev.now _)
  have i0 : Ev (fun k => impl_CombineVectors.j0 k v f true) ([], false) := by
    refine Ev.step (fun k => by simp only [impl_CombineVectors.j0]; rfl) ?_
    exact Ev.ite_true (by trivial) (Ev.now _)
  simp only [spec_CombineVectors.f, impl_CombineVectors.f]
  by_cases h0 : v.length = 0
  · refine ⟨([], false), by simp, ?_, Ev.ite_true (by omega) i0⟩
    by_cases h : (v.length : Int) = (f.length : Int)
    · refine Ev.ite_true h ?_
      have : ((v.length : Int) == 0) = true := by simp [h0]
      rw [this]; exact s0
    · exact Ev.ite_false h s0
  · by_cases h : v.length = f.length
    · have hpos : 0 < f.length := by omega
      have hx := he _ (List.getElem_mem hpos)
      have e0 : rd_L1 f 0 = f[0] := rdL_nat f 0 hpos
      obtain ⟨r, hr, r1, r2⟩ := both_l0 v f h hf f.length 0 (List.replicate ((f[0].length : Int)).toNat 0) (by omega) (by simpa using hx)
      refine ⟨r, hr, Ev.ite_true (by omega) ?_, Ev.ite_false (by omega) ?_⟩
      · have : ((v.length : Int) == 0) = false := beq_eq_false_iff_ne.mpr (by omega)
        rw [this]
        refine Ev.step (fun k => by simp only [spec_CombineVectors.j0]; rfl) ?_
        rw [e0]
        exact Ev.ite_false (by simp) (Ev.ite_true (by omega) (Ev.ite_true (by omega) (Ev.ite_true (by omega) r1)))
      · have : ((v.length : Int) != (f.length : Int)) = false := by simp; omega
        rw [this]
        refine Ev.step (fun k => by simp only [impl_CombineVectors.j0]; rfl) ?_
        rw [e0]
        exact Ev.ite_false (by simp) (Ev.ite_true (by omega) (Ev.ite_true (by omega) (Ev.ite_true (by omega) r2)))
    · refine ⟨([], false), by simp, Ev.ite_false (by omega) s0, Ev.ite_false (by omega) ?_⟩
      have : ((v.length : Int) != (f.length : Int)) = true := by simp; omega
      rw [this]; exact i0
theorem FnExactCombineVectors : laws_FnExactCombineVectors.Pure := by
  intro v f hv hf
  apply Ev.rounds
  simp only [laws_FnExactCombineVectors.f]
  by_cases hl : v.length ≤ 1048576
  · refine Ev.ite_false (by omega) ?_
    obtain ⟨r, hr, hc⟩ := szIntSS_ev f hf.1 (fun x hx => (hf.2 x hx).1)
    refine Ev.bind hr ?_
    by_cases h0 : r < 0
    · exact Ev.ite_true h0 (Ev.now _)
    refine Ev.ite_false h0 ?_
    have hs : smallL f := hc.resolve_left h0
    obtain ⟨r, hr, h1, h2⟩ := same v f hl hs
    have ht := toIntS_ev v hl
    have he := eqIntS_self v hl
    have ht2 := toIntSS_ev f hs
    have he2 := eqIntSS_self f hs
    have hm := markIntS_ev 1 v (by omega) (by omega) (by omega)
    have hms := markSS_ev f (1 + v.length) hs.1 hs.2 (by omega) (by omega)
    have htn := tot_nonneg f
    have hm2 := markIntS_ev 1 r.1 (by omega) (by omega) (by omega)
    have hh := heldIntS_ev 1 r.1.length (by omega) (by omega) (by omega)
    have he3 := eqIntS_self r.1 hr
    repeat (first
      | exact Ev.now _
      | refine Ev.bind ht ?_
      | refine Ev.bind ht2 ?_
      | refine Ev.bind h1 ?_
      | refine Ev.bind h2 ?_
      | refine Ev.bind he ?_
      | refine Ev.bind he2 ?_
      | refine Ev.bind he3 ?_
      | refine Ev.bind hm ?_
      | refine Ev.bind hms ?_
      | refine Ev.bind hm2 ?_
      | refine Ev.bind hh ?_
      | refine Ev.ite_true (by first | rfl | (simp; done) | omega | (dsimp only; omega)) ?_
      | refine Ev.ite_false (by first | (simp; done) | omega | (dsimp only; omega)) ?_
      | refine Ev.step (fun k => by simp only [laws_FnExactCombineVectors.j0]; rfl) ?_
      | refine Ev.step (fun k => by simp only [laws_FnExactCombineVectors.j1]; rfl) ?_
      | refine Ev.step (fun k => by simp only [laws_FnExactCombineVectors.j2]; rfl) ?_)
  · exact Ev.ite_true (by omega) (Ev.now _)

end Go.Proofs.Ytdjohgfelmkooaa.Pure
