/- The program's KroneckerOf answers as the reference's for any three lists of at most 2^20 numbers, and leaves its arguments alone. No condition. -/
import Derived.Test.YtojjokhfmgomcaaPFnExactKroneckerOfx17
import Derived.Test.YtojjokhfmgomcaaVFnExactKroneckerOf
set_option linter.unusedVariables false
set_option linter.unusedSimpArgs false
namespace Go.Proofs.Ytojjokhfmgomcaa
open Go.ChangeShapes Go.WideShapes
theorem PrintWords.sized_ints {H : Type} {enc : TypeId × Value → H} {P : Program} {W : World} {base : Nat} {spare : Nat → Bool} {held : Bool} {t e : TypeId} {k : IntKind} {a : Option Addr} {len cap : Nat} {d : DataW H} {ps : List MemPlace} {ts : List TypeId} {ds : List (DataW H)} {j : Nat}
    (hsz : (DataW.weightsEach P ts ds).all (· ≤ reachBytes) = true) (ht : ts[j]? = some t) (hd : ds[j]? = some d) (hu : P.underlying t = some (.slice e)) (he : P.underlying e = some (.int k)) (hc : P.cellsOf e = 1) {B : Nat} (hB : P.bytesOf e = B)
    (h : DataW.Trod enc P W base spare held t (.slice a len cap) d ps) : len * B ≤ 140737488351232 :=
  Go.Proofs.YtojjokhfmgomcaaW.PrintWords.sized_ints hsz ht hd hu he hc hB h
end Go.Proofs.Ytojjokhfmgomcaa
namespace Go.Proofs.Ytojjokhfmgomcaa.Pure
open Go.RowKit Go.Proofs.Ytojjokhfmgomcaa.PFnExactKroneckerOf Go.Proofs.YtojjokhfmgomcaaW.PrintWords Go.Proofs.YtojjokhfmgomcaaW.PrintLast

theorem wr_in {x : Int} (h : -9223372036854775808 ≤ x) (h' : x ≤ 9223372036854775807) : wrap64 x = x := by unfold wrap64; omega
theorem wr1 {i : Nat} (h : i < 4611686018427387904) : wrap64 ((i : Int) + 1) = ((i + 1 : Nat) : Int) := by unfold wrap64; omega
theorem Ev.ite_true {α : Type} {c : Prop} [Decidable c] {g f : Nat → Option α} {r : α} (hc : c) (h : Ev g r) : Ev (fun k => if c then g k else f k) r := by
  obtain ⟨K, h⟩ := h
  exact ⟨K, fun k hk => (if_pos hc).trans (h k hk)⟩
theorem Ev.ite_false {α : Type} {c : Prop} [Decidable c] {g f : Nat → Option α} {r : α} (hc : ¬ c) (h : Ev f r) : Ev (fun k => if c then g k else f k) r := by
  obtain ⟨K, h⟩ := h
  exact ⟨K, fun k hk => (if_neg hc).trans (h k hk)⟩
theorem rd_nat (l : List Int) (i : Nat) (h : i < l.length) : rd l (i : Int) = l[i] := by
  simp [rd, List.getD_eq_getElem?_getD, h]
/-- A statement that holds of all members of a list that can be run through. -/
theorem of_all {α : Type} {p : α → Bool} {l : List α} (h : l.all p = true) {x : α} (hx : x ∈ l) : p x = true := List.all_eq_true.mp h x hx
/-- Both answer, and alike. -/
def both {α : Type} [DecidableEq α] (a b : Option α) : Bool := match a, b with
  | some x, some y => decide (x = y)
  | _, _ => false
theorem both_ev {α : Type} [DecidableEq α] {f g : Nat → Option α} (hf : ∀ k, LeO (f k) (f (k + 1))) (hg : ∀ k, LeO (g k) (g (k + 1))) {n m : Nat} (h : both (f n) (g m) = true) : ∃ r, Ev f r ∧ Ev g r := by
  unfold both at h
  split at h
  · rename_i x y hx hy
    have e := of_decide_eq_true h
    subst e
    exact ⟨x, Ev.of hf hx, Ev.of hg hy⟩
  · cases h
theorem take_set_succ {α : Type} (y : List α) (i : Nat) (v : α) (h : i < y.length) : (y.set i v).take (i + 1) = y.take i ++ [v] := by
  rw [List.take_succ_eq_append_getElem (by simpa using h)]
  simp only [List.getElem_set_self]
  congr 1
  apply List.ext_getElem?
  intro j
  simp only [List.getElem?_take, List.getElem?_set]
  by_cases h : j < i
  · rw [if_pos h, if_neg (by omega), if_pos h]
  · rw [if_neg h, if_neg h]

theorem toIntS_l0 (l : List Int) (hl : l.length ≤ 1048576) (d : Nat) : ∀ (i : Nat) (y : List Int) (k : Nat), i + d = l.length → y.length = l.length → y.take i = l.take i → d < k → laws_toIntS.l0 k l y i = some l := by
  induction d with
  | zero =>
    intro i y k hi hy ht hk
    obtain ⟨k, rfl⟩ : ∃ m, k = m + 1 := ⟨k - 1, by omega⟩
    simp only [laws_toIntS.l0]
    rw [if_neg (by omega)]
    obtain rfl : i = l.length := by omega
    rw [List.take_of_length_le (by omega), List.take_of_length_le (by omega)] at ht
    rw [ht]
  | succ d ih =>
    intro i y k hi hy ht hk
    obtain ⟨k, rfl⟩ : ∃ m, k = m + 1 := ⟨k - 1, by omega⟩
    have hlt : i < l.length := by omega
    simp only [laws_toIntS.l0]
    rw [if_pos (by omega), if_pos (by omega), if_pos (by omega), wr1 (by omega), rd_nat l i hlt]
    refine ih (i + 1) _ k (by omega) (by simpa using hy) ?_ (by omega)
    rw [Int.toNat_natCast, take_set_succ y i _ (by omega), ht, List.take_succ_eq_append_getElem hlt]
theorem toIntS_ev (l : List Int) (hl : l.length ≤ 1048576) : Ev (fun k => laws_toIntS.f k l) l := by
  refine ⟨l.length + 1, fun k hk => ?_⟩
  show laws_toIntS.f k l = some l
  unfold laws_toIntS.f
  rw [if_pos (by omega), if_pos (by omega)]
  exact toIntS_l0 l hl l.length 0 _ k (by omega) (by simp) (by simp) (by omega)

theorem eqIntS_l0 (a b : List Int) (hl : a.length ≤ 1048576) (hab : a.length = b.length) (d : Nat) : ∀ (i k : Nat), i + d = a.length → a.take i = b.take i → d < k → laws_eqIntS.l0 k a b i = some (decide (a = b)) := by
  induction d with
  | zero =>
    intro i k hi ht hk
    obtain ⟨k, rfl⟩ : ∃ m, k = m + 1 := ⟨k - 1, by omega⟩
    simp only [laws_eqIntS.l0]
    rw [if_neg (by omega)]
    obtain rfl : i = a.length := by omega
    rw [List.take_of_length_le (by omega), List.take_of_length_le (by omega)] at ht
    rw [decide_eq_true ht]
  | succ d ih =>
    intro i k hi ht hk
    obtain ⟨k, rfl⟩ : ∃ m, k = m + 1 := ⟨k - 1, by omega⟩
    have hlt : i < a.length := by omega
    have hlt' : i < b.length := by omega
    simp only [laws_eqIntS.l0]
    rw [if_pos (by omega), if_pos (by omega), if_pos (by omega), wr1 (by omega), rd_nat a i hlt, rd_nat b i hlt']
    by_cases h : a[i] = b[i]
    · rw [if_pos h]
      refine ih (i + 1) k (by omega) ?_ (by omega)
      rw [List.take_succ_eq_append_getElem hlt, List.take_succ_eq_append_getElem hlt', ht, h]
    · rw [if_neg h, decide_eq_false]
      intro e
      subst e
      exact h rfl
theorem eqIntS_ev (a b : List Int) (hl : a.length ≤ 1048576) : Ev (fun k => laws_eqIntS.f k a b) (decide (a = b)) := by
  refine ⟨a.length + 1, fun k hk => ?_⟩
  show laws_eqIntS.f k a b = _
  unfold laws_eqIntS.f
  by_cases h : (a.length : Int) = (b.length : Int)
  · rw [if_pos h]
    exact eqIntS_l0 a b hl (by omega) a.length 0 k (by omega) (by simp) (by omega)
  · rw [if_neg h, decide_eq_false]
    intro e
    subst e
    exact h rfl
theorem eqIntS_self (a : List Int) (hl : a.length ≤ 1048576) : Ev (fun k => laws_eqIntS.f k a a) true := by
  have h := eqIntS_ev a a hl
  rwa [decide_eq_true rfl] at h

theorem l1In_f (x a b : Int) : spec_l1In.f x a b = some (decide (a ≤ x ∧ x ≤ b)) := by
  unfold spec_l1In.f
  by_cases h : x ≥ a
  · rw [if_pos h]; congr 1; by_cases h2 : x ≤ b
    · rw [decide_eq_true h2, decide_eq_true ⟨h, h2⟩]
    · rw [decide_eq_false h2, decide_eq_false (by omega)]
  · rw [if_neg h, decide_eq_false (by omega)]

theorem within_f (x a b : Int) : impl_within.f x a b = some (decide (a ≤ x ∧ x ≤ b)) := by
  unfold impl_within.f
  by_cases h : a ≤ x
  · rw [if_pos h]; congr 1; by_cases h2 : x ≤ b
    · rw [decide_eq_true h2, decide_eq_true ⟨h, h2⟩]
    · rw [decide_eq_false h2, decide_eq_false (by omega)]
  · rw [if_neg h, decide_eq_false (by omega)]

/-! Partitions: a plain test, and all of them. -/
def isPF (prev s : Int) : List Int → Bool
  | [] => true
  | x :: xs => if 1 ≤ x ∧ x ≤ 9 ∧ x ≤ prev ∧ s + x ≤ 9 then isPF x (s + x) xs else false
def isP (l : List Int) : Bool := isPF 9 0 l
/-- All lists of numbers of at most 'prev' that add to 's' at most 9. -/
def genP : Nat → Nat → Nat → List (List Int)
  | 0, _, _ => [[]]
  | n + 1, prev, s => [] :: (List.range' 1 (min prev (9 - s))).flatMap fun x => (genP n x (s + x)).map fun r => (x : Int) :: r
theorem mem_genP : ∀ (n prev s : Nat) (l : List Int), 9 < n + s → s ≤ 9 → isPF prev s l = true → l ∈ genP n prev s
  | 0, prev, s, l, h1, h2, _ => by omega
  | n + 1, prev, s, [], _, _, _ => by simp [genP]
  | n + 1, prev, s, x :: xs, h1, h2, h => by
    simp only [isPF] at h
    split at h
    · rename_i hc
      obtain ⟨c1, c2, c3, c4⟩ := hc
      obtain ⟨m, rfl⟩ : ∃ m : Nat, x = (m : Int) := ⟨x.toNat, by omega⟩
      have e : (s : Int) + (m : Int) = ((s + m : Nat) : Int) := by omega
      rw [e] at h
      have ih := mem_genP n m (s + m) xs (by omega) (by omega) h
      simp only [genP, List.mem_cons, List.mem_flatMap]
      refine Or.inr ⟨m, ?_, ?_⟩
      · simp only [List.mem_range'_1]; omega
      · exact List.mem_map.2 ⟨xs, ih, rfl⟩
    · cases h
def allP : List (List Int) := genP 10 9 0
theorem mem_allP {l : List Int} (h : isP l = true) : l ∈ allP := mem_genP 10 9 0 l (by omega) (by omega) h
theorem isPF_length : ∀ (l : List Int) (prev s : Int), isPF prev s l = true → s + l.length ≤ 9 ∨ l = []
  | [], _, _, _ => .inr rfl
  | x :: xs, prev, s, h => by
    simp only [isPF] at h
    split at h
    · rename_i hc
      rcases isPF_length xs x (s + x) h with h1 | rfl
      · left; simp only [List.length_cons]; omega
      · left; simp; omega
    · cases h
theorem isP_length {l : List Int} (h : isP l = true) : l.length ≤ 9 := by
  rcases isPF_length l 9 0 h with h | rfl
  · omega
  · simp
/-- What stands at place i, and behind it. -/
theorem drop_cons (l : List Int) (i : Nat) (h : i < l.length) : l.drop i = l[i] :: l.drop (i + 1) := List.drop_eq_getElem_cons h
def prevOf (l : List Int) (i : Nat) : Int := if i = 0 then 9 else l.getD (i - 1) 0
theorem prevOf_succ (l : List Int) (i : Nat) (h : i < l.length) : prevOf l (i + 1) = l[i] := by simp [prevOf, h]

theorem specIsP_l0 (l : List Int) (hl : l.length ≤ 1048576) (d : Nat) : ∀ (i k : Nat) (s : Int), i + d = l.length → 0 ≤ s → s ≤ 9 → 2 * d < k → spec_IsPartition.l0 k l s i = some (isPF (prevOf l i) s (l.drop i)) := by
  induction d with
  | zero =>
    intro i k s hi h0 h9 hk
    obtain ⟨k, rfl⟩ : ∃ m, k = m + 1 := ⟨k - 1, by omega⟩
    simp only [spec_IsPartition.l0]
    rw [if_neg (by omega), List.drop_of_length_le (by omega)]
    rfl
  | succ d ih =>
    intro i k s hi h0 h9 hk
    obtain ⟨k, rfl⟩ : ∃ m, k = m + 2 := ⟨k - 2, by omega⟩
    have hlt : i < l.length := by omega
    simp only [spec_IsPartition.l0]
    rw [if_pos (by omega), if_pos (by omega), rd_nat l i hlt, l1In_f, drop_cons l i hlt]
    simp only [Option.bind_some, isPF]
    have hj : ∀ b : Bool, (b = true ↔ ¬ (1 ≤ l[i] ∧ l[i] ≤ 9 ∧ l[i] ≤ prevOf l i)) →
        spec_IsPartition.j1 (k + 1) l s i b = some (if 1 ≤ l[i] ∧ l[i] ≤ 9 ∧ l[i] ≤ prevOf l i ∧ s + l[i] ≤ 9 then isPF l[i] (s + l[i]) (l.drop (i + 1)) else false) := by
      intro b hb
      simp only [spec_IsPartition.j1]
      by_cases hc : 1 ≤ l[i] ∧ l[i] ≤ 9 ∧ l[i] ≤ prevOf l i
      · rw [if_neg (fun h => hb.1 h hc), if_pos (by omega), if_pos (by omega), rd_nat l i hlt, wr_in (by omega) (by omega), wr1 (by omega)]
        by_cases h9' : s + l[i] > 9
        · rw [if_pos h9', if_neg (by omega)]
        · rw [if_neg h9', if_pos ⟨hc.1, hc.2.1, hc.2.2, by omega⟩, ih (i + 1) k _ (by omega) (by omega) (by omega) (by omega), prevOf_succ l i hlt]
      · rw [if_pos (hb.2 hc), if_neg (fun h => hc ⟨h.1, h.2.1, h.2.2.1⟩)]
    by_cases h1 : 1 ≤ l[i] ∧ l[i] ≤ 9
    · rw [if_pos (decide_eq_true h1)]
      by_cases hi0 : i = 0
      · subst hi0
        rw [if_neg (by omega)]
        exact hj false (by simp [prevOf]; omega)
      · have e : wrap64 ((i : Int) - 1) = ((i - 1 : Nat) : Int) := by unfold wrap64; omega
        rw [if_pos (by omega), e, if_pos (by omega), if_pos (by omega), rd_nat l (i - 1) (by omega)]
        refine hj _ ?_
        have hp : prevOf l i = l[i - 1] := by simp [prevOf, hi0]; rw [List.getElem?_eq_getElem (by omega)]; rfl
        rw [hp, decide_eq_true_iff]; omega
    · rw [if_neg (by simp; omega)]
      exact hj true (by simp; omega)
theorem specIsP_ev (l : List Int) (hl : l.length ≤ 1048576) : Ev (fun k => spec_IsPartition.f k l) (isP l) := by
  refine ⟨2 * l.length + 1, fun k hk => ?_⟩
  have h := specIsP_l0 l hl l.length 0 k 0 (by omega) (by omega) (by omega) (by omega)
  simpa [spec_IsPartition.f, isP, prevOf] using h

theorem implIsP_l0 (l : List Int) (hl : l.length ≤ 1048576) (d : Nat) : ∀ (i k : Nat) (s : Int), i + d = l.length → 0 ≤ s → s ≤ 9 → 2 * d < k → impl_IsPartition.l0 k l s l l.length i = some (isPF (prevOf l i) s (l.drop i)) := by
  induction d with
  | zero =>
    intro i k s hi h0 h9 hk
    obtain ⟨k, rfl⟩ : ∃ m, k = m + 1 := ⟨k - 1, by omega⟩
    simp only [impl_IsPartition.l0]
    rw [if_neg (by omega), List.drop_of_length_le (by omega)]
    rfl
  | succ d ih =>
    intro i k s hi h0 h9 hk
    obtain ⟨k, rfl⟩ : ∃ m, k = m + 2 := ⟨k - 2, by omega⟩
    have hlt : i < l.length := by omega
    simp only [impl_IsPartition.l0]
    rw [if_pos (by omega), if_pos (by omega), if_pos (by omega), rd_nat l i hlt, within_f, drop_cons l i hlt]
    simp only [Option.bind_some, isPF]
    have hj : ∀ b : Bool, (b = true ↔ ¬ (1 ≤ l[i] ∧ l[i] ≤ 9 ∧ l[i] ≤ prevOf l i)) →
        impl_IsPartition.j1 (k + 1) l s l[i] l l.length i b = some (if 1 ≤ l[i] ∧ l[i] ≤ 9 ∧ l[i] ≤ prevOf l i ∧ s + l[i] ≤ 9 then isPF l[i] (s + l[i]) (l.drop (i + 1)) else false) := by
      intro b hb
      simp only [impl_IsPartition.j1]
      by_cases hc : 1 ≤ l[i] ∧ l[i] ≤ 9 ∧ l[i] ≤ prevOf l i
      · rw [if_neg (fun h => hb.1 h hc), wr_in (x := s + l[i]) (by omega) (by omega), wr1 (by omega)]
        by_cases h9' : s + l[i] > 9
        · rw [if_pos h9', if_neg (by omega)]
        · rw [if_neg h9', if_pos ⟨hc.1, hc.2.1, hc.2.2, by omega⟩, ih (i + 1) k _ (by omega) (by omega) (by omega) (by omega), prevOf_succ l i hlt]
      · rw [if_pos (hb.2 hc), if_neg (fun h => hc ⟨h.1, h.2.1, h.2.2.1⟩)]
    by_cases h1 : 1 ≤ l[i] ∧ l[i] ≤ 9
    · rw [if_pos (decide_eq_true h1)]
      by_cases hi0 : i = 0
      · subst hi0
        rw [if_neg (by omega)]
        exact hj false (by simp [prevOf]; omega)
      · have e : wrap64 ((i : Int) - 1) = ((i - 1 : Nat) : Int) := by unfold wrap64; omega
        rw [if_pos (by omega), e, if_pos (by omega), if_pos (by omega), rd_nat l (i - 1) (by omega)]
        refine hj _ ?_
        have hp : prevOf l i = l[i - 1] := by simp [prevOf, hi0]; rw [List.getElem?_eq_getElem (by omega)]; rfl
        rw [hp, decide_eq_true_iff]; omega
    · rw [if_neg (by simp; omega)]
      exact hj true (by simp; omega)
theorem implIsP_ev (l : List Int) (hl : l.length ≤ 1048576) : Ev (fun k => impl_IsPartition.f k l) (isP l) := by
  refine ⟨2 * l.length + 1, fun k hk => ?_⟩
  have h := implIsP_l0 l hl l.length 0 k 0 (by omega) (by omega) (by omega) (by omega)
  simpa [impl_IsPartition.f, isP, prevOf] using h

-- The size of a partition, -1 for what is none.
def szB (p : List Int) : Int := if isP p = true then p.sum else -1
theorem factsize : allP.all (fun p => decide (spec_l2Size.f 20 p = some p.sum) && decide (impl_sum.f 20 p = some p.sum)) = true := by decide +kernel
theorem specL2_ev {p : List Int} (h : isP p = true) : Ev (fun k => spec_l2Size.f k p) p.sum := by
  have a := of_all factsize (mem_allP h)
  simp only [Bool.and_eq_true, decide_eq_true_eq] at a
  exact Ev.of (spec_l2Size.mono p) a.1
theorem implSum_ev {p : List Int} (h : isP p = true) : Ev (fun k => impl_sum.f k p) p.sum := by
  have a := of_all factsize (mem_allP h)
  simp only [Bool.and_eq_true, decide_eq_true_eq] at a
  exact Ev.of (impl_sum.mono p) a.2

theorem implSize_ev (l : List Int) (hl : l.length ≤ 1048576) : Ev (fun k => impl_SizeOf.f k l) (szB l) := by
  simp only [impl_SizeOf.f, szB]
  refine Ev.bind (implIsP_ev l hl) ?_
  by_cases h : isP l = true
  · rw [if_pos h]; exact Ev.ite_true h (Ev.bind (implSum_ev h) (Ev.now _))
  · rw [if_neg h]; exact Ev.ite_false h (Ev.now _)

theorem fine21_ev (l : List Int) (hl : l.length ≤ 1048576) : Ev (fun k => spec_l21Fine.f k l) (isP l && decide (l.sum ≤ 6)) := by
  simp only [spec_l21Fine.f]
  refine Ev.bind (specIsP_ev l hl) ?_
  by_cases h : isP l = true
  · rw [h]; exact Ev.ite_true rfl (Ev.bind (specL2_ev h) (by rw [Bool.true_and]; exact Ev.now _))
  · have h : isP l = false := by simpa using h
    rw [h]; exact Ev.ite_false (by simp) (Ev.now _)

-- RibbonsInside of both, with the ribbons' heights: alike over all partitions of at most 9 and k from 1 to 9.
def rb (p : List Int) (k : Int) (a b : Option (List S40)) : Bool := match a, b with
  | some x, some y => (decide (x.map (fun s => (s.f0, s.f1)) = y.map (fun s => (s.f0, s.f1))) && decide (x.length ≤ 100)) && x.all (fun s => (isP s.f1 && decide (s.f1.sum = p.sum - k)) && both (spec_RibbonHeight.f 60 s.f0 s.f1) (impl_RibbonHeight.f 60 s.f0 s.f1))
  | _, _ => false
def ks : List Int := [1, 2, 3, 4, 5, 6, 7, 8, 9]
set_option maxHeartbeats 400000000 in
theorem rparts0 : ((allP.drop 0).take 10).all (fun p => ks.all (fun k => rb p k (spec_RibbonsInside.f 100 p k) (impl_RibbonsInside.f 100 p k))) = true := by decide +kernel
set_option maxHeartbeats 400000000 in
theorem rparts1 : ((allP.drop 10).take 10).all (fun p => ks.all (fun k => rb p k (spec_RibbonsInside.f 100 p k) (impl_RibbonsInside.f 100 p k))) = true := by decide +kernel
set_option maxHeartbeats 400000000 in
theorem rparts2 : ((allP.drop 20).take 10).all (fun p => ks.all (fun k => rb p k (spec_RibbonsInside.f 100 p k) (impl_RibbonsInside.f 100 p k))) = true := by decide +kernel
set_option maxHeartbeats 400000000 in
theorem rparts3 : ((allP.drop 30).take 10).all (fun p => ks.all (fun k => rb p k (spec_RibbonsInside.f 100 p k) (impl_RibbonsInside.f 100 p k))) = true := by decide +kernel
set_option maxHeartbeats 400000000 in
theorem rparts4 : ((allP.drop 40).take 10).all (fun p => ks.all (fun k => rb p k (spec_RibbonsInside.f 100 p k) (impl_RibbonsInside.f 100 p k))) = true := by decide +kernel
set_option maxHeartbeats 400000000 in
theorem rparts5 : ((allP.drop 50).take 10).all (fun p => ks.all (fun k => rb p k (spec_RibbonsInside.f 100 p k) (impl_RibbonsInside.f 100 p k))) = true := by decide +kernel
set_option maxHeartbeats 400000000 in
theorem rparts6 : ((allP.drop 60).take 10).all (fun p => ks.all (fun k => rb p k (spec_RibbonsInside.f 100 p k) (impl_RibbonsInside.f 100 p k))) = true := by decide +kernel
set_option maxHeartbeats 400000000 in
theorem rparts7 : ((allP.drop 70).take 10).all (fun p => ks.all (fun k => rb p k (spec_RibbonsInside.f 100 p k) (impl_RibbonsInside.f 100 p k))) = true := by decide +kernel
set_option maxHeartbeats 400000000 in
theorem rparts8 : ((allP.drop 80).take 10).all (fun p => ks.all (fun k => rb p k (spec_RibbonsInside.f 100 p k) (impl_RibbonsInside.f 100 p k))) = true := by decide +kernel
set_option maxHeartbeats 400000000 in
theorem rparts9 : ((allP.drop 90).take 10).all (fun p => ks.all (fun k => rb p k (spec_RibbonsInside.f 100 p k) (impl_RibbonsInside.f 100 p k))) = true := by decide +kernel
theorem rparts {p : List Int} (h : p ∈ allP) : ks.all (fun k => rb p k (spec_RibbonsInside.f 100 p k) (impl_RibbonsInside.f 100 p k)) = true := by
  have hl : allP.length = 97 := by decide +kernel
  obtain ⟨i, hi, rfl⟩ := List.getElem_of_mem h
  have pick : ∀ q, 10 * q ≤ i → i < 10 * q + 10 → allP[i] ∈ (allP.drop (10 * q)).take 10 := fun q h1 h2 => by
    rw [List.mem_take_iff_getElem]
    refine ⟨i - 10 * q, by simp; omega, ?_⟩
    simp only [List.getElem_drop]
    congr 1
    omega
  by_cases h0 : i < 10
  · exact of_all rparts0 (pick 0 (by omega) (by omega))
  by_cases h1 : i < 20
  · exact of_all rparts1 (pick 1 (by omega) (by omega))
  by_cases h2 : i < 30
  · exact of_all rparts2 (pick 2 (by omega) (by omega))
  by_cases h3 : i < 40
  · exact of_all rparts3 (pick 3 (by omega) (by omega))
  by_cases h4 : i < 50
  · exact of_all rparts4 (pick 4 (by omega) (by omega))
  by_cases h5 : i < 60
  · exact of_all rparts5 (pick 5 (by omega) (by omega))
  by_cases h6 : i < 70
  · exact of_all rparts6 (pick 6 (by omega) (by omega))
  by_cases h7 : i < 80
  · exact of_all rparts7 (pick 7 (by omega) (by omega))
  by_cases h8 : i < 90
  · exact of_all rparts8 (pick 8 (by omega) (by omega))
  by_cases h9 : i < 100
  · exact of_all rparts9 (pick 9 (by omega) (by omega))
  omega
theorem psum {p : List Int} (h : isP p = true) : 0 ≤ p.sum ∧ p.sum ≤ 9 := by
  have a : allP.all (fun p => decide (0 ≤ p.sum ∧ p.sum ≤ 9)) = true := by decide +kernel
  exact of_decide_eq_true (of_all a (mem_allP h))
theorem ptail {p : List Int} (h : isP p = true) : isP p.tail = true := by
  have a : allP.all (fun p => isP p.tail) = true := by decide +kernel
  exact of_all a (mem_allP h)
theorem S54_eq : ∀ {x y : List S40}, x.map (fun s => (s.f0, s.f1)) = y.map (fun s => (s.f0, s.f1)) → x = y
  | [], [], _ => rfl
  | [], _ :: _, h => by simp at h
  | _ :: _, [], h => by simp at h
  | a :: x, b :: y, h => by
    simp only [List.map_cons, List.cons.injEq, Prod.mk.injEq] at h
    have e : a = b := by cases a; cases b; simp_all
    rw [e, S54_eq h.2]
theorem ribbons {p : List Int} {a : Int} (h : isP p = true) (ha : 1 ≤ a ∧ a ≤ 9) : ∃ x : List S40, Ev (fun k => spec_RibbonsInside.f k p a) x ∧ Ev (fun k => impl_RibbonsInside.f k p a) x ∧ x.length ≤ 100 ∧ ∀ s ∈ x, isP s.f1 = true ∧ s.f1.sum = p.sum - a ∧ ∃ r, Ev (fun k => spec_RibbonHeight.f k s.f0 s.f1) r ∧ Ev (fun k => impl_RibbonHeight.f k s.f0 s.f1) r := by
  have hk : a ∈ ks := by
    simp only [ks, List.mem_cons, List.not_mem_nil, or_false]; omega
  have hr := of_all (rparts (mem_allP h)) hk
  unfold rb at hr
  split at hr
  · rename_i x y hx hy
    simp only [Bool.and_eq_true, decide_eq_true_eq, List.all_eq_true] at hr
    obtain rfl := S54_eq hr.1.1
    refine ⟨x, Ev.of (spec_RibbonsInside.mono p a) hx, Ev.of (impl_RibbonsInside.mono p a) hy, hr.1.2, fun s hs => ⟨(hr.2 s hs).1.1, (hr.2 s hs).1.2, ?_⟩⟩
    exact both_ev (spec_RibbonHeight.mono s.f0 s.f1) (impl_RibbonHeight.mono s.f0 s.f1) (hr.2 s hs).2
  · cases hr

-- The characters of both, at partitions of one size.
theorem rdT54_nat (l : List S40) (i : Nat) (h : i < l.length) : rd_T40 l (i : Int) = l[i] := by
  simp [rd_T40, List.getD_eq_getElem?_getD, h]
theorem char_ev : ∀ (q p : List Int), isP p = true → isP q = true → p.sum = q.sum → ∃ r, Ev (fun k => spec_l22Character.f k p q) r ∧ Ev (fun k => impl_CharacterOf.f k p q) r
  | [], p, hp, hq, hs => by
    have hl := isP_length hp
    refine ⟨1, Ev.step (fun k => by simp only [spec_l22Character.f]; rfl) (Ev.ite_true (by simp) (Ev.now _)), Ev.step (fun k => by simp only [impl_CharacterOf.f]; rfl) ?_⟩
    refine Ev.bind (implSize_ev p (by omega)) (Ev.bind (implSize_ev [] (by simp)) ?_)
    have h1 : szB p = p.sum := if_pos hp
    have h2 : szB [] = 0 := rfl
    rw [h1, h2]
    simp only [List.sum_nil] at hs
    refine Ev.ite_true hs (Ev.bind (implSize_ev p (by omega)) ?_)
    rw [h1, hs]
    refine Ev.step (fun k => by simp only [impl_CharacterOf.j0]; rfl) ?_
    exact Ev.ite_false (by simp) (Ev.ite_true (by simp) (Ev.now _))
  | a :: q, p, hp, hq, hs => by
    have hl := isP_length hp
    have hlq := isP_length hq
    have hq' : isP q = true := ptail hq
    have ha : 1 ≤ a ∧ a ≤ 9 := by
      have h := hq
      simp only [isP, isPF] at h
      split at h
      · rename_i hc; omega
      · cases h
    have hsum : (a :: q).sum = a + q.sum := by simp
    obtain ⟨x, hx, hy, hxl, hin⟩ := ribbons hp ha
    have loop : ∀ (d i : Nat) (s : Int), i + d = x.length → ∃ r, Ev (fun k => spec_l22Character.l0 k (a :: q) s x i) r ∧ Ev (fun k => impl_CharacterOf.l0 k (a :: q) s x x.length i) r := by
      intro d
      induction d with
      | zero =>
        intro i s hi
        exact ⟨s, Ev.step (fun k => by simp only [spec_l22Character.l0]; rfl) (Ev.ite_false (by omega) (Ev.now _)), Ev.step (fun k => by simp only [impl_CharacterOf.l0]; rfl) (Ev.ite_false (by omega) (Ev.now _))⟩
      | succ d ih =>
        intro i s hi
        have hlt : i < x.length := by omega
        obtain ⟨hp1, hs1, hh, h1, h2⟩ := hin _ (List.getElem_mem hlt)
        obtain ⟨c, c1, c2⟩ := char_ev q x[i].f1 hp1 hq' (by omega)
        have w1 : wrap64 ((i : Int) + 1) = ((i + 1 : Nat) : Int) := wr1 (by omega)
        by_cases ho : Int.tmod hh 2 = 1
        · obtain ⟨r, r1, r2⟩ := ih (i + 1) (wrap64 (s + wrap64 (-c))) (by omega)
          refine ⟨r, Ev.step (fun k => by simp only [spec_l22Character.l0]; rfl) ?_, Ev.step (fun k => by simp only [impl_CharacterOf.l0]; rfl) ?_⟩
          · rw [rdT54_nat x i hlt, w1, show (a :: q).drop 1 = q from rfl]
            exact Ev.ite_true (by omega) (Ev.ite_true (Int.natCast_nonneg _) (Ev.ite_true (by simp only [List.length_cons]; omega) (Ev.bind c1 (Ev.bind h1 (Ev.ite_true ho r1)))))
          · rw [rdT54_nat x i hlt, w1, show (a :: q).drop 1 = q from rfl]
            exact Ev.ite_true (by omega) (Ev.ite_true (Int.natCast_nonneg _) (Ev.ite_true (by omega) (Ev.ite_true (by simp only [List.length_cons]; omega) (Ev.bind c2 (Ev.bind h2 (Ev.ite_true ho r2))))))
        · obtain ⟨r, r1, r2⟩ := ih (i + 1) (wrap64 (s + c)) (by omega)
          refine ⟨r, Ev.step (fun k => by simp only [spec_l22Character.l0]; rfl) ?_, Ev.step (fun k => by simp only [impl_CharacterOf.l0]; rfl) ?_⟩
          · rw [rdT54_nat x i hlt, w1, show (a :: q).drop 1 = q from rfl]
            exact Ev.ite_true (by omega) (Ev.ite_true (Int.natCast_nonneg _) (Ev.ite_true (by simp only [List.length_cons]; omega) (Ev.bind c1 (Ev.bind h1 (Ev.ite_false ho r1)))))
          · rw [rdT54_nat x i hlt, w1, show (a :: q).drop 1 = q from rfl]
            exact Ev.ite_true (by omega) (Ev.ite_true (Int.natCast_nonneg _) (Ev.ite_true (by omega) (Ev.ite_true (by simp only [List.length_cons]; omega) (Ev.bind c2 (Ev.bind h2 (Ev.ite_false ho r2))))))
    obtain ⟨r, r1, r2⟩ := loop x.length 0 0 (by omega)
    refine ⟨r, Ev.step (fun k => by simp only [spec_l22Character.f]; rfl) ?_, Ev.step (fun k => by simp only [impl_CharacterOf.f]; rfl) ?_⟩
    · exact Ev.ite_false (by simp only [List.length_cons]; omega) (Ev.ite_true (by simp only [List.length_cons]; omega) (Ev.bind hx r1))
    · refine Ev.bind (implSize_ev p (by omega)) (Ev.bind (implSize_ev (a :: q) (by omega)) ?_)
      have h1 : szB p = p.sum := if_pos hp
      have h2 : szB (a :: q) = (a :: q).sum := if_pos hq
      rw [h1, h2]
      refine Ev.ite_true hs (Ev.bind (implSize_ev p (by omega)) ?_)
      rw [h1]
      have hd : decide (p.sum < 0) = false := by have := psum hp; simp; omega
      rw [hd]
      refine Ev.step (fun k => by simp only [impl_CharacterOf.j0]; rfl) ?_
      exact Ev.ite_false (by simp) (Ev.ite_false (by simp only [List.length_cons]; omega) (Ev.ite_true (by simp only [List.length_cons]; omega) (Ev.bind hy r2)))

-- PartitionsOf of both, for n from 0 to 9.
theorem factparts : (List.range 10).all (fun n => match spec_PartitionsOf.f 300 n, impl_PartitionsOf.f 300 n with
  | some x, some y => (decide (x = y) && decide (x.length ≤ 100)) && x.all (fun p => isP p && decide (p.sum = n))
  | _, _ => false) = true := by decide +kernel
theorem partsOf {n : Int} (h : 0 ≤ n ∧ n ≤ 9) : ∃ x : List (List Int), Ev (fun k => spec_PartitionsOf.f k n) x ∧ Ev (fun k => impl_PartitionsOf.f k n) x ∧ x.length ≤ 100 ∧ ∀ p ∈ x, isP p = true ∧ p.sum = n := by
  obtain ⟨m, rfl⟩ : ∃ m : Nat, n = (m : Int) := ⟨n.toNat, by omega⟩
  have a := of_all factparts (x := m) (List.mem_range.2 (by omega))
  split at a
  · rename_i x y hx hy
    simp only [Bool.and_eq_true, decide_eq_true_eq, List.all_eq_true] at a
    obtain ⟨⟨rfl, a2⟩, a3⟩ := a
    exact ⟨x, Ev.of (spec_PartitionsOf.mono _) hx, Ev.of (impl_PartitionsOf.mono _) hy, a2, a3⟩
  · cases a

theorem rdL_nat (l : List (List Int)) (i : Nat) (h : i < l.length) : rd_L1 l (i : Int) = l[i] := by
  simp [rd_L1, List.getD_eq_getElem?_getD, h]

-- classSum of the program, step by step; class sizes and factorials of both.
theorem factclass : allP.all (fun p => both (spec_ClassSize.f 100 p) (impl_ClassSize.f 100 p)) = true := by decide +kernel
theorem class_ev {p : List Int} (h : isP p = true) : ∃ r, Ev (fun k => spec_ClassSize.f k p) r ∧ Ev (fun k => impl_ClassSize.f k p) r :=
  both_ev (spec_ClassSize.mono p) (impl_ClassSize.mono p) (of_all factclass (mem_allP h))
theorem factfactorial : (List.range 10).all (fun n => match spec_l3Factorial.f 30 n, impl_factorial.f 30 n with
  | some x, some y => decide (x = y) && !decide (x = 0)
  | _, _ => false) = true := by decide +kernel
theorem factorial_ev {n : Int} (h : 0 ≤ n ∧ n ≤ 9) : ∃ r : Int, r ≠ 0 ∧ Ev (fun k => spec_l3Factorial.f k n) r ∧ Ev (fun k => impl_factorial.f k n) r := by
  obtain ⟨m, rfl⟩ : ∃ m : Nat, n = (m : Int) := ⟨n.toNat, by omega⟩
  have a := of_all factfactorial (x := m) (List.mem_range.2 (by omega))
  split at a
  · rename_i x y hx hy
    simp only [Bool.and_eq_true, decide_eq_true_eq, Bool.not_eq_true', decide_eq_false_iff_not] at a
    obtain ⟨rfl, a2⟩ := a
    exact ⟨x, a2, Ev.of (spec_l3Factorial.mono _) hx, Ev.of (impl_factorial.mono _) hy⟩
  · cases a
def good (n : Int) (x : List Int) : Prop := szB x = n ∧ 0 ≤ n ∧ n ≤ 6
set_option linter.unusedSectionVars false
section
variable {L : List (List Int)} (hL : ∀ x ∈ L, x.length ≤ 1048576) (hlen : L.length ≤ 10) {n : Int}
include hL hlen
theorem cs0_step {i : Nat} (hi : i < L.length) (hg : good n L[i]) {r : Int} (h : Ev (fun k => impl_classSum.l0 k L n L L.length ((i + 1 : Nat) : Int)) r) : Ev (fun k => impl_classSum.l0 k L n L L.length i) r := by
  refine Ev.step (fun k => by simp only [impl_classSum.l0]; rfl) ?_
  rw [rdL_nat L i hi, wr1 (by omega)]
  simp only [within_f, Option.bind_some]
  have hz := implSize_ev L[i] (hL _ (List.getElem_mem hi))
  rw [hg.1] at hz
  refine Ev.ite_true (by omega) (Ev.ite_true (Int.natCast_nonneg _) (Ev.ite_true (by omega) (Ev.bind hz (Ev.ite_true rfl (Ev.ite_true (by simp; exact hg.2) h)))))
theorem cs0_no {i : Nat} (hi : i < L.length) (hg : ¬ good n L[i]) : Ev (fun k => impl_classSum.l0 k L n L L.length i) 0 := by
  refine Ev.step (fun k => by simp only [impl_classSum.l0]; rfl) ?_
  rw [rdL_nat L i hi, wr1 (by omega)]
  simp only [within_f, Option.bind_some]
  have hz := implSize_ev L[i] (hL _ (List.getElem_mem hi))
  refine Ev.ite_true (by omega) (Ev.ite_true (Int.natCast_nonneg _) (Ev.ite_true (by omega) (Ev.bind hz ?_)))
  by_cases e : szB L[i] = n
  · exact Ev.ite_true e (Ev.ite_false (by simp only [decide_eq_true_eq]; exact fun z => hg ⟨e, z⟩) (Ev.now _))
  · exact Ev.ite_false e (Ev.now _)
theorem cs0_end {x : List (List Int)} (hx : Ev (fun k => impl_PartitionsOf.f k n) x) {r : Int} (h : Ev (fun k => impl_classSum.l1 k L n 0 x x.length ((0 : Nat) : Int)) r) : Ev (fun k => impl_classSum.l0 k L n L L.length (L.length : Int)) r := by
  refine Ev.step (fun k => by simp only [impl_classSum.l0]; rfl) ?_
  exact Ev.ite_false (by omega) (Ev.bind hx h)
theorem cs2_step {s a : Int} {p : List Int} {x : List (List Int)} {m : Int} {j : Nat} (hj : j < L.length) {c r : Int} (hc : Ev (fun k => impl_CharacterOf.f k L[j] p) c)
    (h : Ev (fun k => impl_classSum.l2 k L n s p (wrap64 (a * c)) x x.length m L L.length ((j + 1 : Nat) : Int)) r) : Ev (fun k => impl_classSum.l2 k L n s p a x x.length m L L.length j) r := by
  refine Ev.step (fun k => by simp only [impl_classSum.l2]; rfl) ?_
  rw [rdL_nat L j hj, wr1 (by omega)]
  exact Ev.ite_true (by omega) (Ev.ite_true (Int.natCast_nonneg _) (Ev.ite_true (by omega) (Ev.bind hc h)))
theorem cs2_end {s a : Int} {p : List Int} {x : List (List Int)} {i : Nat} (hi : i < 1000) {r : Int}
    (h : Ev (fun k => impl_classSum.l1 k L n (wrap64 (s + a)) x x.length ((i + 1 : Nat) : Int)) r) : Ev (fun k => impl_classSum.l2 k L n s p a x x.length i L L.length (L.length : Int)) r := by
  refine Ev.step (fun k => by simp only [impl_classSum.l2]; rfl) ?_
  have w1 : wrap64 ((i : Int) + 1) = ((i + 1 : Nat) : Int) := wr1 (by omega)
  rw [w1]
  exact Ev.ite_false (by omega) h
theorem cs1_step {s : Int} {x : List (List Int)} {i : Nat} (hi : i < x.length) {c r : Int} (hc : Ev (fun k => impl_ClassSize.f k x[i]) c)
    (h : Ev (fun k => impl_classSum.l2 k L n s x[i] c x x.length i L L.length ((0 : Nat) : Int)) r) : Ev (fun k => impl_classSum.l1 k L n s x x.length i) r := by
  refine Ev.step (fun k => by simp only [impl_classSum.l1]; rfl) ?_
  rw [rdL_nat x i hi]
  exact Ev.ite_true (by omega) (Ev.ite_true (Int.natCast_nonneg _) (Ev.ite_true (by omega) (Ev.bind hc h)))
theorem cs1_end {s f : Int} {x : List (List Int)} (hf : Ev (fun k => impl_factorial.f k n) f) (h0 : f ≠ 0) : Ev (fun k => impl_classSum.l1 k L n s x x.length (x.length : Int)) (wrap64 (Int.tdiv s f)) := by
  refine Ev.step (fun k => by simp only [impl_classSum.l1]; rfl) ?_
  exact Ev.ite_false (by omega) (Ev.bind hf (Ev.ite_false h0 (Ev.now _)))
theorem cs_ev (h0 : 0 < L.length) {r : Int} (h : Ev (fun k => impl_classSum.l0 k L (szB L[0]) L L.length ((0 : Nat) : Int)) r) : Ev (fun k => impl_classSum.f k L) r := by
  simp only [impl_classSum.f]
  refine Ev.ite_true (by omega) ?_
  have e : rd_L1 L 0 = L[0] := rdL_nat L 0 h0
  rw [e]
  exact Ev.bind (implSize_ev L[0] (hL _ (List.getElem_mem h0))) h
end
theorem good_iff {n : Int} {x : List Int} (h : isP x = true) (hs : x.sum ≤ 6) (e : x.sum = n) : good n x := by
  have := psum h
  exact ⟨by rw [szB, if_pos h, e], by omega, by omega⟩
theorem good_of {n : Int} {x : List Int} (h : good n x) : isP x = true ∧ x.sum ≤ 6 ∧ x.sum = n := by
  obtain ⟨h1, h2, h3⟩ := h
  unfold szB at h1
  split at h1
  · rename_i hp; exact ⟨hp, by omega, h1⟩
  · omega

theorem kron_loop (p q u : List Int) (hp : isP p = true) (hq : isP q = true) (hu : isP u = true) (hlp : p.length ≤ 1048576) (hlq : q.length ≤ 1048576) (hlu : u.length ≤ 1048576) (e : p.sum = q.sum) (e' : p.sum = u.sum) (x : List (List Int)) (hx : ∀ s ∈ x, isP s = true ∧ s.sum = p.sum) (hxl : x.length ≤ 100) (d : Nat) : ∀ (i : Nat) (s : Int), i + d = x.length →
    ∃ r : Int, Ev (fun k => spec_KroneckerOf.l0 k p q u s x i) r ∧ Ev (fun k => impl_classSum.l1 k [p, q, u] p.sum s x x.length i) r := by
  have hL : ∀ y ∈ [p, q, u], y.length ≤ 1048576 := by simp [hlp, hlq, hlu]
  have hlen : [p, q, u].length ≤ 10 := by simp
  have hs := psum hp
  induction d with
  | zero =>
    intro i s hi
    obtain ⟨f, f0, f1, f2⟩ := factorial_ev (n := p.sum) (by omega)
    obtain rfl : i = x.length := by omega
    refine ⟨wrap64 (Int.tdiv s f), ?_, cs1_end hL hlen f2 f0⟩
    refine Ev.step (fun k => by simp only [spec_KroneckerOf.l0]; rfl) ?_
    exact Ev.ite_false (by omega) (Ev.bind (specL2_ev hp) (Ev.bind f1 (Ev.ite_false f0 (Ev.now _))))
  | succ d ih =>
    intro i s hi
    have hlt : i < x.length := by omega
    have hi1 : i < 1000 := by omega
    obtain ⟨hxp, hxs⟩ := hx _ (List.getElem_mem hlt)
    obtain ⟨c, c1, c2⟩ := class_ev hxp
    obtain ⟨a, a1, a2⟩ := char_ev x[i] p hp hxp (by omega)
    obtain ⟨b, b1, b2⟩ := char_ev x[i] q hq hxp (by omega)
    obtain ⟨f, f1, f2⟩ := char_ev x[i] u hu hxp (by omega)
    obtain ⟨r, r1, r2⟩ := ih (i + 1) (wrap64 (s + wrap64 (wrap64 (wrap64 (c * a) * b) * f))) (by omega)
    have w1 : wrap64 ((i : Int) + 1) = ((i + 1 : Nat) : Int) := wr1 (by omega)
    refine ⟨r, ?_, ?_⟩
    · refine Ev.step (fun k => by simp only [spec_KroneckerOf.l0]; rfl) ?_
      rw [w1, rdL_nat x i hlt]
      exact Ev.ite_true (by omega) (Ev.ite_true (Int.natCast_nonneg _) (Ev.bind c1 (Ev.bind a1 (Ev.bind b1 (Ev.bind f1 r1)))))
    · refine cs1_step hL hlen hlt c2 ?_
      refine cs2_step hL hlen (j := 0) (by simp) a2 ?_
      refine cs2_step hL hlen (j := 1) (by simp) b2 ?_
      refine cs2_step hL hlen (j := 2) (by simp) f2 ?_
      exact cs2_end hL hlen hi1 r2
theorem same (p q u : List Int) (hlp : p.length ≤ 1048576) (hlq : q.length ≤ 1048576) (hlu : u.length ≤ 1048576) : ∃ r : Int, Ev (fun k => spec_KroneckerOf.f k p q u) r ∧ Ev (fun k => impl_KroneckerOf.f k p q u) r := by
  have hL : ∀ y ∈ [p, q, u], y.length ≤ 1048576 := by simp [hlp, hlq, hlu]
  have hlen : [p, q, u].length ≤ 10 := by simp
  have fp := fine21_ev p hlp
  have fq := fine21_ev q hlq
  have fu := fine21_ev u hlu
  by_cases g : good (szB p) p ∧ good (szB p) q ∧ good (szB p) u
  · obtain ⟨gp, gq, gu⟩ := g
    obtain ⟨p1, p2, p3⟩ := good_of gp
    obtain ⟨q1, q2, q3⟩ := good_of gq
    obtain ⟨u1, u2, u3⟩ := good_of gu
    have hs := psum p1
    obtain ⟨x, x1, x2, hxl, hx⟩ := partsOf (n := p.sum) (by omega)
    obtain ⟨r, r1, r2⟩ := kron_loop p q u p1 q1 u1 hlp hlq hlu (by omega) (by omega) x hx hxl x.length 0 0 (by omega)
    refine ⟨r, ?_, ?_⟩
    · simp only [spec_KroneckerOf.f]
      refine Ev.bind fp (Ev.ite_true (by simp [p1, p2]) (Ev.bind fq (Ev.ite_true (by simp [q1, q2]) (Ev.bind fu (Ev.ite_true (by simp [u1, u2]) (Ev.bind (specL2_ev p1) (Ev.bind (specL2_ev q1) (Ev.ite_true (by omega) (Ev.bind (specL2_ev p1) (Ev.bind (specL2_ev u1) ?_))))))))))
      have hb : (p.sum != u.sum) = false := by simp; omega
      rw [hb]
      refine Ev.step (fun k => by simp only [spec_KroneckerOf.j0]; rfl) ?_
      exact Ev.ite_false (by simp) (Ev.bind (specL2_ev p1) (Ev.bind x1 r1))
    · simp only [impl_KroneckerOf.f]
      refine Ev.bind (cs_ev hL hlen (by simp) ?_) (Ev.now _)
      refine cs0_step hL hlen (i := 0) (by simp) gp ?_
      refine cs0_step hL hlen (i := 1) (by simp) gq ?_
      refine cs0_step hL hlen (i := 2) (by simp) gu ?_
      rw [← p3]
      exact cs0_end hL hlen x2 r2
  · refine ⟨0, ?_, ?_⟩
    · simp only [spec_KroneckerOf.f]
      have no : Ev (fun k => spec_KroneckerOf.j0 k p q u true) 0 := by
        refine Ev.step (fun k => by simp only [spec_KroneckerOf.j0]; rfl) ?_
        exact Ev.ite_true (by trivial) (Ev.now _)
      refine Ev.bind fp ?_
      by_cases hp : isP p = true ∧ p.sum ≤ 6
      · refine Ev.ite_true (by simp [hp]) (Ev.bind fq ?_)
        by_cases hq : isP q = true ∧ q.sum ≤ 6
        · refine Ev.ite_true (by simp [hq]) (Ev.bind fu ?_)
          by_cases hu : isP u = true ∧ u.sum ≤ 6
          · refine Ev.ite_true (by simp [hu]) (Ev.bind (specL2_ev hp.1) (Ev.bind (specL2_ev hq.1) ?_))
            by_cases e : p.sum = q.sum
            · refine Ev.ite_true e (Ev.bind (specL2_ev hp.1) (Ev.bind (specL2_ev hu.1) ?_))
              have hb : (p.sum != u.sum) = true := by
                simp only [bne_iff_ne, ne_eq]
                intro e'
                have hz : szB p = p.sum := if_pos hp.1
                exact g ⟨good_iff hp.1 hp.2 hz.symm, good_iff hq.1 hq.2 (by omega), good_iff hu.1 hu.2 (by omega)⟩
              rw [hb]; exact no
            · exact Ev.ite_false e no
          · exact Ev.ite_false (by simpa using hu) no
        · exact Ev.ite_false (by simpa using hq) no
      · exact Ev.ite_false (by simpa using hp) no
    · simp only [impl_KroneckerOf.f]
      refine Ev.bind (cs_ev hL hlen (by simp) ?_) (Ev.now _)
      by_cases gp : good (szB p) p
      · refine cs0_step hL hlen (i := 0) (by simp) gp ?_
        by_cases gq : good (szB p) q
        · refine cs0_step hL hlen (i := 1) (by simp) gq ?_
          exact cs0_no hL hlen (i := 2) (by simp) (fun gu => g ⟨gp, gq, gu⟩)
        · exact cs0_no hL hlen (i := 1) (by simp) gq
      · exact cs0_no hL hlen (i := 0) (by simp) gp
theorem FnExactKroneckerOf : laws_FnExactKroneckerOf.Pure := by
  intro p q u h1 h2 h3 h4 h5 h6 h7 h8 h9
  apply Ev.rounds
  simp only [laws_FnExactKroneckerOf.f]
  by_cases hp : p.length ≤ 1048576
  · by_cases hq : q.length ≤ 1048576
    · by_cases hu : u.length ≤ 1048576
      · obtain ⟨r, hs, hi⟩ := same p q u hp hq hu
        have t1 := toIntS_ev p hp
        have t2 := toIntS_ev q hq
        have t3 := toIntS_ev u hu
        have e1 := eqIntS_self p hp
        have e2 := eqIntS_self q hq
        have e3 := eqIntS_self u hu
        refine Ev.ite_false (by omega) (Ev.ite_false (by omega) (Ev.ite_false (by omega) ?_))
        repeat (first
          | exact Ev.now _
          | refine Ev.bind t1 ?_
          | refine Ev.bind t2 ?_
          | refine Ev.bind t3 ?_
          | refine Ev.bind hs ?_
          | refine Ev.bind hi ?_
          | refine Ev.bind e1 ?_
          | refine Ev.bind e2 ?_
          | refine Ev.bind e3 ?_
          | refine Ev.ite_true (by first | rfl | (simp; done) | omega | (dsimp only; omega)) ?_
          | refine Ev.ite_false (by first | (simp; done) | omega | (dsimp only; omega)) ?_)
      · exact Ev.ite_false (by omega) (Ev.ite_false (by omega) (Ev.ite_true (by omega) (Ev.now _)))
    · exact Ev.ite_false (by omega) (Ev.ite_true (by omega) (Ev.now _))
  · exact Ev.ite_true (by omega) (Ev.now _)

end Go.Proofs.Ytojjokhfmgomcaa.Pure
