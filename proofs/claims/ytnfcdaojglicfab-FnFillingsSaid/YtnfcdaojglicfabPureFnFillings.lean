/- Hooks taken off a drawn filling and put on again give it back, and the other way about; what the program tells of drawn fillings is what the reference tells. No condition. -/
import Derived.Test.YtnfcdaojglicfabPFnFillingsx17
import Derived.Test.YtnfcdaojglicfabVFnFillings
set_option linter.unusedVariables false
set_option linter.unusedSimpArgs false
namespace Go.Proofs.Ytnfcdaojglicfab
open Go.ChangeShapes Go.WideShapes
theorem PrintWords.sized_ints {H : Type} {enc : TypeId × Value → H} {P : Program} {W : World} {base : Nat} {spare : Nat → Bool} {held : Bool} {t e : TypeId} {k : IntKind} {a : Option Addr} {len cap : Nat} {d : DataW H} {ps : List MemPlace} {ts : List TypeId} {ds : List (DataW H)} {j : Nat}
    (hsz : (DataW.weightsEach P ts ds).all (· ≤ reachBytes) = true) (ht : ts[j]? = some t) (hd : ds[j]? = some d) (hu : P.underlying t = some (.slice e)) (he : P.underlying e = some (.int k)) (hc : P.cellsOf e = 1) {B : Nat} (hB : P.bytesOf e = B)
    (h : DataW.Trod enc P W base spare held t (.slice a len cap) d ps) : len * B ≤ 140737488351232 :=
  Go.Proofs.YtnfcdaojglicfabW.PrintWords.sized_ints hsz ht hd hu he hc hB h
end Go.Proofs.Ytnfcdaojglicfab
namespace Go.Proofs.Ytnfcdaojglicfab.Pure
open Go.RowKit Go.Proofs.Ytnfcdaojglicfab.PFnFillings Go.Proofs.YtnfcdaojglicfabW.PrintWords Go.Proofs.YtnfcdaojglicfabW.PrintLast

theorem wr_in {x : Int} (h : -9223372036854775808 ≤ x) (h' : x ≤ 9223372036854775807) : wrap64 x = x := by unfold wrap64; omega
theorem wr1 {i : Nat} (h : i < 4611686018427387904) : wrap64 ((i : Int) + 1) = ((i + 1 : Nat) : Int) := by unfold wrap64; omega
theorem Ev.ite_true {α : Type} {c : Prop} [Decidable c] {g f : Nat → Option α} {r : α} (hc : c) (h : Ev g r) : Ev (fun k => if c then g k else f k) r := by
  obtain ⟨K, h⟩ := h
  exact ⟨K, fun k hk => (if_pos hc).trans (h k hk)⟩
theorem Ev.ite_false {α : Type} {c : Prop} [Decidable c] {g f : Nat → Option α} {r : α} (hc : ¬ c) (h : Ev f r) : Ev (fun k => if c then g k else f k) r := by
  obtain ⟨K, h⟩ := h
  exact ⟨K, fun k hk => (if_neg hc).trans (h k hk)⟩
theorem rd_nat (l : List Int) (i : Nat) (h : i < l.length) : rd l (i : Int) = l[i] := by
  simp [rd, List.getD_eq_getElem?_getD, h]
/-- A statement that holds of all members of a list that can be run through. -/
theorem of_all {α : Type} {p : α → Bool} {l : List α} (h : l.all p = true) {x : α} (hx : x ∈ l) : p x = true := List.all_eq_true.mp h x hx
/-- Both answer, and alike. -/
def both {α : Type} [DecidableEq α] (a b : Option α) : Bool := match a, b with
  | some x, some y => decide (x = y)
  | _, _ => false
theorem both_ev {α : Type} [DecidableEq α] {f g : Nat → Option α} (hf : ∀ k, LeO (f k) (f (k + 1))) (hg : ∀ k, LeO (g k) (g (k + 1))) {n m : Nat} (h : both (f n) (g m) = true) : ∃ r, Ev f r ∧ Ev g r := by
  unfold both at h
  split at h
  · rename_i x y hx hy
    have e := of_decide_eq_true h
    subst e
    exact ⟨x, Ev.of hf hx, Ev.of hg hy⟩
  · cases h
theorem take_set_succ {α : Type} (y : List α) (i : Nat) (v : α) (h : i < y.length) : (y.set i v).take (i + 1) = y.take i ++ [v] := by
  rw [List.take_succ_eq_append_getElem (by simpa using h)]
  simp only [List.getElem_set_self]
  congr 1
  apply List.ext_getElem?
  intro j
  simp only [List.getElem?_take, List.getElem?_set]
  by_cases h : j < i
  · rw [if_pos h, if_neg (by omega), if_pos h]
  · rw [if_neg h, if_neg h]

theorem rdL_nat (l : List (List Int)) (i : Nat) (h : i < l.length) : rd_L2 l (i : Int) = l[i] := by
  simp [rd_L2, List.getD_eq_getElem?_getD, h]

theorem ev_one {α : Type} {f : Nat → Option α} {x y : α} (hx : Ev f x) (hy : Ev f y) : x = y := by
  obtain ⟨K, h1⟩ := hx
  obtain ⟨M, h2⟩ := hy
  have a := h1 (max K M) (Nat.le_max_left _ _)
  have b := h2 (max K M) (Nat.le_max_right _ _)
  rw [a] at b
  exact Option.some.inj b

/-! Partitions: a plain test, and all of them. -/
def isPF (prev s : Int) : List Int → Bool
  | [] => true
  | x :: xs => if 1 ≤ x ∧ x ≤ 9 ∧ x ≤ prev ∧ s + x ≤ 9 then isPF x (s + x) xs else false
def isP (l : List Int) : Bool := isPF 9 0 l
/-- All lists of numbers of at most 'prev' that add to 's' at most 9. -/
def genP : Nat → Nat → Nat → List (List Int)
  | 0, _, _ => [[]]
  | n + 1, prev, s => [] :: (List.range' 1 (min prev (9 - s))).flatMap fun x => (genP n x (s + x)).map fun r => (x : Int) :: r
theorem mem_genP : ∀ (n prev s : Nat) (l : List Int), 9 < n + s → s ≤ 9 → isPF prev s l = true → l ∈ genP n prev s
  | 0, prev, s, l, h1, h2, _ => by omega
  | n + 1, prev, s, [], _, _, _ => by simp [genP]
  | n + 1, prev, s, x :: xs, h1, h2, h => by
    simp only [isPF] at h
    split at h
    · rename_i hc
      obtain ⟨c1, c2, c3, c4⟩ := hc
      obtain ⟨m, rfl⟩ : ∃ m : Nat, x = (m : Int) := ⟨x.toNat, by omega⟩
      have e : (s : Int) + (m : Int) = ((s + m : Nat) : Int) := by omega
      rw [e] at h
      have ih := mem_genP n m (s + m) xs (by omega) (by omega) h
      simp only [genP, List.mem_cons, List.mem_flatMap]
      refine Or.inr ⟨m, ?_, ?_⟩
      · simp only [List.mem_range'_1]; omega
      · exact List.mem_map.2 ⟨xs, ih, rfl⟩
    · cases h
def allP : List (List Int) := genP 10 9 0
theorem mem_allP {l : List Int} (h : isP l = true) : l ∈ allP := mem_genP 10 9 0 l (by omega) (by omega) h
theorem isPF_length : ∀ (l : List Int) (prev s : Int), isPF prev s l = true → s + l.length ≤ 9 ∨ l = []
  | [], _, _, _ => .inr rfl
  | x :: xs, prev, s, h => by
    simp only [isPF] at h
    split at h
    · rename_i hc
      rcases isPF_length xs x (s + x) h with h1 | rfl
      · left; simp only [List.length_cons]; omega
      · left; simp; omega
    · cases h
theorem isP_length {l : List Int} (h : isP l = true) : l.length ≤ 9 := by
  rcases isPF_length l 9 0 h with h | rfl
  · omega
  · simp
/-- What stands at place i, and behind it. -/
theorem drop_cons (l : List Int) (i : Nat) (h : i < l.length) : l.drop i = l[i] :: l.drop (i + 1) := List.drop_eq_getElem_cons h
def prevOf (l : List Int) (i : Nat) : Int := if i = 0 then 9 else l.getD (i - 1) 0
theorem prevOf_succ (l : List Int) (i : Nat) (h : i < l.length) : prevOf l (i + 1) = l[i] := by simp [prevOf, h]

theorem isPF_get : ∀ (l : List Int) (prev s : Int), isPF prev s l = true → (∀ (i : Nat) (h : i < l.length), 1 ≤ l[i] ∧ l[i] ≤ 9 ∧ l[i] ≤ prev) ∧ ∀ (i : Nat) (h : i + 1 < l.length), l[i + 1] ≤ l[i]
  | [], _, _, _ => ⟨fun i h => by simp at h, fun i h => by simp at h⟩
  | x :: xs, prev, s, h => by
    simp only [isPF] at h
    split at h
    · rename_i hc
      obtain ⟨h1, h2⟩ := isPF_get xs x (s + x) h
      refine ⟨fun i hi => ?_, fun i hi => ?_⟩
      · cases i with
        | zero => simp; omega
        | succ i => have := h1 i (by simpa using hi); simp; omega
      · cases i with
        | zero => have := h1 0 (by simpa using hi); simpa using this.2.2
        | succ i => simpa using h2 i (by simpa using hi)
    · cases h
theorem isP_get {l : List Int} (h : isP l = true) (i : Nat) (hi : i < l.length) : 1 ≤ l[i] ∧ l[i] ≤ 9 := by
  have := (isPF_get l 9 0 h).1 i hi; omega
theorem isP_desc {l : List Int} (h : isP l = true) (i : Nat) (hi : i + 1 < l.length) : l[i + 1] ≤ l[i] := (isPF_get l 9 0 h).2 i hi

theorem l1In_f (x a b : Int) : spec_l1In.f x a b = some (decide (a ≤ x ∧ x ≤ b)) := by
  unfold spec_l1In.f
  by_cases h : x ≥ a
  · rw [if_pos h]; congr 1; by_cases h2 : x ≤ b
    · rw [decide_eq_true h2, decide_eq_true ⟨h, h2⟩]
    · rw [decide_eq_false h2, decide_eq_false (by omega)]
  · rw [if_neg h, decide_eq_false (by omega)]

theorem specIsP_l0 (l : List Int) (hl : l.length ≤ 1048576) (d : Nat) : ∀ (i k : Nat) (s : Int), i + d = l.length → 0 ≤ s → s ≤ 9 → 2 * d < k → spec_IsPartition.l0 k l s i = some (isPF (prevOf l i) s (l.drop i)) := by
  induction d with
  | zero =>
    intro i k s hi h0 h9 hk
    obtain ⟨k, rfl⟩ : ∃ m, k = m + 1 := ⟨k - 1, by omega⟩
    simp only [spec_IsPartition.l0]
    rw [if_neg (by omega), List.drop_of_length_le (by omega)]
    rfl
  | succ d ih =>
    intro i k s hi h0 h9 hk
    obtain ⟨k, rfl⟩ : ∃ m, k = m + 2 := ⟨k - 2, by omega⟩
    have hlt : i < l.length := by omega
    simp only [spec_IsPartition.l0]
    rw [if_pos (by omega), if_pos (by omega), rd_nat l i hlt, l1In_f, drop_cons l i hlt]
    simp only [Option.bind_some, isPF]
    have hj : ∀ b : Bool, (b = true ↔ ¬ (1 ≤ l[i] ∧ l[i] ≤ 9 ∧ l[i] ≤ prevOf l i)) →
        spec_IsPartition.j1 (k + 1) l s i b = some (if 1 ≤ l[i] ∧ l[i] ≤ 9 ∧ l[i] ≤ prevOf l i ∧ s + l[i] ≤ 9 then isPF l[i] (s + l[i]) (l.drop (i + 1)) else false) := by
      intro b hb
      simp only [spec_IsPartition.j1]
      by_cases hc : 1 ≤ l[i] ∧ l[i] ≤ 9 ∧ l[i] ≤ prevOf l i
      · rw [if_neg (fun h => hb.1 h hc), if_pos (by omega), if_pos (by omega), rd_nat l i hlt, wr_in (by omega) (by omega), wr1 (by omega)]
        by_cases h9' : s + l[i] > 9
        · rw [if_pos h9', if_neg (by omega)]
        · rw [if_neg h9', if_pos ⟨hc.1, hc.2.1, hc.2.2, by omega⟩, ih (i + 1) k _ (by omega) (by omega) (by omega) (by omega), prevOf_succ l i hlt]
      · rw [if_pos (hb.2 hc), if_neg (fun h => hc ⟨h.1, h.2.1, h.2.2.1⟩)]
    by_cases h1 : 1 ≤ l[i] ∧ l[i] ≤ 9
    · rw [if_pos (decide_eq_true h1)]
      by_cases hi0 : i = 0
      · subst hi0
        rw [if_neg (by omega)]
        exact hj false (by simp [prevOf]; omega)
      · have e : wrap64 ((i : Int) - 1) = ((i - 1 : Nat) : Int) := by unfold wrap64; omega
        rw [if_pos (by omega), e, if_pos (by omega), if_pos (by omega), rd_nat l (i - 1) (by omega)]
        refine hj _ ?_
        have hp : prevOf l i = l[i - 1] := by simp [prevOf, hi0]; rw [List.getElem?_eq_getElem (by omega)]; rfl
        rw [hp, decide_eq_true_iff]; omega
    · rw [if_neg (by simp; omega)]
      exact hj true (by simp; omega)
theorem specIsP_ev (l : List Int) (hl : l.length ≤ 1048576) : Ev (fun k => spec_IsPartition.f k l) (isP l) := by
  refine ⟨2 * l.length + 1, fun k hk => ?_⟩
  have h := specIsP_l0 l hl l.length 0 k 0 (by omega) (by omega) (by omega) (by omega)
  simpa [spec_IsPartition.f, isP, prevOf] using h

theorem within_f (x a b : Int) : impl_within.f x a b = some (decide (a ≤ x ∧ x ≤ b)) := by
  unfold impl_within.f
  by_cases h : a ≤ x
  · rw [if_pos h]; congr 1; by_cases h2 : x ≤ b
    · rw [decide_eq_true h2, decide_eq_true ⟨h, h2⟩]
    · rw [decide_eq_false h2, decide_eq_false (by omega)]
  · rw [if_neg h, decide_eq_false (by omega)]

theorem implIsP_l0 (l : List Int) (hl : l.length ≤ 1048576) (d : Nat) : ∀ (i k : Nat) (s : Int), i + d = l.length → 0 ≤ s → s ≤ 9 → 2 * d < k → impl_IsPartition.l0 k l s l l.length i = some (isPF (prevOf l i) s (l.drop i)) := by
  induction d with
  | zero =>
    intro i k s hi h0 h9 hk
    obtain ⟨k, rfl⟩ : ∃ m, k = m + 1 := ⟨k - 1, by omega⟩
    simp only [impl_IsPartition.l0]
    rw [if_neg (by omega), List.drop_of_length_le (by omega)]
    rfl
  | succ d ih =>
    intro i k s hi h0 h9 hk
    obtain ⟨k, rfl⟩ : ∃ m, k = m + 2 := ⟨k - 2, by omega⟩
    have hlt : i < l.length := by omega
    simp only [impl_IsPartition.l0]
    rw [if_pos (by omega), if_pos (by omega), if_pos (by omega), rd_nat l i hlt, within_f, drop_cons l i hlt]
    simp only [Option.bind_some, isPF]
    have hj : ∀ b : Bool, (b = true ↔ ¬ (1 ≤ l[i] ∧ l[i] ≤ 9 ∧ l[i] ≤ prevOf l i)) →
        impl_IsPartition.j1 (k + 1) l s l[i] l l.length i b = some (if 1 ≤ l[i] ∧ l[i] ≤ 9 ∧ l[i] ≤ prevOf l i ∧ s + l[i] ≤ 9 then isPF l[i] (s + l[i]) (l.drop (i + 1)) else false) := by
      intro b hb
      simp only [impl_IsPartition.j1]
      by_cases hc : 1 ≤ l[i] ∧ l[i] ≤ 9 ∧ l[i] ≤ prevOf l i
      · rw [if_neg (fun h => hb.1 h hc), wr_in (x := s + l[i]) (by omega) (by omega), wr1 (by omega)]
        by_cases h9' : s + l[i] > 9
        · rw [if_pos h9', if_neg (by omega)]
        · rw [if_neg h9', if_pos ⟨hc.1, hc.2.1, hc.2.2, by omega⟩, ih (i + 1) k _ (by omega) (by omega) (by omega) (by omega), prevOf_succ l i hlt]
      · rw [if_pos (hb.2 hc), if_neg (fun h => hc ⟨h.1, h.2.1, h.2.2.1⟩)]
    by_cases h1 : 1 ≤ l[i] ∧ l[i] ≤ 9
    · rw [if_pos (decide_eq_true h1)]
      by_cases hi0 : i = 0
      · subst hi0
        rw [if_neg (by omega)]
        exact hj false (by simp [prevOf]; omega)
      · have e : wrap64 ((i : Int) - 1) = ((i - 1 : Nat) : Int) := by unfold wrap64; omega
        rw [if_pos (by omega), e, if_pos (by omega), if_pos (by omega), rd_nat l (i - 1) (by omega)]
        refine hj _ ?_
        have hp : prevOf l i = l[i - 1] := by simp [prevOf, hi0]; rw [List.getElem?_eq_getElem (by omega)]; rfl
        rw [hp, decide_eq_true_iff]; omega
    · rw [if_neg (by simp; omega)]
      exact hj true (by simp; omega)
theorem implIsP_ev (l : List Int) (hl : l.length ≤ 1048576) : Ev (fun k => impl_IsPartition.f k l) (isP l) := by
  refine ⟨2 * l.length + 1, fun k hk => ?_⟩
  have h := implIsP_l0 l hl l.length 0 k 0 (by omega) (by omega) (by omega) (by omega)
  simpa [impl_IsPartition.f, isP, prevOf] using h

def okF (x : Int) : Bool := decide (0 ≤ x ∧ x ≤ 9)
def fillFrom : List Int → List (List Int) → Bool
  | p :: ps, r :: rs => decide ((r.length : Int) = p) && (r.all okF && fillFrom ps rs)
  | _, _ => true
def isF (p : List Int) (f : List (List Int)) : Bool := isP p && (decide (f.length = p.length) && fillFrom p f)
theorem fillFrom_get : ∀ (p : List Int) (f : List (List Int)), p.length = f.length → fillFrom p f = true → ∀ (i : Nat) (h : i < p.length) (h' : i < f.length), (f[i].length : Int) = p[i]
  | [], f, _, _, i, h, h' => by simp at h
  | p :: ps, [], _, _, i, h, h' => by simp at h'
  | p :: ps, r :: rs, hl, hf, i, h, h' => by
    simp only [fillFrom, Bool.and_eq_true, decide_eq_true_eq] at hf
    cases i with
    | zero => simpa using hf.1
    | succ i => simpa using fillFrom_get ps rs (by simpa using hl) hf.2.2 i (by simpa using h) (by simpa using h')
theorem specFill_l0 (p : List Int) (f : List (List Int)) (hp : isP p = true) (hlen : f.length = p.length) (d : Nat) : ∀ (i k : Nat), i + d = p.length → 12 * d < k →
    spec_IsFilling.l0 k p f i = some (fillFrom (p.drop i) (f.drop i)) := by
  have h9 := isP_length hp
  induction d with
  | zero =>
    intro i k hi hk
    obtain ⟨k, rfl⟩ : ∃ m, k = m + 1 := ⟨k - 1, by omega⟩
    simp only [spec_IsFilling.l0]
    rw [if_neg (by omega), List.drop_of_length_le (by omega)]
    rfl
  | succ d ih =>
    intro i k hi hk
    have hlt : i < p.length := by omega
    have hlt' : i < f.length := by omega
    have hp9 := isP_get hp i hlt
    have inner : ∀ (e j k : Nat), j + e = f[i].length → (f[i].length : Int) = p[i] → 12 * d + e + 1 < k → spec_IsFilling.l1 k p f i j = some ((f[i].drop j).all okF && fillFrom (p.drop (i + 1)) (f.drop (i + 1))) := by
      intro e
      induction e with
      | zero =>
        intro j k hj hq hk
        obtain ⟨k, rfl⟩ : ∃ m, k = m + 1 := ⟨k - 1, by omega⟩
        simp only [spec_IsFilling.l1]
        rw [if_pos (by omega), if_pos (by omega), rd_nat p i hlt, if_neg (by omega), wr1 (by omega), ih (i + 1) k (by omega) (by omega), List.drop_of_length_le (l := f[i]) (by omega)]
        simp
      | succ e ihe =>
        intro j k hj hq hk
        obtain ⟨k, rfl⟩ : ∃ m, k = m + 1 := ⟨k - 1, by omega⟩
        have hjl : j < f[i].length := by omega
        simp only [spec_IsFilling.l1]
        rw [if_pos (by omega), if_pos (by omega), rd_nat p i hlt, if_pos (by omega), if_pos (by omega), if_pos (by omega), rdL_nat f i hlt', if_pos (by omega), rd_nat f[i] j hjl, l1In_f, List.drop_eq_getElem_cons hjl]
        simp only [Option.bind_some, List.all_cons]
        by_cases h : 0 ≤ f[i][j] ∧ f[i][j] ≤ 9
        · rw [if_pos (decide_eq_true h), wr1 (by omega), ihe (j + 1) k (by omega) hq (by omega)]
          have : okF f[i][j] = true := decide_eq_true h
          rw [this, Bool.true_and]
        · rw [if_neg (by rw [decide_eq_true_eq]; exact h)]
          have : okF f[i][j] = false := decide_eq_false h
          rw [this]
          rfl
    obtain ⟨k, rfl⟩ : ∃ m, k = m + 1 := ⟨k - 1, by omega⟩
    simp only [spec_IsFilling.l0]
    rw [if_pos (by omega), if_pos (by omega), if_pos (by omega), rdL_nat f i hlt', rd_nat p i hlt, List.drop_eq_getElem_cons hlt, List.drop_eq_getElem_cons hlt']
    simp only [fillFrom]
    by_cases hq : (f[i].length : Int) = p[i]
    · rw [if_pos hq, decide_eq_true hq, Bool.true_and]
      have h0 := inner f[i].length 0 k (by omega) hq (by omega)
      simpa using h0
    · rw [if_neg hq, decide_eq_false hq]
      rfl
theorem isFill1_f (x : Int) : impl_IsFilling_1.f x = some (!okF x) := by
  unfold impl_IsFilling_1.f
  rw [within_f]
  rfl
theorem implFillC_l0 (l : List Int) (hl : l.length ≤ 1048576) (d : Nat) : ∀ (i k : Nat), i + d = l.length → d < k → ∃ r, slices_IndexFunc_int_int__impl_IsFilling_1.l0 k l l.length i = some r ∧ decide (r ≥ 0) = !((l.drop i).all okF) := by
  induction d with
  | zero =>
    intro i k hi hk
    obtain ⟨k, rfl⟩ : ∃ m, k = m + 1 := ⟨k - 1, by omega⟩
    simp only [slices_IndexFunc_int_int__impl_IsFilling_1.l0]
    rw [if_neg (by omega), List.drop_of_length_le (by omega)]
    exact ⟨_, rfl, by simp⟩
  | succ d ih =>
    intro i k hi hk
    obtain ⟨k, rfl⟩ : ∃ m, k = m + 1 := ⟨k - 1, by omega⟩
    have hlt : i < l.length := by omega
    simp only [slices_IndexFunc_int_int__impl_IsFilling_1.l0]
    rw [if_pos (by omega), if_pos (by omega), if_pos (by omega), rd_nat l i hlt, isFill1_f, List.drop_eq_getElem_cons hlt]
    simp only [Option.bind_some, List.all_cons]
    cases h : okF l[i]
    · rw [if_pos (by rfl)]
      exact ⟨_, rfl, by simp⟩
    · rw [if_neg (by simp), wr1 (by omega)]
      obtain ⟨r, h1, h2⟩ := ih (i + 1) k (by omega) (by omega)
      exact ⟨r, h1, by simpa using h2⟩
theorem implFillC_at (l : List Int) (hl : l.length ≤ 1048576) (k : Nat) (hk : l.length < k) : slices_ContainsFunc_int_int__impl_IsFilling_1.f k l = some (!(l.all okF)) := by
  obtain ⟨r, h, h2⟩ := implFillC_l0 l hl l.length 0 k (by omega) (by omega)
  have h' : slices_IndexFunc_int_int__impl_IsFilling_1.l0 k l l.length 0 = some r := h
  unfold slices_ContainsFunc_int_int__impl_IsFilling_1.f slices_IndexFunc_int_int__impl_IsFilling_1.f
  simp only [h', Option.bind_some, h2]
  simp
theorem implFill_l0 (p : List Int) (f : List (List Int)) (hp : isP p = true) (hlen : f.length = p.length) (d : Nat) : ∀ (i k : Nat), i + d = p.length → d + 11 < k →
    impl_IsFilling.l0 k p f f.length i = some (fillFrom (p.drop i) (f.drop i)) := by
  have h9 := isP_length hp
  induction d with
  | zero =>
    intro i k hi hk
    obtain ⟨k, rfl⟩ : ∃ m, k = m + 1 := ⟨k - 1, by omega⟩
    simp only [impl_IsFilling.l0]
    rw [if_neg (by omega), List.drop_of_length_le (by omega)]
    rfl
  | succ d ih =>
    intro i k hi hk
    have hlt : i < p.length := by omega
    have hlt' : i < f.length := by omega
    have hp9 := isP_get hp i hlt
    obtain ⟨k, rfl⟩ : ∃ m, k = m + 1 := ⟨k - 1, by omega⟩
    simp only [impl_IsFilling.l0]
    rw [if_pos (by omega), if_pos (by omega), if_pos (by omega), if_pos (by omega), rdL_nat f i hlt', rd_nat p i hlt, List.drop_eq_getElem_cons hlt, List.drop_eq_getElem_cons hlt']
    simp only [fillFrom]
    by_cases hq : (f[i].length : Int) = p[i]
    · rw [if_pos hq, decide_eq_true hq, Bool.true_and, implFillC_at _ (by omega) k (by omega)]
      simp only [Option.bind_some]
      cases h : f[i].all okF
      · rw [if_pos (by rfl)]; rfl
      · rw [if_neg (by simp), wr1 (by omega), ih (i + 1) k (by omega) (by omega)]
        rfl
    · rw [if_neg hq, decide_eq_false hq]
      rfl
theorem specFill_ev (p : List Int) (f : List (List Int)) (hl : p.length ≤ 1048576) : Ev (fun k => spec_IsFilling.f k p f) (isF p f) := by
  simp only [spec_IsFilling.f]
  refine Ev.bind (specIsP_ev p hl) ?_
  cases h : isP p
  · refine Ev.ite_false (by simp) (Ev.step (f := fun _ => some false) (fun k => by simp [spec_IsFilling.j0]) ?_)
    simpa [isF, h] using Ev.now false
  · refine Ev.ite_true rfl ?_
    by_cases hlen : f.length = p.length
    · refine ⟨12 * p.length + 2, fun k hk => ?_⟩
      obtain ⟨k, rfl⟩ : ∃ m, k = m + 1 := ⟨k - 1, by omega⟩
      have h0 := specFill_l0 p f h hlen p.length 0 k (by omega) (by omega)
      simp only [spec_IsFilling.j0]
      rw [if_neg (by simp [hlen])]
      simpa [isF, h, hlen] using h0
    · refine Ev.step (f := fun _ => some false) (fun k => ?_) (by simpa [isF, hlen] using Ev.now false)
      simp only [spec_IsFilling.j0]
      rw [if_pos (by simp; omega)]
theorem implFill_ev (p : List Int) (f : List (List Int)) (hl : p.length ≤ 1048576) : Ev (fun k => impl_IsFilling.f k p f) (isF p f) := by
  simp only [impl_IsFilling.f]
  refine Ev.bind (implIsP_ev p hl) ?_
  cases h : isP p
  · refine Ev.ite_false (by simp) (Ev.step (f := fun _ => some false) (fun k => by simp [impl_IsFilling.j0]) ?_)
    simpa [isF, h] using Ev.now false
  · refine Ev.ite_true rfl ?_
    by_cases hlen : f.length = p.length
    · refine ⟨p.length + 13, fun k hk => ?_⟩
      obtain ⟨k, rfl⟩ : ∃ m, k = m + 1 := ⟨k - 1, by omega⟩
      have h0 := implFill_l0 p f h hlen p.length 0 k (by omega) (by omega)
      simp only [impl_IsFilling.j0]
      rw [if_neg (by simp [hlen])]
      simpa [isF, h, hlen] using h0
    · refine Ev.step (f := fun _ => some false) (fun k => ?_) (by simpa [isF, hlen] using Ev.now false)
      simp only [impl_IsFilling.j0]
      rw [if_pos (by simp; omega)]

/-! Fillings of one shape: rows of noughts, the columns' heights. -/
def shp (p : List Int) (y : List (List Int)) : Prop := y.length = p.length ∧ ∀ (i : Nat) (h : i < y.length) (h' : i < p.length), (y[i].length : Int) = p[i]
def noughts (p : List Int) : List (List Int) := p.map fun n => List.replicate n.toNat 0
def colH (p : List Int) (c : Int) : Nat := (p.filter fun n => decide (n > c)).length
def zeroOk (p : List Int) : Bool := decide (spec_l27Zeros.f 30 p = some (noughts p)) && decide (impl_zeros.f 30 p = some (noughts p))
theorem factzero : allP.all zeroOk = true := by decide +kernel
theorem zeros_ev {p : List Int} (hp : isP p = true) : Ev (fun k => spec_l27Zeros.f k p) (noughts p) ∧ Ev (fun k => impl_zeros.f k p) (noughts p) := by
  have h := of_all factzero (mem_allP hp)
  simp only [zeroOk, Bool.and_eq_true, decide_eq_true_eq] at h
  exact ⟨Ev.of (spec_l27Zeros.mono p) h.1, Ev.of (impl_zeros.mono p) h.2⟩
def colOk (p : List Int) : Bool := (List.range 10).all fun c => decide (impl_column.f 30 p c = some ((colH p c : Nat) : Int)) && ((List.range 11).all fun i => decide (i < colH p c ↔ (i < p.length ∧ p.getD i 0 > (c : Int))))
theorem factcol : allP.all colOk = true := by decide +kernel
theorem col_ev {p : List Int} (hp : isP p = true) (c : Nat) (hc : c < 10) : Ev (fun k => impl_column.f k p c) ((colH p c : Nat) : Int) := by
  have h := of_all factcol (mem_allP hp)
  have h1 := of_all h (x := c) (List.mem_range.2 hc)
  simp only [Bool.and_eq_true, decide_eq_true_eq] at h1
  exact Ev.of (impl_column.mono p c) h1.1
theorem col_iff {p : List Int} (hp : isP p = true) (c : Nat) (hc : c < 10) (i : Nat) (hi : i < 11) : i < colH p c ↔ (i < p.length ∧ p.getD i 0 > (c : Int)) := by
  have h := of_all factcol (mem_allP hp)
  have h1 := of_all h (x := c) (List.mem_range.2 hc)
  simp only [Bool.and_eq_true] at h1
  have h2 := of_all h1.2 (x := i) (List.mem_range.2 hi)
  exact of_decide_eq_true h2
theorem colH_le {p : List Int} (c : Int) : colH p c ≤ p.length := List.length_filter_le _ _
theorem noughts_shp {p : List Int} (hp : isP p = true) : shp p (noughts p) := by
  refine ⟨by simp [noughts], fun i h h' => ?_⟩
  have := isP_get hp i h'
  simp only [noughts, List.getElem_map, List.length_replicate]
  omega
theorem shp_set {p : List Int} {y : List (List Int)} (h : shp p y) (i : Nat) (hi : i < y.length) (v : List Int) (hv : v.length = y[i].length) : shp p (y.set i v) := by
  refine ⟨by rw [List.length_set]; exact h.1, fun j hj hj' => ?_⟩
  rw [List.length_set] at hj
  rw [List.getElem_set]
  split
  · rename_i e
    subst e
    rw [hv]
    exact h.2 i hj hj'
  · exact h.2 j hj hj'

/-! Reverse plane partitions: both sides tell them alike, and what is told. -/
def rppFrom (p : List Int) (f : List (List Int)) (i j : Nat) : Prop := ∀ a b : Nat, (a = i ∧ j ≤ b ∨ i < a) → a < p.length → (b : Int) < p.getD a 0 → (0 < b → (f.getD a []).getD (b - 1) 0 ≤ (f.getD a []).getD b 0) ∧ (0 < a → (f.getD (a - 1) []).getD b 0 ≤ (f.getD a []).getD b 0)
theorem both_l0 (p : List Int) (f : List (List Int)) (hp : isP p = true) (hlen : f.length = p.length) (hrow : ∀ (i : Nat) (h : i < p.length) (h' : i < f.length), (f[i].length : Int) = p[i]) (d : Nat) : ∀ (i k k' : Nat), i + d = p.length → 12 * d < k → 12 * d < k' →
    spec_IsReverse.l0 k p f i = impl_IsReverse.l0 k' f f f.length i ∧ (spec_IsReverse.l0 k p f i).isSome ∧ (spec_IsReverse.l0 k p f i = some true → rppFrom p f i 0) ∧ (rppFrom p f i 0 → spec_IsReverse.l0 k p f i = some true) := by
  have h9 := isP_length hp
  induction d with
  | zero =>
    intro i k k' hi hk hk'
    obtain ⟨k, rfl⟩ : ∃ m, k = m + 1 := ⟨k - 1, by omega⟩
    obtain ⟨k', rfl⟩ : ∃ m, k' = m + 1 := ⟨k' - 1, by omega⟩
    simp only [spec_IsReverse.l0, impl_IsReverse.l0]
    rw [if_neg (by omega), if_neg (by omega)]
    exact ⟨rfl, rfl, fun _ a b h1 h2 => by omega, fun _ => rfl⟩
  | succ d ih =>
    intro i k k' hi hk hk'
    have hlt : i < p.length := by omega
    have hlt' : i < f.length := by omega
    have hp9 := isP_get hp i hlt
    have hq := hrow i hlt hlt'
    have inner : ∀ (e j k k' : Nat), j + e = f[i].length → 12 * d + e + 1 < k → 12 * d + e + 1 < k' →
        spec_IsReverse.l1 k p f i j = impl_IsReverse.l1 k' f i f[i] f f.length i f[i] f[i].length j ∧ (spec_IsReverse.l1 k p f i j).isSome ∧ (spec_IsReverse.l1 k p f i j = some true → rppFrom p f i j) ∧ (rppFrom p f i j → spec_IsReverse.l1 k p f i j = some true) := by
      intro e
      induction e with
      | zero =>
        intro j k k' hj hk hk'
        obtain ⟨k, rfl⟩ : ∃ m, k = m + 1 := ⟨k - 1, by omega⟩
        obtain ⟨k', rfl⟩ : ∃ m, k' = m + 1 := ⟨k' - 1, by omega⟩
        have h0 := ih (i + 1) k k' (by omega) (by omega) (by omega)
        have e1 : spec_IsReverse.l1 (k + 1) p f i j = spec_IsReverse.l0 k p f ((i + 1 : Nat) : Int) := by
          simp only [spec_IsReverse.l1]
          rw [if_pos (by omega), if_pos (by omega), rd_nat p i hlt, if_neg (by omega), wr1 (by omega)]
        have e2 : impl_IsReverse.l1 (k' + 1) f i f[i] f f.length i f[i] f[i].length j = impl_IsReverse.l0 k' f f f.length ((i + 1 : Nat) : Int) := by
          simp only [impl_IsReverse.l1]
          rw [if_neg (by omega), wr1 (by omega)]
        rw [e1, e2]
        refine ⟨h0.1, h0.2.1, fun h a b h1 h2 h3 => h0.2.2.1 h a b ?_ h2 h3, fun h => h0.2.2.2 fun a b h1 h2 h3 => h a b (by omega) h2 h3⟩
        rcases h1 with ⟨rfl, h1⟩ | h1
        · rw [List.getD_eq_getElem?_getD, List.getElem?_eq_getElem hlt, Option.getD_some] at h3
          omega
        · omega
      | succ e ihe =>
        intro j k k' hj hk hk'
        obtain ⟨k, rfl⟩ : ∃ m, k = m + 1 := ⟨k - 1, by omega⟩
        obtain ⟨k', rfl⟩ : ∃ m, k' = m + 1 := ⟨k' - 1, by omega⟩
        have hjl : j < f[i].length := by omega
        have h0 := ihe (j + 1) k k' (by omega) (by omega) (by omega)
        have upS : ∀ (R : Option Bool), R = spec_IsReverse.l1 k p f i ((j + 1 : Nat) : Int) → (if (i : Int) > 0 then (if (i : Int) < (f.length : Int) then (if 0 ≤ (j : Int) then (if (j : Int) < (f[i].length : Int) then (if 0 ≤ wrap64 ((i : Int) - 1) then (if wrap64 ((i : Int) - 1) < (f.length : Int) then (if (j : Int) < ((rd_L2 f (wrap64 ((i : Int) - 1))).length : Int) then (if f[i][j] < rd (rd_L2 f (wrap64 ((i : Int) - 1))) j then some false else R) else none) else none) else none) else none) else none) else none) else R) =
            (if i = 0 then R else if f[i][j] < (f.getD (i - 1) []).getD j 0 then some false else R) := by
          intro R _
          by_cases hi0 : i = 0
          · subst hi0
            rw [if_neg (by omega), if_pos rfl]
          · have e1 : wrap64 ((i : Int) - 1) = ((i - 1 : Nat) : Int) := by unfold wrap64; omega
            have hl1 : i - 1 < f.length := by omega
            have hq1 := hrow (i - 1) (by omega) hl1
            have hd := isP_desc hp (i - 1) (by omega)
            have e3 : i - 1 + 1 = i := by omega
            simp only [e3] at hd
            have hjl1 : j < f[i - 1].length := by omega
            rw [if_pos (by omega), if_pos (by omega), if_pos (by omega), if_pos (by omega), e1, if_pos (by omega), if_pos (by omega), rdL_nat f (i - 1) hl1, if_pos (by omega), rd_nat f[i - 1] j hjl1, if_neg hi0]
            simp [hl1, hjl1]
        have upI : ∀ (R : Option Bool), (if (i : Int) > 0 then (if 0 ≤ wrap64 ((i : Int) - 1) then (if wrap64 ((i : Int) - 1) < (f.length : Int) then (if (j : Int) < ((rd_L2 f (wrap64 ((i : Int) - 1))).length : Int) then (if f[i][j] < rd (rd_L2 f (wrap64 ((i : Int) - 1))) j then some false else R) else none) else none) else none) else R) =
            (if i = 0 then R else if f[i][j] < (f.getD (i - 1) []).getD j 0 then some false else R) := by
          intro R
          by_cases hi0 : i = 0
          · subst hi0
            rw [if_neg (by omega), if_pos rfl]
          · have e1 : wrap64 ((i : Int) - 1) = ((i - 1 : Nat) : Int) := by unfold wrap64; omega
            have hl1 : i - 1 < f.length := by omega
            have hq1 := hrow (i - 1) (by omega) hl1
            have hd := isP_desc hp (i - 1) (by omega)
            have e3 : i - 1 + 1 = i := by omega
            simp only [e3] at hd
            have hjl1 : j < f[i - 1].length := by omega
            rw [if_pos (by omega), e1, if_pos (by omega), if_pos (by omega), rdL_nat f (i - 1) hl1, if_pos (by omega), rd_nat f[i - 1] j hjl1, if_neg hi0]
            simp [hl1, hjl1]
        have eS : spec_IsReverse.l1 (k + 1) p f i j = if j > 0 ∧ f[i][j] < f[i].getD (j - 1) 0 then some false else (if i = 0 then spec_IsReverse.l1 k p f i ((j + 1 : Nat) : Int) else if f[i][j] < (f.getD (i - 1) []).getD j 0 then some false else spec_IsReverse.l1 k p f i ((j + 1 : Nat) : Int)) := by
          simp only [spec_IsReverse.l1]
          rw [if_pos (by omega), if_pos (by omega), rd_nat p i hlt, if_pos (by omega), rdL_nat f i hlt', rd_nat f[i] j hjl, wr1 (by omega)]
          by_cases hj0 : j = 0
          · subst hj0
            refine Eq.trans ?_ (if_neg (by omega)).symm
            refine (if_neg (show ¬ (((0 : Nat) : Int) > 0) by omega)).trans ?_
            exact upS _ rfl
          · have e1 : wrap64 ((j : Int) - 1) = ((j - 1 : Nat) : Int) := by unfold wrap64; omega
            rw [if_pos (by omega), if_pos (by omega), if_pos (by omega), if_pos (by omega), e1, if_pos (by omega), if_pos (by omega), rd_nat f[i] (j - 1) (by omega)]
            have hg : f[i].getD (j - 1) 0 = f[i][j - 1]'(by omega) := by simp [show j - 1 < f[i].length by omega]
            rw [hg]
            by_cases hc : f[i][j] < f[i][j - 1]'(by omega)
            · exact (if_pos hc).trans (if_pos ⟨by omega, hc⟩).symm
            · refine Eq.trans ?_ (if_neg (fun h => hc h.2)).symm
              exact (if_neg hc).trans (upI _)
        have eI : impl_IsReverse.l1 (k' + 1) f i f[i] f f.length i f[i] f[i].length j = if j > 0 ∧ f[i][j] < f[i].getD (j - 1) 0 then some false else (if i = 0 then impl_IsReverse.l1 k' f i f[i] f f.length i f[i] f[i].length ((j + 1 : Nat) : Int) else if f[i][j] < (f.getD (i - 1) []).getD j 0 then some false else impl_IsReverse.l1 k' f i f[i] f f.length i f[i] f[i].length ((j + 1 : Nat) : Int)) := by
          simp only [impl_IsReverse.l1]
          rw [if_pos (by omega), if_pos (by omega), if_pos (by omega), rd_nat f[i] j hjl, wr1 (by omega)]
          by_cases hj0 : j = 0
          · subst hj0
            refine Eq.trans ?_ (if_neg (by omega)).symm
            refine (if_neg (show ¬ (((0 : Nat) : Int) > 0) by omega)).trans ?_
            exact upI _
          · have e1 : wrap64 ((j : Int) - 1) = ((j - 1 : Nat) : Int) := by unfold wrap64; omega
            rw [if_pos (by omega), e1, if_pos (by omega), if_pos (by omega), rd_nat f[i] (j - 1) (by omega)]
            have hg : f[i].getD (j - 1) 0 = f[i][j - 1]'(by omega) := by simp [show j - 1 < f[i].length by omega]
            rw [hg]
            by_cases hc : f[i][j] < f[i][j - 1]'(by omega)
            · exact (if_pos hc).trans (if_pos ⟨by omega, hc⟩).symm
            · refine Eq.trans ?_ (if_neg (fun h => hc h.2)).symm
              exact (if_neg hc).trans (upI _)
        have more : ¬ (j > 0 ∧ f[i][j] < f[i].getD (j - 1) 0) → (i = 0 ∨ ¬ f[i][j] < (f.getD (i - 1) []).getD j 0) → spec_IsReverse.l1 k p f i ((j + 1 : Nat) : Int) = some true → rppFrom p f i j := by
          intro n1 n2 h a b h1 h2 h3
          have hg : (f.getD i []).getD j 0 = f[i][j] := by simp [hlt', hjl]
          by_cases hab : a = i ∧ b = j
          · obtain ⟨rfl, rfl⟩ := hab
            rw [hg]
            have hg2 : (f.getD a []) = f[a] := by simp [hlt']
            rw [hg2]
            exact ⟨fun h => by omega, fun h => by omega⟩
          · exact h0.2.2.1 h a b (by omega) h2 h3
        have here : rppFrom p f i j → (0 < j → f[i].getD (j - 1) 0 ≤ f[i][j]) ∧ (0 < i → (f.getD (i - 1) []).getD j 0 ≤ f[i][j]) := fun h => by
          have hg : (f.getD i []).getD j 0 = f[i][j] := by simp [hlt', hjl]
          have hg2 : (f.getD i []) = f[i] := by simp [hlt']
          have h1 := h i j (.inl ⟨rfl, Nat.le_refl _⟩) hlt (by rw [List.getD_eq_getElem?_getD, List.getElem?_eq_getElem hlt, Option.getD_some]; omega)
          rw [hg, hg2] at h1
          exact h1
        have on : rppFrom p f i j → spec_IsReverse.l1 k p f i ((j + 1 : Nat) : Int) = some true := fun h => h0.2.2.2 fun a b h1 h2 h3 => h a b (by omega) h2 h3
        rw [eS, eI]
        split
        · rename_i n1
          exact ⟨rfl, rfl, fun h => by (cases h), fun h => by have := (here h).1; omega⟩
        · rename_i n1
          split
          · rename_i n2
            exact ⟨h0.1, h0.2.1, more n1 (.inl n2), on⟩
          · rename_i n0
            split
            · rename_i n2
              exact ⟨rfl, rfl, fun h => by (cases h), fun h => by have := (here h).2; omega⟩
            · rename_i n2
              exact ⟨h0.1, h0.2.1, more n1 (.inr n2), on⟩
    obtain ⟨k, rfl⟩ : ∃ m, k = m + 1 := ⟨k - 1, by omega⟩
    obtain ⟨k', rfl⟩ : ∃ m, k' = m + 1 := ⟨k' - 1, by omega⟩
    have h0 := inner f[i].length 0 k k' (by omega) (by omega) (by omega)
    simp only [spec_IsReverse.l0, impl_IsReverse.l0]
    rw [if_pos (by omega), if_pos (by omega), if_pos (by omega), if_pos (by omega), rdL_nat f i hlt']
    exact h0
theorem rev_same (p : List Int) (f : List (List Int)) (hl : p.length ≤ 1048576) : ∃ r, Ev (fun k => spec_IsReverse.f k p f) r ∧ Ev (fun k => impl_IsReverse.f k p f) r ∧ (r = true → isF p f = true ∧ rppFrom p f 0 0) ∧ (isF p f = true → rppFrom p f 0 0 → r = true) := by
  have h1 := specFill_ev p f hl
  have h2 := implFill_ev p f hl
  cases h : isF p f
  · rw [h] at h1 h2
    refine ⟨false, ?_, ?_, fun h => by (cases h), fun h => by (cases h)⟩
    · simp only [spec_IsReverse.f]
      exact Ev.bind h1 (Ev.ite_false (by simp) (Ev.now _))
    · simp only [impl_IsReverse.f]
      exact Ev.bind h2 (Ev.ite_false (by simp) (Ev.now _))
  · rw [h] at h1 h2
    simp only [isF, Bool.and_eq_true, decide_eq_true_eq] at h
    obtain ⟨hp, hlen, hfill⟩ := h
    have hall := fun k k' (hk : 12 * p.length < k) (hk' : 12 * p.length < k') => both_l0 p f hp hlen (fillFrom_get p f hlen.symm hfill) p.length 0 k k' (by omega) hk hk'
    obtain ⟨r, hr⟩ := Option.isSome_iff_exists.1 (hall (12 * p.length + 1) (12 * p.length + 1) (by omega) (by omega)).2.1
    refine ⟨r, ?_, ?_, fun e => ⟨rfl, (hall (12 * p.length + 1) (12 * p.length + 1) (by omega) (by omega)).2.2.1 (by rw [← e]; exact hr)⟩, fun _ h => Option.some.inj (hr.symm.trans ((hall (12 * p.length + 1) (12 * p.length + 1) (by omega) (by omega)).2.2.2 h))⟩
    · simp only [spec_IsReverse.f]
      refine Ev.bind h1 (Ev.ite_true rfl ⟨12 * p.length + 1, fun k hk => ?_⟩)
      exact ((hall k (12 * p.length + 1) (by omega) (by omega)).1.trans (hall (12 * p.length + 1) (12 * p.length + 1) (by omega) (by omega)).1.symm).trans hr
    · simp only [impl_IsReverse.f]
      refine Ev.bind h2 (Ev.ite_true rfl ⟨12 * p.length + 1, fun k hk => ?_⟩)
      exact ((hall (12 * p.length + 1) k (by omega) (by omega)).1.symm).trans hr

/-! The rows of a small list of rows, one behind the other. -/
theorem flat_le (R : List (List Int)) (h : ∀ row ∈ R, row.length ≤ 9) : R.flatten.length ≤ 9 * R.length := by
  induction R with
  | nil => simp
  | cons a R ih =>
    have h1 := h a (List.mem_cons_self ..)
    have h2 := ih (fun row hr => h row (List.mem_cons_of_mem _ hr))
    simp only [List.flatten_cons, List.length_append, List.length_cons]
    omega
theorem take_flat (R : List (List Int)) (i : Nat) (hi : i < R.length) : (R.take (i + 1)).flatten = (R.take i).flatten ++ R[i] := by
  rw [List.take_add_one, List.getElem?_eq_getElem hi]
  simp only [List.flatten_append, Option.toList_some, List.flatten_cons, List.flatten_nil, List.append_nil]
theorem take_flat_le (R : List (List Int)) (h : ∀ row ∈ R, row.length ≤ 9) (h9 : R.length ≤ 9) (i : Nat) : (R.take i).flatten.length ≤ 81 := by
  have h1 := flat_le (R.take i) (fun row hr => h row (List.mem_of_mem_take hr))
  have h2 : (R.take i).length ≤ 9 := by rw [List.length_take]; omega
  omega
theorem nums_impl (R : List (List Int)) (h : ∀ row ∈ R, row.length ≤ 9) (h9 : R.length ≤ 9) : Ev (fun k => slices_Concat_int_int.f k R) R.flatten := by
  have loop1 : ∀ (d i : Nat), i + d = R.length → Ev (fun k => slices_Concat_int_int.l1 k (R.take i).flatten R R.length i) R.flatten := by
    intro d
    induction d with
    | zero =>
      intro i hi
      rw [List.take_of_length_le (by omega)]
      exact Ev.step (fun k => by simp only [slices_Concat_int_int.l1]; rfl) (Ev.ite_false (by omega) (Ev.now _))
    | succ d ih =>
      intro i hi
      have hlt : i < R.length := by omega
      have hi5 : i < 4611686018427387904 := by omega
      have hf := take_flat_le R h h9 i
      have hr := h _ (List.getElem_mem hlt)
      refine Ev.step (fun k => by simp only [slices_Concat_int_int.l1]; rfl) (Ev.ite_true (by omega) (Ev.ite_true (by omega) (Ev.ite_true (by omega) ?_)))
      rw [rdL_nat R i hlt, wr1 hi5, ← take_flat R i hlt]
      exact Ev.ite_true (by omega) (ih (i + 1) (by omega))
  have loop0 : ∀ (d i : Nat) (s : Int), i + d = R.length → 0 ≤ s → s ≤ 9 * (i : Int) → Ev (fun k => slices_Concat_int_int.l0 k R s R R.length i) R.flatten := by
    intro d
    induction d with
    | zero =>
      intro i s hi h0 hs
      refine Ev.step (fun k => by simp only [slices_Concat_int_int.l0, slices_Grow_int_int__nil.f]; rfl) (Ev.ite_false (by omega) ?_)
      rw [if_pos (by omega)]
      simp only [Option.bind_some]
      simpa using loop1 R.length 0 (by omega)
    | succ d ih =>
      intro i s hi h0 hs
      have hlt : i < R.length := by omega
      have hi5 : i < 4611686018427387904 := by omega
      have hr := h _ (List.getElem_mem hlt)
      have hw : wrap64 (s + (R[i].length : Int)) = s + (R[i].length : Int) := wr_in (by omega) (by omega)
      have a1 : ¬ (s + (R[i].length : Int) < 0) := by omega
      have a2 : 0 ≤ s + (R[i].length : Int) := by omega
      have a3 : s + (R[i].length : Int) ≤ 9 * ((i + 1 : Nat) : Int) := by omega
      have a4 : (i : Int) < (R.length : Int) := by omega
      have a5 := ih (i + 1) (s + (R[i].length : Int)) (by omega) a2 a3
      refine Ev.step (fun k => by simp only [slices_Concat_int_int.l0]; rfl) (Ev.ite_true a4 (Ev.ite_true (Int.natCast_nonneg _) (Ev.ite_true a4 ?_)))
      rw [rdL_nat R i hlt, wr1 hi5, hw]
      exact Ev.ite_false a1 a5
  have := loop0 R.length 0 0 (by omega) (by omega) (by omega)
  simpa [slices_Concat_int_int.f] using this

/-! Reverse plane partitions: cells, one cell changed, the total; the path that takes one hook off. -/
def wd (p : List Int) (i : Nat) : Int := p.getD i 0
def cell (y : List (List Int)) (i j : Nat) : Int := (y.getD i []).getD j 0
def putc (y : List (List Int)) (i j : Nat) (v : Int) : List (List Int) := y.set i ((y.getD i []).set j v)
def tots (y : List (List Int)) : Int := (y.map List.sum).sum
def inR (y : List (List Int)) : Prop := ∀ r ∈ y, ∀ n ∈ r, 0 ≤ n ∧ n ≤ 9
theorem rd_cell (y : List (List Int)) (i j : Nat) : rd (rd_L2 y (i : Int)) (j : Int) = cell y i j := by simp [rd, rd_L2, cell]
theorem rdL_D (y : List (List Int)) (i : Nat) : rd_L2 y (i : Int) = y.getD i [] := by simp [rd_L2]
theorem rd_wd (p : List Int) (i : Nat) : rd p (i : Int) = wd p i := by simp [rd, wd]
theorem wd_get (p : List Int) (i : Nat) (h : i < p.length) : wd p i = p[i] := by simp [wd, h]
theorem wd_out (p : List Int) (i : Nat) (h : ¬ i < p.length) : wd p i = 0 := by simp [wd, List.getD_eq_getElem?_getD, List.getElem?_eq_none (Nat.le_of_not_lt h)]
theorem wd_lt {p : List Int} {i j : Nat} (h : (j : Int) < wd p i) : i < p.length := by
  by_cases hi : i < p.length
  · exact hi
  · rw [wd_out p i hi] at h; omega
theorem wd_9 {p : List Int} (hp : isP p = true) (i : Nat) : 0 ≤ wd p i ∧ wd p i ≤ 9 := by
  by_cases hi : i < p.length
  · have := isP_get hp i hi
    rw [wd_get p i hi]; omega
  · rw [wd_out p i hi]; omega
theorem wd_desc {p : List Int} (hp : isP p = true) (i : Nat) : wd p (i + 1) ≤ wd p i := by
  by_cases hi : i + 1 < p.length
  · rw [wd_get p _ hi, wd_get p i (by omega)]; exact isP_desc hp i hi
  · rw [wd_out p _ hi]; exact (wd_9 hp i).1
theorem shp_row {p : List Int} {y : List (List Int)} (h : shp p y) (i : Nat) : ((y.getD i []).length : Int) = wd p i := by
  by_cases hi : i < p.length
  · have hy : i < y.length := by rw [h.1]; exact hi
    have := h.2 i hy hi
    simp only [List.getD_eq_getElem?_getD, List.getElem?_eq_getElem hy, Option.getD_some]
    rw [wd_get p i hi]; exact this
  · rw [wd_out p i hi]
    have hy : ¬ i < y.length := by rw [h.1]; exact hi
    simp [List.getD_eq_getElem?_getD, List.getElem?_eq_none (Nat.le_of_not_lt hy)]
theorem cell_putc (y : List (List Int)) (i j : Nat) (v : Int) (hi : i < y.length) (hj : j < (y.getD i []).length) (a b : Nat) : cell (putc y i j v) a b = if a = i ∧ b = j then v else cell y a b := by
  unfold cell putc
  by_cases ha : a = i
  · subst ha
    rw [List.getD_eq_getElem?_getD (l := y.set _ _), List.getElem?_set_self hi, Option.getD_some]
    by_cases hb : b = j
    · subst hb
      rw [if_pos ⟨rfl, rfl⟩, List.getD_eq_getElem?_getD, List.getElem?_set_self hj, Option.getD_some]
    · rw [if_neg (fun h => hb h.2), List.getD_eq_getElem?_getD, List.getElem?_set_ne (fun h => hb h.symm), ← List.getD_eq_getElem?_getD]
  · rw [if_neg (fun h => ha h.1), List.getD_eq_getElem?_getD (l := y.set _ _), List.getElem?_set_ne (fun h => ha h.symm), ← List.getD_eq_getElem?_getD]
theorem shp_putc {p : List Int} {y : List (List Int)} (h : shp p y) (i j : Nat) (v : Int) (hi : i < p.length) : shp p (putc y i j v) := by
  have hy : i < y.length := by rw [h.1]; exact hi
  exact shp_set h i hy _ (by rw [List.length_set]; simp [hy])
theorem sum_set (l : List Int) : ∀ (j : Nat) (_ : j < l.length) (v : Int), (l.set j v).sum = l.sum - l.getD j 0 + v := by
  induction l with
  | nil => intro j h; simp at h
  | cons x l ih =>
    intro j h v
    cases j with
    | zero => simp; omega
    | succ j =>
      have := ih j (by simpa using h) v
      simp only [List.set_cons_succ, List.sum_cons, List.getD_cons_succ, this]
      omega
theorem tots_set (y : List (List Int)) : ∀ (i : Nat) (_ : i < y.length) (r : List Int), tots (y.set i r) = tots y - (y.getD i []).sum + r.sum := by
  induction y with
  | nil => intro i h; simp at h
  | cons x y ih =>
    intro i h r
    cases i with
    | zero => simp [tots]; omega
    | succ i =>
      have := ih i (by simpa using h) r
      simp only [tots] at this ⊢
      simp only [List.set_cons_succ, List.map_cons, List.sum_cons, List.getD_cons_succ, this]
      omega
theorem tots_putc (y : List (List Int)) (i j : Nat) (v : Int) (hi : i < y.length) (hj : j < (y.getD i []).length) : tots (putc y i j v) = tots y - cell y i j + v := by
  unfold putc
  rw [tots_set y i hi, sum_set _ j hj]
  unfold cell
  omega
theorem inR_putc {y : List (List Int)} (h : inR y) (i j : Nat) (v : Int) (h0 : 0 ≤ v) (h9 : v ≤ 9) : inR (putc y i j v) := by
  intro r hr n hn
  by_cases hi : i < y.length
  · rcases List.mem_or_eq_of_mem_set hr with hr | rfl
    · exact h r hr n hn
    · rcases List.mem_or_eq_of_mem_set hn with hn | rfl
      · refine h _ ?_ n hn
        simp [hi]
      · exact ⟨h0, h9⟩
  · unfold putc at hr
    rw [List.set_eq_of_length_le (Nat.le_of_not_lt hi)] at hr
    exact h r hr n hn
theorem inR_cell {y : List (List Int)} (h : inR y) (i j : Nat) : 0 ≤ cell y i j ∧ cell y i j ≤ 9 := by
  unfold cell
  by_cases hi : i < y.length
  · have e : y.getD i [] = y[i] := by simp [hi]
    rw [e]
    by_cases hj : j < y[i].length
    · have e2 : y[i].getD j 0 = y[i][j] := by simp [hj]
      rw [e2]
      exact h _ (List.getElem_mem hi) _ (List.getElem_mem hj)
    · simp [List.getD_eq_getElem?_getD, List.getElem?_eq_none (Nat.le_of_not_lt hj)]
  · simp [List.getD_eq_getElem?_getD, List.getElem?_eq_none (Nat.le_of_not_lt hi)]
theorem sum_bound (l : List Int) (h : ∀ n ∈ l, 0 ≤ n ∧ n ≤ 9) : 0 ≤ l.sum ∧ l.sum ≤ 9 * l.length := by
  induction l with
  | nil => simp
  | cons x l ih =>
    have h1 := h x (List.mem_cons_self ..)
    have h2 := ih (fun n hn => h n (List.mem_cons_of_mem _ hn))
    simp only [List.sum_cons, List.length_cons]
    omega
theorem le_sum (l : List Int) (h : ∀ n ∈ l, 0 ≤ n ∧ n ≤ 9) (j : Nat) : l.getD j 0 ≤ l.sum := by
  induction l generalizing j with
  | nil => simp
  | cons x l ih =>
    have h1 := h x (List.mem_cons_self ..)
    have h2 := ih (fun n hn => h n (List.mem_cons_of_mem _ hn))
    have h3 := sum_bound l (fun n hn => h n (List.mem_cons_of_mem _ hn))
    cases j with
    | zero => simp; omega
    | succ j => have := h2 j; simp only [List.getD_cons_succ, List.sum_cons]; omega
theorem tots_nonneg {y : List (List Int)} (h : inR y) : 0 ≤ tots y := by
  induction y with
  | nil => simp [tots]
  | cons x y ih =>
    have h1 := sum_bound x (h x (List.mem_cons_self ..))
    have h2 := ih (fun r hr => h r (List.mem_cons_of_mem _ hr))
    simp only [tots] at h2 ⊢
    simp only [List.map_cons, List.sum_cons]
    omega
theorem cell_le_tots {y : List (List Int)} (h : inR y) (i j : Nat) : cell y i j ≤ tots y := by
  induction y generalizing i with
  | nil => simp [cell, tots]
  | cons x y ih =>
    have h0 := sum_bound x (h x (List.mem_cons_self ..))
    have h1 := le_sum x (h x (List.mem_cons_self ..)) j
    have h2 := tots_nonneg (fun r hr => h r (List.mem_cons_of_mem _ hr) : inR y)
    cases i with
    | zero => simp only [cell, tots, List.getD_cons_zero, List.map_cons, List.sum_cons] at *; omega
    | succ i =>
      have h3 := ih (fun r hr => h r (List.mem_cons_of_mem _ hr)) i
      simp only [cell, tots, List.getD_cons_succ, List.map_cons, List.sum_cons] at *
      omega
theorem pos_sum (l : List Int) (h : 0 < l.sum) : ∃ j, j < l.length ∧ 0 < l.getD j 0 := by
  induction l with
  | nil => simp at h
  | cons x l ih =>
    by_cases hx : 0 < x
    · exact ⟨0, by simp, by simpa using hx⟩
    · simp only [List.sum_cons] at h
      obtain ⟨j, h1, h2⟩ := ih (by omega)
      exact ⟨j + 1, by simpa using h1, by simpa using h2⟩
theorem pos_tots (y : List (List Int)) (h : 0 < tots y) : ∃ i j, j < (y.getD i []).length ∧ 0 < cell y i j := by
  induction y with
  | nil => simp [tots] at h
  | cons x y ih =>
    by_cases hx : 0 < x.sum
    · obtain ⟨j, h1, h2⟩ := pos_sum x hx
      exact ⟨0, j, by simpa using h1, by simpa [cell] using h2⟩
    · simp only [tots, List.map_cons, List.sum_cons] at h
      obtain ⟨i, j, h1, h2⟩ := ih (by simp only [tots]; omega)
      exact ⟨i + 1, j, by simpa using h1, by simpa [cell] using h2⟩
/-- Rows rise, and columns, but perhaps for the one pair below (i, j). -/
def mid (p : List Int) (y : List (List Int)) (i j : Nat) : Prop := shp p y ∧ inR y ∧ (∀ a b : Nat, ((b + 1 : Nat) : Int) < wd p a → cell y a b ≤ cell y a (b + 1)) ∧ (∀ a b : Nat, (b : Int) < wd p (a + 1) → cell y a b ≤ cell y (a + 1) b ∨ a = i ∧ b = j ∧ cell y a b = cell y (a + 1) b + 1)
def rpp (p : List Int) (y : List (List Int)) : Prop := shp p y ∧ inR y ∧ (∀ a b : Nat, ((b + 1 : Nat) : Int) < wd p a → cell y a b ≤ cell y a (b + 1)) ∧ (∀ a b : Nat, (b : Int) < wd p (a + 1) → cell y a b ≤ cell y (a + 1) b)
theorem rpp_mid {p : List Int} {y : List (List Int)} (h : rpp p y) (i j : Nat) : mid p y i j := ⟨h.1, h.2.1, h.2.2.1, fun a b hb => .inl (h.2.2.2 a b hb)⟩
/-- What the path may count on at (i, j). -/
def strict (y : List (List Int)) (i j : Nat) : Prop := 0 < cell y i j ∧ (0 < j → cell y i (j - 1) < cell y i j ∧ (0 < i → cell y (i - 1) (j - 1) < cell y i j))
theorem mid_step {p : List Int} (hp : isP p = true) {y : List (List Int)} {i j : Nat} (hj : (j : Int) < wd p i) (hm : mid p y i j) (hs : strict y i j) :
    (0 < i ∧ cell y (i - 1) j = cell y i j → mid p (putc y i j (cell y i j - 1)) (i - 1) j ∧ strict (putc y i j (cell y i j - 1)) (i - 1) j) ∧
    (¬ (0 < i ∧ cell y (i - 1) j = cell y i j) → rpp p (putc y i j (cell y i j - 1)) ∧ (((j + 1 : Nat) : Int) < wd p i → strict (putc y i j (cell y i j - 1)) i (j + 1))) := by
  obtain ⟨h1, h2, h3, h4⟩ := hm
  obtain ⟨s1, s2⟩ := hs
  have hi := wd_lt hj
  have hiy : i < y.length := by rw [h1.1]; exact hi
  have hjy : j < (y.getD i []).length := by have := shp_row h1 i; omega
  have hc := cell_putc y i j (cell y i j - 1) hiy hjy
  have hb := inR_cell h2 i j
  have q1 := shp_putc h1 i j (cell y i j - 1) hi
  have q2 := inR_putc h2 i j (cell y i j - 1) (by omega) (by omega)
  have q3 : ∀ a b : Nat, ((b + 1 : Nat) : Int) < wd p a → cell (putc y i j (cell y i j - 1)) a b ≤ cell (putc y i j (cell y i j - 1)) a (b + 1) := by
    intro a b hab
    have := h3 a b hab
    rw [hc, hc]
    by_cases e1 : a = i ∧ b + 1 = j
    · obtain ⟨rfl, rfl⟩ := e1
      have := (s2 (by omega)).1
      rw [show b + 1 - 1 = b by omega] at this
      rw [if_neg (by omega), if_pos ⟨rfl, rfl⟩]
      omega
    · rw [if_neg e1]
      by_cases e2 : a = i ∧ b = j
      · obtain ⟨rfl, rfl⟩ := e2
        rw [if_pos ⟨rfl, rfl⟩]; omega
      · rw [if_neg e2]; omega
  have q4 : ∀ a b : Nat, (b : Int) < wd p (a + 1) → cell (putc y i j (cell y i j - 1)) a b ≤ cell (putc y i j (cell y i j - 1)) (a + 1) b ∨ a + 1 = i ∧ b = j ∧ cell y a b = cell y i j := by
    intro a b hab
    have := h4 a b hab
    rw [hc, hc]
    by_cases e1 : a + 1 = i ∧ b = j
    · obtain ⟨rfl, rfl⟩ := e1
      rw [if_neg (by omega), if_pos ⟨rfl, rfl⟩]
      omega
    · rw [if_neg e1]
      by_cases e2 : a = i ∧ b = j
      · obtain ⟨rfl, rfl⟩ := e2
        rw [if_pos ⟨rfl, rfl⟩]; omega
      · rw [if_neg e2]; omega
  refine ⟨fun ⟨hi0, he⟩ => ?_, fun hn => ?_⟩
  · obtain ⟨i', rfl⟩ : ∃ n, i = n + 1 := ⟨i - 1, by omega⟩
    simp only [Nat.add_sub_cancel] at he s2 ⊢
    refine ⟨⟨q1, q2, q3, ?_⟩, ?_⟩
    · intro a b hab
      rcases q4 a b hab with h | ⟨e1, e2, e3⟩
      · exact .inl h
      · have e1' : a = i' := by omega
        subst e1' e2
        refine .inr ⟨rfl, rfl, ?_⟩
        rw [hc, hc, if_neg (by omega), if_pos ⟨rfl, rfl⟩, he]; omega
    · refine ⟨by rw [hc, if_neg (by omega)]; omega, fun hj0 => ?_⟩
      rw [hc i' (j - 1), hc i' j, if_neg (by omega), if_neg (by omega), he]
      have z := s2 hj0
      refine ⟨z.2 (by omega), fun hi1 => ?_⟩
      rw [hc, if_neg (by omega)]
      have z2 := z.2 (by omega)
      have hw := wd_desc hp i'
      have hw2 := wd_desc hp (i' - 1)
      rw [show i' - 1 + 1 = i' by omega] at hw2
      rcases h4 (i' - 1) (j - 1) (by rw [show i' - 1 + 1 = i' by omega]; omega) with z3 | ⟨z3, _⟩
      · rw [show i' - 1 + 1 = i' by omega] at z3; omega
      · omega
  · refine ⟨⟨q1, q2, q3, ?_⟩, ?_⟩
    · intro a b hab
      rcases q4 a b hab with h | ⟨e1, e2, e3⟩
      · exact h
      · refine absurd ?_ hn
        subst e1 e2
        exact ⟨by omega, by simpa using e3⟩
    · intro hj1
      have := h3 i j hj1
      refine ⟨by rw [hc, if_neg (by omega)]; omega, fun _ => ?_⟩
      rw [Nat.add_sub_cancel, hc i j, hc i (j + 1), if_pos ⟨rfl, rfl⟩, if_neg (by omega)]
      refine ⟨by omega, fun hi0 => ?_⟩
      rw [hc, if_neg (by omega)]
      have e : i - 1 + 1 = i := by omega
      rcases h4 (i - 1) j (by rw [e]; exact hj) with z | ⟨z, _⟩
      · rw [e] at z
        have : cell y (i - 1) j ≠ cell y i j := fun h => hn ⟨hi0, h⟩
        omega
      · omega

/-! The path that takes a hook off, and the path that puts it on again: each undoes the other. -/
def inc (y : List (List Int)) (i j : Nat) : List (List Int) := putc y i j (wrap64 (cell y i j + 1))
def dec (y : List (List Int)) (i j : Nat) : List (List Int) := putc y i j (wrap64 (cell y i j - 1))
def inS (p : List Int) (i j : Nat) : Prop := (j : Int) < wd p i
instance (p : List Int) (i j : Nat) : Decidable (inS p i j) := inferInstanceAs (Decidable ((j : Int) < wd p i))
theorem wd_mono {p : List Int} (hp : isP p = true) (i d : Nat) : wd p (i + d) ≤ wd p i := by
  induction d with
  | zero => exact Int.le_refl _
  | succ d ih => have := wd_desc hp (i + d); rw [show i + (d + 1) = i + d + 1 by omega]; omega
theorem wd_anti {p : List Int} (hp : isP p = true) {a i : Nat} (h : a ≤ i) : wd p i ≤ wd p a := by
  have := wd_mono hp a (i - a)
  rwa [show a + (i - a) = i by omega] at this
theorem inS_y {p : List Int} {y : List (List Int)} (hy : shp p y) {i j : Nat} (h : inS p i j) : i < y.length ∧ j < (y.getD i []).length := by
  have h1 := wd_lt h
  have h2 := shp_row hy i
  unfold inS at h
  exact ⟨by rw [hy.1]; exact h1, by omega⟩
theorem cell_put {p : List Int} {y : List (List Int)} (hy : shp p y) {i j : Nat} (h : inS p i j) (v : Int) (a b : Nat) : cell (putc y i j v) a b = if a = i ∧ b = j then v else cell y a b :=
  cell_putc y i j v (inS_y hy h).1 (inS_y hy h).2 a b
theorem shp_put {p : List Int} {y : List (List Int)} (hy : shp p y) {i j : Nat} (h : inS p i j) (v : Int) : shp p (putc y i j v) := shp_putc hy i j v (wd_lt h)
theorem ext_cells {p : List Int} {y z : List (List Int)} (hy : shp p y) (hz : shp p z) (h : ∀ a b, cell y a b = cell z a b) : y = z := by
  refine List.ext_getElem (by rw [hy.1, hz.1]) fun i h1 h2 => ?_
  have e1 := hy.2 i h1 (by rw [← hy.1]; exact h1)
  have e2 := hz.2 i h2 (by rw [← hz.1]; exact h2)
  refine List.ext_getElem (by omega) fun j g1 g2 => ?_
  have := h i j
  simpa [cell, h1, h2, g1, g2] using this
theorem put_back {p : List Int} {y : List (List Int)} (hy : shp p y) {i j : Nat} (h : inS p i j) (v w : Int) (hw : w = cell y i j) : putc (putc y i j v) i j w = y := by
  refine ext_cells (shp_put (shp_put hy h v) h w) hy fun a b => ?_
  rw [cell_put (shp_put hy h v) h, cell_put hy h]
  split
  · rename_i e; rw [e.1, e.2]; exact hw
  · rfl
theorem inc_dec {p : List Int} {y : List (List Int)} (hy : shp p y) {i j : Nat} (h : inS p i j) (hb : 0 ≤ cell y i j ∧ cell y i j ≤ 100000) : inc (dec y i j) i j = y := by
  have w1 : Aside0 (wrap64 (cell y i j - 1) = cell y i j - 1) := ⟨wr_in (by omega) (by omega)⟩
  unfold inc dec
  refine put_back hy h _ _ ?_
  rw [cell_put hy h, if_pos ⟨rfl, rfl⟩, w1.out, show cell y i j - 1 + 1 = cell y i j by omega]
  exact wr_in (by omega) (by omega)
theorem dec_inc {p : List Int} {y : List (List Int)} (hy : shp p y) {i j : Nat} (h : inS p i j) (hb : 0 ≤ cell y i j ∧ cell y i j ≤ 100000) : dec (inc y i j) i j = y := by
  have w1 : Aside0 (wrap64 (cell y i j + 1) = cell y i j + 1) := ⟨wr_in (by omega) (by omega)⟩
  unfold inc dec
  refine put_back hy h _ _ ?_
  rw [cell_put hy h, if_pos ⟨rfl, rfl⟩, w1.out, show cell y i j + 1 - 1 = cell y i j by omega]
  exact wr_in (by omega) (by omega)
theorem cell_inc {p : List Int} {y : List (List Int)} (hy : shp p y) {i j : Nat} (h : inS p i j) (hb : 0 ≤ cell y i j ∧ cell y i j ≤ 100000) (a b : Nat) : cell (inc y i j) a b = if a = i ∧ b = j then cell y i j + 1 else cell y a b := by
  have w1 : Aside0 (wrap64 (cell y i j + 1) = cell y i j + 1) := ⟨wr_in (by omega) (by omega)⟩
  unfold inc
  rw [cell_put hy h, w1.out]
theorem dec_putc {y : List (List Int)} {i j : Nat} (hb : 0 ≤ cell y i j ∧ cell y i j ≤ 100000) : dec y i j = putc y i j (cell y i j - 1) := by
  have w1 : Aside0 (wrap64 (cell y i j - 1) = cell y i j - 1) := ⟨wr_in (by omega) (by omega)⟩
  unfold dec
  rw [w1.out]
theorem shp_dec {p : List Int} {y : List (List Int)} (hy : shp p y) {i j : Nat} (h : inS p i j) : shp p (dec y i j) := shp_put hy h _
theorem shp_inc {p : List Int} {y : List (List Int)} (hy : shp p y) {i j : Nat} (h : inS p i j) : shp p (inc y i j) := shp_put hy h _
theorem dec_ne {p : List Int} {y : List (List Int)} (hy : shp p y) {i j : Nat} (h : inS p i j) {a b : Nat} (hn : ¬ (a = i ∧ b = j)) : cell (dec y i j) a b = cell y a b := by
  unfold dec; rw [cell_put hy h, if_neg hn]
theorem dec_eq {p : List Int} {y : List (List Int)} (hy : shp p y) {i j : Nat} (h : inS p i j) : cell (dec y i j) i j = wrap64 (cell y i j - 1) := by
  unfold dec; rw [cell_put hy h, if_pos ⟨rfl, rfl⟩]
theorem inc_ne {p : List Int} {y : List (List Int)} (hy : shp p y) {i j : Nat} (h : inS p i j) {a b : Nat} (hn : ¬ (a = i ∧ b = j)) : cell (inc y i j) a b = cell y a b := by
  unfold inc; rw [cell_put hy h, if_neg hn]
theorem inc_eq {p : List Int} {y : List (List Int)} (hy : shp p y) {i j : Nat} (h : inS p i j) : cell (inc y i j) i j = wrap64 (cell y i j + 1) := by
  unfold inc; rw [cell_put hy h, if_pos ⟨rfl, rfl⟩]
/-- Off: up where the number above is the same, else right, to the row's end. -/
inductive Fwd (p : List Int) : List (List Int) → Nat → Nat → List (List Int) → Nat → Prop
  | up {y : List (List Int)} {i j : Nat} {y' : List (List Int)} {r : Nat} (h : 0 < i ∧ cell y (i - 1) j = cell y i j) (t : Fwd p (dec y i j) (i - 1) j y' r) : Fwd p y i j y' r
  | right {y : List (List Int)} {i j : Nat} {y' : List (List Int)} {r : Nat} (h : ¬ (0 < i ∧ cell y (i - 1) j = cell y i j)) (h1 : inS p i (j + 1)) (t : Fwd p (dec y i j) i (j + 1) y' r) : Fwd p y i j y' r
  | stop {y : List (List Int)} {i j : Nat} (h : ¬ (0 < i ∧ cell y (i - 1) j = cell y i j)) (h1 : ¬ inS p i (j + 1)) : Fwd p y i j (dec y i j) i
/-- On again: down where the number below is the same, else left, to the column. -/
inductive Bck (p : List Int) (c : Nat) : List (List Int) → Nat → Nat → List (List Int) → Nat → Prop
  | down {y : List (List Int)} {i j : Nat} {y' : List (List Int)} {e : Nat} (h : inS p (i + 1) j ∧ cell y (i + 1) j = cell y i j) (t : Bck p c (inc y i j) (i + 1) j y' e) : Bck p c y i j y' e
  | left {y : List (List Int)} {i j : Nat} {y' : List (List Int)} {e : Nat} (h : ¬ (inS p (i + 1) j ∧ cell y (i + 1) j = cell y i j)) (h1 : c < j) (t : Bck p c (inc y i j) i (j - 1) y' e) : Bck p c y i j y' e
  | stop {y : List (List Int)} {i : Nat} (h : ¬ (inS p (i + 1) c ∧ cell y (i + 1) c = cell y i c)) : Bck p c y i c (inc y i c) i
theorem inS_up {p : List Int} (hp : isP p = true) {i j : Nat} (h : inS p i j) : inS p (i - 1) j := by
  have := wd_anti hp (show i - 1 ≤ i by omega)
  unfold inS at h ⊢; omega
theorem inS_left {p : List Int} {i j : Nat} (h : inS p i j) : inS p i (j - 1) := by unfold inS at h ⊢; omega
theorem inS_9 {p : List Int} (hp : isP p = true) {i j : Nat} (h : inS p i j) : i < 9 ∧ j < 9 := by
  have h1 := wd_lt h
  have h2 := wd_9 hp i
  have h3 := isP_length hp
  unfold inS at h
  omega
theorem fwd_some {p : List Int} (hp : isP p = true) (m : Nat) : ∀ (i j : Nat) (y : List (List Int)), inS p i j → i + (9 - j) ≤ m → ∃ y' r, Fwd p y i j y' r := by
  induction m with
  | zero => intro i j y h hm; have := inS_9 hp h; omega
  | succ m ih =>
    intro i j y h hm
    have h9 := inS_9 hp h
    rcases Classical.em (0 < i ∧ cell y (i - 1) j = cell y i j) with hu | hu
    · obtain ⟨y', r, t⟩ := ih (i - 1) j (dec y i j) (inS_up hp h) (by have := hu.1; omega)
      exact ⟨y', r, .up hu t⟩
    · rcases Classical.em (inS p i (j + 1)) with h1 | h1
      · obtain ⟨y', r, t⟩ := ih i (j + 1) (dec y i j) h1 (by omega)
        exact ⟨y', r, .right hu h1 t⟩
      · exact ⟨_, _, .stop hu h1⟩
theorem bck_some {p : List Int} (hp : isP p = true) (c : Nat) (m : Nat) : ∀ (i j : Nat) (y : List (List Int)), inS p i j → c ≤ j → (9 - i) + j ≤ m → ∃ y' e, Bck p c y i j y' e := by
  induction m with
  | zero => intro i j y h hc hm; have := inS_9 hp h; omega
  | succ m ih =>
    intro i j y h hc hm
    have h9 := inS_9 hp h
    rcases Classical.em (inS p (i + 1) j ∧ cell y (i + 1) j = cell y i j) with hu | hu
    · obtain ⟨y', r, t⟩ := ih (i + 1) j (inc y i j) hu.1 hc (by omega)
      exact ⟨y', r, .down hu t⟩
    · by_cases h1 : c < j
      · obtain ⟨y', r, t⟩ := ih i (j - 1) (inc y i j) (inS_left h) (by omega) (by omega)
        exact ⟨y', r, .left hu h1 t⟩
      · have e : c = j := by omega
        subst e
        exact ⟨_, _, .stop hu⟩
theorem fwd_le {p : List Int} {y : List (List Int)} {i j : Nat} {y' : List (List Int)} {r : Nat} (h : Fwd p y i j y' r) : r ≤ i := by
  induction h with
  | up h t ih => omega
  | right h h1 t ih => exact ih
  | stop h h1 => exact Nat.le_refl _
theorem bck_le {p : List Int} {c : Nat} {y : List (List Int)} {i j : Nat} {y' : List (List Int)} {e : Nat} (h : Bck p c y i j y' e) : i ≤ e := by
  induction h with
  | down h t ih => omega
  | left h h1 t ih => exact ih
  | stop h => exact Nat.le_refl _
theorem bck_inS {p : List Int} {c : Nat} {y : List (List Int)} {i j : Nat} {y' : List (List Int)} {e : Nat} (h : Bck p c y i j y' e) : inS p i j → inS p e c ∧ c ≤ j := by
  induction h with
  | down h t ih => exact fun _ => ih h.1
  | left h h1 t ih => exact fun g => ⟨(ih (inS_left g)).1, by omega⟩
  | stop h => exact fun g => ⟨g, Nat.le_refl _⟩
/-- What the path off leaves: cells below and to the left stay. -/
theorem fwd_keep {p : List Int} (hp : isP p = true) {y : List (List Int)} {i j : Nat} {y' : List (List Int)} {r : Nat} (h : Fwd p y i j y' r) : shp p y → inS p i j → shp p y' ∧ inS p r j ∧ ¬ inS p r (wd p r).toNat ∧ (∀ a b, i < a ∨ b < j → cell y' a b = cell y a b) ∧ cell y' i j = wrap64 (cell y i j - 1) := by
  induction h with
  | @up y i j y' r h t ih =>
    intro hy hs
    obtain ⟨g1, g2, g3, g4, _⟩ := ih (shp_dec hy hs) (inS_up hp hs)
    have h0 := h.1
    refine ⟨g1, g2, g3, fun a b hab => ?_, ?_⟩
    · rw [g4 a b (by omega), dec_ne hy hs (by omega)]
    · rw [g4 i j (by omega), dec_eq hy hs]
  | @right y i j y' r h h1 t ih =>
    intro hy hs
    obtain ⟨g1, g2, g3, g4, _⟩ := ih (shp_dec hy hs) h1
    refine ⟨g1, by have := inS_left g2; rwa [Nat.add_sub_cancel] at this, g3, fun a b hab => ?_, ?_⟩
    · rw [g4 a b (by omega), dec_ne hy hs (by omega)]
    · rw [g4 i j (by omega), dec_eq hy hs]
  | @stop y i j h h1 =>
    intro hy hs
    refine ⟨shp_dec hy hs, hs, by unfold inS; omega, fun a b hab => ?_, dec_eq hy hs⟩
    rw [dec_ne hy hs (by omega)]
theorem bck_keep {p : List Int} {c : Nat} {y : List (List Int)} {i j : Nat} {y' : List (List Int)} {e : Nat} (h : Bck p c y i j y' e) : shp p y → inS p i j → shp p y' ∧ (∀ a b, a < i ∨ j < b ∨ b < c → cell y' a b = cell y a b) ∧ cell y' i j = wrap64 (cell y i j + 1) := by
  induction h with
  | @down y i j y' e h t ih =>
    intro hy hs
    obtain ⟨g1, g2, _⟩ := ih (shp_inc hy hs) h.1
    have hc := (bck_inS t h.1).2
    refine ⟨g1, fun a b hab => ?_, ?_⟩
    · rw [g2 a b (by omega), inc_ne hy hs (by omega)]
    · rw [g2 i j (by omega), inc_eq hy hs]
  | @left y i j y' e h h1 t ih =>
    intro hy hs
    obtain ⟨g1, g2, _⟩ := ih (shp_inc hy hs) (inS_left hs)
    refine ⟨g1, fun a b hab => ?_, ?_⟩
    · rw [g2 a b (by omega), inc_ne hy hs (by omega)]
    · rw [g2 i j (by omega), inc_eq hy hs]
  | @stop y i h =>
    intro hy hs
    refine ⟨shp_inc hy hs, fun a b hab => ?_, inc_eq hy hs⟩
    rw [inc_ne hy hs (by omega)]
/-- In a column the path off only rises; then it leaves to the right, or ends. -/
theorem fwd_col {p : List Int} (hp : isP p = true) {y : List (List Int)} {i j : Nat} {y' : List (List Int)} {r : Nat} (h : Fwd p y i j y' r) : shp p y → inS p i j → ∃ a z, a ≤ i ∧ shp p z ∧ inS p a j ∧ (∀ s b, s ≤ a → j < b → cell z s b = cell y s b) ∧ ((Fwd p z a (j + 1) y' r ∧ inS p a (j + 1)) ∨ (r = a ∧ ¬ inS p a (j + 1))) := by
  induction h with
  | @up y i j y' r h t ih =>
    intro hy hs
    obtain ⟨a, z, g1, g2, g3, g4, g5⟩ := ih (shp_dec hy hs) (inS_up hp hs)
    refine ⟨a, z, by omega, g2, g3, fun s b hs' hb => ?_, g5⟩
    rw [g4 s b hs' hb, dec_ne hy hs (by omega)]
  | @right y i j y' r h h1 t ih =>
    intro hy hs
    exact ⟨i, dec y i j, Nat.le_refl _, shp_dec hy hs, hs, fun s b _ hb => dec_ne hy hs (by omega), .inl ⟨t, h1⟩⟩
  | @stop y i j h h1 =>
    intro hy hs
    exact ⟨i, dec y i j, Nat.le_refl _, shp_dec hy hs, hs, fun s b _ hb => dec_ne hy hs (by omega), .inr ⟨rfl, h1⟩⟩
/-- Two paths off, one behind the other, do not cross. -/
theorem fwd_cross {p : List Int} (hp : isP p = true) {y : List (List Int)} {i j : Nat} {y' : List (List Int)} {r : Nat} (h : Fwd p y i j y' r) : shp p y → inS p i j → ∀ (i' : Nat) (z z' : List (List Int)) (r' : Nat), shp p z → i' ≤ i → (∀ a b, a ≤ i' → j ≤ b → cell z a b = cell y' a b) → Fwd p z i' j z' r' → r' ≤ r := by
  induction h with
  | @up y i j y' r h t ih =>
    intro hy hs i' z z' r' hz hi hag hf
    have hs1 := inS_up hp hs
    by_cases e : i' = i
    · subst e
      have k1 := (fwd_keep hp (.up h t) hy hs).2.2.2.2
      have k2 := (fwd_keep hp t (shp_dec hy hs) hs1).2.2.2.2
      rw [dec_ne hy hs (by have := h.1; omega), h.2] at k2
      have e1 : cell z (i' - 1) j = cell z i' j := by rw [hag (i' - 1) j (by omega) (Nat.le_refl _), hag i' j (Nat.le_refl _) (Nat.le_refl _), k1, k2]
      cases hf with
      | up h' t' =>
        refine ih (shp_dec hy hs) hs1 (i' - 1) _ z' r' (shp_dec hz hs) (Nat.le_refl _) (fun a b ha hb => ?_) t'
        have := h.1
        rw [dec_ne hz hs (by omega)]
        exact hag a b (by omega) hb
      | right h' h1 t' => exact absurd ⟨h.1, e1⟩ h'
      | stop h' h1 => exact absurd ⟨h.1, e1⟩ h'
    · exact ih (shp_dec hy hs) hs1 i' z z' r' hz (by omega) hag hf
  | @right y i j y' r h h1 t ih =>
    intro hy hs i' z z' r' hz hi hag hf
    have hs' : inS p i' j := by have := wd_anti hp hi; unfold inS at hs ⊢; omega
    obtain ⟨a, z2, g1, g2, g3, g4, g5⟩ := fwd_col hp hf hz hs'
    rcases g5 with ⟨g5, g6⟩ | ⟨g5, g6⟩
    · exact ih (shp_dec hy hs) h1 a z2 z' r' g2 (by omega) (fun s b hs2 hb => by rw [g4 s b hs2 (by omega)]; exact hag s b (by omega) (by omega)) g5
    · refine absurd ?_ g6
      have := wd_anti hp (show a ≤ i by omega)
      unfold inS at h1 ⊢; omega
  | @stop y i j h h1 =>
    intro hy hs i' z z' r' hz hi hag hf
    have := fwd_le hf
    omega

/-! Both paths keep reverse plane partitions; each undoes the other. -/
theorem fwd_rpp {p : List Int} (hp : isP p = true) {y : List (List Int)} {i j : Nat} {y' : List (List Int)} {r : Nat} (h : Fwd p y i j y' r) : inS p i j → mid p y i j → strict y i j → rpp p y' ∧ tots y' = tots y - (1 + ((i : Int) - r) + (wd p r - 1 - j)) ∧ (∀ a b, cell y' a b ≤ cell y a b) ∧ (∀ b : Nat, ((b + 1 : Nat) : Int) = wd p r → cell y' r b + 1 ≤ cell y r b) := by
  induction h with
  | @up y i j y' r h t ih =>
    intro hs hm hst
    have hc := inR_cell hm.2.1 i j
    have e := dec_putc (y := y) (i := i) (j := j) (by omega)
    have st := (mid_step hp hs hm hst).1 h
    have tp := tots_putc y i j (cell y i j - 1) (inS_y hm.1 hs).1 (inS_y hm.1 hs).2
    rw [← e] at st tp
    have q := ih (inS_up hp hs) st.1 st.2
    have lo : ∀ a b, cell (dec y i j) a b ≤ cell y a b := fun a b => by
      rw [e, cell_put hm.1 hs]; split
      · rename_i g; rw [g.1, g.2]; omega
      · omega
    have h0 := h.1
    refine ⟨q.1, by rw [q.2.1]; omega, fun a b => Int.le_trans (q.2.2.1 a b) (lo a b), fun b hb => Int.le_trans (q.2.2.2 b hb) (lo r b)⟩
  | @right y i j y' r h h1 t ih =>
    intro hs hm hst
    have hc := inR_cell hm.2.1 i j
    have e := dec_putc (y := y) (i := i) (j := j) (by omega)
    have st := (mid_step hp hs hm hst).2 h
    have tp := tots_putc y i j (cell y i j - 1) (inS_y hm.1 hs).1 (inS_y hm.1 hs).2
    rw [← e] at st tp
    have q := ih h1 (rpp_mid st.1 _ _) (st.2 h1)
    have lo : ∀ a b, cell (dec y i j) a b ≤ cell y a b := fun a b => by
      rw [e, cell_put hm.1 hs]; split
      · rename_i g; rw [g.1, g.2]; omega
      · omega
    refine ⟨q.1, by rw [q.2.1]; omega, fun a b => Int.le_trans (q.2.2.1 a b) (lo a b), fun b hb => Int.le_trans (q.2.2.2 b hb) (lo r b)⟩
  | @stop y i j h h1 =>
    intro hs hm hst
    have hc := inR_cell hm.2.1 i j
    have e := dec_putc (y := y) (i := i) (j := j) (by omega)
    have st := (mid_step hp hs hm hst).2 h
    have tp := tots_putc y i j (cell y i j - 1) (inS_y hm.1 hs).1 (inS_y hm.1 hs).2
    rw [← e] at st tp
    have lo : ∀ a b, cell (dec y i j) a b ≤ cell y a b := fun a b => by
      rw [e, cell_put hm.1 hs]; split
      · rename_i g; rw [g.1, g.2]; omega
      · omega
    have ew : wd p i = (j : Int) + 1 := by unfold inS at hs h1; omega
    refine ⟨st.1, by rw [tp, ew]; omega, lo, fun b hb => ?_⟩
    have : b = j := by omega
    subst this
    rw [e, cell_put hm.1 hs, if_pos ⟨rfl, rfl⟩]; omega
/-- The path off, gone back. -/
theorem fwd_back {p : List Int} (hp : isP p = true) {c : Nat} {y : List (List Int)} {i j : Nat} {y' : List (List Int)} {r : Nat} (h : Fwd p y i j y' r) : inS p i j → mid p y i j → strict y i j → c ≤ j → ∀ (z : List (List Int)) (e : Nat), Bck p c (dec y i j) i j z e → ∀ b : Nat, ((b + 1 : Nat) : Int) = wd p r → Bck p c y' r b z e := by
  induction h with
  | @up y i j y' r h t ih =>
    intro hs hm hst hcj z e hb
    have hc := inR_cell hm.2.1 i j
    have e1 := dec_putc (y := y) (i := i) (j := j) (by omega)
    have st := (mid_step hp hs hm hst).1 h
    rw [← e1] at st
    have hs1 := inS_up hp hs
    have hy1 := shp_dec hm.1 hs
    have hi : i - 1 + 1 = i := by have := h.1; omega
    have hi0 := h.1
    have c1 := dec_ne hm.1 hs (a := i - 1) (b := j) (by omega)
    have hc1 := inR_cell hm.2.1 (i - 1) j
    refine ih hs1 st.1 st.2 hcj z e (.down ⟨by rw [hi]; exact hs, ?_⟩ ?_)
    · rw [hi, dec_ne hy1 hs1 (by omega), dec_eq hm.1 hs, dec_eq hy1 hs1, c1, h.2]
    · rw [inc_dec hy1 hs1 (by rw [c1]; omega), hi]; exact hb
  | @right y i j y' r h h1 t ih =>
    intro hs hm hst hcj z e hb
    have hc := inR_cell hm.2.1 i j
    have e1 := dec_putc (y := y) (i := i) (j := j) (by omega)
    have st := (mid_step hp hs hm hst).2 h
    rw [← e1] at st
    have hy1 := shp_dec hm.1 hs
    have hc1 := inR_cell st.1.2.1 i (j + 1)
    have hpos := (st.2 h1).1
    refine ih h1 (rpp_mid st.1 _ _) (st.2 h1) (by omega) z e (.left (fun hd => ?_) (by omega) ?_)
    · have h2 := hd.2
      have h3 := st.1.2.2.2 i (j + 1) hd.1
      have e2 := dec_putc (y := dec y i j) (i := i) (j := j + 1) (by omega)
      rw [dec_ne hy1 h1 (by omega), e2, cell_put hy1 h1, if_pos ⟨rfl, rfl⟩] at h2
      omega
    · rw [inc_dec hy1 h1 (by omega), Nat.add_sub_cancel]; exact hb
  | @stop y i j h h1 =>
    intro hs hm hst hcj z e hb b hbw
    have : b = j := by unfold inS at hs h1; omega
    subst this
    exact hb
/-- Rows rise, and columns, but perhaps for the one pair above (i, j); no number is above N. -/
def bmid (N : Int) (p : List Int) (y : List (List Int)) (i j : Nat) : Prop := shp p y ∧ (∀ a b : Nat, 0 ≤ cell y a b ∧ cell y a b ≤ N) ∧ (∀ a b : Nat, inS p a (b + 1) → cell y a b ≤ cell y a (b + 1)) ∧ (∀ a b : Nat, inS p (a + 1) b → cell y a b ≤ cell y (a + 1) b ∨ a + 1 = i ∧ b = j ∧ cell y a b = cell y (a + 1) b + 1)
def rppB (N : Int) (p : List Int) (y : List (List Int)) : Prop := shp p y ∧ (∀ a b : Nat, 0 ≤ cell y a b ∧ cell y a b ≤ N) ∧ (∀ a b : Nat, inS p a (b + 1) → cell y a b ≤ cell y a (b + 1)) ∧ (∀ a b : Nat, inS p (a + 1) b → cell y a b ≤ cell y (a + 1) b)
theorem rppB_bmid {N : Int} {p : List Int} {y : List (List Int)} (h : rppB N p y) (i j : Nat) : bmid N p y i j := ⟨h.1, h.2.1, h.2.2.1, fun a b hb => .inl (h.2.2.2 a b hb)⟩
def bstrict (p : List Int) (y : List (List Int)) (i j : Nat) : Prop := inS p i (j + 1) → cell y i j < cell y i (j + 1) ∧ (inS p (i + 1) (j + 1) → cell y i j < cell y (i + 1) (j + 1))
theorem bmid_step {N : Int} (hN : N ≤ 10000) {p : List Int} (hp : isP p = true) {y : List (List Int)} {i j : Nat} (hs : inS p i j) (hm : bmid N p y i j) (hst : bstrict p y i j) :
    (inS p (i + 1) j ∧ cell y (i + 1) j = cell y i j → bmid (N + 1) p (inc y i j) (i + 1) j ∧ bstrict p (inc y i j) (i + 1) j) ∧
    (¬ (inS p (i + 1) j ∧ cell y (i + 1) j = cell y i j) → rppB (N + 1) p (inc y i j) ∧ (0 < j → bstrict p (inc y i j) i (j - 1))) := by
  obtain ⟨h1, h2, h3, h4⟩ := hm
  have hb := h2 i j
  have hc := cell_inc h1 hs (by omega)
  have q1 := shp_inc h1 hs
  have q2 : ∀ a b : Nat, 0 ≤ cell (inc y i j) a b ∧ cell (inc y i j) a b ≤ N + 1 := fun a b => by
    have := h2 a b
    rw [hc]; split <;> omega
  have q3 : ∀ a b : Nat, inS p a (b + 1) → cell (inc y i j) a b ≤ cell (inc y i j) a (b + 1) := by
    intro a b hab
    have := h3 a b hab
    rw [hc, hc]
    by_cases e1 : a = i ∧ b = j
    · obtain ⟨rfl, rfl⟩ := e1
      have := (hst hab).1
      rw [if_pos ⟨rfl, rfl⟩, if_neg (by omega)]; omega
    · rw [if_neg e1]
      by_cases e2 : a = i ∧ b + 1 = j
      · obtain ⟨rfl, rfl⟩ := e2
        rw [if_pos ⟨rfl, rfl⟩]; omega
      · rw [if_neg e2]; omega
  have q4 : ∀ a b : Nat, inS p (a + 1) b → cell (inc y i j) a b ≤ cell (inc y i j) (a + 1) b ∨ a = i ∧ b = j ∧ cell y (a + 1) b = cell y i j := by
    intro a b hab
    have := h4 a b hab
    rw [hc, hc]
    by_cases e1 : a = i ∧ b = j
    · obtain ⟨rfl, rfl⟩ := e1
      rw [if_pos ⟨rfl, rfl⟩, if_neg (by omega)]
      omega
    · rw [if_neg e1]
      by_cases e2 : a + 1 = i ∧ b = j
      · obtain ⟨rfl, rfl⟩ := e2
        rw [if_pos ⟨rfl, rfl⟩]; omega
      · rw [if_neg e2]; omega
  refine ⟨fun hd => ?_, fun hn => ?_⟩
  · refine ⟨⟨q1, q2, q3, ?_⟩, ?_⟩
    · intro a b hab
      rcases q4 a b hab with h | ⟨e1, e2, e3⟩
      · exact .inl h
      · subst e1 e2
        refine .inr ⟨rfl, rfl, ?_⟩
        rw [hc, hc, if_pos ⟨rfl, rfl⟩, if_neg (by omega)]; omega
    · intro hj
      have z := (hst (by have := wd_desc hp i; unfold inS at hj ⊢; omega)).2 hj
      rw [hc, hc, if_neg (by omega), if_neg (by omega)]
      refine ⟨by omega, fun hj2 => ?_⟩
      rw [hc, if_neg (by omega)]
      rcases h4 (i + 1) (j + 1) hj2 with g | ⟨_, g, _⟩ <;> omega
  · refine ⟨⟨q1, q2, q3, ?_⟩, ?_⟩
    · intro a b hab
      rcases q4 a b hab with h | ⟨e1, e2, e3⟩
      · exact h
      · subst e1 e2
        exact absurd ⟨hab, e3⟩ hn
    · intro hj0 hj
      have ej : j - 1 + 1 = j := by omega
      rw [ej] at hj ⊢
      have z := h3 i (j - 1) (by rw [ej]; exact hs)
      rw [ej] at z
      rw [hc, hc, if_neg (by omega), if_pos ⟨rfl, rfl⟩]
      refine ⟨by omega, fun hj2 => ?_⟩
      rw [hc, if_neg (by omega)]
      have hne : cell y (i + 1) j ≠ cell y i j := fun h => hn ⟨hj2, h⟩
      rcases h4 i j hj2 with g | ⟨g, _⟩ <;> omega
theorem bck_rpp {p : List Int} (hp : isP p = true) {c : Nat} {y : List (List Int)} {i j : Nat} {y' : List (List Int)} {e : Nat} (h : Bck p c y i j y' e) : ∀ N : Int, inS p i j → bmid N p y i j → bstrict p y i j → N + (9 - i) + j ≤ 5000 → rppB (N + (9 - i) + j + 1) p y' ∧ (∀ a b, cell y a b ≤ cell y' a b) ∧ 0 < cell y' e c := by
  induction h with
  | @down y i j y' e h t ih =>
    intro N hs hm hst hN
    have h9 := inS_9 hp hs
    have h9' := inS_9 hp h.1
    have st := (bmid_step (by omega) hp hs hm hst).1 h
    have hb := hm.2.1 i j
    obtain ⟨q1, q2, q3⟩ := ih (N + 1) h.1 st.1 st.2 (by omega)
    refine ⟨⟨q1.1, fun a b => ?_, q1.2.2⟩, fun a b => Int.le_trans ?_ (q2 a b), q3⟩
    · have := q1.2.1 a b; omega
    · rw [cell_inc hm.1 hs (by omega)]; split
      · rename_i g; rw [g.1, g.2]; omega
      · omega
  | @left y i j y' e h h1 t ih =>
    intro N hs hm hst hN
    have h9 := inS_9 hp hs
    have st := (bmid_step (by omega) hp hs hm hst).2 h
    have hb := hm.2.1 i j
    obtain ⟨q1, q2, q3⟩ := ih (N + 1) (inS_left hs) (rppB_bmid st.1 _ _) (st.2 (by omega)) (by omega)
    refine ⟨⟨q1.1, fun a b => ?_, q1.2.2⟩, fun a b => Int.le_trans ?_ (q2 a b), q3⟩
    · have := q1.2.1 a b; omega
    · rw [cell_inc hm.1 hs (by omega)]; split
      · rename_i g; rw [g.1, g.2]; omega
      · omega
  | @stop y i h =>
    intro N hs hm hst hN
    have h9 := inS_9 hp hs
    have st := (bmid_step (by omega) hp hs hm hst).2 h
    have hb := hm.2.1 i c
    refine ⟨⟨st.1.1, fun a b => ?_, st.1.2.2⟩, fun a b => ?_, by rw [cell_inc hm.1 hs (by omega), if_pos ⟨rfl, rfl⟩]; omega⟩
    · have := st.1.2.1 a b; omega
    · rw [cell_inc hm.1 hs (by omega)]; split
      · rename_i g; rw [g.1, g.2]; omega
      · omega
/-- The path on, gone back. -/
theorem bck_fwd {p : List Int} (hp : isP p = true) {c : Nat} {y : List (List Int)} {i j : Nat} {y' : List (List Int)} {e : Nat} (h : Bck p c y i j y' e) : ∀ N : Int, inS p i j → bmid N p y i j → bstrict p y i j → N + (9 - i) + j ≤ 5000 → ∀ (z : List (List Int)) (r : Nat), Fwd p (inc y i j) i j z r → Fwd p y' e c z r := by
  induction h with
  | @down y i j y' e h t ih =>
    intro N hs hm hst hN z r hf
    have h9 := inS_9 hp hs
    have h9' := inS_9 hp h.1
    have st := (bmid_step (by omega) hp hs hm hst).1 h
    have hy1 := shp_inc hm.1 hs
    have b1 := st.1.2.1 (i + 1) j
    refine ih (N + 1) h.1 st.1 st.2 (by omega) z r (.up ⟨by omega, ?_⟩ ?_)
    · rw [Nat.add_sub_cancel, inc_ne hy1 h.1 (by omega), inc_eq hm.1 hs, inc_eq hy1 h.1, inc_ne hm.1 hs (by omega), h.2]
    · rw [dec_inc hy1 h.1 (by omega), Nat.add_sub_cancel]; exact hf
  | @left y i j y' e h h1 t ih =>
    intro N hs hm hst hN z r hf
    have h9 := inS_9 hp hs
    have st := (bmid_step (by omega) hp hs hm hst).2 h
    have hy1 := shp_inc hm.1 hs
    have hsl := inS_left hs
    have ej : j - 1 + 1 = j := by omega
    have b1 := st.1.2.1 i (j - 1)
    refine ih (N + 1) hsl (rppB_bmid st.1 _ _) (st.2 (by omega)) (by omega) z r (.right (fun hu => ?_) (by rw [ej]; exact hs) ?_)
    · have h2 := hu.2
      have hi : i - 1 + 1 = i := by have := hu.1; omega
      have h3 := st.1.2.2.2 (i - 1) (j - 1) (by rw [hi]; exact hsl)
      have h0 := hu.1
      rw [hi] at h3
      rw [inc_ne hy1 hsl (by omega), cell_inc hy1 hsl (by omega), if_pos ⟨rfl, rfl⟩] at h2
      omega
    · rw [dec_inc hy1 hsl (by omega), ej]; exact hf
  | @stop y i h =>
    intro N hs hm hst hN z r hf
    exact hf
/-- In a column the path on only falls; then it leaves to the left, or ends. -/
theorem bck_col {p : List Int} {c : Nat} {y : List (List Int)} {i j : Nat} {y' : List (List Int)} {e : Nat} (h : Bck p c y i j y' e) : shp p y → inS p i j → ∃ a z, i ≤ a ∧ shp p z ∧ inS p a j ∧ (∀ s b, a ≤ s → b < j → cell z s b = cell y s b) ∧ ((Bck p c z a (j - 1) y' e ∧ c < j) ∨ (e = a ∧ j = c)) := by
  induction h with
  | @down y i j y' e h t ih =>
    intro hy hs
    obtain ⟨a, z, g1, g2, g3, g4, g5⟩ := ih (shp_inc hy hs) h.1
    refine ⟨a, z, by omega, g2, g3, fun s b hs' hb => ?_, g5⟩
    rw [g4 s b hs' hb, inc_ne hy hs (by omega)]
  | @left y i j y' e h h1 t ih =>
    intro hy hs
    exact ⟨i, inc y i j, Nat.le_refl _, shp_inc hy hs, hs, fun s b _ hb => inc_ne hy hs (by omega), .inl ⟨t, h1⟩⟩
  | @stop y i h =>
    intro hy hs
    exact ⟨i, inc y i c, Nat.le_refl _, shp_inc hy hs, hs, fun s b _ hb => inc_ne hy hs (by omega), .inr ⟨rfl, rfl⟩⟩
theorem bck_cross {p : List Int} {c : Nat} {y : List (List Int)} {i j : Nat} {y' : List (List Int)} {e : Nat} (h : Bck p c y i j y' e) : shp p y → inS p i j → ∀ (i' : Nat) (z z' : List (List Int)) (e' : Nat), shp p z → inS p i' j → i ≤ i' → (∀ a b, i' ≤ a → b ≤ j → cell z a b = cell y' a b) → Bck p c z i' j z' e' → e ≤ e' := by
  induction h with
  | @down y i j y' e h t ih =>
    intro hy hs i' z z' e' hz hs' hi hag hf
    by_cases e1 : i' = i
    · subst e1
      have k1 := (bck_keep (.down h t) hy hs).2.2
      have k2 := (bck_keep t (shp_inc hy hs) h.1).2.2
      rw [inc_ne hy hs (by omega), h.2] at k2
      have e2 : cell z (i' + 1) j = cell z i' j := by rw [hag (i' + 1) j (by omega) (Nat.le_refl _), hag i' j (Nat.le_refl _) (Nat.le_refl _), k1, k2]
      cases hf with
      | down h' t' =>
        refine ih (shp_inc hy hs) h.1 (i' + 1) _ z' e' (shp_inc hz hs) h.1 (Nat.le_refl _) (fun a b ha hb => ?_) t'
        rw [inc_ne hz hs (by omega)]
        exact hag a b (by omega) hb
      | left h' h1 t' => exact absurd ⟨h.1, e2⟩ h'
      | stop h' => exact absurd ⟨h.1, e2⟩ h'
    · exact ih (shp_inc hy hs) h.1 i' z z' e' hz hs' (by omega) hag hf
  | @left y i j y' e h h1 t ih =>
    intro hy hs i' z z' e' hz hs' hi hag hf
    obtain ⟨a, z2, g1, g2, g3, g4, g5⟩ := bck_col hf hz hs'
    rcases g5 with ⟨g5, g6⟩ | ⟨g5, g6⟩
    · exact ih (shp_inc hy hs) (inS_left hs) a z2 z' e' g2 (inS_left g3) (by omega) (fun s b hs2 hb => by rw [g4 s b hs2 (by omega)]; exact hag s b (by omega) (by omega)) g5
    · omega
  | @stop y i h =>
    intro hy hs i' z z' e' hz hs' hi hag hf
    have := bck_le hf
    omega
/-- The same where the later path begins in a shorter row, at its end. -/
theorem bck_cross2 {p : List Int} {c : Nat} {y : List (List Int)} {i j : Nat} {y' : List (List Int)} {e : Nat} (h : Bck p c y i j y' e) : shp p y → inS p i j → ∀ (i' j' : Nat) (z z' : List (List Int)) (e' : Nat), shp p z → inS p i' j' → ¬ inS p i' (j' + 1) → i ≤ i' → j' ≤ j → c ≤ j' → (∀ a b, i' ≤ a → b ≤ j' → cell z a b = cell y' a b) → Bck p c z i' j' z' e' → e ≤ e' := by
  induction h with
  | @down y i j y' e h t ih =>
    intro hy hs i' j' z z' e' hz hs' hn hi hj hc hag hf
    by_cases ej : j' = j
    · subst ej
      exact bck_cross (.down h t) hy hs i' z z' e' hz hs' hi hag hf
    · refine ih (shp_inc hy hs) h.1 i' j' z z' e' hz hs' hn ?_ hj hc hag hf
      by_cases ei : i' = i
      · subst ei
        exact absurd (show inS p i' (j' + 1) by unfold inS at hs ⊢; omega) hn
      · omega
  | @left y i j y' e h h1 t ih =>
    intro hy hs i' j' z z' e' hz hs' hn hi hj hc hag hf
    by_cases ej : j' = j
    · subst ej
      exact bck_cross (.left h h1 t) hy hs i' z z' e' hz hs' hi hag hf
    · exact ih (shp_inc hy hs) (inS_left hs) i' j' z z' e' hz hs' hn hi (by omega) hc hag hf
  | @stop y i h =>
    intro hy hs i' j' z z' e' hz hs' hn hi hj hc hag hf
    have ej : j' = c := by omega
    subst ej
    exact bck_cross (.stop h) hy hs i' z z' e' hz hs' hi hag hf
/-- Where the column's numbers are alike, the path on ends at its foot. -/
theorem bck_foot {p : List Int} {c : Nat} {y : List (List Int)} {i j : Nat} {y' : List (List Int)} {e : Nat} (h : Bck p c y i j y' e) : shp p y → inS p i j → (∀ a, i ≤ a → inS p (a + 1) c → cell y (a + 1) c = cell y a c) → ¬ inS p (e + 1) c := by
  induction h with
  | @down y i j y' e h t ih =>
    intro hy hs hk
    refine ih (shp_inc hy hs) h.1 fun a ha hs' => ?_
    rw [inc_ne hy hs (by omega), inc_ne hy hs (by omega)]
    exact hk a (by omega) hs'
  | @left y i j y' e h h1 t ih =>
    intro hy hs hk
    refine ih (shp_inc hy hs) (inS_left hs) fun a ha hs' => ?_
    rw [inc_ne hy hs (by omega), inc_ne hy hs (by omega)]
    exact hk a (by omega) hs'
  | @stop y i h =>
    intro hy hs hk h1
    exact h ⟨h1, hk i (Nat.le_refl _) h1⟩
theorem bck_one {p : List Int} {c : Nat} {y : List (List Int)} {i j : Nat} {y1 : List (List Int)} {e1 : Nat} (h : Bck p c y i j y1 e1) : ∀ (y2 : List (List Int)) (e2 : Nat), Bck p c y i j y2 e2 → y1 = y2 ∧ e1 = e2 := by
  induction h with
  | down h t ih =>
    intro y2 e2 h2
    cases h2 with
    | down h' t' => exact ih _ _ t'
    | left h' h1 t' => exact absurd h h'
    | stop h' => exact absurd h h'
  | left h h1 t ih =>
    intro y2 e2 h2
    cases h2 with
    | down h' t' => exact absurd h' h
    | left h' h1' t' => exact ih _ _ t'
    | stop h' => exact absurd h1 (Nat.lt_irrefl _)
  | stop h =>
    intro y2 e2 h2
    cases h2 with
    | down h' t' => exact absurd h' h
    | left h' h1' t' => exact absurd h1' (Nat.lt_irrefl _)
    | stop h' => exact ⟨rfl, rfl⟩

/-! Hooks taken off one behind the other, and put on again in the opposite order. -/
def before (x y : Nat × Nat) : Prop := y.2 < x.2 ∨ (x.2 = y.2 ∧ x.1 ≤ y.1)
theorem before_trans {x y z : Nat × Nat} (h : before x y) (h' : before y z) : before x z := by unfold before at *; omega
theorem before_anti {x y : Nat × Nat} (h : before x y) (h' : before y x) : x = y := by
  unfold before at *
  exact Prod.ext (by omega) (by omega)
inductive HG (p : List Int) : List (List Int) → List (Nat × Nat) → Prop
  | nil {y : List (List Int)} (h : ∀ a b, cell y a b = 0) : HG p y []
  | cons {y y1 : List (List Int)} {c r i0 : Nat} {M : List (Nat × Nat)} (h0 : ∀ a b, b < c → cell y a b = 0) (hs : inS p i0 c) (hn : ¬ inS p (i0 + 1) c) (hpos : 0 < cell y i0 c) (t : Fwd p y i0 c y1 r) (m : HG p y1 M) : HG p y ((r, c) :: M)
inductive RunB (p : List Int) : List (List Int) → List (Nat × Nat) → List (List Int) → Prop
  | nil {y : List (List Int)} : RunB p y [] y
  | snoc {y y1 y2 : List (List Int)} {L : List (Nat × Nat)} {r c b e : Nat} (h : RunB p y L y1) (hb : ((b + 1 : Nat) : Int) = wd p r) (hc : c ≤ b) (t : Bck p c y1 r b y2 e) : RunB p y (L ++ [(r, c)]) y2
def hk (p : List Int) (r c : Nat) : Int := wd p r - c + ((colH p c : Nat) : Int) - 1 - r
def hsum (p : List Int) : List (Nat × Nat) → Int
  | [] => 0
  | x :: M => hk p x.1 x.2 + hsum p M
theorem foot_col {p : List Int} (hp : isP p = true) {i c : Nat} (h : inS p i c) (hn : ¬ inS p (i + 1) c) : colH p c = i + 1 := by
  have h9 := inS_9 hp h
  have a := col_iff hp c (by omega) i (by omega)
  have b := col_iff hp c (by omega) (i + 1) (by omega)
  have h1 : i < colH p c := a.2 ⟨wd_lt h, h⟩
  have h2 : ¬ i + 1 < colH p c := fun g => hn (b.1 g).2
  omega
theorem foot_one {p : List Int} (hp : isP p = true) {i i' c : Nat} (h : inS p i c) (hn : ¬ inS p (i + 1) c) (h' : inS p i' c) (hn' : ¬ inS p (i' + 1) c) : i = i' := by
  have := foot_col hp h hn
  have := foot_col hp h' hn'
  omega
theorem foot_some {p : List Int} (hp : isP p = true) {i c : Nat} (h : inS p i c) : ∃ i0, i ≤ i0 ∧ inS p i0 c ∧ ¬ inS p (i0 + 1) c := by
  have h9 := inS_9 hp h
  have hl := colH_le (p := p) c
  have h3 := isP_length hp
  have a := (col_iff hp c (by omega) i (by omega)).2 ⟨wd_lt h, h⟩
  refine ⟨colH p c - 1, by omega, ?_, fun g => ?_⟩
  · exact ((col_iff hp c (by omega) (colH p c - 1) (by omega)).1 (by omega)).2
  · have := (col_iff hp c (by omega) (colH p c - 1 + 1) (by omega)).2 ⟨wd_lt g, g⟩
    omega
theorem row_end {p : List Int} {r c : Nat} (h : inS p r c) : ∃ b : Nat, ((b + 1 : Nat) : Int) = wd p r ∧ c ≤ b ∧ inS p r b ∧ ¬ inS p r (b + 1) := by
  unfold inS at h ⊢
  exact ⟨(wd p r).toNat - 1, by omega, by omega, by omega, by omega⟩
theorem cell_out {p : List Int} {y : List (List Int)} (hy : shp p y) {i j : Nat} (h : ¬ inS p i j) : cell y i j = 0 := by
  have h1 := shp_row hy i
  unfold inS at h
  unfold cell
  rw [List.getD_eq_getElem?_getD, List.getElem?_eq_none (by omega)]
  rfl
theorem cell_noughts {p : List Int} (hp : isP p = true) (a b : Nat) : cell (noughts p) a b = 0 := by
  by_cases h : inS p a b
  · have ha := wd_lt h
    unfold cell noughts
    rw [List.getD_eq_getElem?_getD (l := List.map _ _), List.getElem?_map, List.getElem?_eq_getElem ha]
    simp only [Option.map_some, Option.getD_some, List.getD_eq_getElem?_getD, List.getElem?_replicate]
    split <;> rfl
  · exact cell_out (noughts_shp hp) h
theorem all_zero {p : List Int} (hp : isP p = true) {y : List (List Int)} (hy : shp p y) (h : ∀ a b, cell y a b = 0) : y = noughts p :=
  ext_cells hy (noughts_shp hp) fun a b => by rw [h, cell_noughts hp]
theorem rise2 {p : List Int} {y : List (List Int)} (hp : isP p = true) (h : rpp p y) (c : Nat) (d : Nat) : ∀ i : Nat, inS p (i + d) c → cell y i c ≤ cell y (i + d) c := by
  induction d with
  | zero => intro i _; exact Int.le_refl _
  | succ d ih =>
    intro i hc
    have h1 := h.2.2.2 (i + d) c hc
    have h2 := wd_desc hp (i + d)
    have h3 := ih i (by unfold inS at hc ⊢; rw [show i + (d + 1) = i + d + 1 by omega] at hc; omega)
    rw [show i + (d + 1) = i + d + 1 by omega]
    omega
theorem least (P : Nat → Prop) : ∀ n, P n → ∃ m, P m ∧ ∀ k < m, ¬ P k := by
  intro n
  induction n using Nat.strongRecOn with
  | ind n ih =>
    intro h
    rcases Classical.em (∃ k, k < n ∧ P k) with ⟨k, h1, h2⟩ | hn
    · exact ih k h1 h2
    · exact ⟨n, h, fun k hk hp => hn ⟨k, hk, hp⟩⟩
theorem strict_first {p : List Int} {y : List (List Int)} {c i0 : Nat} (h0 : ∀ a b, b < c → cell y a b = 0) (hpos : 0 < cell y i0 c) : strict y i0 c := by
  refine ⟨hpos, fun hc => ?_⟩
  rw [h0 i0 (c - 1) (by omega)]
  exact ⟨hpos, fun _ => by rw [h0 (i0 - 1) (c - 1) (by omega)]; exact hpos⟩
theorem HG_head {p : List Int} (hp : isP p = true) {y y1 : List (List Int)} {c r i0 : Nat} (hy : shp p y) (h0 : ∀ a b, b < c → cell y a b = 0) (hs : inS p i0 c) (hn : ¬ inS p (i0 + 1) c) (t : Fwd p y i0 c y1 r) {x : Nat × Nat} {M : List (Nat × Nat)} (m : HG p y1 (x :: M)) : before x (r, c) := by
  have k := fwd_keep hp t hy hs
  cases m with
  | @cons _ y2 c2 r2 i2 _ h02 hs2 hn2 hpos2 t2 m2 =>
    have hle : c ≤ c2 := by
      by_cases h : c2 < c
      · rw [k.2.2.2.1 i2 c2 (.inr h), h0 i2 c2 h] at hpos2; omega
      · omega
    by_cases e : c2 = c
    · subst e
      have e2 := foot_one hp hs hn hs2 hn2
      subst e2
      exact .inr ⟨rfl, fwd_cross hp t hy hs i0 y1 y2 r2 k.1 (Nat.le_refl _) (fun _ _ _ _ => rfl) t2⟩
    · exact .inl (show c < c2 by omega)
/-- Every reverse plane partition: its hooks, off and on again. -/
theorem A_run {p : List Int} (hp : isP p = true) (n : Nat) : ∀ y : List (List Int), rpp p y → tots y ≤ n → ∃ M, HG p y M ∧ RunB p (noughts p) M.reverse y ∧ M.reverse.Pairwise before ∧ (∀ r b c : Nat, ((b + 1 : Nat) : Int) = wd p r → ((M.count (r, c) : Nat) : Int) ≤ cell y r b) ∧ (∀ x ∈ M, inS p x.1 x.2) ∧ tots y = hsum p M := by
  have zero : ∀ y : List (List Int), rpp p y → (∀ a b, cell y a b = 0) → tots y = 0 → ∃ M, HG p y M ∧ RunB p (noughts p) M.reverse y ∧ M.reverse.Pairwise before ∧ (∀ r b c : Nat, ((b + 1 : Nat) : Int) = wd p r → ((M.count (r, c) : Nat) : Int) ≤ cell y r b) ∧ (∀ x ∈ M, inS p x.1 x.2) ∧ tots y = hsum p M := by
    intro y hy hz ht
    have e := all_zero hp hy.1 hz
    refine ⟨[], .nil hz, ?_, by simp, fun r b c hb => by rw [hz]; simp, by simp, ht⟩
    rw [e]; exact .nil
  have allz : ∀ y : List (List Int), rpp p y → tots y ≤ 0 → ∀ a b, cell y a b = 0 := fun y hy ht a b => by
    have h1 := inR_cell hy.2.1 a b
    have h2 := cell_le_tots hy.2.1 a b
    omega
  induction n with
  | zero =>
    intro y hy hn
    have h0 := tots_nonneg hy.2.1
    exact zero y hy (allz y hy (by omega)) (by omega)
  | succ n ih =>
    intro y hy hn
    have h0 := tots_nonneg hy.2.1
    by_cases ht : tots y ≤ 0
    · exact zero y hy (allz y hy ht) (by omega)
    · obtain ⟨i1, j1, _, h1⟩ := pos_tots y (by omega)
      obtain ⟨c, ⟨i, hi⟩, hmin⟩ := least (fun c => ∃ i, 0 < cell y i c) j1 ⟨i1, h1⟩
      have hz : ∀ a b, b < c → cell y a b = 0 := fun a b hb => by
        have h2 := inR_cell hy.2.1 a b
        have h3 : ¬ 0 < cell y a b := fun g => hmin b hb ⟨a, g⟩
        omega
      have hic : inS p i c := by
        rcases Classical.em (inS p i c) with g | g
        · exact g
        · rw [cell_out hy.1 g] at hi; omega
      obtain ⟨i0, hle, hs, hnf⟩ := foot_some hp hic
      have hr := rise2 hp hy c (i0 - i) i (by rw [show i + (i0 - i) = i0 by omega]; exact hs)
      rw [show i + (i0 - i) = i0 by omega] at hr
      have hpos : 0 < cell y i0 c := by omega
      have hst := strict_first (p := p) hz hpos
      obtain ⟨y1, r, t⟩ := fwd_some hp (i0 + (9 - c)) i0 c y hs (Nat.le_refl _)
      obtain ⟨f1, f2, f3, f4⟩ := fwd_rpp hp t hs (rpp_mid hy _ _) hst
      have k := fwd_keep hp t hy.1 hs
      have hfc := foot_col hp hs hnf
      have hrle := fwd_le t
      obtain ⟨b, hb, hcb, _, _⟩ := row_end k.2.1
      have hkv : tots y = hk p r c + tots y1 := by rw [f2]; unfold hk; rw [hfc]; omega
      obtain ⟨M, m1, m2, m3, m4, m5, m6⟩ := ih y1 f1 (by omega)
      have hbk : Bck p c (dec y i0 c) i0 c y i0 := by
        have hc := inR_cell hy.2.1 i0 c
        have := Bck.stop (p := p) (c := c) (y := dec y i0 c) (i := i0) (fun g => hnf g.1)
        rwa [inc_dec hy.1 hs (by omega)] at this
      refine ⟨(r, c) :: M, .cons hz hs hnf hpos t m1, ?_, ?_, ?_, ?_, ?_⟩
      · rw [List.reverse_cons]
        exact .snoc m2 hb hcb (fwd_back hp t hs (rpp_mid hy _ _) hst (Nat.le_refl _) y i0 hbk b hb)
      · rw [List.reverse_cons, List.pairwise_append]
        refine ⟨m3, by simp, fun x hx z hz' => ?_⟩
        rw [List.mem_singleton] at hz'
        subst hz'
        rw [List.mem_reverse] at hx
        cases M with
        | nil => simp at hx
        | cons x2 M2 =>
          have hh := HG_head hp hy.1 hz hs hnf t m1
          rcases List.mem_cons.1 hx with rfl | hx
          · exact hh
          · rw [List.reverse_cons, List.pairwise_append] at m3
            exact before_trans (m3.2.2 x (List.mem_reverse.2 hx) x2 (by simp)) hh
      · intro r' b' c' hb'
        rw [List.count_cons]
        have h4 := m4 r' b' c' hb'
        have h5 := f3 r' b'
        by_cases e : ((r, c) == (r', c')) = true
        · rw [if_pos e]
          have e2 := eq_of_beq e
          injection e2 with e3 e4
          subst e3
          have := f4 b' hb'
          omega
        · rw [if_neg e]; omega
      · intro x hx
        rcases List.mem_cons.1 hx with rfl | hx
        · exact k.2.1
        · exact m5 x hx
      · show tots y = hk p r c + hsum p M
        omega
theorem HG_tots {p : List Int} (hp : isP p = true) {y : List (List Int)} {M : List (Nat × Nat)} (h : HG p y M) : rpp p y → tots y = hsum p M := by
  induction h with
  | nil h =>
    intro hy
    have h0 := tots_nonneg hy.2.1
    rename_i y
    by_cases h1 : 0 < tots y
    · obtain ⟨i, j, _, h2⟩ := pos_tots y h1
      rw [h] at h2; omega
    · show tots y = 0; omega
  | @cons y y1 c r i0 M h0 hs hn hpos t m ih =>
    intro hy
    obtain ⟨f1, f2, _, _⟩ := fwd_rpp hp t hs (rpp_mid hy _ _) (strict_first (p := p) h0 hpos)
    have hfc := foot_col hp hs hn
    show tots y = hk p r c + hsum p M
    rw [← ih f1, f2]; unfold hk; rw [hfc]; omega
theorem RunB_shp {p : List Int} (hp : isP p = true) {L : List (Nat × Nat)} {y0 y : List (List Int)} (h : RunB p y0 L y) : shp p y0 → shp p y := by
  induction h with
  | nil => exact id
  | @snoc y1 y2 L r c b e h hb hc t ih =>
    intro hy
    exact (bck_keep t (ih hy) (by unfold inS; omega)).1
/-- Hooks put on in their order come off again. -/
theorem B_run {p : List Int} (hp : isP p = true) {L : List (Nat × Nat)} {y0 y : List (List Int)} (h : RunB p y0 L y) : y0 = noughts p → L.Pairwise before → L.length ≤ 100 →
    rppB (20 * (L.length : Int)) p y ∧ (∀ c, (∀ x ∈ L, c < x.2) → ∀ a, cell y a c = 0) ∧ ((∀ a b, cell y a b ≤ 9) → HG p y L.reverse) ∧
    ((L = [] ∧ y = noughts p) ∨ ∃ (L1 : List (Nat × Nat)) (r c b e : Nat) (y1 : List (List Int)), L = L1 ++ [(r, c)] ∧ shp p y1 ∧ ((b + 1 : Nat) : Int) = wd p r ∧ c ≤ b ∧ Bck p c y1 r b y e ∧ ¬ inS p (e + 1) c) := by
  induction h with
  | nil =>
    intro h0 _ _
    subst h0
    have cz := cell_noughts hp
    refine ⟨⟨noughts_shp hp, fun a b => by rw [cz]; simp, fun a b _ => by rw [cz, cz]; simp, fun a b _ => by rw [cz, cz]; simp⟩, fun c _ a => cz a c, fun _ => .nil cz, .inl ⟨rfl, rfl⟩⟩
  | @snoc y1 y2 L r c b e h hb hc t ih =>
    intro h0 hsort hlen
    rw [List.length_append, List.length_singleton] at hlen
    rw [List.pairwise_append] at hsort
    obtain ⟨s1, _, s3⟩ := hsort
    have hbef : ∀ x ∈ L, before x (r, c) := fun x hx => s3 x hx (r, c) (by simp)
    obtain ⟨i1, i2, i3, i4⟩ := ih h0 s1 (by omega)
    have hrb : inS p r b := by unfold inS; omega
    have hnb : ¬ inS p r (b + 1) := by unfold inS; omega
    have h9 := inS_9 hp hrb
    have bst : bstrict p y1 r b := fun g => absurd g hnb
    have bm := rppB_bmid i1 r b
    obtain ⟨b1, b2, b3⟩ := bck_rpp hp t (20 * (L.length : Int)) hrb bm bst (by omega)
    obtain ⟨k1, k2, k3⟩ := bck_keep t i1.1 hrb
    have hei := bck_inS t hrb
    have hfoot : ¬ inS p (e + 1) c := by
      rcases i4 with ⟨_, e1⟩ | ⟨L1, r2, c2, bb2, e2, y3, g1, g2, g3, g4, g5, g6⟩
      · refine bck_foot t i1.1 hrb fun a _ _ => ?_
        rw [e1, cell_noughts hp, cell_noughts hp]
      · have hl := hbef (r2, c2) (by rw [g1]; simp)
        have hrb2 : inS p r2 bb2 := by unfold inS; omega
        rcases hl with hl | ⟨hl, hl2⟩
        · refine bck_foot t i1.1 hrb fun a _ _ => ?_
          have hz := i2 c (fun x hx => by
            rw [g1] at hx s1
            rw [List.pairwise_append] at s1
            rcases List.mem_append.1 hx with hx | hx
            · have := s1.2.2 x hx (r2, c2) (by simp)
              unfold before at this
              simp only at this hl
              omega
            · rw [List.mem_singleton] at hx; subst hx; exact hl)
          rw [hz, hz]
        · simp only at hl hl2
          subst hl
          have hw := wd_anti hp hl2
          have hx := bck_cross2 g5 g2 hrb2 r b y1 y2 e i1.1 hrb hnb hl2 (by omega) hc (fun _ _ _ _ => rfl) t
          intro g
          by_cases e3 : e = e2
          · exact g6 (by rw [← e3]; exact g)
          · refine g6 ?_
            have := wd_anti hp (show e2 + 1 ≤ e by omega)
            have := hei.1
            unfold inS at this ⊢
            omega
    refine ⟨⟨b1.1, fun a b' => ?_, b1.2.2⟩, fun c' hc' a => ?_, fun h9' => ?_, .inr ⟨L, r, c, b, e, y1, rfl, i1.1, hb, hc, t, hfoot⟩⟩
    · have := b1.2.1 a b'
      simp only [List.length_append, List.length_singleton]
      omega
    · have h1 := hc' (r, c) (by simp)
      rw [k2 a c' (.inr (.inr h1))]
      exact i2 c' (fun x hx => hc' x (by simp [hx])) a
    · rw [List.reverse_append, List.reverse_singleton, List.singleton_append]
      have h1 := i3 (fun a b' => Int.le_trans (b2 a b') (h9' a b'))
      refine .cons (fun a b' hb' => ?_) hei.1 hfoot b3 (bck_fwd hp t (20 * (L.length : Int)) hrb bm bst (by omega) y1 r ?_) h1
      · rw [k2 a b' (.inr (.inr hb'))]
        refine i2 b' (fun x hx => ?_) a
        have := hbef x hx
        unfold before at this
        simp only at this
        omega
      · have hcb := i1.2.1 r b
        have hst := Fwd.stop (p := p) (y := inc y1 r b) (i := r) (j := b) (fun g => by
          have h2 := g.2
          have hr : r - 1 + 1 = r := by have := g.1; omega
          have h3 := i1.2.2.2 (r - 1) b (by rw [hr]; exact hrb)
          have h0 := g.1
          rw [hr] at h3
          rw [inc_ne i1.1 hrb (by omega), cell_inc i1.1 hrb (by omega), if_pos ⟨rfl, rfl⟩] at h2
          omega) hnb
        rwa [dec_inc i1.1 hrb (by omega)] at hst
/-- Rows in order are told by their counts. -/
theorem sorted_one : ∀ (L1 L2 : List (Nat × Nat)), L1.Pairwise before → L2.Pairwise before → (∀ x, L1.count x = L2.count x) → L1 = L2
  | [], L2, _, _, h => by
    cases L2 with
    | nil => rfl
    | cons x L => have := h x; simp at this
  | x :: L1, L2, s1, s2, h => by
    cases L2 with
    | nil => have := h x; simp at this
    | cons z L2 =>
      rw [List.pairwise_cons] at s1 s2
      have e : x = z := by
        by_cases e : x = z
        · exact e
        · have h1 : x ∈ L2 := by
            have := h x
            rw [List.count_cons_self, List.count_cons_of_ne (fun g => e g.symm)] at this
            exact List.count_pos_iff.1 (by omega)
          have h2 : z ∈ L1 := by
            have := h z
            rw [List.count_cons_self, List.count_cons_of_ne e] at this
            exact List.count_pos_iff.1 (by omega)
          exact before_anti (s1.1 z h2) (s2.1 x h1)
      subst e
      refine congrArg _ (sorted_one L1 L2 s1.2 s2.2 fun w => ?_)
      have := h w
      rw [List.count_cons, List.count_cons] at this
      omega
theorem RunB_one {p : List Int} {L : List (Nat × Nat)} {y0 y : List (List Int)} (h : RunB p y0 L y) : ∀ (L' : List (Nat × Nat)) (y' : List (List Int)), L' = L → RunB p y0 L' y' → y = y' := by
  induction h with
  | nil =>
    intro L' y' e h'
    cases h' with
    | nil => rfl
    | snoc h hb hc t => simp at e
  | @snoc y1 y2 L r c b e h hb hc t ih =>
    intro L' y' e1 h'
    cases h' with
    | nil => simp at e1
    | @snoc y3 _ L3 r3 c3 b3 e3 h3 hb3 hc3 t3 =>
      have e2 := List.append_inj' e1 rfl
      obtain ⟨rfl, e4⟩ := e2
      have e5 : (r3, c3) = (r, c) := by simpa using e4
      injection e5 with e6 e7
      subst e6 e7
      have hbe : b3 = b := by omega
      subst hbe
      have := ih _ _ rfl h3
      subst this
      exact (bck_one t _ _ t3).1

def hookOk (p : List Int) : Bool := (List.range p.length).all fun i => (List.range (p.getD i 0).toNat).all fun j => both (spec_HookOf.f 60 p i j) (impl_HookOf.f 60 p i j)
set_option maxHeartbeats 4000000 in
theorem facthook : allP.all hookOk = true := by decide +kernel
theorem hook_ev {p : List Int} (hp : isP p = true) (i j : Nat) (hi : i < p.length) (hj : (j : Int) < p[i]) : ∃ r, Ev (fun k => spec_HookOf.f k p i j) r ∧ Ev (fun k => impl_HookOf.f k p i j) r := by
  have h := of_all facthook (mem_allP hp)
  unfold hookOk at h
  have h1 := of_all h (x := i) (List.mem_range.2 hi)
  have h2 := of_all h1 (x := j) (List.mem_range.2 (by simp [hi]; omega))
  exact both_ev (spec_HookOf.mono p i j) (impl_HookOf.mono p i j) h2
theorem hookw_l0 (p : List Int) (f : List (List Int)) (hp : isP p = true) (hlen : f.length = p.length) (hrow : ∀ (i : Nat) (h : i < p.length) (h' : i < f.length), (f[i].length : Int) = p[i]) (d : Nat) : ∀ (i : Nat) (s : Int), i + d = p.length →
    ∃ r, Ev (fun k => spec_HookWeight.l0 k p f s i) r ∧ Ev (fun k => impl_HookWeight.l0 k p s f f.length i) r := by
  have h9 := isP_length hp
  induction d with
  | zero =>
    intro i s hi
    refine ⟨s, Ev.step (fun k => by simp only [spec_HookWeight.l0]; rfl) ?_, Ev.step (fun k => by simp only [impl_HookWeight.l0]; rfl) ?_⟩
    · exact Ev.ite_false (by omega) (Ev.now _)
    · exact Ev.ite_false (by omega) (Ev.now _)
  | succ d ih =>
    intro i s hi
    have hlt : i < p.length := by omega
    have hlt' : i < f.length := by omega
    have hp9 := isP_get hp i hlt
    have hq := hrow i hlt hlt'
    have inner : ∀ (e j : Nat) (s : Int), j + e = f[i].length → ∃ r, Ev (fun k => spec_HookWeight.l1 k p f s i j) r ∧ Ev (fun k => impl_HookWeight.l1 k p s i f f.length i f[i] f[i].length j) r := by
      intro e
      induction e with
      | zero =>
        intro j s hj
        obtain ⟨r, h1, h2⟩ := ih (i + 1) s (by omega)
        refine ⟨r, Ev.step (fun k => by simp only [spec_HookWeight.l1]; rfl) ?_, Ev.step (fun k => by simp only [impl_HookWeight.l1]; rfl) ?_⟩
        · refine Ev.ite_true (by omega) (Ev.ite_true (by omega) (Ev.ite_false (by rw [rd_nat p i hlt]; omega) ?_))
          rw [wr1 (by omega)]; exact h1
        · refine Ev.ite_false (by omega) ?_
          rw [wr1 (by omega)]; exact h2
      | succ e ihe =>
        intro j s hj
        have hjl : j < f[i].length := by omega
        obtain ⟨h, g1, g2⟩ := hook_ev hp i j hlt (by omega)
        obtain ⟨r, h1, h2⟩ := ihe (j + 1) (wrap64 (s + wrap64 (f[i][j] * h))) (by omega)
        refine ⟨r, Ev.step (fun k => by simp only [spec_HookWeight.l1]; rfl) ?_, Ev.step (fun k => by simp only [impl_HookWeight.l1]; rfl) ?_⟩
        · refine Ev.ite_true (by omega) (Ev.ite_true (by omega) (Ev.ite_true (by rw [rd_nat p i hlt]; omega) (Ev.ite_true (by omega) (Ev.ite_true (by omega) (Ev.ite_true (by rw [rdL_nat f i hlt']; omega) (Ev.bind g1 ?_))))))
          rw [wr1 (by omega), rdL_nat f i hlt', rd_nat f[i] j hjl]; exact h1
        · refine Ev.ite_true (by omega) (Ev.ite_true (by omega) (Ev.ite_true (by omega) (Ev.bind g2 ?_)))
          rw [wr1 (by omega), rd_nat f[i] j hjl]; exact h2
    obtain ⟨r, h1, h2⟩ := inner f[i].length 0 s (by omega)
    refine ⟨r, Ev.step (fun k => by simp only [spec_HookWeight.l0]; rfl) ?_, Ev.step (fun k => by simp only [impl_HookWeight.l0]; rfl) ?_⟩
    · exact Ev.ite_true (by omega) h1
    · refine Ev.ite_true (by omega) (Ev.ite_true (by omega) (Ev.ite_true (by omega) ?_))
      rw [rdL_nat f i hlt']; exact h2
theorem hookw_same (p : List Int) (f : List (List Int)) (hl : p.length ≤ 1048576) : ∃ r, Ev (fun k => spec_HookWeight.f k p f) r ∧ Ev (fun k => impl_HookWeight.f k p f) r := by
  have h1 := specFill_ev p f hl
  have h2 := implFill_ev p f hl
  cases h : isF p f
  · rw [h] at h1 h2
    refine ⟨-1, ?_, ?_⟩
    · simp only [spec_HookWeight.f]
      exact Ev.bind h1 (Ev.ite_false (by simp) (Ev.now _))
    · simp only [impl_HookWeight.f]
      exact Ev.bind h2 (Ev.ite_false (by simp) (Ev.now _))
  · rw [h] at h1 h2
    simp only [isF, Bool.and_eq_true, decide_eq_true_eq] at h
    obtain ⟨hp, hlen, hfill⟩ := h
    obtain ⟨r, e1, e2⟩ := hookw_l0 p f hp hlen (fillFrom_get p f hlen.symm hfill) p.length 0 0 (by omega)
    refine ⟨r, ?_, ?_⟩
    · simp only [spec_HookWeight.f]
      exact Ev.bind h1 (Ev.ite_true rfl e1)
    · simp only [impl_HookWeight.f]
      exact Ev.bind h2 (Ev.ite_true rfl e2)

/-! The draws: the cursor goes on, and what it yields lies in its bounds. -/
def cur (b : List Int) (i : Int) : Prop := 0 ≤ i ∧ b.length ≤ 1048576
theorem and_bound (x : Int) (m : Nat) (hm : m < 9223372036854775808) : 0 ≤ Go.bits .and .i64 x (m : Int) ∧ Go.bits .and .i64 x (m : Int) ≤ m := by
  have e : Go.bits .and .i64 x (m : Int) = IntKind.i64.wrap ((BitVec.ofInt 64 x &&& BitVec.ofInt 64 (m : Int)).toNat : Int) := rfl
  have h1 : (BitVec.ofInt 64 x &&& BitVec.ofInt 64 (m : Int)).toNat ≤ m := by
    rw [BitVec.toNat_and]
    refine Nat.le_trans Nat.and_le_right ?_
    rw [BitVec.toNat_ofInt]
    omega
  rw [e, IntKind.wrap_i64]
  generalize (BitVec.ofInt 64 x &&& BitVec.ofInt 64 (m : Int)).toNat = z at h1
  omega
theorem byte_ev (b : List Int) (i h : Int) (hc : cur b i) : ∃ x i' h', spec_l1Byte.f b i h = some (x, i', h') ∧ (0 ≤ x ∧ x ≤ 255) ∧ cur b i' := by
  unfold spec_l1Byte.f
  generalize wrap64 ((wrap64 (h * 6364136223846793005)) + 1442695040888963407) = z
  have hb := fun x => and_bound x 255 (by decide)
  by_cases c : i < (b.length : Int)
  · rw [if_pos c, if_pos hc.1]
    refine ⟨_, _, _, rfl, hb _, ?_, hc.2⟩
    have := hc.1; have := hc.2; unfold wrap64; omega
  · rw [if_neg c]
    exact ⟨_, _, _, rfl, hb _, hc⟩
theorem below_ev (b : List Int) (i h n : Int) (hc : cur b i) (hn : n ≤ 256) : ∃ x i' h', spec_l1Below.f b i h n = some (x, i', h') ∧ (0 ≤ x ∧ (0 < n → x < n) ∧ x ≤ 255) ∧ cur b i' := by
  unfold spec_l1Below.f
  by_cases c : n ≤ 0
  · rw [if_pos c]
    exact ⟨0, i, h, rfl, by omega, hc⟩
  · rw [if_neg c, if_pos hn]
    obtain ⟨x, i', h', e, hx, hc'⟩ := byte_ev b i h hc
    rw [e]
    simp only [Option.bind_some]
    rw [if_neg (by omega)]
    have h1 := Int.tmod_lt_of_pos x (show 0 < n by omega)
    have h2 := Int.tmod_nonneg n hx.1
    refine ⟨_, _, _, rfl, ⟨h2, fun _ => h1, ?_⟩, hc'⟩
    omega
theorem once_ev (b : List Int) (i h n : Int) (hc : cur b i) (hn : n ≤ 256) : ∃ x i' h', spec_l1Once.f b i h n = some (x, i', h') ∧ cur b i' := by
  obtain ⟨x, i', h', e, _, hc'⟩ := below_ev b i h n hc hn
  unfold spec_l1Once.f
  rw [e]
  exact ⟨_, _, _, rfl, hc'⟩
theorem pickInt_ev (b : List Int) (i h : Int) (l : List Int) (hc : cur b i) (h0 : 0 < l.length) (hn : l.length ≤ 256) : ∃ x i' h', spec_l1PickInt.f b i h l = some (x, i', h') ∧ x ∈ l ∧ cur b i' := by
  obtain ⟨x, i', h', e, hx, hc'⟩ := below_ev b i h l.length hc (by omega)
  unfold spec_l1PickInt.f
  rw [e]
  simp only [Option.bind_some]
  have hlt : x < (l.length : Int) := hx.2.1 (by omega)
  rw [if_pos hx.1, if_pos hlt]
  refine ⟨_, _, _, rfl, ?_, hc'⟩
  obtain ⟨m, rfl⟩ : ∃ m : Nat, x = (m : Int) := ⟨x.toNat, by omega⟩
  rw [rd_nat l m (by omega)]
  exact List.getElem_mem _
theorem new_l0 (l : List Int) (hl : l.length ≤ 1048576) (d : Nat) : ∀ (i : Nat) (x : Int), i + d = l.length → ∃ h, Ev (fun k => spec_l1New.l0 k l x i) (l, 0, h) := by
  induction d with
  | zero =>
    intro i x hi
    exact ⟨x, Ev.step (fun k => by simp only [spec_l1New.l0]; rfl) (Ev.ite_false (by omega) (Ev.now _))⟩
  | succ d ih =>
    intro i x hi
    obtain ⟨h, e⟩ := ih (i + 1) (Go.bits .and .i64 (wrap64 ((wrap64 ((wrap64 (x * 131)) + (wrap64 (rd l i)))) + 7)) 1073741823) (by omega)
    by_cases c : (i : Int) < 4000
    · refine ⟨h, Ev.step (fun k => by simp only [spec_l1New.l0]; rfl) (Ev.ite_true (by omega) (Ev.ite_true c (Ev.ite_true (Int.natCast_nonneg _) ?_)))⟩
      rw [wr1 (by omega)]
      exact e
    · exact ⟨x, Ev.step (fun k => by simp only [spec_l1New.l0]; rfl) (Ev.ite_true (by omega) (Ev.ite_false c (Ev.now _)))⟩
theorem new_ev (l : List Int) (hl : l.length ≤ 1048576) : ∃ h, Ev (fun k => spec_l1New.f k l) (l, 0, h) := by
  simp only [spec_l1New.f]
  exact new_l0 l hl l.length 0 _ (by omega)
theorem cur0 (l : List Int) (hl : l.length ≤ 1048576) : cur l 0 := ⟨by omega, hl⟩
theorem rdL_mem (l : List (List Int)) (x : Int) (h0 : 0 ≤ x) (h : x < (l.length : Int)) : rd_L2 l x ∈ l := by
  obtain ⟨m, rfl⟩ : ∃ m : Nat, x = (m : Int) := ⟨x.toNat, by omega⟩
  have hm : m < l.length := by omega
  have e : rd_L2 l (m : Int) = l[m] := by simp [rd_L2, List.getD_eq_getElem?_getD, hm]
  rw [e]; exact List.getElem_mem _
theorem allparts : (List.range 10).all (fun m => (List.range 10).all fun n => !decide (n ≤ m) || match spec_l2All.f 300 n m with
  | some x => decide (0 < x.length ∧ x.length ≤ 100) && x.all (fun p => isP p && decide (p.sum = n))
  | none => false) = true := by decide +kernel
theorem all_ev {n m : Int} (h0 : 0 ≤ n) (h : n ≤ m) (h9 : m ≤ 9) : ∃ x : List (List Int), Ev (fun k => spec_l2All.f k n m) x ∧ 0 < x.length ∧ x.length ≤ 100 ∧ ∀ p ∈ x, isP p = true ∧ p.sum = n := by
  obtain ⟨a, rfl⟩ : ∃ a : Nat, n = (a : Int) := ⟨n.toNat, by omega⟩
  obtain ⟨b, rfl⟩ : ∃ b : Nat, m = (b : Int) := ⟨m.toNat, by omega⟩
  have e := of_all (of_all allparts (x := b) (List.mem_range.2 (by omega))) (x := a) (List.mem_range.2 (by omega))
  rw [decide_eq_true (show a ≤ b by omega), Bool.not_true, Bool.false_or] at e
  split at e
  · rename_i x hx
    simp only [Bool.and_eq_true, decide_eq_true_eq, List.all_eq_true] at e
    exact ⟨x, Ev.of (spec_l2All.mono _ _) hx, e.1.1, e.1.2, e.2⟩
  · cases e
theorem draw_ev (b : List Int) (i h m : Int) (hc : cur b i) (h0 : 0 ≤ m) (h9 : m ≤ 9) : ∃ p i' h', Ev (fun k => spec_l2Draw.f k b i h m) (p, i', h') ∧ (isP p = true ∧ p.sum ≤ m) ∧ cur b i' := by
  obtain ⟨n, i1, h1, e1, hn, hc1⟩ := below_ev b i h (m + 1) hc (by omega)
  obtain ⟨x, e2, hx0, hxl, hx⟩ := all_ev (n := n) (m := m) hn.1 (by have := hn.2.1 (by omega); omega) h9
  obtain ⟨j, i2, h2, e3, hj, hc2⟩ := below_ev b i1 h1 x.length hc1 (by omega)
  have hlt : j < (x.length : Int) := hj.2.1 (by omega)
  have hm := hx _ (rdL_mem x j hj.1 hlt)
  refine ⟨rd_L2 x j, i2, h2, ?_, ⟨hm.1, by have := hn.2.1 (by omega); omega⟩, hc2⟩
  simp only [spec_l2Draw.f, wr_in (x := m + 1) (by omega) (by omega), e1, Option.bind_some]
  refine Ev.bind e2 ?_
  simp only [e3, Option.bind_some]
  exact Ev.ite_true hj.1 (Ev.ite_true hlt (Ev.now _))
theorem bent_ev (b : List Int) (i h m : Int) (hc : cur b i) (h0 : 0 ≤ m) (h9 : m ≤ 9) : ∃ (p : List Int) (i' h' : Int), Ev (fun k => spec_l2Bent.f k b i h m) (p, i', h') ∧ p.length ≤ 20 ∧ cur b i' := by
  obtain ⟨p, i1, h1, e1, hp, hc1⟩ := draw_ev b i h m hc h0 h9
  have hl := isP_length hp.1
  obtain ⟨z, i2, h2, e2, _, hc2⟩ := below_ev b i1 h1 14 hc1 (by omega)
  simp only [spec_l2Bent.f, Option.bind_some]
  by_cases c0 : z = 0
  · obtain ⟨y, i3, h3, e3, _, hc3⟩ := pickInt_ev b i2 h2 [0, 5, (-1), 1, 9223372036854775807] hc2 (by simp) (by simp)
    refine ⟨p ++ [y], i3, h3, Ev.bind e1 ?_, by simp; omega, hc3⟩
    simp only [e2, Option.bind_some]
    refine Ev.ite_true c0 ?_
    simp only [e3, Option.bind_some]
    exact Ev.ite_true (by omega) (Ev.now _)
  · by_cases c1 : z = 1
    · refine ⟨p ++ [1, 1, 1, 1, 1, 1], i2, h2, Ev.bind e1 ?_, by simp; omega, hc2⟩
      simp only [e2, Option.bind_some]
      exact Ev.ite_false c0 (Ev.ite_true c1 (Ev.ite_true (by simp; omega) (Ev.now _)))
    · refine ⟨p, i2, h2, Ev.bind e1 ?_, by omega, hc2⟩
      simp only [e2, Option.bind_some]
      exact Ev.ite_false c0 (Ev.ite_false c1 (Ev.now _))

theorem sameInts_l0 (a b : List Int) (hl : a.length ≤ 1048576) (hab : a.length = b.length) (d : Nat) : ∀ (i k : Nat), i + d = a.length → a.take i = b.take i → d < k → laws_sameInts.l0 k a b i = some (decide (a = b)) := by
  induction d with
  | zero =>
    intro i k hi ht hk
    obtain ⟨k, rfl⟩ : ∃ m, k = m + 1 := ⟨k - 1, by omega⟩
    simp only [laws_sameInts.l0]
    rw [if_neg (by omega)]
    obtain rfl : i = a.length := by omega
    rw [List.take_of_length_le (by omega), List.take_of_length_le (by omega)] at ht
    rw [decide_eq_true ht]
  | succ d ih =>
    intro i k hi ht hk
    obtain ⟨k, rfl⟩ : ∃ m, k = m + 1 := ⟨k - 1, by omega⟩
    have hlt : i < a.length := by omega
    have hlt' : i < b.length := by omega
    simp only [laws_sameInts.l0]
    rw [if_pos (by omega), if_pos (by omega), if_pos (by omega), wr1 (by omega), rd_nat a i hlt, rd_nat b i hlt']
    by_cases h : a[i] = b[i]
    · rw [if_pos h]
      refine ih (i + 1) k (by omega) ?_ (by omega)
      rw [List.take_succ_eq_append_getElem hlt, List.take_succ_eq_append_getElem hlt', ht, h]
    · rw [if_neg h, decide_eq_false]
      intro e
      subst e
      exact h rfl
theorem sameInts_ev (a b : List Int) (hl : a.length ≤ 1048576) : Ev (fun k => laws_sameInts.f k a b) (decide (a = b)) := by
  refine ⟨a.length + 1, fun k hk => ?_⟩
  show laws_sameInts.f k a b = _
  unfold laws_sameInts.f
  by_cases h : (a.length : Int) = (b.length : Int)
  · rw [if_pos h]
    exact sameInts_l0 a b hl (by omega) a.length 0 k (by omega) (by simp) (by omega)
  · rw [if_neg h, decide_eq_false]
    intro e
    subst e
    exact h rfl
theorem sameInts_self (a : List Int) (hl : a.length ≤ 1048576) : Ev (fun k => laws_sameInts.f k a a) true := by
  have h := sameInts_ev a a hl
  rwa [decide_eq_true rfl] at h

theorem sameInts_at (a b : List Int) (hl : a.length ≤ 1048576) (k : Nat) (hk : a.length + 1 ≤ k) : laws_sameInts.f k a b = some (decide (a = b)) := by
  unfold laws_sameInts.f
  by_cases h : (a.length : Int) = (b.length : Int)
  · rw [if_pos h]
    exact sameInts_l0 a b hl (by omega) a.length 0 k (by omega) (by simp) (by omega)
  · rw [if_neg h, decide_eq_false]
    intro e
    subst e
    exact h rfl

def smallL (l : List (List Int)) : Prop := l.length ≤ 1048576 ∧ ∀ x ∈ l, x.length ≤ 1048576
theorem sameLists_l0 (l : List (List Int)) (hs : smallL l) (d : Nat) : ∀ (i k : Nat), i + d = l.length → d + 1048578 < k → laws_sameLists.l0 k l l i = some true := by
  obtain ⟨hl, he⟩ := hs
  induction d with
  | zero =>
    intro i k hi hk
    obtain ⟨k, rfl⟩ : ∃ m, k = m + 1 := ⟨k - 1, by omega⟩
    simp only [laws_sameLists.l0]
    rw [if_neg (by omega)]
  | succ d ih =>
    intro i k hi hk
    obtain ⟨k, rfl⟩ : ∃ m, k = m + 1 := ⟨k - 1, by omega⟩
    have hlt : i < l.length := by omega
    have hx := he _ (List.getElem_mem hlt)
    simp only [laws_sameLists.l0]
    rw [if_pos (by omega), if_pos (by omega), rdL_nat l i hlt, if_pos (by omega), sameInts_at _ _ hx k (by omega)]
    simp only [Option.bind_some, decide_true, if_true]
    rw [wr1 (by omega)]
    exact ih (i + 1) k (by omega) (by omega)
theorem sameLists_self (l : List (List Int)) (hs : smallL l) : Ev (fun k => laws_sameLists.f k l l) true := by
  refine ⟨l.length + 1048579, fun k hk => ?_⟩
  show laws_sameLists.f k l l = some true
  unfold laws_sameLists.f
  rw [if_pos rfl]
  exact sameLists_l0 l hs l.length 0 k (by omega) (by omega)

theorem l12_ev_hor (l : List Int) (hl : l.length ≤ 1000) (hb : ∀ n ∈ l, 0 ≤ n ∧ n ≤ 9) : Ev (fun k => spec_l12Total.f k l) l.sum ∧ Ev (fun k => impl_sum.f k l) l.sum := by
  have loop : ∀ (d i : Nat) (s : Int), i + d = l.length → 0 ≤ s → s ≤ 9 * (i : Int) → Ev (fun k => spec_l12Total.l0 k l s i) (s + (l.drop i).sum) ∧ Ev (fun k => impl_sum.l0 k s l l.length i) (s + (l.drop i).sum) := by
    intro d
    induction d with
    | zero =>
      intro i s hi h0 h1
      rw [List.drop_of_length_le (by omega), List.sum_nil, Int.add_zero]
      exact ⟨Ev.step (fun k => by simp only [spec_l12Total.l0]; rfl) (Ev.ite_false (by omega) (Ev.now _)), Ev.step (fun k => by simp only [impl_sum.l0]; rfl) (Ev.ite_false (by omega) (Ev.now _))⟩
    | succ d ih =>
      intro i s hi h0 h1
      have hlt : i < l.length := by omega
      have hx := hb _ (List.getElem_mem hlt)
      have w : wrap64 (s + l[i]) = s + l[i] := wr_in (by omega) (by omega)
      have hi5 : i < 4611686018427387904 := by omega
      obtain ⟨g1, g2⟩ := ih (i + 1) (s + l[i]) (by omega) (by omega) (by omega)
      rw [List.drop_eq_getElem_cons hlt, List.sum_cons, ← Int.add_assoc]
      refine ⟨Ev.step (fun k => by simp only [spec_l12Total.l0]; rfl) (Ev.ite_true (by omega) (Ev.ite_true (by omega) ?_)), Ev.step (fun k => by simp only [impl_sum.l0]; rfl) (Ev.ite_true (by omega) (Ev.ite_true (by omega) (Ev.ite_true (by omega) ?_)))⟩
      · rw [rd_nat l i hlt, w, wr1 hi5]; exact g1
      · rw [rd_nat l i hlt, w, wr1 hi5]; exact g2
  have := loop l.length 0 0 (by omega) (by omega) (by omega)
  simpa [spec_l12Total.f, impl_sum.f] using this
theorem l27_ev_hor (y : List (List Int)) (h9 : y.length ≤ 9) (hr : ∀ r ∈ y, r.length ≤ 9) (hb : inR y) : Ev (fun k => spec_l27Total.f k y) (tots y) := by
  have loop : ∀ (d i : Nat) (s : Int), i + d = y.length → 0 ≤ s → s ≤ 81 * (i : Int) → Ev (fun k => spec_l27Total.l0 k y s i) (s + tots (y.drop i)) := by
    intro d
    induction d with
    | zero =>
      intro i s hi h0 h1
      rw [List.drop_of_length_le (by omega), show tots [] = 0 from rfl, Int.add_zero]
      exact Ev.step (fun k => by simp only [spec_l27Total.l0]; rfl) (Ev.ite_false (by omega) (Ev.now _))
    | succ d ih =>
      intro i s hi h0 h1
      have hlt : i < y.length := by omega
      have hx := hr _ (List.getElem_mem hlt)
      have hs := sum_bound y[i] (hb _ (List.getElem_mem hlt))
      have w : wrap64 (s + y[i].sum) = s + y[i].sum := wr_in (by omega) (by omega)
      have hi5 : i < 4611686018427387904 := by omega
      have g1 := ih (i + 1) (s + y[i].sum) (by omega) (by omega) (by omega)
      rw [List.drop_eq_getElem_cons hlt, show tots (y[i] :: y.drop (i + 1)) = y[i].sum + tots (y.drop (i + 1)) from by simp only [tots, List.map_cons, List.sum_cons], ← Int.add_assoc]
      refine Ev.step (fun k => by simp only [spec_l27Total.l0]; rfl) (Ev.ite_true (by omega) (Ev.ite_true (by omega) ?_))
      rw [rdL_nat y i hlt]
      refine Ev.bind (l12_ev_hor y[i] (by omega) (hb _ (List.getElem_mem hlt))).1 ?_
      rw [w, wr1 hi5]; exact g1
  have := loop y.length 0 0 (by omega) (by omega) (by omega)
  simpa [spec_l27Total.f] using this
theorem flat_sum_hor (y : List (List Int)) : y.flatten.sum = tots y := by
  induction y with
  | nil => rfl
  | cons x y ih => simp only [tots] at ih; simp [tots, ih]
theorem implTotal_ev_hor (y : List (List Int)) (h9 : y.length ≤ 9) (hr : ∀ r ∈ y, r.length ≤ 9) (hb : inR y) : Ev (fun k => impl_sum.f k y.flatten) (tots y) := by
  have hl := flat_le y hr
  rw [← flat_sum_hor]
  refine (l12_ev_hor y.flatten (by omega) fun n hn => ?_).2
  obtain ⟨r, h1, h2⟩ := List.mem_flatten.1 hn
  exact hb r h1 n h2
/-! The first column with anything in it. -/
def hasB_hor (y : List (List Int)) (c : Nat) : Bool := y.any fun r => decide (0 < r.getD c 0)
theorem hasB_iff_hor (y : List (List Int)) (c : Nat) : hasB_hor y c = true ↔ ∃ i, 0 < cell y i c := by
  unfold hasB_hor
  rw [List.any_eq_true]
  constructor
  · rintro ⟨r, h1, h2⟩
    obtain ⟨i, hi, rfl⟩ := List.getElem_of_mem h1
    exact ⟨i, by simpa [cell, hi] using h2⟩
  · rintro ⟨i, h⟩
    by_cases hi : i < y.length
    · exact ⟨y[i], List.getElem_mem hi, by simpa [cell, hi] using h⟩
    · simp [cell, List.getD_eq_getElem?_getD, List.getElem?_eq_none (Nat.le_of_not_lt hi)] at h
theorem at_row_hor (r : List Int) (hl : r.length ≤ 1000) (v : Nat) : impl_at.f r (v : Int) = some (r.getD v 0) := by
  have w : wrap64 ((r.length : Int) - 1) = (r.length : Int) - 1 := wr_in (by omega) (by omega)
  unfold impl_at.f
  rw [within_f, Option.bind_some, w]
  by_cases h : v < r.length
  · rw [if_pos (decide_eq_true (by omega)), if_pos (by omega), if_pos (by omega), rd_nat r v h]
    simp [h]
  · rw [if_neg (by rw [decide_eq_true_eq]; omega)]
    simp [List.getD_eq_getElem?_getD, List.getElem?_eq_none (Nat.le_of_not_lt h)]
theorem start_l1_hor (y : List (List Int)) (h9 : y.length ≤ 9) (hr : ∀ r ∈ y, r.length ≤ 9) (v : Nat) (hv : v < 9) (res : Int × Bool) (d : Nat) : ∀ i, i + d = y.length → ((y.drop i).any (fun r => decide (0 < r.getD v 0)) = true → res = ((v : Int), true)) → ((y.drop i).any (fun r => decide (0 < r.getD v 0)) = false → Ev (fun k => impl_start.l0 k y ((v + 1 : Nat) : Int)) res) → Ev (fun k => impl_start.l1 k y v v y y.length i) res := by
  induction d with
  | zero =>
    intro i hi _ h2
    refine Ev.step (fun k => by rw [impl_start.l1]) (Ev.ite_false (by omega) ?_)
    rw [wr1 (by omega)]
    exact h2 (by rw [List.drop_of_length_le (by omega)]; rfl)
  | succ d ih =>
    intro i hi h1 h2
    have hlt : i < y.length := by omega
    have hx := hr _ (List.getElem_mem hlt)
    rw [List.drop_eq_getElem_cons hlt, List.any_cons] at h1 h2
    refine Ev.step (fun k => by rw [impl_start.l1]) (Ev.ite_true (by omega) (Ev.ite_true (by omega) (Ev.ite_true (by omega) ?_)))
    rw [rdL_nat y i hlt, at_row_hor _ (by omega), wr1 (by omega)]
    refine Ev.bind (Ev.now _) ?_
    by_cases h : 0 < y[i].getD v 0
    · refine Ev.ite_true h ?_
      rw [h1 (by rw [decide_eq_true h]; rfl)]
      exact Ev.now _
    · refine Ev.ite_false h (ih (i + 1) (by omega) ?_ ?_)
      · intro e; exact h1 (by rw [e, Bool.or_true])
      · intro e; exact h2 (by rw [e, decide_eq_false h]; rfl)
theorem first_l1_hor {p : List Int} {y : List (List Int)} (hp : isP p = true) (hy : shp p y) (hb : inR y) (v : Nat) (hv : v < 9) (res : Int) (d : Nat) : ∀ i, i + d = p.length → ((y.drop i).any (fun r => decide (0 < r.getD v 0)) = true → res = (v : Int)) → ((y.drop i).any (fun r => decide (0 < r.getD v 0)) = false → Ev (fun k => spec_l27First.l0 k p y ((v + 1 : Nat) : Int)) res) → Ev (fun k => spec_l27First.l1 k p y v i) res := by
  have h9 := isP_length hp
  induction d with
  | zero =>
    intro i hi _ h2
    refine Ev.step (fun k => by rw [spec_l27First.l1]) (Ev.ite_false (by omega) ?_)
    rw [wr1 (by omega)]
    exact h2 (by rw [List.drop_of_length_le (by have := hy.1; omega)]; rfl)
  | succ d ih =>
    intro i hi h1 h2
    have hlt : i < y.length := by have := hy.1; omega
    have hlp : i < p.length := by omega
    have hq := hy.2 i hlt hlp
    rw [List.drop_eq_getElem_cons hlt, List.any_cons] at h1 h2
    have go : (y[i].getD v 0 = 0) → Ev (fun k => spec_l27First.l1 k p y v ((i + 1 : Nat) : Int)) res := by
      intro h
      refine ih (i + 1) (by omega) ?_ ?_
      · intro e; exact h1 (by rw [e, Bool.or_true])
      · intro e; exact h2 (by rw [e, decide_eq_false (by omega)]; rfl)
    refine Ev.step (fun k => by rw [spec_l27First.l1]) (Ev.ite_true (by omega) (Ev.ite_true (by omega) ?_))
    rw [rd_nat p i hlp, rdL_nat y i hlt, wr1 (by omega)]
    by_cases hc : (v : Int) < p[i]
    · have hvl : v < y[i].length := by omega
      have e : y[i].getD v 0 = y[i][v] := by simp [hvl]
      have hn := hb _ (List.getElem_mem hlt) _ (List.getElem_mem hvl)
      refine Ev.ite_true hc (Ev.ite_true (by omega) (Ev.ite_true (by omega) (Ev.ite_true (by omega) ?_)))
      rw [rd_nat _ v hvl]
      by_cases h : y[i][v] = 0
      · exact Ev.ite_true h (go (by omega))
      · refine Ev.ite_false h ?_
        rw [h1 (by rw [decide_eq_true (by omega)]; rfl)]
        exact Ev.now _
    · exact Ev.ite_false hc (go (by simp [List.getD_eq_getElem?_getD, List.getElem?_eq_none (show y[i].length ≤ v by omega)]))
theorem rows9_hor {p : List Int} {y : List (List Int)} (hp : isP p = true) (hy : shp p y) : y.length ≤ 9 ∧ ∀ r ∈ y, r.length ≤ 9 := by
  have h9 := isP_length hp
  refine ⟨by rw [hy.1]; exact h9, fun r hr => ?_⟩
  obtain ⟨i, hi, rfl⟩ := List.getElem_of_mem hr
  have h2 : i < p.length := by rw [← hy.1]; exact hi
  have := hy.2 i hi h2
  have := isP_get hp i h2
  omega
/-- Both look for the first column alike. -/
theorem first_ev_hor {p : List Int} {y : List (List Int)} (hp : isP p = true) (hy : shp p y) (hb : inR y) :
    (Ev (fun k => impl_start.f k y) (0, false) ∧ tots y = 0) ∨
    (∃ c : Nat, c < 9 ∧ hasB_hor y c = true ∧ (∀ c' < c, hasB_hor y c' = false) ∧ Ev (fun k => impl_start.f k y) ((c : Int), true) ∧ Ev (fun k => spec_l27First.f k p y) (c : Int)) := by
  obtain ⟨q1, q2⟩ := rows9_hor hp hy
  have loop : ∀ (d v : Nat), v + d = 9 → (∀ c' < v, hasB_hor y c' = false) →
      (Ev (fun k => impl_start.l0 k y v) (0, false) ∧ tots y = 0) ∨
      (∃ c : Nat, c < 9 ∧ hasB_hor y c = true ∧ (∀ c' < c, hasB_hor y c' = false) ∧ Ev (fun k => impl_start.l0 k y v) ((c : Int), true) ∧ Ev (fun k => spec_l27First.l0 k p y v) (c : Int)) := by
    intro d
    induction d with
    | zero =>
      intro v hv hno
      refine .inl ⟨Ev.step (fun k => by rw [impl_start.l0]) (Ev.ite_false (by omega) (Ev.now _)), ?_⟩
      have h0 := tots_nonneg hb
      by_cases h : 0 < tots y
      · obtain ⟨i, j, h1, h2⟩ := pos_tots y h
        have h3 := shp_row hy i
        have h4 := (wd_9 hp i).2
        have h5 := hno j (by omega)
        have h6 := (hasB_iff_hor y j).2 ⟨i, h2⟩
        rw [h5] at h6
        cases h6
      · omega
    | succ d ih =>
      intro v hv hno
      by_cases h : hasB_hor y v = true
      · refine .inr ⟨v, by omega, h, hno, ?_, ?_⟩
        · refine Ev.step (fun k => by rw [impl_start.l0]) (Ev.ite_true (by omega) ?_)
          exact start_l1_hor y q1 q2 v (by omega) _ y.length 0 (by omega) (fun _ => rfl) (fun e => by simp only [List.drop_zero] at e; unfold hasB_hor at h; rw [e] at h; cases h)
        · refine Ev.step (fun k => by rw [spec_l27First.l0]) ?_
          exact first_l1_hor hp hy hb v (by omega) _ p.length 0 (by omega) (fun _ => rfl) (fun e => by simp only [List.drop_zero] at e; unfold hasB_hor at h; rw [e] at h; cases h)
      · have h' : hasB_hor y v = false := by simpa using h
        have hno' : ∀ c' < v + 1, hasB_hor y c' = false := fun c' hc' => by
          by_cases e : c' = v
          · rw [e]; exact h'
          · exact hno c' (by omega)
        have key : ∀ b : Bool, ((y.drop 0).any (fun r => decide (0 < r.getD v 0)) = b) → b = false := fun b e => by
          simp only [List.drop_zero] at e
          unfold hasB_hor at h'
          rw [← e]; exact h'
        rcases ih (v + 1) (by omega) hno' with ⟨g1, g2⟩ | ⟨c, g1, g2, g3, g4, g5⟩
        · refine .inl ⟨Ev.step (fun k => by rw [impl_start.l0]) (Ev.ite_true (by omega) ?_), g2⟩
          exact start_l1_hor y q1 q2 v (by omega) _ y.length 0 (by omega) (fun e => by have := key _ e; cases this) (fun _ => g1)
        · refine .inr ⟨c, g1, g2, g3, ?_, ?_⟩
          · refine Ev.step (fun k => by rw [impl_start.l0]) (Ev.ite_true (by omega) ?_)
            exact start_l1_hor y q1 q2 v (by omega) _ y.length 0 (by omega) (fun e => by have := key _ e; cases this) (fun _ => g4)
          · refine Ev.step (fun k => by rw [spec_l27First.l0]) ?_
            exact first_l1_hor hp hy hb v (by omega) _ p.length 0 (by omega) (fun e => by have := key _ e; cases this) (fun _ => g5)
  simpa [impl_start.f, spec_l27First.f] using loop 9 0 (by omega) (fun c' h => by omega)
/-! One hook taken off. -/
theorem wrm1_hor {i : Nat} (h : 0 < i) (h2 : i < 1000) : wrap64 ((i : Int) - 1) = ((i - 1 : Nat) : Int) := by unfold wrap64; omega
theorem beq_dec_hor (a b : Int) : (a == b) = decide (a = b) := by by_cases h : a = b <;> simp [h]
theorem path_ev_hor {p : List Int} (hp : isP p = true) (out : List (List Int)) (hout : shp p out) (c : Nat) (m : Nat) : ∀ (i j : Nat) (y : List (List Int)), i + (9 - j) ≤ m → c ≤ j → (j : Int) < wd p i → mid p y i j → strict y i j →
    ∃ (y' : List (List Int)) (out' : List (List Int)), rpp p y' ∧ shp p out' ∧ tots y' < tots y ∧
      (∀ res, Ev (fun k => spec_HooksOfReverse.l0 k p y' out') res → Ev (fun k => spec_HooksOfReverse.l2 k p y out c j i) res) ∧
      (∀ res, Ev (fun k => (impl_start.f k y').bind fun bt => impl_HooksOfReverse.l1 k p y' out' bt.1 bt.2) res → Ev (fun k => impl_HooksOfReverse.l2 k p y out c i j) res) := by
  have h9 := isP_length hp
  induction m with
  | zero =>
    intro i j y hm hc hj _ _
    have := wd_9 hp i
    omega
  | succ m ih =>
    intro i j y hm hc hj hmid hs
    have hw9 := wd_9 hp i
    have hi := wd_lt hj
    have hiy : i < y.length := by rw [hmid.1.1]; exact hi
    have hrow := shp_row hmid.1 i
    have hjy : j < (y.getD i []).length := by omega
    have hcr := inR_cell hmid.2.1 i j
    have hstep0 := mid_step hp hj hmid hs
    have htot := tots_putc y i j (cell y i j - 1) hiy hjy
    obtain ⟨n, hn⟩ : ∃ n, n = cell y i j := ⟨_, rfl⟩
    obtain ⟨y1, hy1⟩ : ∃ y1, y1 = putc y i j (n - 1) := ⟨_, rfl⟩
    rw [← hn] at hstep0 htot
    rw [← hy1] at hstep0 htot
    have hstep := Aside0.mk hstep0
    clear hstep0
    have hyS : y.set ((i : Nat) : Int).toNat ((rd_L2 y (i : Int)).set ((j : Nat) : Int).toNat (wrap64 (rd (rd_L2 y (i : Int)) (j : Int) - 1))) = y1 := by
      have wn : Aside0 (wrap64 (n - 1) = n - 1) := ⟨wr_in (by omega) (by omega)⟩
      rw [rd_cell, rdL_D, ← hn, wn.out, Int.toNat_natCast, Int.toNat_natCast, hy1]
      unfold putc
      exact Eq.refl _
    have hs1 : shp p y1 := by rw [hy1]; exact shp_putc hmid.1 i j _ hi
    have wj : Aside0 (wrap64 ((j : Int) + 1) = ((j + 1 : Nat) : Int)) := ⟨wr1 (by omega)⟩
    have hlen : (j : Int) < ((rd_L2 y (i : Int)).length : Int) := by rw [rdL_D]; omega
    have hn0 : 0 < n := by rw [hn]; exact hs.1
    -- up or not
    have wi : Aside0 (0 < i → wrap64 ((i : Int) - 1) = ((i - 1 : Nat) : Int)) := ⟨fun h => wrm1_hor h (by omega)⟩
    have hrow1 : Aside0 (0 < i → (j : Int) < ((rd_L2 y1 ((i - 1 : Nat) : Int)).length : Int)) := ⟨fun h => by
      rw [rdL_D]
      have h1 := shp_row hs1 (i - 1)
      have h2 := wd_desc hp (i - 1)
      rw [show i - 1 + 1 = i by omega] at h2
      omega⟩
    have hlen1 : y1.length = p.length := hs1.1
    have hup1 : Aside0 (0 < i → cell y1 (i - 1) j = cell y (i - 1) j) := ⟨fun h => by
      rw [hy1, cell_putc y i j _ hiy hjy, if_neg (by omega)]⟩
    -- what both do at the choice
    have both : ∀ (b : Bool), (b = decide (0 < i ∧ cell y (i - 1) j = n)) → ∀ res,
        (Ev (fun k => spec_HooksOfReverse.j5 k p y1 out c j i b) res → Ev (fun k => spec_HooksOfReverse.l2 k p y out c j i) res) ∧
        (Ev (fun k => impl_HooksOfReverse.j4 k p y1 out c i j b) res → Ev (fun k => impl_HooksOfReverse.l2 k p y out c i j) res) := by
      intro b hb0 res
      have hb := Aside0.mk hb0
      clear hb0
      constructor
      · intro h
        refine Ev.step (fun k => by rw [spec_HooksOfReverse.l2]) ?_
        refine Ev.ite_true (by omega) (Ev.ite_true (by omega) (Ev.ite_true (by omega) (Ev.ite_true hlen ?_)))
        rw [hyS, rd_cell, ← hn]
        refine Ev.bind (Ev.now _) ?_
        by_cases h0 : 0 < i
        · rw [wi.out h0, rd_cell, hup1.out h0]
          refine Ev.ite_true (by omega) (Ev.ite_true (by omega) (Ev.ite_true (by omega) (Ev.ite_true (hrow1.out h0) ?_)))
          have e : (cell y (i - 1) j == n) = b := by rw [hb.out, beq_dec_hor]; simp [h0]
          rw [e]; exact h
        · have e : b = false := by rw [hb.out]; exact decide_eq_false (fun h => h0 h.1)
          rw [e] at h
          exact Ev.ite_false (by omega) h
      · intro h
        refine Ev.step (fun k => by rw [impl_HooksOfReverse.l2]) ?_
        refine Ev.ite_true (by omega) (Ev.ite_true (by omega) (Ev.ite_true (by omega) (Ev.ite_true hlen ?_)))
        rw [hyS, rd_cell, ← hn]
        refine Ev.bind (Ev.now _) ?_
        by_cases h0 : 0 < i
        · rw [wi.out h0, rd_cell, hup1.out h0]
          refine Ev.ite_true (by omega) (Ev.ite_true (by omega) (Ev.ite_true (by omega) (Ev.ite_true (hrow1.out h0) ?_)))
          by_cases h1 : cell y (i - 1) j = n
          · have e : b = true := by rw [hb.out]; exact decide_eq_true ⟨h0, h1⟩
            rw [e] at h
            refine Ev.ite_true h1 ?_
            rw [show (n != 0) = true by rw [bne_iff_ne]; omega]
            exact h
          · have e : b = false := by rw [hb.out]; exact decide_eq_false (fun h => h1 h.2)
            rw [e] at h
            exact Ev.ite_false h1 h
        · have e : b = false := by rw [hb.out]; exact decide_eq_false (fun h => h0 h.1)
          rw [e] at h
          exact Ev.ite_false (by omega) h
    rcases Classical.em (0 < i ∧ cell y (i - 1) j = n) with hu | hu
    · obtain ⟨g1, g2⟩ := hstep.out.1 hu
      have hw := wd_desc hp (i - 1)
      rw [show i - 1 + 1 = i by omega] at hw
      obtain ⟨y', out', r1, r2, r3, r4, r5⟩ := ih (i - 1) j y1 (by omega) hc (by omega) g1 g2
      refine ⟨y', out', r1, r2, by omega, fun res hres => ?_, fun res hres => ?_⟩
      · refine (both true (decide_eq_true hu).symm res).1 (Ev.step (fun k => by rw [spec_HooksOfReverse.j5]) (Ev.ite_true rfl ?_))
        rw [wi.out hu.1]; exact r4 res hres
      · refine (both true (decide_eq_true hu).symm res).2 (Ev.step (fun k => by rw [impl_HooksOfReverse.j4]) (Ev.ite_true rfl ?_))
        rw [wi.out hu.1]; exact r5 res hres
    · obtain ⟨g1, g2⟩ := hstep.out.2 hu
      by_cases hj1 : ((j + 1 : Nat) : Int) < wd p i
      · obtain ⟨y', out', r1, r2, r3, r4, r5⟩ := ih i (j + 1) y1 (by omega) (by omega) hj1 (rpp_mid g1 _ _) (g2 hj1)
        refine ⟨y', out', r1, r2, by omega, fun res hres => ?_, fun res hres => ?_⟩
        · refine (both false (decide_eq_false hu).symm res).1 (Ev.step (fun k => by rw [spec_HooksOfReverse.j5]) (Ev.ite_false (by simp) (Ev.ite_true (by omega) (Ev.ite_true (by omega) ?_))))
          rw [wj.out, rd_wd]
          exact Ev.ite_false (by omega) (r4 res hres)
        · refine (both false (decide_eq_false hu).symm res).2 (Ev.step (fun k => by rw [impl_HooksOfReverse.j4]) (Ev.ite_false (by simp) (Ev.ite_true (by omega) (Ev.ite_true (by omega) ?_))))
          rw [wj.out, rd_wd]
          exact Ev.ite_true hj1 (r5 res hres)
      · have hol : i < out.length := by rw [hout.1]; exact hi
        have horow := shp_row hout i
        have hoc : (c : Int) < ((rd_L2 out (i : Int)).length : Int) := by rw [rdL_D]; omega
        refine ⟨y1, putc out i c (wrap64 (cell out i c + 1)), g1, shp_putc hout i c _ hi, by omega, fun res hres => ?_, fun res hres => ?_⟩
        · refine (both false (decide_eq_false hu).symm res).1 (Ev.step (fun k => by rw [spec_HooksOfReverse.j5]) (Ev.ite_false (by simp) (Ev.ite_true (by omega) (Ev.ite_true (by omega) ?_))))
          rw [wj.out, rd_wd]
          refine Ev.ite_true (by omega) (Ev.ite_true (by omega) (Ev.ite_true (by omega) (Ev.ite_true hoc ?_)))
          rw [rd_cell, rdL_D, Int.toNat_natCast, Int.toNat_natCast]
          exact hres
        · refine (both false (decide_eq_false hu).symm res).2 (Ev.step (fun k => by rw [impl_HooksOfReverse.j4]) (Ev.ite_false (by simp) (Ev.ite_true (by omega) (Ev.ite_true (by omega) ?_))))
          rw [wj.out, rd_wd]
          refine Ev.ite_false (by omega) (Ev.ite_true (by omega) (Ev.ite_true (by omega) (Ev.ite_true hoc ?_)))
          rw [rd_cell, rdL_D, Int.toNat_natCast, Int.toNat_natCast]
          exact hres
/-- The reference looks for the last row that reaches the column. -/
theorem last_ev_hor {p : List Int} (hp : isP p = true) (y out : List (List Int)) (c : Nat) (hc : c < 9) (res : List (List Int) × Bool) (i0 : Nat) (h0 : colH p c = i0 + 1) (h : Ev (fun k => spec_HooksOfReverse.l2 k p y out c c i0) res) (d : Nat) : ∀ i : Nat, i + d = i0 → Ev (fun k => spec_HooksOfReverse.l1 k p y out c c i) res := by
  have h9 := isP_length hp
  have hle := colH_le (p := p) c
  induction d with
  | zero =>
    intro i hi
    obtain rfl : i = i0 := by omega
    have hj : Ev (fun k => spec_HooksOfReverse.j3 k p y out c c i) res := Ev.step (fun k => by rw [spec_HooksOfReverse.j3]) h
    refine Ev.step (fun k => by rw [spec_HooksOfReverse.l1]) ?_
    rw [wr1 (by omega)]
    by_cases h1 : i + 1 < p.length
    · refine Ev.ite_true (by omega) (Ev.ite_true (by omega) (Ev.ite_false ?_ hj))
      intro h2
      have h3 := (col_iff hp c (by omega) (i + 1) (by omega)).2 ⟨h1, by rw [rd_wd] at h2; exact h2⟩
      omega
    · exact Ev.ite_false (by omega) hj
  | succ d ih =>
    intro i hi
    obtain ⟨h1, h2⟩ := (col_iff hp c (by omega) (i + 1) (by omega)).1 (by omega)
    refine Ev.step (fun k => by rw [spec_HooksOfReverse.l1]) ?_
    rw [wr1 (by omega)]
    refine Ev.ite_true (by omega) (Ev.ite_true (by omega) (Ev.ite_true ?_ (ih (i + 1) (by omega))))
    rw [rd_wd]; exact h2
theorem rise_hor {p : List Int} {y : List (List Int)} (hp : isP p = true) (h : rpp p y) (c : Nat) (d : Nat) : ∀ i : Nat, (c : Int) < wd p (i + d) → cell y i c ≤ cell y (i + d) c := by
  induction d with
  | zero => intro i _; exact Int.le_refl _
  | succ d ih =>
    intro i hc
    have h1 := h.2.2.2 (i + d) c hc
    have h2 := wd_desc hp (i + d)
    have h3 := ih i (by rw [show i + (d + 1) = i + d + 1 by omega] at hc; omega)
    rw [show i + (d + 1) = i + d + 1 by omega]
    omega
def okRes_hor (p : List Int) (res : List (List Int) × Bool) : Prop := res.1 = [] ∨ shp p res.1
theorem main_ev_hor {p : List Int} (hp : isP p = true) (n : Nat) : ∀ (y out : List (List Int)), tots y ≤ n → rpp p y → shp p out →
    ∃ res, okRes_hor p res ∧ Ev (fun k => spec_HooksOfReverse.l0 k p y out) res ∧ Ev (fun k => (impl_start.f k y).bind fun bt => impl_HooksOfReverse.l1 k p y out bt.1 bt.2) res := by
  have h9 := isP_length hp
  induction n with
  | zero =>
    intro y out hn hy hout
    have h0 := tots_nonneg hy.2.1
    rcases first_ev_hor hp hy.1 hy.2.1 with ⟨g1, g2⟩ | ⟨c, _, g2, _⟩
    · obtain ⟨q1, q2⟩ := rows9_hor hp hy.1
      refine ⟨(out, true), .inr hout, ?_, ?_⟩
      · exact Ev.step (fun k => by rw [spec_HooksOfReverse.l0]) (Ev.bind (l27_ev_hor y q1 q2 hy.2.1) (Ev.ite_false (show ¬ tots y > 0 by omega) (Ev.now _)))
      · exact Ev.bind g1 (Ev.step (fun k => by rw [impl_HooksOfReverse.l1]) (Ev.ite_false (by simp) (Ev.now _)))
    · obtain ⟨i, hi⟩ := (hasB_iff_hor y c).1 g2
      have := cell_le_tots hy.2.1 i c
      omega
  | succ n ih =>
    intro y out hn hy hout
    obtain ⟨q1, q2⟩ := rows9_hor hp hy.1
    rcases first_ev_hor hp hy.1 hy.2.1 with ⟨g1, g2⟩ | ⟨c, hc9, g2, g3, g4, g5⟩
    · refine ⟨(out, true), .inr hout, ?_, ?_⟩
      · exact Ev.step (fun k => by rw [spec_HooksOfReverse.l0]) (Ev.bind (l27_ev_hor y q1 q2 hy.2.1) (Ev.ite_false (show ¬ tots y > 0 by omega) (Ev.now _)))
      · exact Ev.bind g1 (Ev.step (fun k => by rw [impl_HooksOfReverse.l1]) (Ev.ite_false (by simp) (Ev.now _)))
    · obtain ⟨i, hi⟩ := (hasB_iff_hor y c).1 g2
      have hle := cell_le_tots hy.2.1 i c
      have hic : (c : Int) < wd p i := by
        have := shp_row hy.1 i
        by_cases h : c < (y.getD i []).length
        · omega
        · unfold cell at hi
          rw [List.getD_eq_getElem?_getD, List.getElem?_eq_none (Nat.le_of_not_lt h)] at hi
          simp at hi
      have hip := wd_lt hic
      have hcol := (col_iff hp c (by omega) i (by omega)).2 ⟨hip, hic⟩
      have hcle := colH_le (p := p) c
      obtain ⟨i0, h0⟩ : ∃ i0, colH p c = i0 + 1 := ⟨colH p c - 1, by omega⟩
      have hi0 := (col_iff hp c (by omega) i0 (by omega)).1 (by omega)
      have hw0 : (c : Int) < wd p i0 := hi0.2
      have hr := rise_hor hp hy c (i0 - i) i (by rw [show i + (i0 - i) = i0 by omega]; exact hw0)
      rw [show i + (i0 - i) = i0 by omega] at hr
      have hs : strict y i0 c := by
        refine ⟨by omega, fun hc0 => ?_⟩
        have hz : ∀ a, cell y a (c - 1) ≤ 0 := fun a => by
          have h1 := g3 (c - 1) (by omega)
          by_cases h : 0 < cell y a (c - 1)
          · rw [(hasB_iff_hor y (c - 1)).2 ⟨a, h⟩] at h1; cases h1
          · omega
        have z1 := hz i0
        have z2 := hz (i0 - 1)
        exact ⟨by omega, fun _ => by omega⟩
      obtain ⟨y', out', r1, r2, r3, r4, r5⟩ := path_ev_hor hp out hout c (i0 + (9 - c)) i0 c y (by omega) (by omega) hw0 (rpp_mid hy _ _) hs
      obtain ⟨res, e1, e2, e3⟩ := ih y' out' (by omega) r1 r2
      refine ⟨res, e1, ?_, ?_⟩
      · refine Ev.step (fun k => by rw [spec_HooksOfReverse.l0]) (Ev.bind (l27_ev_hor y q1 q2 hy.2.1) (Ev.ite_true (show tots y > 0 by omega) (Ev.bind g5 ?_)))
        exact last_ev_hor hp y out c hc9 res i0 h0 (r4 res e2) i0 0 (by omega)
      · refine Ev.bind g4 (Ev.step (fun k => by rw [impl_HooksOfReverse.l1]) (Ev.ite_true rfl (Ev.bind (col_ev hp c (by omega)) ?_)))
        have w : wrap64 (((colH p c : Nat) : Int) - 1) = (i0 : Int) := by unfold wrap64; omega
        rw [w]
        exact r5 res e3
/-! The copies. -/
theorem copy_ev_hor (f : List (List Int)) (h9 : f.length ≤ 9) (hr : ∀ r ∈ f, r.length ≤ 9) : Ev (fun k => spec_l27Copy.f k f) f := by
  have loop : ∀ (d i : Nat), i + d = f.length → Ev (fun k => spec_l27Copy.l0 k f (f.take i) i) f := by
    intro d
    induction d with
    | zero =>
      intro i hi
      rw [List.take_of_length_le (by omega)]
      exact Ev.step (fun k => by simp only [spec_l27Copy.l0]; rfl) (Ev.ite_false (by omega) (Ev.now _))
    | succ d ih =>
      intro i hi
      have hlt : i < f.length := by omega
      have hx := hr _ (List.getElem_mem hlt)
      have hi5 : i < 4611686018427387904 := by omega
      have ht : (f.take i).length < 5864062014805 := by rw [List.length_take]; omega
      refine Ev.step (fun k => by simp only [spec_l27Copy.l0]; rfl) (Ev.ite_true (by omega) (Ev.bind (Ev.now _) (Ev.ite_true (by omega) ?_)))
      rw [rdL_nat f i hlt, List.nil_append, wr1 hi5, ← List.take_succ_eq_append_getElem hlt]
      exact Ev.ite_true (by simp; omega) (Ev.ite_true ht (ih (i + 1) (by omega)))
  have := loop f.length 0 (by omega)
  simpa [spec_l27Copy.f] using this
theorem xcp_all_hor (d s : List Int) (h : d.length = s.length) : xcp d s = s := by
  unfold xcp
  rw [h, List.take_length, List.drop_of_length_le (by omega), List.append_nil]
theorem fill_ev_hor {p : List Int} (hp : isP p = true) (f : List (List Int)) (hf : shp p f) (out : List (List Int)) (res : List (List Int) × Bool) (h : Ev (fun k => (impl_start.f k f).bind fun bt => impl_HooksOfReverse.l1 k p f out bt.1 bt.2) res) (d : Nat) : ∀ (i : Nat) (y : List (List Int)), i + d = f.length → shp p y → y.take i = f.take i → Ev (fun k => impl_HooksOfReverse.l0 k p y out f f.length i) res := by
  have h9 := isP_length hp
  have hfl := hf.1
  induction d with
  | zero =>
    intro i y hi hy ht
    have hyl := hy.1
    rw [List.take_of_length_le (by omega), List.take_of_length_le (by omega)] at ht
    subst ht
    exact Ev.step (fun k => by rw [impl_HooksOfReverse.l0]) (Ev.ite_false (by omega) h)
  | succ d ih =>
    intro i y hi hy ht
    have hyl := hy.1
    have hlt : i < f.length := by omega
    have hlp : i < p.length := by omega
    have hly : i < y.length := by omega
    have e1 := hf.2 i hlt hlp
    have e2 := hy.2 i hly hlp
    refine Ev.step (fun k => by rw [impl_HooksOfReverse.l0]) (Ev.ite_true (by omega) (Ev.ite_true (by omega) (Ev.ite_true (by omega) (Ev.ite_true (by omega) ?_))))
    rw [rdL_nat y i hly, rdL_nat f i hlt, xcp_all_hor _ _ (by omega), wr1 (by omega), Int.toNat_natCast]
    refine ih (i + 1) _ (by omega) (shp_set hy i hly _ (by omega)) ?_
    rw [take_set_succ y i _ hly, ht, List.take_succ_eq_append_getElem hlt]
theorem inR_fill_hor : ∀ (p : List Int) (f : List (List Int)), p.length = f.length → fillFrom p f = true → inR f
  | _, [], _, _ => fun r hr => by simp at hr
  | [], r :: rs, hl, _ => by simp at hl
  | p :: ps, r :: rs, hl, hf => by
    simp only [fillFrom, Bool.and_eq_true, List.all_eq_true] at hf
    intro x hx
    rcases List.mem_cons.1 hx with rfl | hx
    · intro n hn
      have := hf.2.1 n hn
      simp only [okF, decide_eq_true_eq] at this
      exact this
    · exact inR_fill_hor ps rs (by simpa using hl) hf.2.2 x hx
theorem same_hor (p : List Int) (f : List (List Int)) (hl : p.length ≤ 1048576) : ∃ res, (res.1.length ≤ 1048576 ∧ ∀ x ∈ res.1, x.length ≤ 1048576) ∧ Ev (fun k => spec_HooksOfReverse.f k p f) res ∧ Ev (fun k => impl_HooksOfReverse.f k p f) res := by
  obtain ⟨b, h1, h2, h3, _⟩ := rev_same p f hl
  have n1 : Ev (fun k => spec_HooksOfReverse.j0 k p f true) (([], false) : List (List Int) × Bool) := Ev.step (fun k => by rw [spec_HooksOfReverse.j0]) (Ev.ite_true rfl (Ev.now _))
  have n2 : Ev (fun k => impl_HooksOfReverse.j0 k p f true) (([], false) : List (List Int) × Bool) := Ev.step (fun k => by rw [impl_HooksOfReverse.j0]) (Ev.ite_true rfl (Ev.now _))
  cases b with
  | false =>
    refine ⟨([], false), ⟨by simp, by simp⟩, ?_, ?_⟩
    · unfold spec_HooksOfReverse.f
      exact Ev.bind h1 (Ev.ite_false (by simp) n1)
    · unfold impl_HooksOfReverse.f
      exact Ev.bind h2 (Ev.ite_false (by simp) n2)
  | true =>
    obtain ⟨hF, hR⟩ := h3 rfl
    simp only [isF, Bool.and_eq_true, decide_eq_true_eq] at hF
    obtain ⟨hp, hlen, hfill⟩ := hF
    have hf : shp p f := ⟨hlen, fun i h h' => fillFrom_get p f hlen.symm hfill i h' h⟩
    have hin := inR_fill_hor p f hlen.symm hfill
    have hrpp : rpp p f := by
      refine ⟨hf, hin, fun a b hab => ?_, fun a b hab => ?_⟩
      · have ha := wd_lt hab
        have := (hR a (b + 1) (by omega) ha hab).1 (by omega)
        simpa [cell] using this
      · have ha := wd_lt hab
        have := (hR (a + 1) b (by omega) ha hab).2 (by omega)
        simpa [cell] using this
    obtain ⟨q1, q2⟩ := rows9_hor hp hf
    have t1 := l27_ev_hor f q1 q2 hin
    have t2 := nums_impl f q2 q1
    have t3 := implTotal_ev_hor f q1 q2 hin
    have hz := zeros_ev hp
    have hzs := noughts_shp hp
    by_cases h20 : tots f > 20
    · refine ⟨([], false), ⟨by simp, by simp⟩, ?_, ?_⟩
      · unfold spec_HooksOfReverse.f
        refine Ev.bind h1 (Ev.ite_true rfl (Ev.bind t1 ?_))
        rw [decide_eq_true h20]; exact n1
      · unfold impl_HooksOfReverse.f
        refine Ev.bind h2 (Ev.ite_true rfl (Ev.bind t2 (Ev.bind t3 ?_)))
        rw [decide_eq_true h20]; exact n2
    · have h0 := tots_nonneg hin
      obtain ⟨res, e1, e2, e3⟩ := main_ev_hor hp (tots f).toNat f (noughts p) (by omega) hrpp hzs
      refine ⟨res, ?_, ?_, ?_⟩
      · rcases e1 with e | e
        · rw [e]; simp
        · obtain ⟨z1, z2⟩ := rows9_hor hp e
          exact ⟨by omega, fun x hx => by have := z2 x hx; omega⟩
      · unfold spec_HooksOfReverse.f
        refine Ev.bind h1 (Ev.ite_true rfl (Ev.bind t1 ?_))
        rw [decide_eq_false h20]
        exact Ev.step (fun k => by rw [spec_HooksOfReverse.j0]) (Ev.ite_false (by simp) (Ev.bind (copy_ev_hor f q1 q2) (Ev.bind hz.1 e2)))
      · unfold impl_HooksOfReverse.f
        refine Ev.bind h2 (Ev.ite_true rfl (Ev.bind t2 (Ev.bind t3 ?_)))
        rw [decide_eq_false h20]
        refine Ev.step (fun k => by rw [impl_HooksOfReverse.j0]) (Ev.ite_false (by simp) (Ev.bind hz.2 (Ev.bind hz.2 ?_)))
        exact fill_ev_hor hp f hf (noughts p) res e3 f.length 0 (noughts p) (by omega) hzs rfl
theorem ite_dec_roh (P : Prop) [Decidable P] : (if P then some true else some false) = some (decide P) := by by_cases h : P <;> simp [h]
theorem st_eq_roh : spec_l27Back.st = impl_raise.st := rfl
theorem path_ev_roh {p : List Int} (hp : isP p = true) (e : Nat) (m : Nat) : ∀ (r c : Nat) (y : List (List Int)) (hr : r < p.length), shp p y → (c : Int) < p[r] → e ≤ c → p.length - r + c ≤ m →
    ∃ y', shp p y' ∧ Ev (fun k => spec_l27Back.l0 k p y r c e) y' ∧ Ev (fun k => impl_raise.l0 k p y r c e) y' := by
  have h9 := isP_length hp
  induction m with
  | zero => intro r c y hr hy hc he hm; omega
  | succ m ih =>
    intro r c y hr hy hc he hm
    have hry : r < y.length := by rw [hy.1]; exact hr
    have hrow := hy.2 r hry hr
    have hp9 := isP_get hp r hr
    have hcl : c < y[r].length := by omega
    have hrd : rd_L2 y (r : Int) = y[r] := rdL_nat y r hry
    obtain ⟨y1, hy1⟩ : ∃ y_, y_ = spec_l27Back.st y r c := ⟨_, rfl⟩
    have hy1' : y1 = impl_raise.st y r c := hy1
    have hs : shp p y1 := by
      rw [hy1]
      unfold spec_l27Back.st
      rw [hrd, Int.toNat_natCast, Int.toNat_natCast]
      exact shp_set hy r hry _ (by rw [List.length_set])
    have hcond : (0 ≤ (r : Int) ∧ (r : Int) < (y.length : Int)) ∧ (0 ≤ (c : Int) ∧ (c : Int) < ((rd_L2 y (r : Int)).length : Int)) := by
      rw [hrd]; omega
    have W1 : Aside0 (wrap64 ((r : Int) + 1) = ((r + 1 : Nat) : Int)) := ⟨wr1 (by omega)⟩
    have hc10 : c < 10 := by omega
    -- both look alike
    have hup : ∃ b : Bool, Ev (fun k => spec_l27Back.up k p y1 r c (rd (rd_L2 y (r : Int)) c)) b ∧ Ev (fun k => impl_raise.up k p y1 r c (rd (rd_L2 y (r : Int)) c)) b ∧ (b = true → ∃ h : r + 1 < p.length, (c : Int) < p[r + 1]) := by
      by_cases h1 : r + 1 < colH p c
      · have h2 := (col_iff hp c hc10 (r + 1) (by omega)).1 h1
        obtain ⟨h3, h4⟩ := h2
        rw [List.getD_eq_getElem?_getD, List.getElem?_eq_getElem h3, Option.getD_some] at h4
        have hry1 : r + 1 < y1.length := by rw [hs.1]; exact h3
        have hl := hs.2 (r + 1) hry1 h3
        have hq : wrap64 ((r : Int) + 1) < (y1.length : Int) ∧ (c : Int) < ((rd_L2 y1 (wrap64 ((r : Int) + 1))).length : Int) := by
          rw [W1.out, rdL_nat y1 (r + 1) hry1]; omega
        refine ⟨decide (rd (rd_L2 y1 (wrap64 ((r : Int) + 1))) c = rd (rd_L2 y (r : Int)) c), ?_, ?_, fun _ => ⟨h3, h4⟩⟩
        · refine ⟨0, fun k _ => ?_⟩
          unfold spec_l27Back.up
          rw [if_pos (by rw [W1.out]; omega), if_pos (by rw [W1.out]; omega), if_pos (by rw [W1.out, rd_nat p (r + 1) h3]; exact h4), if_pos hq]
          exact ite_dec_roh _
        · unfold impl_raise.up
          refine Ev.bind (col_ev hp c hc10) ?_
          refine ⟨0, fun k _ => ?_⟩
          rw [if_pos (by rw [W1.out]; omega), if_pos (by rw [W1.out]; omega), if_pos hq]
          exact ite_dec_roh _
      · refine ⟨false, ?_, ?_, fun h => by cases h⟩
        · refine ⟨0, fun k _ => ?_⟩
          unfold spec_l27Back.up
          by_cases h3 : r + 1 < p.length
          · rw [if_pos (by rw [W1.out]; omega), if_pos (by rw [W1.out]; omega), if_neg]
            rw [W1.out, rd_nat p (r + 1) h3]
            intro h4
            exact h1 ((col_iff hp c hc10 (r + 1) (by omega)).2 ⟨h3, by rw [List.getD_eq_getElem?_getD, List.getElem?_eq_getElem h3, Option.getD_some]; exact h4⟩)
          · rw [if_neg (by rw [W1.out]; omega)]
        · unfold impl_raise.up
          refine Ev.bind (col_ev hp c hc10) ?_
          exact Ev.ite_false (by rw [W1.out]; omega) (Ev.now _)
    obtain ⟨b, hu1, hu2, hb⟩ := hup
    cases b with
    | true =>
      obtain ⟨h3, h4⟩ := hb rfl
      obtain ⟨y', g1, g2, g3⟩ := ih (r + 1) c y1 h3 hs h4 he (by omega)
      refine ⟨y', g1, ?_, ?_⟩
      · refine Ev.step (fun k => by rw [spec_l27Back.l0]) (Ev.ite_true hcond ?_)
        rw [← hy1]
        refine Ev.bind hu1 (Ev.ite_true rfl ?_)
        rw [W1.out]; exact g2
      · refine Ev.step (fun k => by rw [impl_raise.l0]) (Ev.ite_true hcond ?_)
        rw [← hy1']
        refine Ev.bind hu2 (Ev.ite_true rfl ?_)
        rw [W1.out]; exact g3
    | false =>
      by_cases hce : c = e
      · refine ⟨y1, hs, ?_, ?_⟩
        · refine Ev.step (fun k => by rw [spec_l27Back.l0]) (Ev.ite_true hcond ?_)
          rw [← hy1]
          exact Ev.bind hu1 (Ev.ite_false (by simp) (Ev.ite_true (by omega) (Ev.now _)))
        · refine Ev.step (fun k => by rw [impl_raise.l0]) (Ev.ite_true hcond ?_)
          rw [← hy1']
          exact Ev.bind hu2 (Ev.ite_false (by simp) (Ev.ite_false (by omega) (Ev.now _)))
      · have w2 : wrap64 ((c : Int) - 1) = ((c - 1 : Nat) : Int) := by unfold wrap64; omega
        obtain ⟨y', g1, g2, g3⟩ := ih r (c - 1) y1 hr hs (by omega) (by omega) (by omega)
        refine ⟨y', g1, ?_, ?_⟩
        · refine Ev.step (fun k => by rw [spec_l27Back.l0]) (Ev.ite_true hcond ?_)
          rw [← hy1]
          refine Ev.bind hu1 (Ev.ite_false (by simp) (Ev.ite_false (by omega) ?_))
          rw [w2]; exact g2
        · refine Ev.step (fun k => by rw [impl_raise.l0]) (Ev.ite_true hcond ?_)
          rw [← hy1']
          refine Ev.bind hu2 (Ev.ite_false (by simp) (Ev.ite_true (by omega) ?_))
          rw [w2]; exact g3
theorem back_ev_roh {p : List Int} (hp : isP p = true) (r c : Nat) (hr : r < p.length) (hc : (c : Int) < p[r]) (y : List (List Int)) (hy : shp p y) : ∃ y', shp p y' ∧ Ev (fun k => spec_l27Back.f k p y r c) y' ∧ Ev (fun k => impl_raise.f k p y r c) y' := by
  have hp9 := isP_get hp r hr
  obtain ⟨n, hn⟩ : ∃ n : Nat, (n : Int) = p[r] - 1 := ⟨(p[r] - 1).toNat, by omega⟩
  have w : wrap64 (rd p (r : Int) - 1) = (n : Int) := by rw [rd_nat p r hr]; unfold wrap64; omega
  obtain ⟨y', g1, g2, g3⟩ := path_ev_roh hp c (p.length - r + n) r n y hr hy (by omega) (by omega) (by omega)
  refine ⟨y', g1, ?_, ?_⟩
  · unfold spec_l27Back.f
    refine Ev.ite_true (by omega) ?_
    rw [w]; exact g2
  · unfold impl_raise.f
    refine Ev.ite_true (by omega) ?_
    rw [w]; exact g3
def okR_roh (p : List Int) (res : List (List Int) × Bool) : Prop := res.1 = [] ∨ shp p res.1
theorem l2_ev_roh {p : List Int} {f : List (List Int)} (hp : isP p = true) (hf : shp p f) (r c : Nat) (hr : r < p.length) (hc : (c : Int) < p[r]) (hrf : r < f.length) (hcf : c < f[r].length) (hn : f[r][c] ≤ 9) (col : Int)
    (next : ∀ y, shp p y → ∃ res, okR_roh p res ∧ Ev (fun k => spec_ReverseOfHooks.l1 k p f y c ((r + 1 : Nat) : Int)) res ∧ Ev (fun k => impl_ReverseOfHooks.l1 k p f y c col ((r + 1 : Nat) : Int)) res) (d : Nat) :
    ∀ (j : Nat) (y : List (List Int)), f[r][c] ≤ (j : Int) + d → j ≤ 9 → shp p y → ∃ res, okR_roh p res ∧ Ev (fun k => spec_ReverseOfHooks.l2 k p f y c r j) res ∧ Ev (fun k => impl_ReverseOfHooks.l2 k p f y c r col r f[r][c] j) res := by
  have h9 := isP_length hp
  have hrow := hf.2 r hrf hr
  have e1 : rd_L2 f (r : Int) = f[r] := rdL_nat f r hrf
  have e2 : rd f[r] (c : Int) = f[r][c] := rd_nat f[r] c hcf
  induction d with
  | zero =>
    intro j y hj hj9 hy
    obtain ⟨res, g1, g2, g3⟩ := next y hy
    refine ⟨res, g1, ?_, ?_⟩
    · refine Ev.step (fun k => by rw [spec_ReverseOfHooks.l2]) ?_
      refine Ev.ite_true (by omega) (Ev.ite_true (by omega) (Ev.ite_true (by rw [rd_nat p r hr]; exact hc) (Ev.ite_true (by omega) (Ev.ite_true (by omega) (Ev.ite_true (by rw [e1]; omega) (Ev.ite_false (by rw [e1, e2]; omega) ?_))))))
      rw [wr1 (by omega)]; exact g2
    · refine Ev.step (fun k => by rw [impl_ReverseOfHooks.l2]) (Ev.ite_false (by omega) ?_)
      rw [wr1 (by omega)]; exact g3
  | succ d ih =>
    intro j y hj hj9 hy
    by_cases hlt : (j : Int) < f[r][c]
    · obtain ⟨y1, hy1, b1, b2⟩ := back_ev_roh hp r c hr hc y hy
      obtain ⟨res, g1, g2, g3⟩ := ih (j + 1) y1 (by omega) (by omega) hy1
      refine ⟨res, g1, ?_, ?_⟩
      · refine Ev.step (fun k => by rw [spec_ReverseOfHooks.l2]) ?_
        refine Ev.ite_true (by omega) (Ev.ite_true (by omega) (Ev.ite_true (by rw [rd_nat p r hr]; exact hc) (Ev.ite_true (by omega) (Ev.ite_true (by omega) (Ev.ite_true (by rw [e1]; omega) (Ev.ite_true (by rw [e1, e2]; omega) ?_))))))
        refine Ev.bind b1 ?_
        rw [wr1 (by omega)]; exact g2
      · refine Ev.step (fun k => by rw [impl_ReverseOfHooks.l2]) (Ev.ite_true (by omega) ?_)
        refine Ev.bind b2 ?_
        rw [wr1 (by omega)]; exact g3
    · obtain ⟨res, g1, g2, g3⟩ := next y hy
      refine ⟨res, g1, ?_, ?_⟩
      · refine Ev.step (fun k => by rw [spec_ReverseOfHooks.l2]) ?_
        refine Ev.ite_true (by omega) (Ev.ite_true (by omega) (Ev.ite_true (by rw [rd_nat p r hr]; exact hc) (Ev.ite_true (by omega) (Ev.ite_true (by omega) (Ev.ite_true (by rw [e1]; omega) (Ev.ite_false (by rw [e1, e2]; omega) ?_))))))
        rw [wr1 (by omega)]; exact g2
      · refine Ev.step (fun k => by rw [impl_ReverseOfHooks.l2]) (Ev.ite_false (by omega) ?_)
        rw [wr1 (by omega)]; exact g3
theorem skip_ev_roh {p : List Int} {f : List (List Int)} (hp : isP p = true) (c : Nat) (hc : c < 10) (y : List (List Int)) (res : List (List Int) × Bool) (h0 : Ev (fun k => spec_ReverseOfHooks.l0 k p f y (wrap64 ((c : Int) - 1))) res) (d : Nat) :
    ∀ r : Nat, r + d = p.length → colH p c ≤ r → Ev (fun k => spec_ReverseOfHooks.l1 k p f y c r) res := by
  have h9 := isP_length hp
  induction d with
  | zero =>
    intro r hr _
    exact Ev.step (fun k => by rw [spec_ReverseOfHooks.l1]) (Ev.ite_false (by omega) h0)
  | succ d ih =>
    intro r hr hcr
    have hlt : r < p.length := by omega
    have hn : ¬ (c : Int) < p[r] := fun h => by
      have := (col_iff hp c hc r (by omega)).2 ⟨hlt, by rw [List.getD_eq_getElem?_getD, List.getElem?_eq_getElem hlt, Option.getD_some]; exact h⟩
      omega
    refine Ev.step (fun k => by rw [spec_ReverseOfHooks.l1]) (Ev.ite_true (by omega) ?_)
    refine Ev.step (fun k => by rw [spec_ReverseOfHooks.l2]) (Ev.ite_true (by omega) (Ev.ite_true (by omega) (Ev.ite_false (by rw [rd_nat p r hlt]; exact hn) ?_)))
    rw [wr1 (by omega)]
    exact ih (r + 1) (by omega) (by omega)
theorem l1_ev_roh {p : List Int} {f : List (List Int)} (hp : isP p = true) (hf : shp p f) (hn : ∀ x ∈ f, ∀ n ∈ x, n ≤ 9) (c : Nat) (hc : c < 10)
    (next : ∀ y, shp p y → ∃ res, okR_roh p res ∧ Ev (fun k => spec_ReverseOfHooks.l0 k p f y (wrap64 ((c : Int) - 1))) res ∧ Ev (fun k => impl_ReverseOfHooks.l0 k p f y (wrap64 ((c : Int) - 1))) res) (d : Nat) :
    ∀ (r : Nat) (y : List (List Int)), r + d = colH p c → shp p y → ∃ res, okR_roh p res ∧ Ev (fun k => spec_ReverseOfHooks.l1 k p f y c r) res ∧ Ev (fun k => impl_ReverseOfHooks.l1 k p f y c ((colH p c : Nat) : Int) r) res := by
  have h9 := isP_length hp
  have hcl := colH_le (p := p) c
  induction d with
  | zero =>
    intro r y hr hy
    obtain ⟨res, g1, g2, g3⟩ := next y hy
    refine ⟨res, g1, skip_ev_roh hp c hc y res g2 (p.length - r) r (by omega) (by omega), ?_⟩
    exact Ev.step (fun k => by rw [impl_ReverseOfHooks.l1]) (Ev.ite_false (by omega) g3)
  | succ d ih =>
    intro r y hr hy
    have h2 := (col_iff hp c hc r (by omega)).1 (by omega)
    obtain ⟨hlt, h4⟩ := h2
    rw [List.getD_eq_getElem?_getD, List.getElem?_eq_getElem hlt, Option.getD_some] at h4
    have hrf : r < f.length := by rw [hf.1]; exact hlt
    have hrow := hf.2 r hrf hlt
    have hcf : c < f[r].length := by omega
    have hn9 := hn f[r] (List.getElem_mem hrf) f[r][c] (List.getElem_mem hcf)
    obtain ⟨res, g1, g2, g3⟩ := l2_ev_roh hp hf r c hlt h4 hrf hcf hn9 ((colH p c : Nat) : Int) (fun y hy => ih (r + 1) y (by omega) hy) (f[r][c]).toNat 0 y (by omega) (by omega) hy
    refine ⟨res, g1, ?_, ?_⟩
    · exact Ev.step (fun k => by rw [spec_ReverseOfHooks.l1]; rfl) (Ev.ite_true (by omega) g2)
    · refine Ev.step (fun k => by rw [impl_ReverseOfHooks.l1]) (Ev.ite_true (by omega) (Ev.ite_true (by omega) (Ev.ite_true (by omega) (Ev.ite_true (by omega) (Ev.ite_true (by rw [rdL_nat f r hrf]; omega) ?_)))))
      rw [rdL_nat f r hrf, rd_nat f[r] c hcf]
      exact g3
theorem end_ev_roh {p : List Int} {f : List (List Int)} (hl : p.length ≤ 1048576) (y : List (List Int)) (hy : shp p y) : ∃ res, okR_roh p res ∧ Ev (fun k => spec_ReverseOfHooks.l0 k p f y (-1)) res ∧ Ev (fun k => impl_ReverseOfHooks.l0 k p f y (-1)) res := by
  have h1 := specFill_ev p y hl
  have h2 := implFill_ev p y hl
  cases h : isF p y
  · rw [h] at h1 h2
    refine ⟨([], false), .inl rfl, ?_, ?_⟩
    · exact Ev.step (fun k => by rw [spec_ReverseOfHooks.l0]) (Ev.ite_false (by omega) (Ev.bind h1 (Ev.ite_false Bool.false_ne_true (Ev.now _))))
    · exact Ev.step (fun k => by rw [impl_ReverseOfHooks.l0]) (Ev.ite_false (by omega) (Ev.bind h2 (Ev.ite_false Bool.false_ne_true (Ev.now _))))
  · rw [h] at h1 h2
    refine ⟨(y, true), .inr hy, ?_, ?_⟩
    · exact Ev.step (fun k => by rw [spec_ReverseOfHooks.l0]) (Ev.ite_false (by omega) (Ev.bind h1 (Ev.ite_true rfl (Ev.now _))))
    · exact Ev.step (fun k => by rw [impl_ReverseOfHooks.l0]) (Ev.ite_false (by omega) (Ev.bind h2 (Ev.ite_true rfl (Ev.now _))))
theorem l0_ev_roh {p : List Int} {f : List (List Int)} (hp : isP p = true) (hl : p.length ≤ 1048576) (hf : shp p f) (hn : ∀ x ∈ f, ∀ n ∈ x, n ≤ 9) : ∀ (c : Nat) (y : List (List Int)), c ≤ 10 → shp p y → ∃ res, okR_roh p res ∧ Ev (fun k => spec_ReverseOfHooks.l0 k p f y ((c : Int) - 1)) res ∧ Ev (fun k => impl_ReverseOfHooks.l0 k p f y ((c : Int) - 1)) res
  | 0, y, _, hy => end_ev_roh hl y hy
  | c + 1, y, hc, hy => by
    have e : (((c + 1 : Nat) : Int) - 1) = (c : Int) := by omega
    have w : wrap64 ((c : Int) - 1) = (c : Int) - 1 := by unfold wrap64; omega
    obtain ⟨res, g1, g2, g3⟩ := l1_ev_roh hp hf hn c (by omega) (fun y hy => by rw [w]; exact l0_ev_roh hp hl hf hn c y (by omega) hy) (colH p c) 0 y (by omega) hy
    rw [e]
    refine ⟨res, g1, ?_, ?_⟩
    · exact Ev.step (fun k => by rw [spec_ReverseOfHooks.l0]; rfl) (Ev.ite_true (by omega) g2)
    · refine Ev.step (fun k => by rw [impl_ReverseOfHooks.l0]) (Ev.ite_true (by omega) (Ev.bind (col_ev hp c (by omega)) ?_))
      exact g3
theorem high_ev_roh {p : List Int} {f : List (List Int)} (hp : isP p = true) (y : List (List Int)) (res : List (List Int) × Bool) (b : Nat) (hb : ∀ i (h : i < p.length), p[i] ≤ (b : Int)) (h0 : Ev (fun k => spec_ReverseOfHooks.l0 k p f y ((b : Int) - 1)) res) (d : Nat) : b + d ≤ 10 → Ev (fun k => spec_ReverseOfHooks.l0 k p f y (((b + d : Nat) : Int) - 1)) res := by
  induction d with
  | zero => intro _; exact h0
  | succ d ih =>
    intro hd
    have e : (((b + (d + 1) : Nat) : Int) - 1) = ((b + d : Nat) : Int) := by omega
    have w : wrap64 (((b + d : Nat) : Int) - 1) = ((b + d : Nat) : Int) - 1 := by unfold wrap64; omega
    have hz : colH p ((b + d : Nat) : Int) ≤ 0 := by
      rcases Nat.eq_zero_or_pos (colH p ((b + d : Nat) : Int)) with h | h
      · omega
      · have h2 := (col_iff hp (b + d) (by omega) 0 (by omega)).1 h
        obtain ⟨h3, h4⟩ := h2
        rw [List.getD_eq_getElem?_getD, List.getElem?_eq_getElem h3, Option.getD_some] at h4
        have := hb 0 h3
        omega
    rw [e]
    refine Ev.step (fun k => by rw [spec_ReverseOfHooks.l0]) (Ev.ite_true (by omega) ?_)
    exact skip_ev_roh hp (b + d) (by omega) y res (by rw [w]; exact ih (by omega)) p.length 0 (by omega) hz
theorem desc0_roh {p : List Int} (hp : isP p = true) : ∀ (i : Nat) (h : i < p.length), p[i] ≤ p.getD 0 0
  | 0, h => by simp [h]
  | i + 1, h => Int.le_trans (isP_desc hp i h) (desc0_roh hp i (by omega))
theorem fill_small_roh : ∀ (p : List Int) (f : List (List Int)), p.length = f.length → fillFrom p f = true → ∀ x ∈ f, ∀ n ∈ x, n ≤ 9
  | _, [], _, _, x, hx => by simp at hx
  | [], r :: rs, hl, _, x, hx => by simp at hl
  | p :: ps, r :: rs, hl, hf, x, hx => by
    simp only [fillFrom, Bool.and_eq_true, List.all_eq_true] at hf
    rcases List.mem_cons.1 hx with rfl | hx
    · intro n hn
      have := hf.2.1 n hn
      simp only [okF, decide_eq_true_eq] at this
      exact this.2
    · exact fill_small_roh ps rs (by simpa using hl) hf.2.2 x hx
theorem at_f_roh (p : List Int) (hl : p.length ≤ 1048576) : impl_at.f p 0 = some (p.getD 0 0) := by
  unfold impl_at.f
  rw [within_f, Option.bind_some]
  cases p with
  | nil => rw [show wrap64 ((([] : List Int).length : Int) - 1) = -1 by unfold wrap64; decide, if_neg (by decide)]; rfl
  | cons x xs =>
    have w : wrap64 (((x :: xs).length : Int) - 1) = ((x :: xs).length : Int) - 1 := wr_in (by omega) (by omega)
    rw [if_pos (by rw [w]; simp only [List.length_cons]; exact decide_eq_true (by omega)), if_pos (by omega), if_pos (by simp only [List.length_cons]; omega)]
    rfl
theorem same_roh (p : List Int) (f : List (List Int)) (hl : p.length ≤ 1048576) : ∃ res, (res.1.length ≤ 1048576 ∧ ∀ x ∈ res.1, x.length ≤ 1048576) ∧ Ev (fun k => spec_ReverseOfHooks.f k p f) res ∧ Ev (fun k => impl_ReverseOfHooks.f k p f) res := by
  obtain ⟨r, h1, h2⟩ := hookw_same p f hl
  have hno : ¬ (0 ≤ r ∧ r ≤ 20) → ∃ res, (res.1.length ≤ 1048576 ∧ ∀ x ∈ res.1, x.length ≤ 1048576) ∧ Ev (fun k => spec_ReverseOfHooks.f k p f) res ∧ Ev (fun k => impl_ReverseOfHooks.f k p f) res := by
    intro hr
    refine ⟨([], false), ⟨by simp, by simp⟩, ?_, ?_⟩
    · simp only [spec_ReverseOfHooks.f, l1In_f]
      exact Ev.bind h1 (Ev.bind (Ev.now _) (Ev.ite_false (by simpa using hr) (Ev.now _)))
    · simp only [impl_ReverseOfHooks.f]
      refine Ev.bind h2 ?_
      have hj : Ev (fun k => impl_ReverseOfHooks.j0 k p f true) (([], false) : List (List Int) × Bool) := Ev.step (fun k => by rw [impl_ReverseOfHooks.j0]) (Ev.ite_true rfl (Ev.now _))
      by_cases h0 : r < 0
      · exact Ev.ite_true h0 hj
      · refine Ev.ite_false h0 ?_
        rw [decide_eq_true (show r > 20 by omega)]
        exact hj
  by_cases hr : 0 ≤ r ∧ r ≤ 20
  · cases h : isF p f
    · have e1 := specFill_ev p f hl
      rw [h] at e1
      have e2 : Ev (fun k => spec_HookWeight.f k p f) (-1) := by
        simp only [spec_HookWeight.f]
        exact Ev.bind e1 (Ev.ite_false (by simp) (Ev.now _))
      have : r = -1 := by
        obtain ⟨a, ha⟩ := h1
        obtain ⟨b, hb⟩ := e2
        have := (ha (max a b) (by omega)).symm.trans (hb (max a b) (by omega))
        exact Option.some.inj this
      omega
    · have hI := h
      simp only [isF, Bool.and_eq_true, decide_eq_true_eq] at h
      obtain ⟨hp, hlen, hfill⟩ := h
      have h9 := isP_length hp
      have hf : shp p f := ⟨hlen, fun i h h' => fillFrom_get p f hlen.symm hfill i h' h⟩
      have hsm := fill_small_roh p f hlen.symm hfill
      have hz := zeros_ev hp
      have hd0 : 0 ≤ p.getD 0 0 ∧ p.getD 0 0 ≤ 9 := by
        by_cases hp0 : 0 < p.length
        · have := isP_get hp 0 hp0
          rw [List.getD_eq_getElem?_getD, List.getElem?_eq_getElem hp0, Option.getD_some]; omega
        · rw [List.getD_eq_getElem?_getD, List.getElem?_eq_none (by omega), Option.getD_none]; omega
      obtain ⟨b, hb⟩ : ∃ b : Nat, (b : Int) = p.getD 0 0 := ⟨(p.getD 0 0).toNat, by omega⟩
      obtain ⟨res, g1, g2, g3⟩ := l0_ev_roh hp hl hf hsm b (noughts p) (by omega) (noughts_shp hp)
      have g4 := high_ev_roh hp (noughts p) res b (fun i hi => by rw [hb]; exact desc0_roh hp i hi) g2 (10 - b) (by omega)
      have e10 : (((b + (10 - b) : Nat) : Int) - 1) = 9 := by omega
      rw [e10] at g4
      refine ⟨res, ?_, ?_, ?_⟩
      · rcases g1 with g | g
        · rw [g]; simp
        · refine ⟨by rw [g.1]; omega, fun x hx => ?_⟩
          obtain ⟨i, hi, rfl⟩ := List.getElem_of_mem hx
          have hip : i < p.length := by rw [← g.1]; exact hi
          have := g.2 i hi hip
          have := isP_get hp i hip
          omega
      · simp only [spec_ReverseOfHooks.f, l1In_f]
        exact Ev.bind h1 (Ev.bind (Ev.now _) (Ev.ite_true (by simpa using hr) (Ev.bind hz.1 g4)))
      · simp only [impl_ReverseOfHooks.f]
        refine Ev.bind h2 (Ev.ite_false (by omega) ?_)
        rw [decide_eq_false (show ¬ r > 20 by omega)]
        refine Ev.step (fun k => by rw [impl_ReverseOfHooks.j0]) (Ev.ite_false (by simp) (Ev.bind hz.2 ?_))
        rw [at_f_roh p hl, ← hb]
        refine Ev.bind (Ev.now _) ?_
        have w : wrap64 ((b : Int) - 1) = (b : Int) - 1 := by unfold wrap64; omega
        rw [w]
        exact g3
  · exact hno hr
def addM : List (Nat × Nat) → List (List Int) → List (List Int)
  | [], o => o
  | x :: M, o => addM M (inc o x.1 x.2)
theorem rdD (y : List (List Int)) (i : Nat) : rd_L2 y (i : Int) = y.getD i [] := rdL_D y i
theorem prog_step {p : List Int} (hp : isP p = true) {y out : List (List Int)} {i j c : Nat} (hy : shp p y) (hs : inS p i j) (hn : 0 < cell y i j) (b : Bool) (hb : Aside0 (b = decide (0 < i ∧ cell y (i - 1) j = cell y i j))) (res : List (List Int) × Bool)
    (h : Ev (fun k => impl_HooksOfReverse.j4 k p (dec y i j) out c i j b) res) : Ev (fun k => impl_HooksOfReverse.l2 k p y out c i j) res := by
  have h9 := inS_9 hp hs
  have hl := inS_y hy hs
  have hyS : y.set ((i : Nat) : Int).toNat ((rd_L2 y (i : Int)).set ((j : Nat) : Int).toNat (wrap64 (rd (rd_L2 y (i : Int)) (j : Int) - 1))) = dec y i j := by
    rw [rd_cell, rdL_D, Int.toNat_natCast, Int.toNat_natCast]
    exact Eq.refl _
  have hlen : (j : Int) < ((rd_L2 y (i : Int)).length : Int) := by rw [rdL_D]; omega
  have wi : Aside0 (0 < i → wrap64 ((i : Int) - 1) = ((i - 1 : Nat) : Int)) := ⟨fun h => wrm1_hor h (by omega)⟩
  have hrow1 : Aside0 (0 < i → (j : Int) < ((rd_L2 (dec y i j) ((i - 1 : Nat) : Int)).length : Int)) := ⟨fun h => by
    rw [rdL_D]
    have h1 := (inS_y (shp_dec hy hs) (inS_up hp hs)).2
    omega⟩
  have hlen1 : (dec y i j).length = y.length := by have := (shp_dec hy hs).1; have := hy.1; omega
  have hup1 : Aside0 (0 < i → cell (dec y i j) (i - 1) j = cell y (i - 1) j) := ⟨fun h => dec_ne hy hs (by omega)⟩
  refine Ev.step (fun k => by rw [impl_HooksOfReverse.l2]) ?_
  refine Ev.ite_true (by omega) (Ev.ite_true (by omega) (Ev.ite_true (by omega) (Ev.ite_true hlen ?_)))
  rw [hyS, rd_cell]
  refine Ev.bind (Ev.now _) ?_
  by_cases h0 : 0 < i
  · rw [wi.out h0, rd_cell, hup1.out h0]
    refine Ev.ite_true (by omega) (Ev.ite_true (by omega) (Ev.ite_true (by omega) (Ev.ite_true (hrow1.out h0) ?_)))
    by_cases h1 : cell y (i - 1) j = cell y i j
    · have e : b = true := by rw [hb.out]; exact decide_eq_true ⟨h0, h1⟩
      rw [e] at h
      refine Ev.ite_true h1 ?_
      rw [show (cell y i j != 0) = true by rw [bne_iff_ne]; omega]
      exact h
    · have e : b = false := by rw [hb.out]; exact decide_eq_false (fun h => h1 h.2)
      rw [e] at h
      exact Ev.ite_false h1 h
  · have e : b = false := by rw [hb.out]; exact decide_eq_false (fun h => h0 h.1)
    rw [e] at h
    exact Ev.ite_false (by omega) h
theorem prog_fwd {p : List Int} (hp : isP p = true) {y : List (List Int)} {i j : Nat} {y' : List (List Int)} {r : Nat} (h : Fwd p y i j y' r) : inS p i j → mid p y i j → strict y i j → ∀ (c : Nat) (out : List (List Int)), c ≤ j → shp p out → ∀ res, Ev (fun k => (impl_start.f k y').bind fun bt => impl_HooksOfReverse.l1 k p y' (inc out r c) bt.1 bt.2) res → Ev (fun k => impl_HooksOfReverse.l2 k p y out c i j) res := by
  induction h with
  | @up y i j y' r h t ih =>
    intro hs hm hst c out hc hout res hres
    have hcl := inR_cell hm.2.1 i j
    have e1 := dec_putc (y := y) (i := i) (j := j) (by omega)
    have st := (mid_step hp hs hm hst).1 h
    rw [← e1] at st
    have h9 := inS_9 hp hs
    have w : Aside0 (wrap64 ((i : Int) - 1) = ((i - 1 : Nat) : Int)) := ⟨wrm1_hor h.1 (by omega)⟩
    refine prog_step hp hm.1 hs hst.1 true ⟨(decide_eq_true h).symm⟩ res (Ev.step (fun k => by rw [impl_HooksOfReverse.j4]) (Ev.ite_true rfl ?_))
    rw [w.out]
    exact ih (inS_up hp hs) st.1 st.2 c out hc hout res hres
  | @right y i j y' r h h1 t ih =>
    intro hs hm hst c out hc hout res hres
    have hcl := inR_cell hm.2.1 i j
    have e1 := dec_putc (y := y) (i := i) (j := j) (by omega)
    have st := (mid_step hp hs hm hst).2 h
    rw [← e1] at st
    have h9 := inS_9 hp hs
    have hi := wd_lt hs
    have w : Aside0 (wrap64 ((j : Int) + 1) = ((j + 1 : Nat) : Int)) := ⟨wr1 (by omega)⟩
    refine prog_step hp hm.1 hs hst.1 false ⟨(decide_eq_false h).symm⟩ res (Ev.step (fun k => by rw [impl_HooksOfReverse.j4]) (Ev.ite_false (by simp) (Ev.ite_true (by omega) (Ev.ite_true (by omega) ?_))))
    rw [w.out, rd_wd]
    exact Ev.ite_true h1 (ih h1 (rpp_mid st.1 _ _) (st.2 h1) c out (by omega) hout res hres)
  | @stop y i j h h1 =>
    intro hs hm hst c out hc hout res hres
    have h9 := inS_9 hp hs
    have hi := wd_lt hs
    have w : Aside0 (wrap64 ((j : Int) + 1) = ((j + 1 : Nat) : Int)) := ⟨wr1 (by omega)⟩
    have hsc : inS p i c := by unfold inS at hs ⊢; omega
    have hol := inS_y hout hsc
    have hoc : (c : Int) < ((rd_L2 out (i : Int)).length : Int) := by rw [rdL_D]; omega
    refine prog_step hp hm.1 hs hst.1 false ⟨(decide_eq_false h).symm⟩ res (Ev.step (fun k => by rw [impl_HooksOfReverse.j4]) (Ev.ite_false (by simp) (Ev.ite_true (by omega) (Ev.ite_true (by omega) ?_))))
    rw [w.out, rd_wd]
    refine Ev.ite_false h1 (Ev.ite_true (by omega) (Ev.ite_true (by omega) (Ev.ite_true hoc ?_)))
    rw [rd_cell, rdL_D, Int.toNat_natCast, Int.toNat_natCast]
    exact hres
theorem HG_prog {p : List Int} (hp : isP p = true) {y : List (List Int)} {M : List (Nat × Nat)} (h : HG p y M) : rpp p y → ∀ out, shp p out → Ev (fun k => (impl_start.f k y).bind fun bt => impl_HooksOfReverse.l1 k p y out bt.1 bt.2) (addM M out, true) := by
  induction h with
  | @nil y h =>
    intro hy out hout
    show Ev _ (out, true)
    rcases first_ev_hor hp hy.1 hy.2.1 with ⟨g1, _⟩ | ⟨c, _, g2, _⟩
    · exact Ev.bind g1 (Ev.step (fun k => by rw [impl_HooksOfReverse.l1]) (Ev.ite_false (by simp) (Ev.now _)))
    · obtain ⟨i, hi⟩ := (hasB_iff_hor y c).1 g2
      rw [h] at hi; omega
  | @cons y y1 c r i0 M h0 hs hn hpos t m ih =>
    intro hy out hout
    have hst := strict_first (p := p) h0 hpos
    have f1 := (fwd_rpp hp t hs (rpp_mid hy _ _) hst).1
    have hfc := foot_col hp hs hn
    have h9 := inS_9 hp hs
    rcases first_ev_hor hp hy.1 hy.2.1 with ⟨_, g2⟩ | ⟨c', hc9, g2, g3, g4, _⟩
    · have := cell_le_tots hy.2.1 i0 c
      omega
    · have e : c' = c := by
        obtain ⟨i, hi⟩ := (hasB_iff_hor y c').1 g2
        by_cases h1 : c' < c
        · rw [h0 i c' h1] at hi; omega
        · by_cases h2 : c < c'
          · have h3 := g3 c h2
            rw [(hasB_iff_hor y c).2 ⟨i0, hpos⟩] at h3
            cases h3
          · omega
      subst e
      have k := fwd_keep hp t hy.1 hs
      refine Ev.bind g4 (Ev.step (fun k => by rw [impl_HooksOfReverse.l1]) (Ev.ite_true rfl (Ev.bind (col_ev hp c' (by omega)) ?_)))
      have w : wrap64 (((colH p c' : Nat) : Int) - 1) = (i0 : Int) := by rw [hfc]; unfold wrap64; omega
      rw [w]
      exact prog_fwd hp t hs (rpp_mid hy _ _) hst c' out (Nat.le_refl _) hout _ (ih f1 (inc out r c') (shp_inc hout k.2.1))
/-! The numbers raised along a path. -/
theorem up_ev {p : List Int} (hp : isP p = true) {y : List (List Int)} {i j : Nat} (hy : shp p y) (hs : inS p i j) : Ev (fun k => impl_raise.up k p (inc y i j) i j (cell y i j)) (decide (inS p (i + 1) j ∧ cell y (i + 1) j = cell y i j)) := by
  have h9 := inS_9 hp hs
  have h3 := isP_length hp
  have a := col_iff hp j (by omega) (i + 1) (by omega)
  have w : Aside0 (wrap64 ((i : Int) + 1) = ((i + 1 : Nat) : Int)) := ⟨wr1 (by omega)⟩
  unfold impl_raise.up
  refine Ev.bind (col_ev hp j (by omega)) ?_
  rw [w.out]
  by_cases hd : inS p (i + 1) j
  · have h1 : i + 1 < colH p j := a.2 ⟨wd_lt hd, hd⟩
    have hl := inS_y (shp_inc hy hs) hd
    refine Ev.ite_true (by omega) (Ev.ite_true (by omega) (Ev.ite_true ⟨by omega, by rw [rdL_D]; omega⟩ ?_))
    rw [rd_cell, inc_ne hy hs (by omega)]
    by_cases e : cell y (i + 1) j = cell y i j
    · rw [decide_eq_true ⟨hd, e⟩]; exact Ev.ite_true e (Ev.now _)
    · rw [decide_eq_false (fun g => e g.2)]; exact Ev.ite_false e (Ev.now _)
  · have h1 : ¬ i + 1 < colH p j := fun g => hd (a.1 g).2
    rw [decide_eq_false (fun g => hd g.1)]
    exact Ev.ite_false (by omega) (Ev.now _)
theorem st_inc (y : List (List Int)) (i j : Nat) : impl_raise.st y i j = inc y i j := by
  unfold impl_raise.st
  rw [rd_cell, rdL_D, Int.toNat_natCast, Int.toNat_natCast]
  exact Eq.refl _
theorem prog_bck {p : List Int} (hp : isP p = true) {c : Nat} {y : List (List Int)} {i j : Nat} {y' : List (List Int)} {e : Nat} (h : Bck p c y i j y' e) : shp p y → inS p i j → c ≤ j → Ev (fun k => impl_raise.l0 k p y i j c) y' := by
  have cond : ∀ {y : List (List Int)} {i j : Nat}, shp p y → inS p i j → (0 ≤ (i : Int) ∧ (i : Int) < (y.length : Int)) ∧ (0 ≤ (j : Int) ∧ (j : Int) < ((rd_L2 y (i : Int)).length : Int)) := fun {y i j} hy hs => by
    have hl := inS_y hy hs
    rw [rdL_D]; omega
  induction h with
  | @down y i j y' e h t ih =>
    intro hy hs hc
    have h9 := inS_9 hp hs
    have w : Aside0 (wrap64 ((i : Int) + 1) = ((i + 1 : Nat) : Int)) := ⟨wr1 (by omega)⟩
    refine Ev.step (fun k => by rw [impl_raise.l0]) (Ev.ite_true (cond hy hs) ?_)
    rw [st_inc, rd_cell]
    refine Ev.bind (up_ev hp hy hs) (Ev.ite_true (decide_eq_true h) ?_)
    rw [w.out]
    exact ih (shp_inc hy hs) h.1 hc
  | @left y i j y' e h h1 t ih =>
    intro hy hs hc
    have h9 := inS_9 hp hs
    have w : Aside0 (wrap64 ((j : Int) - 1) = ((j - 1 : Nat) : Int)) := ⟨wrm1_hor (by omega) (by omega)⟩
    refine Ev.step (fun k => by rw [impl_raise.l0]) (Ev.ite_true (cond hy hs) ?_)
    rw [st_inc, rd_cell]
    refine Ev.bind (up_ev hp hy hs) (Ev.ite_false (by rw [decide_eq_true_eq]; exact h) (Ev.ite_true (by omega) ?_))
    rw [w.out]
    exact ih (shp_inc hy hs) (inS_left hs) (by omega)
  | @stop y i h =>
    intro hy hs hc
    refine Ev.step (fun k => by rw [impl_raise.l0]) (Ev.ite_true (cond hy hs) ?_)
    rw [st_inc, rd_cell]
    exact Ev.bind (up_ev hp hy hs) (Ev.ite_false (by rw [decide_eq_true_eq]; exact h) (Ev.ite_false (by omega) (Ev.now _)))
theorem raise_ev {p : List Int} (hp : isP p = true) {c r b : Nat} {y y' : List (List Int)} {e : Nat} (hy : shp p y) (hb : ((b + 1 : Nat) : Int) = wd p r) (hc : c ≤ b) (h : Bck p c y r b y' e) : Ev (fun k => impl_raise.f k p y r c) y' := by
  have hs : inS p r b := by unfold inS; omega
  have hr := wd_lt hs
  have h9 := inS_9 hp hs
  have w : Aside0 (wrap64 (rd p (r : Int) - 1) = (b : Int)) := ⟨by rw [rd_wd, ← hb]; unfold wrap64; omega⟩
  unfold impl_raise.f
  refine Ev.ite_true (by omega) ?_
  rw [w.out]
  exact prog_bck hp h hy hs hc
/-! The hooks that a filling tells, put on in their order. -/
def cntR (g : List (List Int)) (c r a b : Nat) : Nat := if c < b ∨ (b = c ∧ a < r) then (cell g a b).toNat else 0
def cntC (g : List (List Int)) (c a b : Nat) : Nat := if c ≤ b then (cell g a b).toNat else 0
def done (p : List Int) (g : List (List Int)) (y : List (List Int)) : Prop := ∃ L : List (Nat × Nat), RunB p (noughts p) L y ∧ L.Pairwise before ∧ ∀ a b, L.count (a, b) = (cell g a b).toNat
theorem RG_l2 {p : List Int} (hp : isP p = true) {g : List (List Int)} {r c : Nat} (hs : inS p r c) (h0 : 0 ≤ cell g r c) (h9 : cell g r c ≤ 9) (col : Int)
    (next : ∀ y L, RunB p (noughts p) L y → L.Pairwise before → (∀ a b, L.count (a, b) = cntR g c (r + 1) a b) → ∃ y', done p g y' ∧ ∀ res, Ev (fun k => impl_ReverseOfHooks.l0 k p g y' (-1)) res → Ev (fun k => impl_ReverseOfHooks.l1 k p g y c col ((r + 1 : Nat) : Int)) res) (d : Nat) :
    ∀ (j : Nat) (y : List (List Int)) (L : List (Nat × Nat)), cell g r c = (j : Int) + d → RunB p (noughts p) L y → L.Pairwise before → (∀ a b, L.count (a, b) = cntR g c r a b + if a = r ∧ b = c then j else 0) →
    ∃ y', done p g y' ∧ ∀ res, Ev (fun k => impl_ReverseOfHooks.l0 k p g y' (-1)) res → Ev (fun k => impl_ReverseOfHooks.l2 k p g y c r col r (cell g r c) j) res := by
  have hi9 := inS_9 hp hs
  induction d with
  | zero =>
    intro j y L hj hR hS hC
    obtain ⟨y', g1, g2⟩ := next y L hR hS fun a b => by
      rw [hC]
      unfold cntR
      by_cases e : a = r ∧ b = c
      · obtain ⟨rfl, rfl⟩ := e
        rw [if_neg (by omega), if_pos ⟨rfl, rfl⟩, if_pos (by omega)]
        omega
      · rw [if_neg e, Nat.add_zero]
        by_cases e2 : c < b ∨ (b = c ∧ a < r)
        · rw [if_pos e2, if_pos (by omega)]
        · rw [if_neg e2, if_neg (by omega)]
    refine ⟨y', g1, fun res hres => Ev.step (fun k => by rw [impl_ReverseOfHooks.l2]) (Ev.ite_false (by omega) ?_)⟩
    rw [wr1 (by omega)]
    exact g2 res hres
  | succ d ih =>
    intro j y L hj hR hS hC
    have hy := RunB_shp hp hR (noughts_shp hp)
    obtain ⟨b, hb, hcb, hrb, _⟩ := row_end hs
    obtain ⟨y2, e, t⟩ := bck_some hp c ((9 - r) + b) r b y hrb hcb (Nat.le_refl _)
    obtain ⟨y', g1, g2⟩ := ih (j + 1) y2 (L ++ [(r, c)]) (by omega) (.snoc hR hb hcb t) (by
      rw [List.pairwise_append]
      refine ⟨hS, by simp, fun x hx z hz => ?_⟩
      rw [List.mem_singleton] at hz
      subst hz
      have h1 : 0 < L.count (x.1, x.2) := List.count_pos_iff.2 hx
      rw [hC] at h1
      unfold cntR at h1
      unfold before
      simp only
      by_cases e1 : c < x.2 ∨ (x.2 = c ∧ x.1 < r)
      · omega
      · rw [if_neg e1] at h1
        by_cases e2 : x.1 = r ∧ x.2 = c
        · omega
        · rw [if_neg e2] at h1; omega) (fun a b' => by
      rw [List.count_append, hC, List.count_singleton]
      by_cases e1 : a = r ∧ b' = c
      · obtain ⟨rfl, rfl⟩ := e1
        simp only [and_self, if_true, beq_self_eq_true]
        omega
      · rw [if_neg e1, if_neg e1, if_neg (by simp only [beq_iff_eq, Prod.mk.injEq]; omega)])
    refine ⟨y', g1, fun res hres => Ev.step (fun k => by rw [impl_ReverseOfHooks.l2]) (Ev.ite_true (by omega) (Ev.bind (raise_ev hp hy hb hcb t) ?_))⟩
    rw [wr1 (by omega)]
    exact g2 res hres
theorem RG_l1 {p : List Int} (hp : isP p = true) {g : List (List Int)} (hg : shp p g) (hin : inR g) {c : Nat} (hc : c < 10)
    (next : ∀ y L, RunB p (noughts p) L y → L.Pairwise before → (∀ a b, L.count (a, b) = cntC g c a b) → ∃ y', done p g y' ∧ ∀ res, Ev (fun k => impl_ReverseOfHooks.l0 k p g y' (-1)) res → Ev (fun k => impl_ReverseOfHooks.l0 k p g y (wrap64 ((c : Int) - 1))) res) (d : Nat) :
    ∀ (r : Nat) (y : List (List Int)) (L : List (Nat × Nat)), r + d = colH p c → RunB p (noughts p) L y → L.Pairwise before → (∀ a b, L.count (a, b) = cntR g c r a b) →
    ∃ y', done p g y' ∧ ∀ res, Ev (fun k => impl_ReverseOfHooks.l0 k p g y' (-1)) res → Ev (fun k => impl_ReverseOfHooks.l1 k p g y c ((colH p c : Nat) : Int) r) res := by
  have h3 := isP_length hp
  have hcl := colH_le (p := p) c
  induction d with
  | zero =>
    intro r y L hr hR hS hC
    obtain ⟨y', g1, g2⟩ := next y L hR hS fun a b => by
      rw [hC]
      unfold cntR cntC
      by_cases e : c ≤ b
      · rw [if_pos e]
        by_cases e2 : c < b ∨ (b = c ∧ a < r)
        · rw [if_pos e2]
        · rw [if_neg e2]
          have eb : b = c := by omega
          subst eb
          have hno : ¬ inS p a b := fun h => by
            have ha := inS_9 hp h
            have := (col_iff hp b hc a (by omega)).2 ⟨wd_lt h, h⟩
            omega
          rw [cell_out hg hno]; rfl
      · rw [if_neg e, if_neg (by omega)]
    exact ⟨y', g1, fun res hres => Ev.step (fun k => by rw [impl_ReverseOfHooks.l1]) (Ev.ite_false (by omega) (g2 res hres))⟩
  | succ d ih =>
    intro r y L hr hR hS hC
    obtain ⟨h1, h2⟩ := (col_iff hp c hc r (by omega)).1 (by omega)
    have hs : inS p r c := h2
    have hl := inS_y hg hs
    have hcell := inR_cell hin r c
    obtain ⟨y', g1, g2⟩ := RG_l2 hp hs hcell.1 hcell.2 ((colH p c : Nat) : Int) (fun y L hR hS hC => ih (r + 1) y L (by omega) hR hS hC) (cell g r c).toNat 0 y L (by omega) hR hS (fun a b => by rw [hC]; split <;> simp)
    refine ⟨y', g1, fun res hres => Ev.step (fun k => by rw [impl_ReverseOfHooks.l1]) (Ev.ite_true (by omega) (Ev.ite_true (by omega) (Ev.ite_true (by omega) (Ev.ite_true (by omega) (Ev.ite_true (by rw [rdL_D]; omega) ?_)))))⟩
    rw [rd_cell]
    exact g2 res hres
theorem RG_l0 {p : List Int} (hp : isP p = true) {g : List (List Int)} (hg : shp p g) (hin : inR g) : ∀ (c : Nat) (y : List (List Int)) (L : List (Nat × Nat)), c ≤ 10 → RunB p (noughts p) L y → L.Pairwise before → (∀ a b, L.count (a, b) = cntC g c a b) →
    ∃ y', done p g y' ∧ ∀ res, Ev (fun k => impl_ReverseOfHooks.l0 k p g y' (-1)) res → Ev (fun k => impl_ReverseOfHooks.l0 k p g y ((c : Int) - 1)) res
  | 0, y, L, _, hR, hS, hC => ⟨y, ⟨L, hR, hS, fun a b => by rw [hC]; unfold cntC; rw [if_pos (Nat.zero_le _)]⟩, fun res hres => hres⟩
  | c + 1, y, L, hc, hR, hS, hC => by
    have e : (((c + 1 : Nat) : Int) - 1) = (c : Int) := by omega
    have w : wrap64 ((c : Int) - 1) = (c : Int) - 1 := by unfold wrap64; omega
    obtain ⟨y', g1, g2⟩ := RG_l1 hp hg hin (c := c) (by omega) (fun y L hR hS hC => by rw [w]; exact RG_l0 hp hg hin c y L (by omega) hR hS hC) (colH p c) 0 y L (by omega) hR hS (fun a b => by
      rw [hC]
      unfold cntC cntR
      by_cases e : c + 1 ≤ b
      · rw [if_pos e, if_pos (by omega)]
      · rw [if_neg e, if_neg (by omega)])
    rw [e]
    exact ⟨y', g1, fun res hres => Ev.step (fun k => by rw [impl_ReverseOfHooks.l0]) (Ev.ite_true (by omega) (Ev.bind (col_ev hp c (by omega)) (g2 res hres)))⟩
theorem at0 (p : List Int) (hl : p.length ≤ 1000) : impl_at.f p 0 = some (wd p 0) := at_row_hor p hl 0
theorem RG_prog {p : List Int} (hp : isP p = true) {g : List (List Int)} (hg : shp p g) (hin : inR g) : ∃ y', done p g y' ∧ ∀ res, Ev (fun k => impl_ReverseOfHooks.l0 k p g y' (-1)) res → Ev (fun k => impl_ReverseOfHooks.j0 k p g false) res := by
  have h3 := isP_length hp
  have hw := wd_9 hp 0
  obtain ⟨y', g1, g2⟩ := RG_l0 hp hg hin (wd p 0).toNat (noughts p) [] (by omega) .nil (by simp) (fun a b => by
    unfold cntC
    split
    · have hno : ¬ inS p a b := fun h => by
        have := wd_anti hp (Nat.zero_le a)
        unfold inS at h; omega
      rw [cell_out hg hno]; rfl
    · rfl)
  refine ⟨y', g1, fun res hres => Ev.step (fun k => by rw [impl_ReverseOfHooks.j0]) (Ev.ite_false (by simp) (Ev.bind (zeros_ev hp).2 ?_))⟩
  rw [at0 p (by omega)]
  refine Ev.bind (Ev.now _) ?_
  have w : wrap64 (wd p 0 - 1) = (((wd p 0).toNat : Nat) : Int) - 1 := by unfold wrap64; omega
  rw [w]
  exact g2 res hres
/-! The weight of a filling by its hooks. -/
def hkOk (p : List Int) : Bool := (List.range p.length).all fun i => (List.range (p.getD i 0).toNat).all fun j => decide (impl_HookOf.f 60 p i j = some (hk p i j)) && decide (1 ≤ hk p i j) && decide (hk p i j ≤ 9)
theorem facthk : allP.all hkOk = true := by decide +kernel
theorem hk_ev {p : List Int} (hp : isP p = true) {i j : Nat} (hs : inS p i j) : Ev (fun k => impl_HookOf.f k p i j) (hk p i j) ∧ 1 ≤ hk p i j ∧ hk p i j ≤ 9 := by
  have h := of_all facthk (mem_allP hp)
  unfold hkOk at h
  have hi := wd_lt hs
  have h1 := of_all h (x := i) (List.mem_range.2 hi)
  have h2 := of_all h1 (x := j) (List.mem_range.2 (by unfold inS wd at hs; omega))
  simp only [Bool.and_eq_true, decide_eq_true_eq] at h2
  exact ⟨Ev.of (impl_HookOf.mono p i j) h2.1.1, h2.1.2, h2.2⟩
def wrow (p : List Int) (i : Nat) : Nat → List Int → Int
  | _, [] => 0
  | j, x :: xs => x * hk p i j + wrow p i (j + 1) xs
def wall (p : List Int) : Nat → List (List Int) → Int
  | _, [] => 0
  | i, x :: xs => wrow p i 0 x + wall p (i + 1) xs
theorem wrow_set (p : List Int) (i : Nat) : ∀ (l : List Int) (s j : Nat) (_ : j < l.length), wrow p i s (l.set j (l.getD j 0 + 1)) = wrow p i s l + hk p i (s + j)
  | [], _, _, h => by simp at h
  | x :: l, s, 0, _ => by
    simp only [List.set_cons_zero, List.getD_cons_zero, wrow, Nat.add_zero, Int.add_mul, Int.one_mul]
    omega
  | x :: l, s, j + 1, h => by
    have := wrow_set p i l (s + 1) j (by simpa using h)
    simp only [List.set_cons_succ, List.getD_cons_succ, wrow, this, show s + (j + 1) = s + 1 + j by omega]
    omega
theorem wall_set (p : List Int) : ∀ (y : List (List Int)) (s i j : Nat) (_ : i < y.length) (_ : j < (y.getD i []).length), wall p s (putc y i j (cell y i j + 1)) = wall p s y + hk p (s + i) j
  | [], _, _, _, h, _ => by simp at h
  | x :: y, s, 0, j, _, h => by
    have := wrow_set p s x 0 j (by simpa using h)
    simp only [putc, cell, List.set_cons_zero, List.getD_cons_zero, wall, this, Nat.add_zero, Nat.zero_add]
    omega
  | x :: y, s, i + 1, j, h, h' => by
    have := wall_set p y (s + 1) i j (by simpa using h) (by simpa using h')
    simp only [putc, cell] at this
    simp only [putc, cell, List.set_cons_succ, List.getD_cons_succ, wall, this, show s + (i + 1) = s + 1 + i by omega]
    omega
def addZ : List (Nat × Nat) → List (List Int) → List (List Int)
  | [], o => o
  | x :: M, o => addZ M (putc o x.1 x.2 (cell o x.1 x.2 + 1))
theorem addZ_facts {p : List Int} : ∀ (M : List (Nat × Nat)) (o : List (List Int)), shp p o → (∀ x ∈ M, inS p x.1 x.2) → shp p (addZ M o) ∧ (∀ a b, cell (addZ M o) a b = cell o a b + ((M.count (a, b) : Nat) : Int)) ∧ wall p 0 (addZ M o) = wall p 0 o + hsum p M
  | [], o, ho, _ => ⟨ho, fun a b => by simp [addZ], by simp [addZ, hsum]⟩
  | x :: M, o, ho, hM => by
    have hx := hM x (List.mem_cons_self ..)
    have hl := inS_y ho hx
    obtain ⟨q1, q2, q3⟩ := addZ_facts M (putc o x.1 x.2 (cell o x.1 x.2 + 1)) (shp_put ho hx _) (fun z hz => hM z (List.mem_cons_of_mem _ hz))
    have hw := wall_set p o 0 x.1 x.2 hl.1 hl.2
    rw [Nat.zero_add] at hw
    refine ⟨q1, fun a b => ?_, ?_⟩
    · show cell (addZ M _) a b = _
      rw [q2, cell_put ho hx, List.count_cons]
      by_cases e : a = x.1 ∧ b = x.2
      · rw [if_pos e]
        have e2 : (x == (a, b)) = true := by rw [beq_iff_eq]; exact Prod.ext e.1.symm e.2.symm
        rw [if_pos e2, e.1, e.2]
        omega
      · rw [if_neg e]
        have e2 : ¬ (x == (a, b)) = true := by rw [beq_iff_eq]; intro g; exact e ⟨by rw [g], by rw [g]⟩
        rw [if_neg e2]; omega
    · show wall p 0 (addZ M _) = _
      rw [q3, hw]
      show _ = _ + (hk p x.1 x.2 + hsum p M)
      omega
theorem addM_addZ {p : List Int} : ∀ (M : List (Nat × Nat)) (o : List (List Int)), shp p o → (∀ x ∈ M, inS p x.1 x.2) → (∀ a b, 0 ≤ cell o a b ∧ cell o a b + M.length ≤ 1000) → addM M o = addZ M o
  | [], _, _, _, _ => rfl
  | x :: M, o, ho, hM, hb => by
    have hx := hM x (List.mem_cons_self ..)
    have h1 := hb x.1 x.2
    have w : Aside0 (wrap64 (cell o x.1 x.2 + 1) = cell o x.1 x.2 + 1) := ⟨wr_in (by omega) (by omega)⟩
    have e : inc o x.1 x.2 = putc o x.1 x.2 (cell o x.1 x.2 + 1) := by unfold inc; rw [w.out]
    show addM M (inc o x.1 x.2) = addZ M _
    rw [e]
    refine addM_addZ M _ (shp_put ho hx _) (fun z hz => hM z (List.mem_cons_of_mem _ hz)) fun a b => ?_
    have h2 := hb a b
    simp only [List.length_cons] at h1 h2
    rw [cell_put ho hx]
    split <;> omega
theorem hsum_len {p : List Int} (hp : isP p = true) : ∀ (M : List (Nat × Nat)), (∀ x ∈ M, inS p x.1 x.2) → (M.length : Int) ≤ hsum p M
  | [], _ => by simp [hsum]
  | x :: M, h => by
    have h1 := hsum_len hp M (fun z hz => h z (List.mem_cons_of_mem _ hz))
    have h2 := (hk_ev hp (h x (List.mem_cons_self ..))).2.1
    simp only [hsum, List.length_cons]; omega
theorem hsum_append (p : List Int) : ∀ (L M : List (Nat × Nat)), hsum p (L ++ M) = hsum p L + hsum p M
  | [], M => by simp [hsum]
  | x :: L, M => by
    have := hsum_append p L M
    simp only [List.cons_append, hsum]; omega
theorem hsum_rev (p : List Int) : ∀ (M : List (Nat × Nat)), hsum p M.reverse = hsum p M
  | [] => rfl
  | x :: M => by
    have := hsum_rev p M
    rw [List.reverse_cons, hsum_append, this]
    simp only [hsum]; omega
/-- A filling is what its hooks put together. -/
theorem put_together {p : List Int} (hp : isP p = true) {g : List (List Int)} (hg : shp p g) (hin : inR g) {L : List (Nat × Nat)} (hC : ∀ a b, L.count (a, b) = (cell g a b).toNat) : (∀ x ∈ L, inS p x.1 x.2) ∧ addZ L (noughts p) = g ∧ wall p 0 g = wall p 0 (noughts p) + hsum p L := by
  have h1 : ∀ x ∈ L, inS p x.1 x.2 := fun x hx => by
    have h2 : 0 < L.count (x.1, x.2) := List.count_pos_iff.2 hx
    rw [hC] at h2
    rcases Classical.em (inS p x.1 x.2) with h | h
    · exact h
    · rw [cell_out hg h] at h2; simp at h2
  obtain ⟨q1, q2, q3⟩ := addZ_facts L (noughts p) (noughts_shp hp) h1
  have e : addZ L (noughts p) = g := ext_cells q1 hg fun a b => by
    have := inR_cell hin a b
    rw [q2, cell_noughts hp, hC]; omega
  exact ⟨h1, e, by rw [← q3, e]⟩
theorem wrow_zero (p : List Int) (i n : Nat) : ∀ j, wrow p i j (List.replicate n 0) = 0 := by
  induction n with
  | zero => intro j; rfl
  | succ n ih => intro j; simp [List.replicate_succ, wrow, ih]
theorem wall_zero (p q : List Int) : ∀ i, wall p i (q.map fun n => List.replicate n.toNat 0) = 0 := by
  induction q with
  | nil => intro i; rfl
  | cons x q ih => intro i; simp [wall, wrow_zero, ih]
theorem wrow_bound {p : List Int} (hp : isP p = true) (i : Nat) : ∀ (l : List Int) (j : Nat), (∀ n ∈ l, 0 ≤ n ∧ n ≤ 9) → ((j + l.length : Nat) : Int) ≤ wd p i → 0 ≤ wrow p i j l ∧ wrow p i j l ≤ 81 * l.length
  | [], _, _, _ => by simp [wrow]
  | x :: l, j, h, hl => by
    simp only [List.length_cons] at hl
    have h1 := h x (List.mem_cons_self ..)
    have h2 := wrow_bound hp i l (j + 1) (fun n hn => h n (List.mem_cons_of_mem _ hn)) (by omega)
    have h3 := hk_ev hp (show inS p i j by unfold inS; omega)
    have h4 : 0 ≤ x * hk p i j := Int.mul_nonneg h1.1 (by omega)
    have h5 : x * hk p i j ≤ 9 * 9 := Int.mul_le_mul h1.2 h3.2.2 (by omega) (by omega)
    simp only [wrow, List.length_cons]
    omega
theorem weight_ev {p : List Int} (hp : isP p = true) {g : List (List Int)} (hg : shp p g) (hin : inR g) : Ev (fun k => impl_HookWeight.l0 k p 0 g g.length 0) (wall p 0 g) := by
  have h3 := isP_length hp
  have hgl := hg.1
  have loop : ∀ (d i : Nat) (s : Int), i + d = g.length → 0 ≤ s → s ≤ 729 * (i : Int) → Ev (fun k => impl_HookWeight.l0 k p s g g.length i) (s + wall p i (g.drop i)) := by
    intro d
    induction d with
    | zero =>
      intro i s hi _ _
      rw [List.drop_of_length_le (by omega)]
      simp only [wall, Int.add_zero]
      exact Ev.step (fun k => by simp only [impl_HookWeight.l0]; rfl) (Ev.ite_false (by omega) (Ev.now _))
    | succ d ih =>
      intro i s hi h0 hs
      have hlt : i < g.length := by omega
      have hlp : i < p.length := by omega
      have hrow := hg.2 i hlt hlp
      have hwi := wd_get p i hlp
      have hp9 := isP_get hp i hlp
      have hmem := hin _ (List.getElem_mem hlt)
      have inner : ∀ (e j : Nat) (s : Int), j + e = g[i].length → 0 ≤ s → s ≤ 729 * (i : Int) + 81 * (j : Int) → Ev (fun k => impl_HookWeight.l1 k p s i g g.length i g[i] g[i].length j) (s + wrow p i j (g[i].drop j) + wall p (i + 1) (g.drop (i + 1))) := by
        intro e
        induction e with
        | zero =>
          intro j s hj h0 hs
          rw [List.drop_of_length_le (by omega)]
          simp only [wrow, Int.add_zero]
          refine Ev.step (fun k => by simp only [impl_HookWeight.l1]; rfl) (Ev.ite_false (by omega) ?_)
          rw [wr1 (by omega)]
          exact ih (i + 1) s (by omega) h0 (by omega)
        | succ e ihe =>
          intro j s hj h0 hs
          have hjl : j < g[i].length := by omega
          obtain ⟨k1, k2, k3⟩ := hk_ev hp (show inS p i j by unfold inS; omega)
          have hx := hmem _ (List.getElem_mem hjl)
          have h4 : 0 ≤ g[i][j] * hk p i j := Int.mul_nonneg hx.1 (by omega)
          have h5 : g[i][j] * hk p i j ≤ 9 * 9 := Int.mul_le_mul hx.2 k3 (by omega) (by omega)
          have w1 : Aside0 (wrap64 (g[i][j] * hk p i j) = g[i][j] * hk p i j) := ⟨wr_in (by omega) (by omega)⟩
          have w2 : Aside0 (wrap64 (s + g[i][j] * hk p i j) = s + g[i][j] * hk p i j) := ⟨wr_in (by omega) (by omega)⟩
          have w3 : Aside0 (wrap64 ((j : Int) + 1) = ((j + 1 : Nat) : Int)) := ⟨wr1 (by omega)⟩
          have hr := ihe (j + 1) (s + g[i][j] * hk p i j) (by omega) (by omega) (by omega)
          rw [List.drop_eq_getElem_cons hjl]
          simp only [wrow]
          refine Ev.step (fun k => by simp only [impl_HookWeight.l1]; rfl) (Ev.ite_true (by omega) (Ev.ite_true (by omega) (Ev.ite_true (by omega) (Ev.bind k1 ?_))))
          rw [rd_nat g[i] j hjl, w1.out, w2.out, w3.out, show s + (g[i][j] * hk p i j + wrow p i (j + 1) (g[i].drop (j + 1))) + wall p (i + 1) (g.drop (i + 1)) = s + g[i][j] * hk p i j + wrow p i (j + 1) (g[i].drop (j + 1)) + wall p (i + 1) (g.drop (i + 1)) by omega]
          exact hr
      rw [List.drop_eq_getElem_cons hlt]
      simp only [wall]
      have hr := inner g[i].length 0 s (by omega) h0 (by omega)
      rw [List.drop_zero] at hr
      refine Ev.step (fun k => by simp only [impl_HookWeight.l0]; rfl) (Ev.ite_true (by omega) (Ev.ite_true (by omega) (Ev.ite_true (by omega) ?_)))
      rw [rdL_nat g i hlt, show s + (wrow p i 0 g[i] + wall p (i + 1) (g.drop (i + 1))) = s + wrow p i 0 g[i] + wall p (i + 1) (g.drop (i + 1)) by omega]
      exact hr
  have := loop g.length 0 0 (by omega) (by omega) (by omega)
  simpa using this
/-! The two ways undo one another. -/
theorem rpp_from {p : List Int} {f : List (List Int)} (hf : shp p f) (hin : inR f) : rppFrom p f 0 0 ↔ rpp p f := by
  constructor
  · intro hR
    refine ⟨hf, hin, fun a b hab => ?_, fun a b hab => ?_⟩
    · have := (hR a (b + 1) (by omega) (wd_lt hab) hab).1 (by omega)
      simpa [cell] using this
    · have := (hR (a + 1) b (by omega) (wd_lt hab) hab).2 (by omega)
      simpa [cell] using this
  · intro h a b _ ha hab
    refine ⟨fun h0 => ?_, fun h0 => ?_⟩
    · have := h.2.2.1 a (b - 1) (by rw [show b - 1 + 1 = b by omega]; exact hab)
      rw [show b - 1 + 1 = b by omega] at this
      exact this
    · have := h.2.2.2 (a - 1) b (by rw [show a - 1 + 1 = a by omega]; exact hab)
      rw [show a - 1 + 1 = a by omega] at this
      exact this
theorem fillFrom_of : ∀ (p : List Int) (f : List (List Int)), shp p f → inR f → fillFrom p f = true
  | [], _, _, _ => by simp [fillFrom]
  | _ :: _, [], _, _ => by simp [fillFrom]
  | x :: p, r :: f, h, hin => by
    have h0 := h.2 0 (by simp) (by simp)
    simp only [List.getElem_cons_zero] at h0
    simp only [fillFrom, Bool.and_eq_true, decide_eq_true_eq, List.all_eq_true]
    refine ⟨h0, fun n hn => ?_, fillFrom_of p f ⟨by have := h.1; simpa using this, fun i h1 h2 => ?_⟩ (fun r' hr' => hin r' (List.mem_cons_of_mem _ hr'))⟩
    · have := hin r (List.mem_cons_self ..) n hn
      simp only [okF, decide_eq_true_eq]; exact this
    · have := h.2 (i + 1) (by simpa using h1) (by simpa using h2)
      simpa using this
theorem isF_iff {p : List Int} (hp : isP p = true) {f : List (List Int)} : isF p f = true ↔ shp p f ∧ inR f := by
  constructor
  · intro h
    simp only [isF, Bool.and_eq_true, decide_eq_true_eq] at h
    obtain ⟨_, hlen, hfill⟩ := h
    exact ⟨⟨hlen, fun i h h' => fillFrom_get p f hlen.symm hfill i h' h⟩, inR_fill_hor p f hlen.symm hfill⟩
  · intro ⟨h1, h2⟩
    simp only [isF, Bool.and_eq_true, decide_eq_true_eq]
    exact ⟨hp, h1.1, fillFrom_of p f h1 h2⟩
theorem inR_of {p : List Int} {f : List (List Int)} (hf : shp p f) (h : ∀ a b, 0 ≤ cell f a b ∧ cell f a b ≤ 9) : inR f := by
  intro r hr n hn
  obtain ⟨i, hi, rfl⟩ := List.getElem_of_mem hr
  obtain ⟨j, hj, rfl⟩ := List.getElem_of_mem hn
  have := h i j
  simpa [cell, hi, hj] using this
theorem weight_full {p : List Int} (hp : isP p = true) (hl : p.length ≤ 1048576) {g : List (List Int)} (hg : shp p g) (hin : inR g) : Ev (fun k => impl_HookWeight.f k p g) (wall p 0 g) := by
  have h1 := implFill_ev p g hl
  rw [(isF_iff hp).2 ⟨hg, hin⟩] at h1
  simp only [impl_HookWeight.f]
  exact Ev.bind h1 (Ev.ite_true rfl (weight_ev hp hg hin))
theorem zwall (p : List Int) : wall p 0 (noughts p) = 0 := wall_zero p p 0
/-- Off, and on again. -/
theorem wayA {p : List Int} (hp : isP p = true) (hl : p.length ≤ 1048576) {f : List (List Int)} (hf : rpp p f) (h20 : tots f ≤ 20) : ∃ h, shp p h ∧ Ev (fun k => (impl_start.f k f).bind fun bt => impl_HooksOfReverse.l1 k p f (noughts p) bt.1 bt.2) (h, true) ∧ Ev (fun k => impl_ReverseOfHooks.f k p h) (f, true) ∧ Ev (fun k => impl_HookWeight.f k p h) (tots f) := by
  have h0 := tots_nonneg hf.2.1
  obtain ⟨M, m1, m2, m3, m4, m5, m6⟩ := A_run hp (tots f).toNat f hf (by omega)
  have hns := noughts_shp hp
  have hlen := hsum_len hp M m5
  have cz := cell_noughts hp
  have eM := addM_addZ M (noughts p) hns m5 (fun a b => by rw [cz]; omega)
  obtain ⟨q1, q2, q3⟩ := addZ_facts M (noughts p) hns m5
  obtain ⟨h, hh⟩ : ∃ h, h = addZ M (noughts p) := ⟨_, rfl⟩
  rw [← hh] at q1 q2 q3 eM
  have hcell : ∀ a b, 0 ≤ cell h a b ∧ cell h a b ≤ 9 := fun a b => by
    rw [q2, cz]
    by_cases hc : inS p a b
    · obtain ⟨b0, hb0, _, _, _⟩ := row_end hc
      have h1 := m4 a b0 b hb0
      have h2 := inR_cell hf.2.1 a b0
      omega
    · have : M.count (a, b) = 0 := List.count_eq_zero.2 fun hm => hc (m5 _ hm)
      omega
  have hin := inR_of q1 hcell
  have hw := weight_full hp hl q1 hin
  rw [q3, zwall, ← m6] at hw
  have e0 : (0 : Int) + tots f = tots f := by omega
  rw [e0] at hw
  have prog := HG_prog hp m1 hf (noughts p) hns
  rw [eM] at prog
  refine ⟨h, q1, prog, ?_, hw⟩
  obtain ⟨y', ⟨L, l1, l2, l3⟩, g2⟩ := RG_prog hp q1 hin
  have eL : L = M.reverse := sorted_one L M.reverse l2 m3 fun x => by
    rw [List.count_reverse]
    have h1 := l3 x.1 x.2
    have h2 := q2 x.1 x.2
    rw [cz] at h2
    show L.count (x.1, x.2) = M.count (x.1, x.2)
    omega
  have ey := RunB_one l1 M.reverse f eL.symm m2
  subst ey
  unfold impl_ReverseOfHooks.f
  refine Ev.bind hw (Ev.ite_false (by omega) ?_)
  rw [decide_eq_false (by omega)]
  refine g2 _ (Ev.step (fun k => by rw [impl_ReverseOfHooks.l0]) (Ev.ite_false (by omega) ?_))
  have h1 := implFill_ev p y' hl
  rw [(isF_iff hp).2 ⟨hf.1, hf.2.1⟩] at h1
  exact Ev.bind h1 (Ev.ite_true rfl (Ev.now _))
/-- On, and off again. -/
theorem wayB {p : List Int} (hp : isP p = true) (hl : p.length ≤ 1048576) {g : List (List Int)} (hg : shp p g) (hin : inR g) (h20 : wall p 0 g ≤ 20) : ∃ r, shp p r ∧ Ev (fun k => impl_ReverseOfHooks.j0 k p g false) (if isF p r = true then (r, true) else (([] : List (List Int)), false)) ∧ (isF p r = true → rpp p r ∧ tots r ≤ 20 ∧ Ev (fun k => (impl_start.f k r).bind fun bt => impl_HooksOfReverse.l1 k p r (noughts p) bt.1 bt.2) (g, true)) := by
  obtain ⟨y, ⟨L, l1, l2, l3⟩, g2⟩ := RG_prog hp hg hin
  obtain ⟨c1, c2, c3⟩ := put_together hp hg hin l3
  rw [zwall] at c3
  have hlen := hsum_len hp L c1
  obtain ⟨b1, b2, b3, b4⟩ := B_run hp l1 rfl l2 (by omega)
  have hns := noughts_shp hp
  refine ⟨y, b1.1, ?_, fun hF => ?_⟩
  · refine g2 _ (Ev.step (fun k => by rw [impl_ReverseOfHooks.l0]) (Ev.ite_false (by omega) ?_))
    refine Ev.bind (implFill_ev p y hl) ?_
    cases h : isF p y
    · exact Ev.ite_false (by simp) (by rw [if_neg (by simp)]; exact Ev.now _)
    · exact Ev.ite_true rfl (by rw [if_pos rfl]; exact Ev.now _)
  · obtain ⟨f1, f2⟩ := (isF_iff hp).1 hF
    have hr : rpp p y := ⟨f1, f2, b1.2.2⟩
    have hHG := b3 fun a b => (inR_cell f2 a b).2
    have ht := HG_tots hp hHG hr
    rw [hsum_rev] at ht
    refine ⟨hr, by omega, ?_⟩
    have prog := HG_prog hp hHG hr (noughts p) hns
    have cz := cell_noughts hp
    have c1' : ∀ x ∈ L.reverse, inS p x.1 x.2 := fun x hx => c1 x (List.mem_reverse.1 hx)
    have eM := addM_addZ L.reverse (noughts p) hns c1' (fun a b => by rw [cz, List.length_reverse]; omega)
    obtain ⟨q1, q2, _⟩ := addZ_facts L.reverse (noughts p) hns c1'
    have e : addZ L.reverse (noughts p) = g := ext_cells q1 hg fun a b => by
      have := inR_cell hin a b
      rw [q2, cz, List.count_reverse, l3]; omega
    rw [eM, e] at prog
    exact prog
/-! The drawn fillings. -/
def okm (p b : List Int) (res : List (List Int) × Int × Int) : Prop := shp p res.1 ∧ cur b res.2.1
theorem make_cell {p : List Int} (hp : isP p = true) (b : List Int) (rise : Bool) {r j : Nat} (hs : inS p r j)
    (next : ∀ (out : List (List Int)) (x8 i h : Int), shp p out → cur b i → ∃ res, okm p b res ∧ Ev (fun k => spec_l27Make.l1 k p rise out x8 r ((j + 1 : Nat) : Int) b i h) res) :
    ∀ (out : List (List Int)) (x8 i h : Int), shp p out → cur b i → ∃ res, okm p b res ∧ Ev (fun k => spec_l27Make.l1 k p rise out x8 r j b i h) res := by
  intro out x8 i h hout hc
  have h9 := inS_9 hp hs
  have hr := wd_lt hs
  have hl := inS_y hout hs
  have hol := hout.1
  have wj : Aside0 (wrap64 ((j : Int) + 1) = ((j + 1 : Nat) : Int)) := ⟨wr1 (by omega)⟩
  have hlr : (j : Int) < ((rd_L2 out (r : Int)).length : Int) := by rw [rdL_D]; omega
  have j5 : ∀ x11 : Int, ∃ res, okm p b res ∧ Ev (fun k => spec_l27Make.j5 k p rise out x8 r j x11 b i h) res := by
    intro x11
    obtain ⟨o, i1, h1, e1, c1⟩ := once_ev b i h 3 hc (by omega)
    obtain ⟨x, i2, h2, e2, _, c2⟩ := below_ev b i1 h1 3 c1 (by omega)
    obtain ⟨t, ht⟩ : ∃ t, spec_l1Bit.f o = some t := by unfold spec_l1Bit.f; split <;> exact ⟨_, rfl⟩
    obtain ⟨m, hm⟩ : ∃ m, spec_l1Min.f (wrap64 (t * x)) x8 = some m := by unfold spec_l1Min.f; split <;> exact ⟨_, rfl⟩
    obtain ⟨res, g1, g2⟩ := next (putc out r j (wrap64 (x11 + m))) (wrap64 (x8 - m)) i2 h2 (shp_put hout hs _) c2
    refine ⟨res, g1, Ev.step (fun k => by rw [spec_l27Make.j5]) ?_⟩
    simp only [e1, ht, e2, hm, Option.bind_some]
    refine Ev.ite_true (by omega) (Ev.ite_true (by omega) (Ev.ite_true (by omega) (Ev.ite_true hlr ?_)))
    rw [wj.out, rdL_D, Int.toNat_natCast, Int.toNat_natCast]
    exact g2
  have j4 : ∀ (x11 : Int) (bb : Bool), (bb = true → 0 < r) → ∃ res, okm p b res ∧ Ev (fun k => spec_l27Make.j4 k p rise out x8 r j x11 bb b i h) res := by
    intro x11 bb hbb
    cases bb with
    | false =>
      obtain ⟨res, g1, g2⟩ := j5 x11
      exact ⟨res, g1, Ev.step (fun k => by rw [spec_l27Make.j4]) (Ev.ite_false (by simp) g2)⟩
    | true =>
      have h0 := hbb rfl
      have w : Aside0 (wrap64 ((r : Int) - 1) = ((r - 1 : Nat) : Int)) := ⟨wrm1_hor h0 (by omega)⟩
      have hl2 := inS_y hout (inS_up hp hs)
      have hlr2 : (j : Int) < ((rd_L2 out ((r - 1 : Nat) : Int)).length : Int) := by rw [rdL_D]; omega
      obtain ⟨m, hm⟩ : ∃ m, spec_l1Max.f x11 (rd (rd_L2 out ((r - 1 : Nat) : Int)) j) = some m := by unfold spec_l1Max.f; split <;> exact ⟨_, rfl⟩
      obtain ⟨res, g1, g2⟩ := j5 m
      refine ⟨res, g1, Ev.step (fun k => by rw [spec_l27Make.j4]) (Ev.ite_true rfl ?_)⟩
      rw [w.out]
      refine Ev.ite_true (by omega) (Ev.ite_true (by omega) (Ev.ite_true (by omega) (Ev.ite_true hlr2 ?_)))
      rw [hm]
      exact g2
  have j3 : ∀ x11 : Int, ∃ res, okm p b res ∧ Ev (fun k => spec_l27Make.j3 k p rise out x8 r j x11 b i h) res := by
    intro x11
    by_cases hri : rise = true
    · obtain ⟨res, g1, g2⟩ := j4 x11 (decide ((r : Int) > 0)) (fun e => by have := of_decide_eq_true e; omega)
      exact ⟨res, g1, Ev.step (fun k => by rw [spec_l27Make.j3]) (Ev.ite_true hri g2)⟩
    · obtain ⟨res, g1, g2⟩ := j4 x11 false (fun e => by cases e)
      exact ⟨res, g1, Ev.step (fun k => by rw [spec_l27Make.j3]) (Ev.ite_false hri g2)⟩
  have j2 : ∀ (bb : Bool), (bb = true → 0 < j) → ∃ res, okm p b res ∧ Ev (fun k => spec_l27Make.j2 k p rise out x8 r j 0 bb b i h) res := by
    intro bb hbb
    cases bb with
    | false =>
      obtain ⟨res, g1, g2⟩ := j3 0
      exact ⟨res, g1, Ev.step (fun k => by rw [spec_l27Make.j2]) (Ev.ite_false (by simp) g2)⟩
    | true =>
      have h0 := hbb rfl
      have w : Aside0 (wrap64 ((j : Int) - 1) = ((j - 1 : Nat) : Int)) := ⟨wrm1_hor h0 (by omega)⟩
      obtain ⟨res, g1, g2⟩ := j3 (rd (rd_L2 out (r : Int)) ((j - 1 : Nat) : Int))
      refine ⟨res, g1, Ev.step (fun k => by rw [spec_l27Make.j2]) (Ev.ite_true rfl ?_)⟩
      rw [w.out]
      exact Ev.ite_true (by omega) (Ev.ite_true (by omega) (Ev.ite_true (by omega) (Ev.ite_true (by omega) g2)))
  have hjr : (j : Int) < rd p (r : Int) := by rw [rd_wd]; exact hs
  by_cases hri : rise = true
  · obtain ⟨res, g1, g2⟩ := j2 (decide ((j : Int) > 0)) (fun e => by have := of_decide_eq_true e; omega)
    exact ⟨res, g1, Ev.step (fun k => by rw [spec_l27Make.l1]) (Ev.ite_true (by omega) (Ev.ite_true (by omega) (Ev.ite_true hjr (Ev.ite_true hri g2))))⟩
  · obtain ⟨res, g1, g2⟩ := j2 false (fun e => by cases e)
    exact ⟨res, g1, Ev.step (fun k => by rw [spec_l27Make.l1]) (Ev.ite_true (by omega) (Ev.ite_true (by omega) (Ev.ite_true hjr (Ev.ite_false hri g2))))⟩
theorem make_row {p : List Int} (hp : isP p = true) (b : List Int) (rise : Bool) {r : Nat} (hr : r < p.length)
    (next : ∀ (out : List (List Int)) (x8 i h : Int), shp p out → cur b i → ∃ res, okm p b res ∧ Ev (fun k => spec_l27Make.l0 k p rise out x8 ((r + 1 : Nat) : Int) b i h) res) (d : Nat) :
    ∀ (j : Nat) (out : List (List Int)) (x8 i h : Int), ((j + d : Nat) : Int) = wd p r → shp p out → cur b i → ∃ res, okm p b res ∧ Ev (fun k => spec_l27Make.l1 k p rise out x8 r j b i h) res := by
  have h3 := isP_length hp
  induction d with
  | zero =>
    intro j out x8 i h hj hout hc
    obtain ⟨res, g1, g2⟩ := next out x8 i h hout hc
    refine ⟨res, g1, Ev.step (fun k => by rw [spec_l27Make.l1]) (Ev.ite_true (by omega) (Ev.ite_true (by omega) (Ev.ite_false (by rw [rd_wd]; omega) ?_)))⟩
    rw [wr1 (by omega)]
    exact g2
  | succ d ih =>
    intro j out x8 i h hj hout hc
    exact make_cell hp b rise (show inS p r j by unfold inS; omega) (fun out x8 i h hout hc => ih (j + 1) out x8 i h (by omega) hout hc) out x8 i h hout hc
theorem make_ev {p : List Int} (hp : isP p = true) (b : List Int) (i h : Int) (rise : Bool) (hc : cur b i) : ∃ f i' h', Ev (fun k => spec_l27Make.f k b i h p rise) (f, i', h') ∧ shp p f ∧ cur b i' := by
  have loop : ∀ (d r : Nat) (out : List (List Int)) (x8 i h : Int), r + d = p.length → shp p out → cur b i → ∃ res, okm p b res ∧ Ev (fun k => spec_l27Make.l0 k p rise out x8 r b i h) res := by
    intro d
    induction d with
    | zero =>
      intro r out x8 i h hr hout hc
      exact ⟨(out, i, h), ⟨hout, hc⟩, Ev.step (fun k => by rw [spec_l27Make.l0]) (Ev.ite_false (by omega) (Ev.now _))⟩
    | succ d ih =>
      intro r out x8 i h hr hout hc
      have hw := wd_9 hp r
      obtain ⟨res, g1, g2⟩ := make_row hp b rise (r := r) (by omega) (fun out x8 i h hout hc => ih (r + 1) out x8 i h (by omega) hout hc) (wd p r).toNat 0 out x8 i h (by omega) hout hc
      exact ⟨res, g1, Ev.step (fun k => by rw [spec_l27Make.l0]; rfl) (Ev.ite_true (by omega) g2)⟩
  obtain ⟨⟨f, i', h'⟩, ⟨g1, g2⟩, g3⟩ := loop p.length 0 (noughts p) 9 i h (by omega) (noughts_shp hp) hc
  refine ⟨f, i', h', ?_, g1, g2⟩
  unfold spec_l27Make.f
  exact Ev.bind (zeros_ev hp).1 g3
theorem case_ev (l : List Int) (hl : l.length ≤ 1048576) (rise : Bool) : ∃ p f, Ev (fun k => spec_l27Case.f k l rise) (p, f) ∧ p.length ≤ 20 := by
  obtain ⟨h0, e0⟩ := new_ev l hl
  obtain ⟨p, i1, h1, e1, hp, c1⟩ := draw_ev l 0 h0 6 (cur0 l hl) (by omega) (by omega)
  obtain ⟨f, i2, h2, e2, hf, c2⟩ := make_ev hp.1 l i1 h1 rise c1
  obtain ⟨x, i3, h3, e3, _, c3⟩ := below_ev l i2 h2 12 c2 (by omega)
  have hpl := isP_length hp.1
  by_cases x0 : x = 0
  · obtain ⟨q, i4, h4, e4, hq, _⟩ := bent_ev l i3 h3 6 c3 (by omega) (by omega)
    refine ⟨q, f, ?_, hq⟩
    unfold spec_l27Case.f
    refine Ev.bind e0 (Ev.bind e1 (Ev.bind e2 ?_))
    simp only [e3, Option.bind_some]
    exact Ev.ite_true x0 (Ev.bind e4 (Ev.now _))
  · by_cases x1 : x = 1
    · by_cases hfl : (f.length : Int) > 0
      · obtain ⟨v, i4, h4, e4, _, _⟩ := pickInt_ev l i3 h3 [-1, 9, 10, 4] c3 (by simp) (by simp)
        have hl0 : 0 < ((rd_L2 f 0).length : Int) := by
          have h1 : 0 < p.length := by have := hf.1; omega
          have h2 := isP_get hp.1 0 h1
          have h3 := hf.2 0 (by omega) h1
          have h4 : rd_L2 f 0 = f[0]'(by omega) := rdL_nat f 0 (by omega)
          rw [h4]; omega
        refine ⟨p, f.set (0 : Int).toNat ((rd_L2 f 0).set (0 : Int).toNat v), ?_, by omega⟩
        unfold spec_l27Case.f
        refine Ev.bind e0 (Ev.bind e1 (Ev.bind e2 ?_))
        simp only [e3, Option.bind_some]
        refine Ev.ite_false x0 (Ev.ite_true x1 (Ev.ite_true hfl (Ev.ite_true hfl ?_)))
        simp only [e4, Option.bind_some]
        exact Ev.ite_true hl0 (Ev.now _)
      · refine ⟨p, f, ?_, by omega⟩
        unfold spec_l27Case.f
        refine Ev.bind e0 (Ev.bind e1 (Ev.bind e2 ?_))
        simp only [e3, Option.bind_some]
        exact Ev.ite_false x0 (Ev.ite_true x1 (Ev.ite_false hfl (Ev.now _)))
    · refine ⟨p, f, ?_, by omega⟩
      unfold spec_l27Case.f
      refine Ev.bind e0 (Ev.bind e1 (Ev.bind e2 ?_))
      simp only [e3, Option.bind_some]
      exact Ev.ite_false x0 (Ev.ite_false x1 (Ev.now _))
/-! The law. -/
theorem hor_impl {p : List Int} {f : List (List Int)} (hp : isP p = true) (hl : p.length ≤ 1048576) (hf : rpp p f) (h20 : tots f ≤ 20) (res : List (List Int) × Bool) (h : Ev (fun k => (impl_start.f k f).bind fun bt => impl_HooksOfReverse.l1 k p f (noughts p) bt.1 bt.2) res) : Ev (fun k => impl_HooksOfReverse.f k p f) res := by
  obtain ⟨b, _, r2, _, r4⟩ := rev_same p f hl
  have hb := r4 ((isF_iff hp).2 ⟨hf.1, hf.2.1⟩) ((rpp_from hf.1 hf.2.1).2 hf)
  subst hb
  obtain ⟨q1, q2⟩ := rows9_hor hp hf.1
  have t2 := nums_impl f q2 q1
  have t3 := implTotal_ev_hor f q1 q2 hf.2.1
  have hz := zeros_ev hp
  have hzs := noughts_shp hp
  unfold impl_HooksOfReverse.f
  refine Ev.bind r2 (Ev.ite_true rfl (Ev.bind t2 (Ev.bind t3 ?_)))
  rw [decide_eq_false (show ¬ tots f > 20 by omega)]
  refine Ev.step (fun k => by rw [impl_HooksOfReverse.j0]) (Ev.ite_false (by simp) (Ev.bind hz.2 (Ev.bind hz.2 ?_)))
  exact fill_ev_hor hp f hf.1 (noughts p) res h f.length 0 (noughts p) (by omega) hzs rfl
theorem hor_full (p : List Int) (f : List (List Int)) (hl : p.length ≤ 1048576) : ∃ (h : List (List Int)) (ok : Bool), (h.length ≤ 1048576 ∧ ∀ x ∈ h, x.length ≤ 1048576) ∧ Ev (fun k => spec_HooksOfReverse.f k p f) (h, ok) ∧ Ev (fun k => impl_HooksOfReverse.f k p f) (h, ok) ∧
    (ok = true → isP p = true ∧ rpp p f ∧ tots f ≤ 20 ∧ Ev (fun k => impl_ReverseOfHooks.f k p h) (f, true) ∧ Ev (fun k => impl_HookWeight.f k p h) (tots f)) := by
  obtain ⟨⟨h, ok⟩, q, s1, s2⟩ := same_hor p f hl
  refine ⟨h, ok, q, s1, s2, fun e => ?_⟩
  subst e
  obtain ⟨b, _, r2, r3, _⟩ := rev_same p f hl
  have n2 : Ev (fun k => impl_HooksOfReverse.j0 k p f true) (([], false) : List (List Int) × Bool) := Ev.step (fun k => by rw [impl_HooksOfReverse.j0]) (Ev.ite_true rfl (Ev.now _))
  cases b with
  | false =>
    have h1 : Ev (fun k => impl_HooksOfReverse.f k p f) (([], false) : List (List Int) × Bool) := by
      unfold impl_HooksOfReverse.f
      exact Ev.bind r2 (Ev.ite_false (by simp) n2)
    have := ev_one s2 h1
    injection this with _ h2
    cases h2
  | true =>
    obtain ⟨hF, hR⟩ := r3 rfl
    have hp : isP p = true := by
      have h := hF
      simp only [isF, Bool.and_eq_true, decide_eq_true_eq] at h
      exact h.1
    obtain ⟨hs, hin⟩ := (isF_iff hp).1 hF
    have hf := (rpp_from hs hin).1 hR
    obtain ⟨q1, q2⟩ := rows9_hor hp hs
    by_cases h20 : tots f > 20
    · have h1 : Ev (fun k => impl_HooksOfReverse.f k p f) (([], false) : List (List Int) × Bool) := by
        unfold impl_HooksOfReverse.f
        refine Ev.bind r2 (Ev.ite_true rfl (Ev.bind (nums_impl f q2 q1) (Ev.bind (implTotal_ev_hor f q1 q2 hin) ?_)))
        rw [decide_eq_true h20]; exact n2
      have := ev_one s2 h1
      injection this with _ h2
      cases h2
    · obtain ⟨h', _, w2, w3, w4⟩ := wayA hp hl hf (by omega)
      have h1 := hor_impl hp hl hf (by omega) _ w2
      have := ev_one s2 h1
      injection this with h2 _
      subst h2
      exact ⟨hp, hf, by omega, w3, w4⟩
theorem roh_full (q : List Int) (g : List (List Int)) (hl : q.length ≤ 1048576) : ∃ (r : List (List Int)) (fine : Bool), (r.length ≤ 1048576 ∧ ∀ x ∈ r, x.length ≤ 1048576) ∧ Ev (fun k => spec_ReverseOfHooks.f k q g) (r, fine) ∧ Ev (fun k => impl_ReverseOfHooks.f k q g) (r, fine) ∧
    (fine = true → (g.length ≤ 1048576 ∧ ∀ x ∈ g, x.length ≤ 1048576) ∧ Ev (fun k => impl_HooksOfReverse.f k q r) (g, true) ∧ Ev (fun k => impl_IsReverse.f k q r) true) := by
  obtain ⟨⟨r, fine⟩, b, s1, s2⟩ := same_roh q g hl
  refine ⟨r, fine, b, s1, s2, fun e => ?_⟩
  subst e
  have n2 : Ev (fun k => impl_ReverseOfHooks.j0 k q g true) (([], false) : List (List Int) × Bool) := Ev.step (fun k => by rw [impl_ReverseOfHooks.j0]) (Ev.ite_true rfl (Ev.now _))
  have no : Ev (fun k => impl_ReverseOfHooks.f k q g) (([], false) : List (List Int) × Bool) → False := fun h1 => by
    have := ev_one s2 h1
    injection this with _ h2
    cases h2
  cases hF : isF q g
  · refine absurd ?_ no
    have h2 := implFill_ev q g hl
    rw [hF] at h2
    have hw : Ev (fun k => impl_HookWeight.f k q g) (-1) := by
      simp only [impl_HookWeight.f]
      exact Ev.bind h2 (Ev.ite_false (by simp) (Ev.now _))
    unfold impl_ReverseOfHooks.f
    exact Ev.bind hw (Ev.ite_true (by omega) n2)
  · have hp : isP q = true := by
      have h := hF
      simp only [isF, Bool.and_eq_true, decide_eq_true_eq] at h
      exact h.1
    obtain ⟨hs, hin⟩ := (isF_iff hp).1 hF
    have hw := weight_full hp hl hs hin
    obtain ⟨z1, z2⟩ := rows9_hor hp hs
    by_cases hneg : wall q 0 g < 0
    · refine absurd ?_ no
      unfold impl_ReverseOfHooks.f
      exact Ev.bind hw (Ev.ite_true hneg n2)
    · by_cases h20 : wall q 0 g > 20
      · refine absurd ?_ no
        unfold impl_ReverseOfHooks.f
        refine Ev.bind hw (Ev.ite_false hneg ?_)
        rw [decide_eq_true h20]; exact n2
      · obtain ⟨r', w1, w2, w3⟩ := wayB hp hl hs hin (by omega)
        have h1 : Ev (fun k => impl_ReverseOfHooks.f k q g) (if isF q r' = true then (r', true) else (([] : List (List Int)), false)) := by
          unfold impl_ReverseOfHooks.f
          refine Ev.bind hw (Ev.ite_false hneg ?_)
          rw [decide_eq_false h20]; exact w2
        have e := ev_one s2 h1
        by_cases hF' : isF q r' = true
        · rw [if_pos hF'] at e
          injection e with e1 _
          subst e1
          obtain ⟨v1, v2, v3⟩ := w3 hF'
          obtain ⟨bb, _, u2, _, u4⟩ := rev_same q r hl
          have hb := u4 hF' ((rpp_from v1.1 v1.2.1).2 v1)
          subst hb
          exact ⟨⟨by omega, fun x hx => by have := z2 x hx; omega⟩, hor_impl hp hl v1 v2 _ v3, u2⟩
        · rw [if_neg hF'] at e
          injection e with _ e2
          cases e2
theorem total_ev (l : List Int) (hl : l.length ≤ 1000) (hb : ∀ n ∈ l, 0 ≤ n ∧ n ≤ 9) : Ev (fun k => laws_total.f k l) l.sum := by
  have loop : ∀ (d i : Nat) (s : Int), i + d = l.length → 0 ≤ s → s ≤ 9 * (i : Int) → Ev (fun k => laws_total.l0 k l s i) (s + (l.drop i).sum) := by
    intro d
    induction d with
    | zero =>
      intro i s hi h0 h1
      rw [List.drop_of_length_le (by omega), List.sum_nil, Int.add_zero]
      exact Ev.step (fun k => by simp only [laws_total.l0]; rfl) (Ev.ite_false (by omega) (Ev.now _))
    | succ d ih =>
      intro i s hi h0 h1
      have hlt : i < l.length := by omega
      have hx := hb _ (List.getElem_mem hlt)
      have w : wrap64 (s + l[i]) = s + l[i] := wr_in (by omega) (by omega)
      have hi5 : i < 4611686018427387904 := by omega
      have g1 := ih (i + 1) (s + l[i]) (by omega) (by omega) (by omega)
      rw [List.drop_eq_getElem_cons hlt, List.sum_cons, ← Int.add_assoc]
      refine Ev.step (fun k => by simp only [laws_total.l0]; rfl) (Ev.ite_true (by omega) (Ev.ite_true (by omega) ?_))
      rw [rd_nat l i hlt, w, wr1 hi5]; exact g1
  have := loop l.length 0 0 (by omega) (by omega) (by omega)
  simpa [laws_total.f] using this
theorem sums_ev {p : List Int} {f : List (List Int)} (hp : isP p = true) (hf : rpp p f) (h q g r x : List (List Int)) (q' : List Int) (fine back : Bool) (res : Bool)
    (fin : Ev (fun k => if back = true then ((laws_sameLists.f k x f).bind fun t => (if t = true then ((impl_HookWeight.f k p h).bind fun t2 => (if t2 = tots f then (laws_FnFillings.j2 k q' g r fine) else (some false))) else (some false))) else (some false)) res) :
    Ev (fun k => laws_FnFillings.l0 k p f h q' g r fine x back 0 0) res := by
  obtain ⟨z1, z2⟩ := rows9_hor hp hf.1
  have loop : ∀ (d i : Nat) (s : Int), i + d = f.length → 0 ≤ s → s ≤ 81 * (i : Int) → s + tots (f.drop i) = tots f → Ev (fun k => laws_FnFillings.l0 k p f h q' g r fine x back s i) res := by
    intro d
    induction d with
    | zero =>
      intro i s hi h0 h1 hs
      rw [List.drop_of_length_le (by omega), show tots [] = 0 from rfl, Int.add_zero] at hs
      subst hs
      exact Ev.step (fun k => by rw [laws_FnFillings.l0]) (Ev.ite_false (by omega) fin)
    | succ d ih =>
      intro i s hi h0 h1 hs
      have hlt : i < f.length := by omega
      have hx := z2 _ (List.getElem_mem hlt)
      have hb := hf.2.1 _ (List.getElem_mem hlt)
      have hsb := sum_bound f[i] hb
      have w : Aside0 (wrap64 (s + f[i].sum) = s + f[i].sum) := ⟨wr_in (by omega) (by omega)⟩
      rw [List.drop_eq_getElem_cons hlt, show tots (f[i] :: f.drop (i + 1)) = f[i].sum + tots (f.drop (i + 1)) from by simp only [tots, List.map_cons, List.sum_cons]] at hs
      refine Ev.step (fun k => by rw [laws_FnFillings.l0]) (Ev.ite_true (by omega) (Ev.ite_true (by omega) ?_))
      rw [rdL_nat f i hlt]
      refine Ev.bind (total_ev f[i] (by omega) hb) ?_
      rw [w.out, wr1 (by omega)]
      exact ih (i + 1) (s + f[i].sum) (by omega) (by omega) (by omega) (by omega)
  exact loop f.length 0 0 (by omega) (by omega) (by omega) (by simp)
theorem FnFillings : laws_FnFillings.Pure := by
  intro l _ _ _
  apply Ev.rounds
  simp only [laws_FnFillings.f, laws_big.f, Option.bind_some]
  by_cases hl : l.length ≤ 1048576
  · refine Ev.ite_false (by rw [decide_eq_true_eq]; omega) ?_
    obtain ⟨p, f, d1, hp⟩ := case_ev l hl true
    obtain ⟨q, g, d2, hq⟩ := case_ev l hl false
    obtain ⟨h, ok, b1, s1, s2, s3⟩ := hor_full p f (by omega)
    obtain ⟨r, fine, b2, t1, t2, t3⟩ := roh_full q g (by omega)
    obtain ⟨ri, u1, u2, _⟩ := rev_same p f (by omega)
    have v1 := specFill_ev p f (by omega)
    have v2 := implFill_ev p f (by omega)
    obtain ⟨wt, w1, w2⟩ := hookw_same q g (by omega)
    have eh := sameLists_self h b1
    have er := sameLists_self r b2
    have e1 : Ev (fun k => spec_DrawHooksOfReverse.f k l) (p, f) := by simp only [spec_DrawHooksOfReverse.f]; exact Ev.bind d1 (Ev.now _)
    have e2 : Ev (fun k => spec_DrawReverseOfHooks.f k l) (q, g) := by simp only [spec_DrawReverseOfHooks.f]; exact Ev.bind d2 (Ev.now _)
    have e3 : Ev (fun k => spec_DrawIsReverse.f k l) (p, f) := by simp only [spec_DrawIsReverse.f]; exact Ev.bind d1 (Ev.now _)
    have e4 : Ev (fun k => spec_DrawHookWeight.f k l) (q, g) := by simp only [spec_DrawHookWeight.f]; exact Ev.bind d2 (Ev.now _)
    have j2 : Ev (fun k => laws_FnFillings.j2 k q g r fine) true := by
      cases fine with
      | false => exact Ev.step (fun k => by rw [laws_FnFillings.j2]) (Ev.ite_false (by simp) (Ev.now _))
      | true =>
        obtain ⟨z1, z2, z3⟩ := t3 rfl
        exact Ev.step (fun k => by rw [laws_FnFillings.j2]) (Ev.ite_true rfl (Ev.bind z2 (Ev.ite_true rfl (Ev.bind (sameLists_self g z1) (Ev.ite_true rfl (Ev.bind z3 (Ev.now _)))))))
    have j0 : Ev (fun k => laws_FnFillings.j0 k p f h ok q g r fine false) true := by
      cases ok with
      | false => exact Ev.step (fun k => by rw [laws_FnFillings.j0]) (Ev.ite_false (by simp) (Ev.ite_false (by simp) j2))
      | true =>
        obtain ⟨y1, y2, y3, y4, y5⟩ := s3 rfl
        obtain ⟨z1, z2⟩ := rows9_hor y1 y2.1
        have ef := sameLists_self f ⟨by omega, fun x hx => by have := z2 x hx; omega⟩
        refine Ev.step (fun k => by rw [laws_FnFillings.j0]) (Ev.ite_false (by simp) (Ev.ite_true rfl (Ev.bind y4 ?_)))
        exact sums_ev y1 y2 h g g r f q fine true true (Ev.ite_true rfl (Ev.bind ef (Ev.ite_true rfl (Ev.bind y5 (Ev.ite_true rfl j2)))))
    refine Ev.bind e1 (Ev.bind s2 (Ev.bind s1 (Ev.bind e2 (Ev.bind t2 (Ev.bind t1 (Ev.bind e3 (Ev.bind e4 ?_)))))))
    refine Ev.ite_false (by simp) (Ev.bind eh (Ev.ite_true rfl (Ev.ite_false (by simp) (Ev.bind er (Ev.ite_true rfl (Ev.bind u2 (Ev.bind u1 (Ev.ite_false (by simp) (Ev.bind v2 (Ev.bind v1 (Ev.ite_false (by simp) (Ev.bind w2 (Ev.bind w1 ?_)))))))))))))
    rw [show (wt != wt) = false by simp]
    exact j0
  · exact Ev.ite_true (by rw [decide_eq_true_eq]; omega) (Ev.now _)

end Go.Proofs.Ytnfcdaojglicfab.Pure
