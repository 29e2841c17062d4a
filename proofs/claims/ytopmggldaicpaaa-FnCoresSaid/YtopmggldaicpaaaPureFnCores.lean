/- Cores, weights, quotients and beta numbers of the program are those of the reference, and a partition is told by its core and its quotient, for all that can be drawn. No condition. -/
import Derived.Test.YtopmggldaicpaaaPFnCoresx17
import Derived.Test.YtopmggldaicpaaaVFnCores
set_option linter.unusedVariables false
set_option linter.unusedSimpArgs false
namespace Go.Proofs.Ytopmggldaicpaaa
open Go.ChangeShapes Go.WideShapes
theorem PrintWords.sized_ints {H : Type} {enc : TypeId × Value → H} {P : Program} {W : World} {base : Nat} {spare : Nat → Bool} {held : Bool} {t e : TypeId} {k : IntKind} {a : Option Addr} {len cap : Nat} {d : DataW H} {ps : List MemPlace} {ts : List TypeId} {ds : List (DataW H)} {j : Nat}
    (hsz : (DataW.weightsEach P ts ds).all (· ≤ reachBytes) = true) (ht : ts[j]? = some t) (hd : ds[j]? = some d) (hu : P.underlying t = some (.slice e)) (he : P.underlying e = some (.int k)) (hc : P.cellsOf e = 1) {B : Nat} (hB : P.bytesOf e = B)
    (h : DataW.Trod enc P W base spare held t (.slice a len cap) d ps) : len * B ≤ 140737488351232 :=
  Go.Proofs.YtopmggldaicpaaaW.PrintWords.sized_ints hsz ht hd hu he hc hB h
end Go.Proofs.Ytopmggldaicpaaa
namespace Go.Proofs.Ytopmggldaicpaaa.Pure
open Go.RowKit Go.Proofs.Ytopmggldaicpaaa.PFnCores Go.Proofs.YtopmggldaicpaaaW.PrintWords Go.Proofs.YtopmggldaicpaaaW.PrintLast

theorem wr_in {x : Int} (h : -9223372036854775808 ≤ x) (h' : x ≤ 9223372036854775807) : wrap64 x = x := by unfold wrap64; omega
theorem wr1 {i : Nat} (h : i < 4611686018427387904) : wrap64 ((i : Int) + 1) = ((i + 1 : Nat) : Int) := by unfold wrap64; omega
theorem Ev.ite_true {α : Type} {c : Prop} [Decidable c] {g f : Nat → Option α} {r : α} (hc : c) (h : Ev g r) : Ev (fun k => if c then g k else f k) r := by
  obtain ⟨K, h⟩ := h
  exact ⟨K, fun k hk => (if_pos hc).trans (h k hk)⟩
theorem Ev.ite_false {α : Type} {c : Prop} [Decidable c] {g f : Nat → Option α} {r : α} (hc : ¬ c) (h : Ev f r) : Ev (fun k => if c then g k else f k) r := by
  obtain ⟨K, h⟩ := h
  exact ⟨K, fun k hk => (if_neg hc).trans (h k hk)⟩
theorem rd_nat (l : List Int) (i : Nat) (h : i < l.length) : rd l (i : Int) = l[i] := by
  simp [rd, List.getD_eq_getElem?_getD, h]
/-- A statement that holds of all members of a list that can be run through. -/
theorem of_all {α : Type} {p : α → Bool} {l : List α} (h : l.all p = true) {x : α} (hx : x ∈ l) : p x = true := List.all_eq_true.mp h x hx
/-- Both answer, and alike. -/
def both {α : Type} [DecidableEq α] (a b : Option α) : Bool := match a, b with
  | some x, some y => decide (x = y)
  | _, _ => false
theorem both_ev {α : Type} [DecidableEq α] {f g : Nat → Option α} (hf : ∀ k, LeO (f k) (f (k + 1))) (hg : ∀ k, LeO (g k) (g (k + 1))) {n m : Nat} (h : both (f n) (g m) = true) : ∃ r, Ev f r ∧ Ev g r := by
  unfold both at h
  split at h
  · rename_i x y hx hy
    have e := of_decide_eq_true h
    subst e
    exact ⟨x, Ev.of hf hx, Ev.of hg hy⟩
  · cases h
theorem take_set_succ {α : Type} (y : List α) (i : Nat) (v : α) (h : i < y.length) : (y.set i v).take (i + 1) = y.take i ++ [v] := by
  rw [List.take_succ_eq_append_getElem (by simpa using h)]
  simp only [List.getElem_set_self]
  congr 1
  apply List.ext_getElem?
  intro j
  simp only [List.getElem?_take, List.getElem?_set]
  by_cases h : j < i
  · rw [if_pos h, if_neg (by omega), if_pos h]
  · rw [if_neg h, if_neg h]

theorem ev_one {α : Type} {f : Nat → Option α} {x y : α} (hx : Ev f x) (hy : Ev f y) : x = y := by
  obtain ⟨K, h1⟩ := hx
  obtain ⟨M, h2⟩ := hy
  have a := h1 (max K M) (Nat.le_max_left _ _)
  have b := h2 (max K M) (Nat.le_max_right _ _)
  rw [a] at b
  exact Option.some.inj b

theorem l1In_f (x a b : Int) : spec_l1In.f x a b = some (decide (a ≤ x ∧ x ≤ b)) := by
  unfold spec_l1In.f
  by_cases h : x ≥ a
  · rw [if_pos h]; congr 1; by_cases h2 : x ≤ b
    · rw [decide_eq_true h2, decide_eq_true ⟨h, h2⟩]
    · rw [decide_eq_false h2, decide_eq_false (by omega)]
  · rw [if_neg h, decide_eq_false (by omega)]

theorem within_f (x a b : Int) : impl_within.f x a b = some (decide (a ≤ x ∧ x ≤ b)) := by
  unfold impl_within.f
  by_cases h : a ≤ x
  · rw [if_pos h]; congr 1; by_cases h2 : x ≤ b
    · rw [decide_eq_true h2, decide_eq_true ⟨h, h2⟩]
    · rw [decide_eq_false h2, decide_eq_false (by omega)]
  · rw [if_neg h, decide_eq_false (by omega)]

/-! Partitions: a plain test, and all of them. -/
def isPF (prev s : Int) : List Int → Bool
  | [] => true
  | x :: xs => if 1 ≤ x ∧ x ≤ 9 ∧ x ≤ prev ∧ s + x ≤ 9 then isPF x (s + x) xs else false
def isP (l : List Int) : Bool := isPF 9 0 l
/-- All lists of numbers of at most 'prev' that add to 's' at most 9. -/
def genP : Nat → Nat → Nat → List (List Int)
  | 0, _, _ => [[]]
  | n + 1, prev, s => [] :: (List.range' 1 (min prev (9 - s))).flatMap fun x => (genP n x (s + x)).map fun r => (x : Int) :: r
theorem mem_genP : ∀ (n prev s : Nat) (l : List Int), 9 < n + s → s ≤ 9 → isPF prev s l = true → l ∈ genP n prev s
  | 0, prev, s, l, h1, h2, _ => by omega
  | n + 1, prev, s, [], _, _, _ => by simp [genP]
  | n + 1, prev, s, x :: xs, h1, h2, h => by
    simp only [isPF] at h
    split at h
    · rename_i hc
      obtain ⟨c1, c2, c3, c4⟩ := hc
      obtain ⟨m, rfl⟩ : ∃ m : Nat, x = (m : Int) := ⟨x.toNat, by omega⟩
      have e : (s : Int) + (m : Int) = ((s + m : Nat) : Int) := by omega
      rw [e] at h
      have ih := mem_genP n m (s + m) xs (by omega) (by omega) h
      simp only [genP, List.mem_cons, List.mem_flatMap]
      refine Or.inr ⟨m, ?_, ?_⟩
      · simp only [List.mem_range'_1]; omega
      · exact List.mem_map.2 ⟨xs, ih, rfl⟩
    · cases h
def allP : List (List Int) := genP 10 9 0
theorem mem_allP {l : List Int} (h : isP l = true) : l ∈ allP := mem_genP 10 9 0 l (by omega) (by omega) h
theorem isPF_length : ∀ (l : List Int) (prev s : Int), isPF prev s l = true → s + l.length ≤ 9 ∨ l = []
  | [], _, _, _ => .inr rfl
  | x :: xs, prev, s, h => by
    simp only [isPF] at h
    split at h
    · rename_i hc
      rcases isPF_length xs x (s + x) h with h1 | rfl
      · left; simp only [List.length_cons]; omega
      · left; simp; omega
    · cases h
theorem isP_length {l : List Int} (h : isP l = true) : l.length ≤ 9 := by
  rcases isPF_length l 9 0 h with h | rfl
  · omega
  · simp
/-- What stands at place i, and behind it. -/
theorem drop_cons (l : List Int) (i : Nat) (h : i < l.length) : l.drop i = l[i] :: l.drop (i + 1) := List.drop_eq_getElem_cons h
def prevOf (l : List Int) (i : Nat) : Int := if i = 0 then 9 else l.getD (i - 1) 0
theorem prevOf_succ (l : List Int) (i : Nat) (h : i < l.length) : prevOf l (i + 1) = l[i] := by simp [prevOf, h]

theorem specIsP_l0 (l : List Int) (hl : l.length ≤ 1048576) (d : Nat) : ∀ (i k : Nat) (s : Int), i + d = l.length → 0 ≤ s → s ≤ 9 → 2 * d < k → spec_IsPartition.l0 k l s i = some (isPF (prevOf l i) s (l.drop i)) := by
  induction d with
  | zero =>
    intro i k s hi h0 h9 hk
    obtain ⟨k, rfl⟩ : ∃ m, k = m + 1 := ⟨k - 1, by omega⟩
    simp only [spec_IsPartition.l0]
    rw [if_neg (by omega), List.drop_of_length_le (by omega)]
    rfl
  | succ d ih =>
    intro i k s hi h0 h9 hk
    obtain ⟨k, rfl⟩ : ∃ m, k = m + 2 := ⟨k - 2, by omega⟩
    have hlt : i < l.length := by omega
    simp only [spec_IsPartition.l0]
    rw [if_pos (by omega), if_pos (by omega), rd_nat l i hlt, l1In_f, drop_cons l i hlt]
    simp only [Option.bind_some, isPF]
    have hj : ∀ b : Bool, (b = true ↔ ¬ (1 ≤ l[i] ∧ l[i] ≤ 9 ∧ l[i] ≤ prevOf l i)) →
        spec_IsPartition.j1 (k + 1) l s i b = some (if 1 ≤ l[i] ∧ l[i] ≤ 9 ∧ l[i] ≤ prevOf l i ∧ s + l[i] ≤ 9 then isPF l[i] (s + l[i]) (l.drop (i + 1)) else false) := by
      intro b hb
      simp only [spec_IsPartition.j1]
      by_cases hc : 1 ≤ l[i] ∧ l[i] ≤ 9 ∧ l[i] ≤ prevOf l i
      · rw [if_neg (fun h => hb.1 h hc), if_pos (by omega), if_pos (by omega), rd_nat l i hlt, wr_in (by omega) (by omega), wr1 (by omega)]
        by_cases h9' : s + l[i] > 9
        · rw [if_pos h9', if_neg (by omega)]
        · rw [if_neg h9', if_pos ⟨hc.1, hc.2.1, hc.2.2, by omega⟩, ih (i + 1) k _ (by omega) (by omega) (by omega) (by omega), prevOf_succ l i hlt]
      · rw [if_pos (hb.2 hc), if_neg (fun h => hc ⟨h.1, h.2.1, h.2.2.1⟩)]
    by_cases h1 : 1 ≤ l[i] ∧ l[i] ≤ 9
    · rw [if_pos (decide_eq_true h1)]
      by_cases hi0 : i = 0
      · subst hi0
        rw [if_neg (by omega)]
        exact hj false (by simp [prevOf]; omega)
      · have e : wrap64 ((i : Int) - 1) = ((i - 1 : Nat) : Int) := by unfold wrap64; omega
        rw [if_pos (by omega), e, if_pos (by omega), if_pos (by omega), rd_nat l (i - 1) (by omega)]
        refine hj _ ?_
        have hp : prevOf l i = l[i - 1] := by simp [prevOf, hi0]; rw [List.getElem?_eq_getElem (by omega)]; rfl
        rw [hp, decide_eq_true_iff]; omega
    · rw [if_neg (by simp; omega)]
      exact hj true (by simp; omega)
theorem specIsP_ev (l : List Int) (hl : l.length ≤ 1048576) : Ev (fun k => spec_IsPartition.f k l) (isP l) := by
  refine ⟨2 * l.length + 1, fun k hk => ?_⟩
  have h := specIsP_l0 l hl l.length 0 k 0 (by omega) (by omega) (by omega) (by omega)
  simpa [spec_IsPartition.f, isP, prevOf] using h

theorem implIsP_l0 (l : List Int) (hl : l.length ≤ 1048576) (d : Nat) : ∀ (i k : Nat) (s : Int), i + d = l.length → 0 ≤ s → s ≤ 9 → 2 * d < k → impl_IsPartition.l0 k l s l l.length i = some (isPF (prevOf l i) s (l.drop i)) := by
  induction d with
  | zero =>
    intro i k s hi h0 h9 hk
    obtain ⟨k, rfl⟩ : ∃ m, k = m + 1 := ⟨k - 1, by omega⟩
    simp only [impl_IsPartition.l0]
    rw [if_neg (by omega), List.drop_of_length_le (by omega)]
    rfl
  | succ d ih =>
    intro i k s hi h0 h9 hk
    obtain ⟨k, rfl⟩ : ∃ m, k = m + 2 := ⟨k - 2, by omega⟩
    have hlt : i < l.length := by omega
    simp only [impl_IsPartition.l0]
    rw [if_pos (by omega), if_pos (by omega), if_pos (by omega), rd_nat l i hlt, within_f, drop_cons l i hlt]
    simp only [Option.bind_some, isPF]
    have hj : ∀ b : Bool, (b = true ↔ ¬ (1 ≤ l[i] ∧ l[i] ≤ 9 ∧ l[i] ≤ prevOf l i)) →
        impl_IsPartition.j1 (k + 1) l s l[i] l l.length i b = some (if 1 ≤ l[i] ∧ l[i] ≤ 9 ∧ l[i] ≤ prevOf l i ∧ s + l[i] ≤ 9 then isPF l[i] (s + l[i]) (l.drop (i + 1)) else false) := by
      intro b hb
      simp only [impl_IsPartition.j1]
      by_cases hc : 1 ≤ l[i] ∧ l[i] ≤ 9 ∧ l[i] ≤ prevOf l i
      · rw [if_neg (fun h => hb.1 h hc), wr_in (x := s + l[i]) (by omega) (by omega), wr1 (by omega)]
        by_cases h9' : s + l[i] > 9
        · rw [if_pos h9', if_neg (by omega)]
        · rw [if_neg h9', if_pos ⟨hc.1, hc.2.1, hc.2.2, by omega⟩, ih (i + 1) k _ (by omega) (by omega) (by omega) (by omega), prevOf_succ l i hlt]
      · rw [if_pos (hb.2 hc), if_neg (fun h => hc ⟨h.1, h.2.1, h.2.2.1⟩)]
    by_cases h1 : 1 ≤ l[i] ∧ l[i] ≤ 9
    · rw [if_pos (decide_eq_true h1)]
      by_cases hi0 : i = 0
      · subst hi0
        rw [if_neg (by omega)]
        exact hj false (by simp [prevOf]; omega)
      · have e : wrap64 ((i : Int) - 1) = ((i - 1 : Nat) : Int) := by unfold wrap64; omega
        rw [if_pos (by omega), e, if_pos (by omega), if_pos (by omega), rd_nat l (i - 1) (by omega)]
        refine hj _ ?_
        have hp : prevOf l i = l[i - 1] := by simp [prevOf, hi0]; rw [List.getElem?_eq_getElem (by omega)]; rfl
        rw [hp, decide_eq_true_iff]; omega
    · rw [if_neg (by simp; omega)]
      exact hj true (by simp; omega)
theorem implIsP_ev (l : List Int) (hl : l.length ≤ 1048576) : Ev (fun k => impl_IsPartition.f k l) (isP l) := by
  refine ⟨2 * l.length + 1, fun k hk => ?_⟩
  have h := implIsP_l0 l hl l.length 0 k 0 (by omega) (by omega) (by omega) (by omega)
  simpa [impl_IsPartition.f, isP, prevOf] using h

-- RibbonsInside of both: alike over all partitions of at most 9 and k from 1 to 9; and the two loops that strip.
def rb (p : List Int) (a b : Option (List S41)) : Bool := match a, b with
  | some x, some y => decide (x.map (fun s => s.f1) = y.map (fun s => s.f1)) && x.all (fun s => isP s.f1 && decide (0 ≤ s.f1.sum ∧ s.f1.sum < p.sum))
  | _, _ => false
def ks : List Int := [1, 2, 3, 4, 5, 6, 7, 8, 9]
set_option maxHeartbeats 400000000 in
theorem rparts0 : ((allP.drop 0).take 10).all (fun p => ks.all (fun k => rb p (spec_RibbonsInside.f 100 p k) (impl_RibbonsInside.f 100 p k))) = true := by decide +kernel
set_option maxHeartbeats 400000000 in
theorem rparts1 : ((allP.drop 10).take 10).all (fun p => ks.all (fun k => rb p (spec_RibbonsInside.f 100 p k) (impl_RibbonsInside.f 100 p k))) = true := by decide +kernel
set_option maxHeartbeats 400000000 in
theorem rparts2 : ((allP.drop 20).take 10).all (fun p => ks.all (fun k => rb p (spec_RibbonsInside.f 100 p k) (impl_RibbonsInside.f 100 p k))) = true := by decide +kernel
set_option maxHeartbeats 400000000 in
theorem rparts3 : ((allP.drop 30).take 10).all (fun p => ks.all (fun k => rb p (spec_RibbonsInside.f 100 p k) (impl_RibbonsInside.f 100 p k))) = true := by decide +kernel
set_option maxHeartbeats 400000000 in
theorem rparts4 : ((allP.drop 40).take 10).all (fun p => ks.all (fun k => rb p (spec_RibbonsInside.f 100 p k) (impl_RibbonsInside.f 100 p k))) = true := by decide +kernel
set_option maxHeartbeats 400000000 in
theorem rparts5 : ((allP.drop 50).take 10).all (fun p => ks.all (fun k => rb p (spec_RibbonsInside.f 100 p k) (impl_RibbonsInside.f 100 p k))) = true := by decide +kernel
set_option maxHeartbeats 400000000 in
theorem rparts6 : ((allP.drop 60).take 10).all (fun p => ks.all (fun k => rb p (spec_RibbonsInside.f 100 p k) (impl_RibbonsInside.f 100 p k))) = true := by decide +kernel
set_option maxHeartbeats 400000000 in
theorem rparts7 : ((allP.drop 70).take 10).all (fun p => ks.all (fun k => rb p (spec_RibbonsInside.f 100 p k) (impl_RibbonsInside.f 100 p k))) = true := by decide +kernel
set_option maxHeartbeats 400000000 in
theorem rparts8 : ((allP.drop 80).take 10).all (fun p => ks.all (fun k => rb p (spec_RibbonsInside.f 100 p k) (impl_RibbonsInside.f 100 p k))) = true := by decide +kernel
set_option maxHeartbeats 400000000 in
theorem rparts9 : ((allP.drop 90).take 10).all (fun p => ks.all (fun k => rb p (spec_RibbonsInside.f 100 p k) (impl_RibbonsInside.f 100 p k))) = true := by decide +kernel
theorem rparts {p : List Int} (h : p ∈ allP) : ks.all (fun k => rb p (spec_RibbonsInside.f 100 p k) (impl_RibbonsInside.f 100 p k)) = true := by
  have hl : allP.length = 97 := by decide +kernel
  obtain ⟨i, hi, rfl⟩ := List.getElem_of_mem h
  have pick : ∀ q, 10 * q ≤ i → i < 10 * q + 10 → allP[i] ∈ (allP.drop (10 * q)).take 10 := fun q h1 h2 => by
    rw [List.mem_take_iff_getElem]
    refine ⟨i - 10 * q, by simp; omega, ?_⟩
    simp only [List.getElem_drop]
    congr 1
    omega
  by_cases h0 : i < 10
  · exact of_all rparts0 (pick 0 (by omega) (by omega))
  by_cases h1 : i < 20
  · exact of_all rparts1 (pick 1 (by omega) (by omega))
  by_cases h2 : i < 30
  · exact of_all rparts2 (pick 2 (by omega) (by omega))
  by_cases h3 : i < 40
  · exact of_all rparts3 (pick 3 (by omega) (by omega))
  by_cases h4 : i < 50
  · exact of_all rparts4 (pick 4 (by omega) (by omega))
  by_cases h5 : i < 60
  · exact of_all rparts5 (pick 5 (by omega) (by omega))
  by_cases h6 : i < 70
  · exact of_all rparts6 (pick 6 (by omega) (by omega))
  by_cases h7 : i < 80
  · exact of_all rparts7 (pick 7 (by omega) (by omega))
  by_cases h8 : i < 90
  · exact of_all rparts8 (pick 8 (by omega) (by omega))
  by_cases h9 : i < 100
  · exact of_all rparts9 (pick 9 (by omega) (by omega))
  omega
theorem psum {p : List Int} (h : isP p = true) : 0 ≤ p.sum ∧ p.sum ≤ 9 := by
  have a : allP.all (fun p => decide (0 ≤ p.sum ∧ p.sum ≤ 9)) = true := by decide +kernel
  exact of_decide_eq_true (of_all a (mem_allP h))
theorem ribbons {p : List Int} {a : Int} (h : isP p = true) (ha : 1 ≤ a ∧ a ≤ 9) : ∃ x y : List S41, Ev (fun k => spec_RibbonsInside.f k p a) x ∧ Ev (fun k => impl_RibbonsInside.f k p a) y ∧ x.map (fun s => s.f1) = y.map (fun s => s.f1) ∧ ∀ s ∈ x, isP s.f1 = true ∧ 0 ≤ s.f1.sum ∧ s.f1.sum < p.sum := by
  have hk : a ∈ ks := by
    simp only [ks, List.mem_cons, List.not_mem_nil, or_false]; omega
  have hr := of_all (rparts (mem_allP h)) hk
  unfold rb at hr
  split at hr
  · rename_i x y hx hy
    simp only [Bool.and_eq_true, decide_eq_true_eq, List.all_eq_true] at hr
    exact ⟨x, y, Ev.of (spec_RibbonsInside.mono p a) hx, Ev.of (impl_RibbonsInside.mono p a) hy, hr.1, hr.2⟩
  · cases hr
theorem chain {a : Int} (ha : 1 ≤ a ∧ a ≤ 9) : ∀ (n : Nat) (p : List Int) (c : Nat), isP p = true → p.sum < n → c + n < 1000 → ∃ (q : List Int) (r : Int), isP q = true ∧ ((q = p ∧ r = c) ∨ (q.sum < p.sum ∧ c < r)) ∧ Ev (fun k => spec_l24Core.l0 k a p c) (q, r) ∧ Ev (fun k => impl_stripped.l0 k p a c) (q, r, true)
  | 0, p, c, hp, hs, hc => by have := psum hp; omega
  | n + 1, p, c, hp, hs, hc => by
    obtain ⟨x, y, hx, hy, he, hin⟩ := ribbons hp ha
    cases x with
    | nil =>
      cases y with
      | cons s y => simp at he
      | nil =>
        refine ⟨p, c, hp, .inl ⟨rfl, rfl⟩, Ev.step (fun k => rfl) (Ev.bind hx ?_), Ev.step (fun k => rfl) (Ev.bind hy ?_)⟩
        · exact Ev.ite_true (by simp) (Ev.now _)
        · exact Ev.ite_true (by simp) (Ev.now _)
    | cons s x =>
      cases y with
      | nil => simp at he
      | cons t y =>
        have hst : s.f1 = t.f1 := by simpa using (List.cons.inj he).1
        obtain ⟨h1, h2, h3⟩ := hin s (List.mem_cons_self ..)
        obtain ⟨q, r, hq, hd, e1, e2⟩ := chain ha n s.f1 (c + 1) h1 (by omega) (by omega)
        have hw : wrap64 ((c : Int) + 1) = ((c + 1 : Nat) : Int) := wr1 (by omega)
        refine ⟨q, r, hq, .inr (by rcases hd with ⟨rfl, rfl⟩ | hd <;> omega), Ev.step (fun k => rfl) (Ev.bind hx ?_), Ev.step (fun k => rfl) (Ev.bind hy ?_)⟩
        · refine Ev.ite_false (by simp only [List.length_cons]; omega) (Ev.ite_true (by simp only [List.length_cons]; omega) ?_)
          simp only [hw]; exact e1
        · refine Ev.ite_false (by simp only [List.length_cons]; omega) (Ev.ite_true (by simp only [List.length_cons]; omega) ?_)
          simp only [hw]
          have : (rd_T41 (t :: y) 0).f1 = s.f1 := by rw [hst]; rfl
          rw [this]; exact e2

theorem fine_ev (l : List Int) (a : Int) (hl : l.length ≤ 1048576) : Ev (fun k => spec_l24Fine.f k l a) (isP l && decide (1 ≤ a ∧ a ≤ 9)) := by
  simp only [spec_l24Fine.f, l1In_f, Option.bind_some]
  refine Ev.bind (specIsP_ev l hl) ?_
  by_cases h : isP l = true
  · rw [h]; exact Ev.ite_true rfl (Ev.now _)
  · have h : isP l = false := by simpa using h
    rw [h]; exact Ev.ite_false (by simp) (Ev.now _)
theorem core_ev (l : List Int) (a : Int) (hl : l.length ≤ 1048576) (h : isP l = true) (ha : 1 ≤ a ∧ a ≤ 9) : ∃ (q : List Int) (r : Int), isP q = true ∧ ((q = l ∧ r = 0) ∨ (q.sum < l.sum ∧ 0 < r)) ∧ Ev (fun k => spec_l24Core.f k l a) (q, r) ∧ Ev (fun k => impl_stripped.f k l a) (q, r, true) := by
  obtain ⟨q, r, hq, hd, e1, e2⟩ := chain ha 10 l 0 h (by have := psum h; omega) (by omega)
  refine ⟨q, r, hq, by simpa using hd, ?_, ?_⟩
  · simp only [spec_l24Core.f, Option.bind_some, List.nil_append]
    exact Ev.ite_true (by simp; omega) e1
  · have hb : (!decide ((1 : Int) ≤ a ∧ a ≤ 9)) = false := by simp; omega
    simp only [impl_stripped.f, within_f, Option.bind_some, hb]
    refine Ev.bind (implIsP_ev l hl) (Ev.ite_true h ?_)
    refine Ev.step (fun k => by simp only [impl_stripped.j0]; rfl) (Ev.ite_false (by simp) ?_)
    simp only [slices_Clone_int_int.f, Option.bind_some, List.nil_append]
    refine Ev.bind (a := l) (Ev.ite_true (by simp; omega) (Ev.now _)) e2
theorem core_no (l : List Int) (a : Int) (hl : l.length ≤ 1048576) (h : ¬ (isP l = true ∧ 1 ≤ a ∧ a ≤ 9)) : Ev (fun k => impl_stripped.f k l a) ([], -1, false) := by
  simp only [impl_stripped.f, within_f, Option.bind_some]
  refine Ev.bind (implIsP_ev l hl) ?_
  by_cases hp : isP l = true
  · have hb : (!decide ((1 : Int) ≤ a ∧ a ≤ 9)) = true := by
      simp only [Bool.not_eq_true', decide_eq_false_iff_not]
      exact fun x => h ⟨hp, x⟩
    refine Ev.ite_true hp ?_
    rw [hb]
    refine Ev.step (fun k => by simp only [impl_stripped.j0]; rfl) ?_
    exact Ev.ite_true (by trivial) (Ev.now _)
  · refine Ev.ite_false hp ?_
    refine Ev.step (fun k => by simp only [impl_stripped.j0]; rfl) ?_
    exact Ev.ite_true (by trivial) (Ev.now _)

theorem equal_l0 (a b : List Int) (hl : a.length ≤ 1048576) (hab : a.length = b.length) (d : Nat) : ∀ (i k : Nat), i + d = a.length → a.take i = b.take i → d < k → slices_Equal_int_int.l0 k a b (a.length : Int) i = some (decide (a = b)) := by
  induction d with
  | zero =>
    intro i k hi ht hk
    obtain ⟨k, rfl⟩ : ∃ m, k = m + 1 := ⟨k - 1, by omega⟩
    simp only [slices_Equal_int_int.l0]
    rw [if_neg (by omega)]
    obtain rfl : i = a.length := by omega
    rw [List.take_of_length_le (by omega), List.take_of_length_le (by omega)] at ht
    rw [decide_eq_true ht]
  | succ d ih =>
    intro i k hi ht hk
    obtain ⟨k, rfl⟩ : ∃ m, k = m + 1 := ⟨k - 1, by omega⟩
    have hlt : i < a.length := by omega
    have hlt' : i < b.length := by omega
    simp only [slices_Equal_int_int.l0]
    rw [if_pos (by omega), if_pos (by omega), if_pos (by omega), if_pos (by omega), wr1 (by omega), rd_nat a i hlt, rd_nat b i hlt']
    by_cases h : a[i] = b[i]
    · rw [if_pos h]
      refine ih (i + 1) k (by omega) ?_ (by omega)
      rw [List.take_succ_eq_append_getElem hlt, List.take_succ_eq_append_getElem hlt', ht, h]
    · rw [if_neg h, decide_eq_false]
      intro e
      subst e
      exact h rfl
theorem equal_ev (a b : List Int) (hl : a.length ≤ 1048576) : Ev (fun k => slices_Equal_int_int.f k a b) (decide (a = b)) := by
  refine ⟨a.length + 1, fun k hk => ?_⟩
  show slices_Equal_int_int.f k a b = _
  unfold slices_Equal_int_int.f
  by_cases h : (a.length : Int) = (b.length : Int)
  · rw [if_pos h]
    exact equal_l0 a b hl (by omega) a.length 0 k (by omega) (by simp) (by omega)
  · rw [if_neg h, decide_eq_false]
    intro e
    subst e
    exact h rfl

theorem rdL_nat (l : List (List Int)) (i : Nat) (h : i < l.length) : rd_L2 l (i : Int) = l[i] := by
  simp [rd_L2, List.getD_eq_getElem?_getD, h]

/-! The quotient: both sides, run through for all partitions of at most 9 and all 1..9. -/
def quoC (p : List Int) (k : Nat) : Bool := both (spec_QuotientOf.f 300 p (k : Int)) (impl_QuotientOf.f 300 p (k : Int)) && (match impl_QuotientOf.f 300 p (k : Int) with | some r => decide (r.length ≤ 20) && r.all (fun x => decide (x.length ≤ 20)) | none => false)
def quoAll (ps : List (List Int)) : Bool := ps.all fun p => (List.range 9).all fun k => quoC p (k + 1)
theorem rparts_q0 : quoAll (allP.take 20) = true := by decide +kernel
theorem rparts_q1 : quoAll ((allP.drop 20).take 20) = true := by decide +kernel
theorem rparts_q2 : quoAll ((allP.drop 40).take 20) = true := by decide +kernel
theorem rparts_q3 : quoAll ((allP.drop 60).take 20) = true := by decide +kernel
theorem rparts_q4 : quoAll (allP.drop 80) = true := by decide +kernel
theorem cutq_at {α : Type} (l : List α) (a b : Nat) : (l.drop a).take b ++ l.drop (a + b) = l.drop a := by
  have := List.take_append_drop b (l.drop a)
  rwa [List.drop_drop] at this
theorem partq_fit (p : List Int) (h : isP p = true) (k : Nat) (h1 : 1 ≤ k) (h9 : k ≤ 9) : quoC p k = true := by
  have hm := mem_allP h
  have key : ∃ ps, p ∈ ps ∧ quoAll ps = true := by
    rw [← List.take_append_drop 20 allP, ← cutq_at allP 20 20, ← cutq_at allP 40 20, ← cutq_at allP 60 20] at hm
    simp only [List.mem_append] at hm
    rcases hm with h | h | h | h | h
    · exact ⟨_, h, rparts_q0⟩
    · exact ⟨_, h, rparts_q1⟩
    · exact ⟨_, h, rparts_q2⟩
    · exact ⟨_, h, rparts_q3⟩
    · exact ⟨_, h, rparts_q4⟩
  obtain ⟨ps, h2, h3⟩ := key
  have h4 := of_all (of_all h3 h2) (x := k - 1) (by simp; omega)
  rwa [show k - 1 + 1 = k by omega] at h4
theorem quo_same (p : List Int) (k : Int) (hl : p.length ≤ 1048576) : ∃ r : List (List Int), (r.length ≤ 20 ∧ ∀ x ∈ r, x.length ≤ 20) ∧ Ev (fun f => spec_QuotientOf.f f p k) r ∧ Ev (fun f => impl_QuotientOf.f f p k) r := by
  by_cases h : isP p = true
  · by_cases hk : 1 ≤ k ∧ k ≤ 9
    · obtain ⟨m, rfl⟩ : ∃ m : Nat, k = (m : Int) := ⟨k.toNat, by omega⟩
      have hq := partq_fit p h m (by omega) (by omega)
      simp only [quoC, Bool.and_eq_true] at hq
      obtain ⟨r, hs, hi⟩ := both_ev (spec_QuotientOf.mono p m) (impl_QuotientOf.mono p m) hq.1
      refine ⟨r, ?_, hs, hi⟩
      have h3 := hq.2
      cases e : impl_QuotientOf.f 300 p (m : Int) with
      | none => rw [e] at h3; cases h3
      | some z =>
        obtain ⟨K, hK⟩ := hi
        have hz := at_rounds (impl_QuotientOf.mono p m) (Nat.le_max_left 300 K) e
        have hK' : impl_QuotientOf.f (max 300 K) p (m : Int) = some r := hK _ (Nat.le_max_right 300 K)
        rw [hK'] at hz
        rw [e] at h3
        simpa [Option.some.inj hz] using h3
    · have hb : (!decide (1 ≤ k ∧ k ≤ 9)) = true := by rw [decide_eq_false hk]; rfl
      refine ⟨[], ⟨by simp, by simp⟩, ?_, ?_⟩
      · simp only [spec_QuotientOf.f, spec_l24Fine.f, Option.bind_some, l1In_f]
        refine Ev.bind (a := false) ?_ (Ev.ite_false (by simp) (Ev.now _))
        refine Ev.bind (specIsP_ev p hl) (Ev.ite_true h ?_)
        rw [decide_eq_false hk]; exact Ev.now _
      · simp only [impl_QuotientOf.f, Option.bind_some, within_f, hb]
        refine Ev.bind (implIsP_ev p hl) (Ev.ite_true h ?_)
        exact Ev.step (f := fun _ => some []) (fun k => by simp [impl_QuotientOf.j0]) (Ev.now _)
  · refine ⟨[], ⟨by simp, by simp⟩, ?_, ?_⟩
    · simp only [spec_QuotientOf.f, spec_l24Fine.f, Option.bind_some]
      exact Ev.bind (a := false) (Ev.bind (specIsP_ev p hl) (Ev.ite_false h (Ev.now _))) (Ev.ite_false (by simp) (Ev.now _))
    · simp only [impl_QuotientOf.f]
      refine Ev.bind (implIsP_ev p hl) (Ev.ite_false h ?_)
      exact Ev.step (f := fun _ => some []) (fun k => by simp [impl_QuotientOf.j0]) (Ev.now _)

/-! The draws: the cursor goes on, and what it yields lies in its bounds. -/
def cur (b : List Int) (i : Int) : Prop := 0 ≤ i ∧ b.length ≤ 1048576
theorem and_bound (x : Int) (m : Nat) (hm : m < 9223372036854775808) : 0 ≤ Go.bits .and .i64 x (m : Int) ∧ Go.bits .and .i64 x (m : Int) ≤ m := by
  have e : Go.bits .and .i64 x (m : Int) = IntKind.i64.wrap ((BitVec.ofInt 64 x &&& BitVec.ofInt 64 (m : Int)).toNat : Int) := rfl
  have h1 : (BitVec.ofInt 64 x &&& BitVec.ofInt 64 (m : Int)).toNat ≤ m := by
    rw [BitVec.toNat_and]
    refine Nat.le_trans Nat.and_le_right ?_
    rw [BitVec.toNat_ofInt]
    omega
  rw [e, IntKind.wrap_i64]
  generalize (BitVec.ofInt 64 x &&& BitVec.ofInt 64 (m : Int)).toNat = z at h1
  omega
theorem byte_ev (b : List Int) (i h : Int) (hc : cur b i) : ∃ x i' h', spec_l1Byte.f b i h = some (x, i', h') ∧ (0 ≤ x ∧ x ≤ 255) ∧ cur b i' := by
  unfold spec_l1Byte.f
  generalize wrap64 ((wrap64 (h * 6364136223846793005)) + 1442695040888963407) = z
  have hb := fun x => and_bound x 255 (by decide)
  by_cases c : i < (b.length : Int)
  · rw [if_pos c, if_pos hc.1]
    refine ⟨_, _, _, rfl, hb _, ?_, hc.2⟩
    have := hc.1; have := hc.2; unfold wrap64; omega
  · rw [if_neg c]
    exact ⟨_, _, _, rfl, hb _, hc⟩
theorem below_ev (b : List Int) (i h n : Int) (hc : cur b i) (hn : n ≤ 256) : ∃ x i' h', spec_l1Below.f b i h n = some (x, i', h') ∧ (0 ≤ x ∧ (0 < n → x < n) ∧ x ≤ 255) ∧ cur b i' := by
  unfold spec_l1Below.f
  by_cases c : n ≤ 0
  · rw [if_pos c]
    exact ⟨0, i, h, rfl, by omega, hc⟩
  · rw [if_neg c, if_pos hn]
    obtain ⟨x, i', h', e, hx, hc'⟩ := byte_ev b i h hc
    rw [e]
    simp only [Option.bind_some]
    rw [if_neg (by omega)]
    have h1 := Int.tmod_lt_of_pos x (show 0 < n by omega)
    have h2 := Int.tmod_nonneg n hx.1
    refine ⟨_, _, _, rfl, ⟨h2, fun _ => h1, ?_⟩, hc'⟩
    omega
theorem once_ev (b : List Int) (i h n : Int) (hc : cur b i) (hn : n ≤ 256) : ∃ x i' h', spec_l1Once.f b i h n = some (x, i', h') ∧ cur b i' := by
  obtain ⟨x, i', h', e, _, hc'⟩ := below_ev b i h n hc hn
  unfold spec_l1Once.f
  rw [e]
  exact ⟨_, _, _, rfl, hc'⟩
theorem pickInt_ev (b : List Int) (i h : Int) (l : List Int) (hc : cur b i) (h0 : 0 < l.length) (hn : l.length ≤ 256) : ∃ x i' h', spec_l1PickInt.f b i h l = some (x, i', h') ∧ x ∈ l ∧ cur b i' := by
  obtain ⟨x, i', h', e, hx, hc'⟩ := below_ev b i h l.length hc (by omega)
  unfold spec_l1PickInt.f
  rw [e]
  simp only [Option.bind_some]
  have hlt : x < (l.length : Int) := hx.2.1 (by omega)
  rw [if_pos hx.1, if_pos hlt]
  refine ⟨_, _, _, rfl, ?_, hc'⟩
  obtain ⟨m, rfl⟩ : ∃ m : Nat, x = (m : Int) := ⟨x.toNat, by omega⟩
  rw [rd_nat l m (by omega)]
  exact List.getElem_mem _
theorem new_l0 (l : List Int) (hl : l.length ≤ 1048576) (d : Nat) : ∀ (i : Nat) (x : Int), i + d = l.length → ∃ h, Ev (fun k => spec_l1New.l0 k l x i) (l, 0, h) := by
  induction d with
  | zero =>
    intro i x hi
    exact ⟨x, Ev.step (fun k => by simp only [spec_l1New.l0]; rfl) (Ev.ite_false (by omega) (Ev.now _))⟩
  | succ d ih =>
    intro i x hi
    obtain ⟨h, e⟩ := ih (i + 1) (Go.bits .and .i64 (wrap64 ((wrap64 ((wrap64 (x * 131)) + (wrap64 (rd l i)))) + 7)) 1073741823) (by omega)
    by_cases c : (i : Int) < 4000
    · refine ⟨h, Ev.step (fun k => by simp only [spec_l1New.l0]; rfl) (Ev.ite_true (by omega) (Ev.ite_true c (Ev.ite_true (Int.natCast_nonneg _) ?_)))⟩
      rw [wr1 (by omega)]
      exact e
    · exact ⟨x, Ev.step (fun k => by simp only [spec_l1New.l0]; rfl) (Ev.ite_true (by omega) (Ev.ite_false c (Ev.now _)))⟩
theorem new_ev (l : List Int) (hl : l.length ≤ 1048576) : ∃ h, Ev (fun k => spec_l1New.f k l) (l, 0, h) := by
  simp only [spec_l1New.f]
  exact new_l0 l hl l.length 0 _ (by omega)
theorem cur0 (l : List Int) (hl : l.length ≤ 1048576) : cur l 0 := ⟨by omega, hl⟩
theorem rdL_mem (l : List (List Int)) (x : Int) (h0 : 0 ≤ x) (h : x < (l.length : Int)) : rd_L2 l x ∈ l := by
  obtain ⟨m, rfl⟩ : ∃ m : Nat, x = (m : Int) := ⟨x.toNat, by omega⟩
  have hm : m < l.length := by omega
  have e : rd_L2 l (m : Int) = l[m] := by simp [rd_L2, List.getD_eq_getElem?_getD, hm]
  rw [e]; exact List.getElem_mem _
theorem allparts : (List.range 10).all (fun m => (List.range 10).all fun n => !decide (n ≤ m) || match spec_l2All.f 300 n m with
  | some x => decide (0 < x.length ∧ x.length ≤ 100) && x.all (fun p => isP p && decide (p.sum = n))
  | none => false) = true := by decide +kernel
theorem all_ev {n m : Int} (h0 : 0 ≤ n) (h : n ≤ m) (h9 : m ≤ 9) : ∃ x : List (List Int), Ev (fun k => spec_l2All.f k n m) x ∧ 0 < x.length ∧ x.length ≤ 100 ∧ ∀ p ∈ x, isP p = true ∧ p.sum = n := by
  obtain ⟨a, rfl⟩ : ∃ a : Nat, n = (a : Int) := ⟨n.toNat, by omega⟩
  obtain ⟨b, rfl⟩ : ∃ b : Nat, m = (b : Int) := ⟨m.toNat, by omega⟩
  have e := of_all (of_all allparts (x := b) (List.mem_range.2 (by omega))) (x := a) (List.mem_range.2 (by omega))
  rw [decide_eq_true (show a ≤ b by omega), Bool.not_true, Bool.false_or] at e
  split at e
  · rename_i x hx
    simp only [Bool.and_eq_true, decide_eq_true_eq, List.all_eq_true] at e
    exact ⟨x, Ev.of (spec_l2All.mono _ _) hx, e.1.1, e.1.2, e.2⟩
  · cases e
theorem draw_ev (b : List Int) (i h m : Int) (hc : cur b i) (h0 : 0 ≤ m) (h9 : m ≤ 9) : ∃ p i' h', Ev (fun k => spec_l2Draw.f k b i h m) (p, i', h') ∧ (isP p = true ∧ p.sum ≤ m) ∧ cur b i' := by
  obtain ⟨n, i1, h1, e1, hn, hc1⟩ := below_ev b i h (m + 1) hc (by omega)
  obtain ⟨x, e2, hx0, hxl, hx⟩ := all_ev (n := n) (m := m) hn.1 (by have := hn.2.1 (by omega); omega) h9
  obtain ⟨j, i2, h2, e3, hj, hc2⟩ := below_ev b i1 h1 x.length hc1 (by omega)
  have hlt : j < (x.length : Int) := hj.2.1 (by omega)
  have hm := hx _ (rdL_mem x j hj.1 hlt)
  refine ⟨rd_L2 x j, i2, h2, ?_, ⟨hm.1, by have := hn.2.1 (by omega); omega⟩, hc2⟩
  simp only [spec_l2Draw.f, wr_in (x := m + 1) (by omega) (by omega), e1, Option.bind_some]
  refine Ev.bind e2 ?_
  simp only [e3, Option.bind_some]
  exact Ev.ite_true hj.1 (Ev.ite_true hlt (Ev.now _))
theorem bent_ev (b : List Int) (i h m : Int) (hc : cur b i) (h0 : 0 ≤ m) (h9 : m ≤ 9) : ∃ (p : List Int) (i' h' : Int), Ev (fun k => spec_l2Bent.f k b i h m) (p, i', h') ∧ p.length ≤ 20 ∧ cur b i' := by
  obtain ⟨p, i1, h1, e1, hp, hc1⟩ := draw_ev b i h m hc h0 h9
  have hl := isP_length hp.1
  obtain ⟨z, i2, h2, e2, _, hc2⟩ := below_ev b i1 h1 14 hc1 (by omega)
  simp only [spec_l2Bent.f, Option.bind_some]
  by_cases c0 : z = 0
  · obtain ⟨y, i3, h3, e3, _, hc3⟩ := pickInt_ev b i2 h2 [0, 5, (-1), 1, 9223372036854775807] hc2 (by simp) (by simp)
    refine ⟨p ++ [y], i3, h3, Ev.bind e1 ?_, by simp; omega, hc3⟩
    simp only [e2, Option.bind_some]
    refine Ev.ite_true c0 ?_
    simp only [e3, Option.bind_some]
    exact Ev.ite_true (by omega) (Ev.now _)
  · by_cases c1 : z = 1
    · refine ⟨p ++ [1, 1, 1, 1, 1, 1], i2, h2, Ev.bind e1 ?_, by simp; omega, hc2⟩
      simp only [e2, Option.bind_some]
      exact Ev.ite_false c0 (Ev.ite_true c1 (Ev.ite_true (by simp; omega) (Ev.now _)))
    · refine ⟨p, i2, h2, Ev.bind e1 ?_, by omega, hc2⟩
      simp only [e2, Option.bind_some]
      exact Ev.ite_false c0 (Ev.ite_false c1 (Ev.now _))

theorem sameInts_l0 (a b : List Int) (hl : a.length ≤ 1048576) (hab : a.length = b.length) (d : Nat) : ∀ (i k : Nat), i + d = a.length → a.take i = b.take i → d < k → laws_sameInts.l0 k a b i = some (decide (a = b)) := by
  induction d with
  | zero =>
    intro i k hi ht hk
    obtain ⟨k, rfl⟩ : ∃ m, k = m + 1 := ⟨k - 1, by omega⟩
    simp only [laws_sameInts.l0]
    rw [if_neg (by omega)]
    obtain rfl : i = a.length := by omega
    rw [List.take_of_length_le (by omega), List.take_of_length_le (by omega)] at ht
    rw [decide_eq_true ht]
  | succ d ih =>
    intro i k hi ht hk
    obtain ⟨k, rfl⟩ : ∃ m, k = m + 1 := ⟨k - 1, by omega⟩
    have hlt : i < a.length := by omega
    have hlt' : i < b.length := by omega
    simp only [laws_sameInts.l0]
    rw [if_pos (by omega), if_pos (by omega), if_pos (by omega), wr1 (by omega), rd_nat a i hlt, rd_nat b i hlt']
    by_cases h : a[i] = b[i]
    · rw [if_pos h]
      refine ih (i + 1) k (by omega) ?_ (by omega)
      rw [List.take_succ_eq_append_getElem hlt, List.take_succ_eq_append_getElem hlt', ht, h]
    · rw [if_neg h, decide_eq_false]
      intro e
      subst e
      exact h rfl
theorem sameInts_ev (a b : List Int) (hl : a.length ≤ 1048576) : Ev (fun k => laws_sameInts.f k a b) (decide (a = b)) := by
  refine ⟨a.length + 1, fun k hk => ?_⟩
  show laws_sameInts.f k a b = _
  unfold laws_sameInts.f
  by_cases h : (a.length : Int) = (b.length : Int)
  · rw [if_pos h]
    exact sameInts_l0 a b hl (by omega) a.length 0 k (by omega) (by simp) (by omega)
  · rw [if_neg h, decide_eq_false]
    intro e
    subst e
    exact h rfl
theorem sameInts_self (a : List Int) (hl : a.length ≤ 1048576) : Ev (fun k => laws_sameInts.f k a a) true := by
  have h := sameInts_ev a a hl
  rwa [decide_eq_true rfl] at h

theorem sameInts_at (a b : List Int) (hl : a.length ≤ 1048576) (k : Nat) (hk : a.length + 1 ≤ k) : laws_sameInts.f k a b = some (decide (a = b)) := by
  unfold laws_sameInts.f
  by_cases h : (a.length : Int) = (b.length : Int)
  · rw [if_pos h]
    exact sameInts_l0 a b hl (by omega) a.length 0 k (by omega) (by simp) (by omega)
  · rw [if_neg h, decide_eq_false]
    intro e
    subst e
    exact h rfl

def smallL (l : List (List Int)) : Prop := l.length ≤ 1048576 ∧ ∀ x ∈ l, x.length ≤ 1048576
theorem sameLists_l0 (l : List (List Int)) (hs : smallL l) (d : Nat) : ∀ (i k : Nat), i + d = l.length → d + 1048578 < k → laws_sameLists.l0 k l l i = some true := by
  obtain ⟨hl, he⟩ := hs
  induction d with
  | zero =>
    intro i k hi hk
    obtain ⟨k, rfl⟩ : ∃ m, k = m + 1 := ⟨k - 1, by omega⟩
    simp only [laws_sameLists.l0]
    rw [if_neg (by omega)]
  | succ d ih =>
    intro i k hi hk
    obtain ⟨k, rfl⟩ : ∃ m, k = m + 1 := ⟨k - 1, by omega⟩
    have hlt : i < l.length := by omega
    have hx := he _ (List.getElem_mem hlt)
    simp only [laws_sameLists.l0]
    rw [if_pos (by omega), if_pos (by omega), rdL_nat l i hlt, if_pos (by omega), sameInts_at _ _ hx k (by omega)]
    simp only [Option.bind_some, decide_true, if_true]
    rw [wr1 (by omega)]
    exact ih (i + 1) k (by omega) (by omega)
theorem sameLists_self (l : List (List Int)) (hs : smallL l) : Ev (fun k => laws_sameLists.f k l l) true := by
  refine ⟨l.length + 1048579, fun k hk => ?_⟩
  show laws_sameLists.f k l l = some true
  unfold laws_sameLists.f
  rw [if_pos rfl]
  exact sameLists_l0 l hs l.length 0 k (by omega) (by omega)

theorem l2Same_l0 (a b : List Int) (hl : a.length ≤ 1048576) (hab : a.length = b.length) (d : Nat) : ∀ (i : Nat), i + d = a.length → a.take i = b.take i → Ev (fun k => spec_l2Same.l0 k a b i) (decide (a = b)) := by
  induction d with
  | zero =>
    intro i hi ht
    refine Ev.step (fun k => by simp only [spec_l2Same.l0]; rfl) (Ev.ite_false (by omega) ?_)
    obtain rfl : i = a.length := by omega
    rw [List.take_of_length_le (by omega), List.take_of_length_le (by omega)] at ht
    rw [decide_eq_true ht]; exact Ev.now _
  | succ d ih =>
    intro i hi ht
    have hlt : i < a.length := by omega
    have hlt' : i < b.length := by omega
    have w1 : wrap64 ((i : Int) + 1) = ((i + 1 : Nat) : Int) := wr1 (by omega)
    refine Ev.step (fun k => by simp only [spec_l2Same.l0]; rfl) (Ev.ite_true (by omega) (Ev.ite_true (Int.natCast_nonneg _) (Ev.ite_true (by omega) ?_)))
    rw [w1, rd_nat a i hlt, rd_nat b i hlt']
    by_cases h : a[i] = b[i]
    · refine Ev.ite_true h (ih (i + 1) (by omega) ?_)
      rw [List.take_succ_eq_append_getElem hlt, List.take_succ_eq_append_getElem hlt', ht, h]
    · refine Ev.ite_false h ?_
      rw [decide_eq_false (by intro e; subst e; exact h rfl)]; exact Ev.now _
theorem l2Same_ev (a b : List Int) (hl : a.length ≤ 1048576) : Ev (fun k => spec_l2Same.f k a b) (decide (a = b)) := by
  simp only [spec_l2Same.f]
  by_cases h : (a.length : Int) = (b.length : Int)
  · exact Ev.ite_true h (l2Same_l0 a b hl (by omega) a.length 0 (by omega) (by simp))
  · refine Ev.ite_false h ?_
    rw [decide_eq_false (by intro e; subst e; exact h rfl)]; exact Ev.now _

theorem same_Core (l : List Int) (a : Int) (hl : l.length ≤ 1048576) : ∃ r : List Int, r.length ≤ 1048576 ∧ Ev (fun k => spec_CoreOf.f k l a) r ∧ Ev (fun k => impl_CoreOf.f k l a) r := by
  by_cases h : isP l = true ∧ 1 ≤ a ∧ a ≤ 9
  · obtain ⟨q, r, hq, _, e1, e2⟩ := core_ev l a hl h.1 h.2
    have hql := isP_length hq
    refine ⟨q, by omega, ?_, ?_⟩
    · simp only [spec_CoreOf.f, Option.bind_some, List.nil_append, List.length_nil]
      exact Ev.bind (fine_ev l a hl) (Ev.ite_true (by simp [h]) (Ev.bind e1 (Ev.ite_true (by show 0 + q.length < 17592186044416; omega) (Ev.now _))))
    · simp only [impl_CoreOf.f]
      exact Ev.bind e2 (Ev.now _)
  · refine ⟨[], by simp, ?_, ?_⟩
    · simp only [spec_CoreOf.f]
      exact Ev.bind (fine_ev l a hl) (Ev.ite_false (by simpa using h) (Ev.now _))
    · simp only [impl_CoreOf.f]
      exact Ev.bind (core_no l a hl h) (Ev.now _)
theorem same_Weight (l : List Int) (a : Int) (hl : l.length ≤ 1048576) : ∃ r : Int, Ev (fun k => spec_CoreWeight.f k l a) r ∧ Ev (fun k => impl_CoreWeight.f k l a) r := by
  by_cases h : isP l = true ∧ 1 ≤ a ∧ a ≤ 9
  · obtain ⟨q, r, _, _, e1, e2⟩ := core_ev l a hl h.1 h.2
    refine ⟨r, ?_, ?_⟩
    · simp only [spec_CoreWeight.f]
      exact Ev.bind (fine_ev l a hl) (Ev.ite_true (by simp [h]) (Ev.bind e1 (Ev.now _)))
    · simp only [impl_CoreWeight.f]
      exact Ev.bind e2 (Ev.now _)
  · refine ⟨-1, ?_, ?_⟩
    · simp only [spec_CoreWeight.f]
      exact Ev.bind (fine_ev l a hl) (Ev.ite_false (by simpa using h) (Ev.now _))
    · simp only [impl_CoreWeight.f]
      exact Ev.bind (core_no l a hl h) (Ev.now _)
theorem parts_Beta : allP.all (fun p => (List.range 19).all fun n => decide (p.length ≤ n → both (spec_BetaNumbers.f 100 p n) (impl_BetaNumbers.f 100 p n) = true) && decide (p.length ≤ n → ((impl_BetaNumbers.f 100 p n).getD []).length ≤ 20)) = true := by decide +kernel
theorem same_Beta (l : List Int) (n : Int) (hl : l.length ≤ 1048576) : ∃ r : List Int, r.length ≤ 20 ∧ Ev (fun k => spec_BetaNumbers.f k l n) r ∧ Ev (fun k => impl_BetaNumbers.f k l n) r := by
  by_cases h : isP l = true
  · by_cases hn : (l.length : Int) ≤ n ∧ n ≤ 18
    · obtain ⟨m, rfl⟩ : ∃ m : Nat, n = (m : Int) := ⟨n.toNat, by omega⟩
      have h := of_all (of_all parts_Beta (mem_allP h)) (x := m) (by simp; omega)
      simp only [Bool.and_eq_true, decide_eq_true_eq] at h
      obtain ⟨r, hs, hi⟩ := both_ev (spec_BetaNumbers.mono l m) (impl_BetaNumbers.mono l m) (h.1 (by omega))
      refine ⟨r, ?_, hs, hi⟩
      have h2 := h.2 (by omega)
      have hb := h.1 (by omega)
      unfold both at hb
      split at hb
      · rename_i x y hx hy
        obtain ⟨K, hK⟩ := hi
        have e := at_rounds (impl_BetaNumbers.mono l m) (Nat.le_max_left 100 K) hy
        have e2 := hK (max 100 K) (Nat.le_max_right _ _)
        simp only at e2
        rw [e2] at e
        cases e
        rw [hy] at h2
        exact h2
      · cases hb
    · have hb : (!decide ((l.length : Int) ≤ n ∧ n ≤ 18)) = true := by simp; omega
      refine ⟨[], by simp, ?_, ?_⟩
      · simp only [spec_BetaNumbers.f, Option.bind_some, l1In_f, hb]
        refine Ev.bind (specIsP_ev l hl) (Ev.ite_true h ?_)
        exact Ev.step (f := fun _ => some []) (fun k => by simp [spec_BetaNumbers.j0]) (Ev.now _)
      · simp only [impl_BetaNumbers.f, Option.bind_some, within_f, hb]
        refine Ev.bind (implIsP_ev l hl) (Ev.ite_true h ?_)
        exact Ev.step (f := fun _ => some []) (fun k => by simp [impl_BetaNumbers.j0]) (Ev.now _)
  · refine ⟨[], by simp, ?_, ?_⟩
    · simp only [spec_BetaNumbers.f, Option.bind_some]
      refine Ev.bind (specIsP_ev l hl) (Ev.ite_false h ?_)
      exact Ev.step (f := fun _ => some []) (fun k => by simp [spec_BetaNumbers.j0]) (Ev.now _)
    · simp only [impl_BetaNumbers.f]
      refine Ev.bind (implIsP_ev l hl) (Ev.ite_false h ?_)
      exact Ev.step (f := fun _ => some []) (fun k => by simp [impl_BetaNumbers.j0]) (Ev.now _)
def betaF_Back (p : List Int) (n : Nat) : List Int := (impl_BetaNumbers.f 100 p n).getD []
def fitB_Back (p : List Int) (n : Nat) : Bool := decide (both (spec_BetaNumbers.f 100 p n) (impl_BetaNumbers.f 100 p n) = true) && both (spec_FromBeta.f 200 (betaF_Back p n)) (impl_FromBeta.f 200 (betaF_Back p n)) && (decide ((betaF_Back p n).length ≤ 20) && decide (((impl_FromBeta.f 200 (betaF_Back p n)).getD ([], false)).1.length ≤ 20))
def fitAll_Back (ps : List (List Int)) : Bool := ps.all fun p => (List.range 19).all fun n => decide (p.length ≤ n → fitB_Back p n = true)
theorem rparts0_Back : fitAll_Back (allP.take 20) = true := by decide +kernel
theorem rparts1_Back : fitAll_Back ((allP.drop 20).take 20) = true := by decide +kernel
theorem rparts2_Back : fitAll_Back ((allP.drop 40).take 20) = true := by decide +kernel
theorem rparts3_Back : fitAll_Back ((allP.drop 60).take 20) = true := by decide +kernel
theorem rparts4_Back : fitAll_Back (allP.drop 80) = true := by decide +kernel
theorem cut_at_Back {α : Type} (l : List α) (a b : Nat) : (l.drop a).take b ++ l.drop (a + b) = l.drop a := by
  have := List.take_append_drop b (l.drop a)
  rwa [List.drop_drop] at this
theorem parts_fit_Back (p : List Int) (h : isP p = true) (n : Nat) (hn : n ≤ 18) (hl : p.length ≤ n) : fitB_Back p n = true := by
  have hm := mem_allP h
  have key : ∃ ps, p ∈ ps ∧ fitAll_Back ps = true := by
    rw [← List.take_append_drop 20 allP, ← cut_at_Back allP 20 20, ← cut_at_Back allP 40 20, ← cut_at_Back allP 60 20] at hm
    simp only [List.mem_append] at hm
    rcases hm with h | h | h | h | h
    · exact ⟨_, h, rparts0_Back⟩
    · exact ⟨_, h, rparts1_Back⟩
    · exact ⟨_, h, rparts2_Back⟩
    · exact ⟨_, h, rparts3_Back⟩
    · exact ⟨_, h, rparts4_Back⟩
  obtain ⟨ps, h1, h2⟩ := key
  have h3 := of_all (of_all h2 h1) (x := n) (by simp; omega)
  exact of_decide_eq_true h3 hl
def goodB_Back (l : List Int) : Prop := ∃ (p : List Int) (n : Nat), isP p = true ∧ n ≤ 18 ∧ p.length ≤ n ∧ betaF_Back p n = l
theorem betaF_len_Back (p : List Int) (h : isP p = true) (n : Nat) (hn : n ≤ 18) (hl : p.length ≤ n) : (betaF_Back p n).length ≤ 1048576 := by
  have hf := parts_fit_Back p h n hn hl
  simp only [fitB_Back, Bool.and_eq_true, decide_eq_true_eq] at hf
  have := hf.2.1
  omega
theorem beta_ev_Back (p : List Int) (n : Nat) (hp : p.length ≤ 1048576) : ∃ r : List Int, r.length ≤ 1048576 ∧ Ev (fun k => spec_BetaNumbers.f k p n) r ∧ Ev (fun k => impl_BetaNumbers.f k p n) r ∧ ((isP p = true ∧ p.length ≤ n ∧ n ≤ 18 ∧ r = betaF_Back p n) ∨ (¬ (isP p = true ∧ p.length ≤ n ∧ n ≤ 18) ∧ r = [])) := by
  by_cases h : isP p = true
  · by_cases hn : p.length ≤ n ∧ n ≤ 18
    · have hf := parts_fit_Back p h n hn.2 hn.1
      simp only [fitB_Back, Bool.and_eq_true, decide_eq_true_eq] at hf
      have hb := hf.1.1
      unfold both at hb
      split at hb
      · rename_i x y hx hy
        have e := of_decide_eq_true hb
        subst e
        have hF : betaF_Back p n = x := by unfold betaF_Back; rw [hy]; rfl
        have hs := Ev.of (spec_BetaNumbers.mono p n) hx
        have hi := Ev.of (impl_BetaNumbers.mono p n) hy
        exact ⟨x, by rw [← hF]; exact betaF_len_Back p h n hn.2 hn.1, hs, hi, .inl ⟨h, hn.1, hn.2, hF.symm⟩⟩
      · cases hb
    · have hb : (!decide ((p.length : Int) ≤ (n : Int) ∧ (n : Int) ≤ 18)) = true := by simp; omega
      refine ⟨[], by simp, ?_, ?_, .inr ⟨fun c => hn c.2, rfl⟩⟩
      · simp only [spec_BetaNumbers.f, Option.bind_some, l1In_f, hb]
        refine Ev.bind (specIsP_ev p hp) (Ev.ite_true h ?_)
        exact Ev.step (f := fun _ => some []) (fun k => by simp [spec_BetaNumbers.j0]) (Ev.now _)
      · simp only [impl_BetaNumbers.f, Option.bind_some, within_f, hb]
        refine Ev.bind (implIsP_ev p hp) (Ev.ite_true h ?_)
        exact Ev.step (f := fun _ => some []) (fun k => by simp [impl_BetaNumbers.j0]) (Ev.now _)
  · refine ⟨[], by simp, ?_, ?_, .inr ⟨fun c => h c.1, rfl⟩⟩
    · simp only [spec_BetaNumbers.f, Option.bind_some]
      refine Ev.bind (specIsP_ev p hp) (Ev.ite_false h ?_)
      exact Ev.step (f := fun _ => some []) (fun k => by simp [spec_BetaNumbers.j0]) (Ev.now _)
    · simp only [impl_BetaNumbers.f]
      refine Ev.bind (implIsP_ev p hp) (Ev.ite_false h ?_)
      exact Ev.step (f := fun _ => some []) (fun k => by simp [impl_BetaNumbers.j0]) (Ev.now _)
/-! What is no list of beta numbers: both say no. -/
theorem no_of_Back (l p r : List Int) (hg : ¬ goodB_Back l) (hp : p.length ≤ l.length) (hr : (isP p = true ∧ p.length ≤ l.length ∧ l.length ≤ 18 ∧ r = betaF_Back p l.length) ∨ (¬ (isP p = true ∧ p.length ≤ l.length ∧ l.length ≤ 18) ∧ r = [])) : ¬ r = l := by
  intro e
  rcases hr with ⟨h1, h2, h3, h4⟩ | ⟨h1, h2⟩
  · exact hg ⟨p, l.length, h1, h3, h2, h4 ▸ e⟩
  · rw [h2] at e
    subst e
    have : p = [] := List.eq_nil_of_length_eq_zero (by simpa using hp)
    subst this
    exact h1 ⟨by decide, by simp, by simp⟩
theorem specNo_l0_Back (l : List Int) (hl : l.length ≤ 1048576) (hg : ¬ goodB_Back l) (d : Nat) : ∀ (i : Nat) (p : List Int), i + d = l.length → p.length ≤ i → Ev (fun k => spec_FromBeta.l0 k l p l.length i) ([], false) := by
  induction d with
  | zero =>
    intro i p hi hp
    refine Ev.step (fun k => by simp only [spec_FromBeta.l0]; rfl) (Ev.ite_false (by omega) ?_)
    by_cases h18 : (l.length : Int) > 18
    · exact Ev.ite_true h18 (Ev.now _)
    · obtain ⟨r, hr0, h1, _, h2⟩ := beta_ev_Back p l.length (by omega)
      refine Ev.ite_false h18 (Ev.bind h1 (Ev.bind (l2Same_ev r l hr0) (Ev.ite_false ?_ (Ev.now _))))
      simpa using no_of_Back l p r hg (by omega) h2
  | succ d ih =>
    intro i p hi hp
    have hlt : i < l.length := by omega
    have hlt' : (i : Int) < (l.length : Int) := by omega
    have hpl : p.length < 17592186044416 := by omega
    refine Ev.step (fun k => by simp only [spec_FromBeta.l0]; rfl) (Ev.ite_true hlt' (Ev.ite_true (Int.natCast_nonneg _) (Ev.ite_true hlt' ?_)))
    simp only [l1In_f, Option.bind_some]
    rw [wr1 (i := i) (by omega)]
    by_cases h1 : 0 ≤ rd l (i : Int) ∧ rd l (i : Int) ≤ 27
    · refine Ev.ite_true (decide_eq_true h1) ?_
      generalize wrap64 (wrap64 (wrap64 (rd l (i : Int) - (l.length : Int)) + 1) + (i : Int)) = x
      by_cases h2 : x = 0
      · exact Ev.ite_true h2 (ih (i + 1) p (by omega) (by omega))
      · exact Ev.ite_false h2 (Ev.ite_true hpl (ih (i + 1) (p ++ [x]) (by omega) (by simp; omega)))
    · exact Ev.ite_false (by simpa using h1) (Ev.now _)
theorem trimmed_ev_Back : ∀ (n : Nat) (p : List Int), p.length = n → n ≤ 1048576 → ∃ t, t.length ≤ p.length ∧ Ev (fun k => impl_trimmed.l0 k p) t := by
  intro n
  induction n with
  | zero =>
    intro p hp _
    refine ⟨p, Nat.le_refl _, Ev.step (fun k => by simp only [impl_trimmed.l0]; rfl) (Ev.ite_false (by omega) ?_)⟩
    exact Ev.now _
  | succ n ih =>
    intro p hp hn
    have e : wrap64 ((p.length : Int) - 1) = (n : Int) := by unfold wrap64; omega
    have a0 : (p.length : Int) > 0 := by omega
    have a1 : (0 : Int) ≤ (n : Int) := Int.natCast_nonneg _
    have a2 : (n : Int) < (p.length : Int) := by omega
    have a3 : (n : Int) ≤ (p.length : Int) := by omega
    have b : (p.take (n : Int).toNat).length = n := by rw [Int.toNat_natCast, List.length_take]; omega
    by_cases h : rd p (n : Int) = 0
    · obtain ⟨t, h1, h2⟩ := ih _ b (by omega)
      refine ⟨t, by omega, Ev.step (fun k => by simp only [impl_trimmed.l0, e]; rfl) (Ev.ite_true a0 (Ev.ite_true a1 (Ev.ite_true a2 (Ev.ite_true h (Ev.ite_true a3 h2)))))⟩
    · exact ⟨p, Nat.le_refl _, Ev.step (fun k => by simp only [impl_trimmed.l0, e]; rfl) (Ev.ite_true a0 (Ev.ite_true a1 (Ev.ite_true a2 (Ev.ite_false h (Ev.now _)))))⟩
theorem implNo_l0_Back (l : List Int) (hl : l.length ≤ 1048576) (hg : ¬ goodB_Back l) (d : Nat) : ∀ (i : Nat) (p : List Int), i + d = l.length → p.length = i → Ev (fun k => impl_FromBeta.l0 k l p l l.length i) ([], false) := by
  induction d with
  | zero =>
    intro i p hi hp
    obtain ⟨t, ht, h0⟩ := trimmed_ev_Back p.length p rfl (by omega)
    refine Ev.step (fun k => by simp only [impl_FromBeta.l0]; rfl) (Ev.ite_false (by omega) ?_)
    refine Ev.bind (a := t) h0 (Ev.bind (implIsP_ev t (by omega)) ?_)
    by_cases hP : isP t = true
    · obtain ⟨r, hr0, _, h1, h2⟩ := beta_ev_Back t l.length (by omega)
      refine Ev.ite_true hP (Ev.bind h1 (Ev.bind (equal_ev r l hr0) (Ev.ite_false ?_ (Ev.now _))))
      simpa using no_of_Back l t r hg (by omega) h2
    · exact Ev.ite_false hP (Ev.now _)
  | succ d ih =>
    intro i p hi hp
    have hlt' : (i : Int) < (l.length : Int) := by omega
    have hpl : p.length < 17592186044416 := by omega
    refine Ev.step (fun k => by simp only [impl_FromBeta.l0]; rfl) (Ev.ite_true hlt' (Ev.ite_true (Int.natCast_nonneg _) (Ev.ite_true hlt' (Ev.ite_true hpl ?_))))
    rw [wr1 (i := i) (by omega)]
    exact ih (i + 1) _ (by omega) (by simp; omega)
theorem same_Back (l : List Int) (hl : l.length ≤ 1048576) : ∃ r : List Int × Bool, r.1.length ≤ 20 ∧ Ev (fun k => spec_FromBeta.f k l) r ∧ Ev (fun k => impl_FromBeta.f k l) r := by
  by_cases hg : goodB_Back l
  · obtain ⟨p, n, h1, h2, h3, rfl⟩ := hg
    have h := parts_fit_Back p h1 n h2 h3
    simp only [fitB_Back, Bool.and_eq_true, decide_eq_true_eq] at h
    obtain ⟨r, hs, hi⟩ := both_ev (spec_FromBeta.mono _) (impl_FromBeta.mono _) h.1.2
    refine ⟨r, ?_, hs, hi⟩
    have h4 := h.2.2
    cases e : impl_FromBeta.f 200 (betaF_Back p n) with
    | none => have := h.1.2; rw [e] at this; unfold both at this; split at this <;> simp_all
    | some z =>
      obtain ⟨K, hK⟩ := hi
      have hz := at_rounds (impl_FromBeta.mono (betaF_Back p n)) (Nat.le_max_left 200 K) e
      have hK' : impl_FromBeta.f (max 200 K) (betaF_Back p n) = some r := hK _ (Nat.le_max_right 200 K)
      rw [hK'] at hz
      rw [e] at h4
      simpa [Option.some.inj hz] using h4
  · exact ⟨([], false), by simp, specNo_l0_Back l hl hg l.length 0 [] (by omega) (by simp), implNo_l0_Back l hl hg l.length 0 [] (by omega) rfl⟩
theorem same_Is (l : List Int) (a : Int) (hl : l.length ≤ 1048576) : ∃ r : Bool, Ev (fun k => spec_IsCore.f k l a) r ∧ Ev (fun k => impl_IsCore.f k l a) r := by
  by_cases h : isP l = true ∧ 1 ≤ a ∧ a ≤ 9
  · obtain ⟨q, r, hq, hd, e1, e2⟩ := core_ev l a hl h.1 h.2
    have hql := isP_length hq
    have hb : (isP l && decide (1 ≤ a ∧ a ≤ 9)) = true := by simp [h]
    have hr : (r == 0) = decide (q = l) := by
      rcases hd with ⟨rfl, rfl⟩ | ⟨h1, h2⟩
      · simp
      · have : q ≠ l := by rintro rfl; omega
        rw [decide_eq_false this]; simp; omega
    refine ⟨decide (q = l), ?_, ?_⟩
    · simp only [spec_IsCore.f, spec_CoreWeight.f]
      refine Ev.bind (fine_ev l a hl) (Ev.ite_true hb ?_)
      refine Ev.bind (Ev.bind (fine_ev l a hl) (Ev.ite_true hb (Ev.bind e1 (Ev.now _)))) ?_
      rw [← hr]; exact Ev.now _
    · simp only [impl_IsCore.f]
      exact Ev.bind e2 (Ev.ite_true rfl (Ev.bind (equal_ev q l (by omega)) (Ev.now _)))
  · refine ⟨false, ?_, ?_⟩
    · simp only [spec_IsCore.f]
      exact Ev.bind (fine_ev l a hl) (Ev.ite_false (by simpa using h) (Ev.now _))
    · simp only [impl_IsCore.f]
      exact Ev.bind (core_no l a hl h) (Ev.ite_false (by simp) (Ev.now _))
def backB (p : List Int) (n : Nat) : Bool := match impl_BetaNumbers.f 100 p n with
  | some b => decide (b.length = 0) || decide (impl_FromBeta.f 200 b = some (p, true))
  | none => false
theorem backs : allP.all (fun p => (List.range 4).all fun x => backB p (p.length + x)) = true := by decide +kernel
def coreB (p : List Int) (k : Int) : Bool := match impl_CoreOf.f 400 p k, impl_CoreWeight.f 400 p k, impl_QuotientOf.f 400 p k with
  | some c, some n, some q => decide (laws_FnCores.j1 400 p k c n q = some true)
  | _, _, _ => false
def kk : List Int := [1, 2, 3, 4, 5, 9]
theorem cores0 : ((allP.drop 0).take 5).all (fun p => kk.all fun k => coreB p k) = true := by decide +kernel
theorem cores1 : ((allP.drop 5).take 5).all (fun p => kk.all fun k => coreB p k) = true := by decide +kernel
theorem cores2 : ((allP.drop 10).take 5).all (fun p => kk.all fun k => coreB p k) = true := by decide +kernel
theorem cores3 : ((allP.drop 15).take 5).all (fun p => kk.all fun k => coreB p k) = true := by decide +kernel
theorem cores4 : ((allP.drop 20).take 5).all (fun p => kk.all fun k => coreB p k) = true := by decide +kernel
theorem cores5 : ((allP.drop 25).take 5).all (fun p => kk.all fun k => coreB p k) = true := by decide +kernel
theorem cores6 : ((allP.drop 30).take 5).all (fun p => kk.all fun k => coreB p k) = true := by decide +kernel
theorem cores7 : ((allP.drop 35).take 5).all (fun p => kk.all fun k => coreB p k) = true := by decide +kernel
theorem cores8 : ((allP.drop 40).take 5).all (fun p => kk.all fun k => coreB p k) = true := by decide +kernel
theorem cores9 : ((allP.drop 45).take 5).all (fun p => kk.all fun k => coreB p k) = true := by decide +kernel
theorem cores10 : ((allP.drop 50).take 5).all (fun p => kk.all fun k => coreB p k) = true := by decide +kernel
theorem cores11 : ((allP.drop 55).take 5).all (fun p => kk.all fun k => coreB p k) = true := by decide +kernel
theorem cores12 : ((allP.drop 60).take 5).all (fun p => kk.all fun k => coreB p k) = true := by decide +kernel
theorem cores13 : ((allP.drop 65).take 5).all (fun p => kk.all fun k => coreB p k) = true := by decide +kernel
theorem cores14 : ((allP.drop 70).take 5).all (fun p => kk.all fun k => coreB p k) = true := by decide +kernel
theorem cores15 : ((allP.drop 75).take 5).all (fun p => kk.all fun k => coreB p k) = true := by decide +kernel
theorem cores16 : ((allP.drop 80).take 5).all (fun p => kk.all fun k => coreB p k) = true := by decide +kernel
theorem cores17 : ((allP.drop 85).take 5).all (fun p => kk.all fun k => coreB p k) = true := by decide +kernel
theorem cores18 : ((allP.drop 90).take 5).all (fun p => kk.all fun k => coreB p k) = true := by decide +kernel
theorem cores19 : ((allP.drop 95).take 5).all (fun p => kk.all fun k => coreB p k) = true := by decide +kernel
theorem core_of {p : List Int} (h : isP p = true) {k : Int} (hk : k ∈ kk) : coreB p k = true := by
  have hm := mem_allP h
  have e : allP = (allP.drop 0).take 5 ++ ((allP.drop 5).take 5 ++ ((allP.drop 10).take 5 ++ ((allP.drop 15).take 5 ++ ((allP.drop 20).take 5 ++ ((allP.drop 25).take 5 ++ ((allP.drop 30).take 5 ++ ((allP.drop 35).take 5 ++ ((allP.drop 40).take 5 ++ ((allP.drop 45).take 5 ++ ((allP.drop 50).take 5 ++ ((allP.drop 55).take 5 ++ ((allP.drop 60).take 5 ++ ((allP.drop 65).take 5 ++ ((allP.drop 70).take 5 ++ ((allP.drop 75).take 5 ++ ((allP.drop 80).take 5 ++ ((allP.drop 85).take 5 ++ ((allP.drop 90).take 5 ++ ((allP.drop 95).take 5))))))))))))))))))) := by decide +kernel
  rw [e] at hm
  simp only [List.mem_append] at hm
  rcases hm with hm | hm | hm | hm | hm | hm | hm | hm | hm | hm | hm | hm | hm | hm | hm | hm | hm | hm | hm | hm
  · exact of_all (of_all cores0 hm) hk
  · exact of_all (of_all cores1 hm) hk
  · exact of_all (of_all cores2 hm) hk
  · exact of_all (of_all cores3 hm) hk
  · exact of_all (of_all cores4 hm) hk
  · exact of_all (of_all cores5 hm) hk
  · exact of_all (of_all cores6 hm) hk
  · exact of_all (of_all cores7 hm) hk
  · exact of_all (of_all cores8 hm) hk
  · exact of_all (of_all cores9 hm) hk
  · exact of_all (of_all cores10 hm) hk
  · exact of_all (of_all cores11 hm) hk
  · exact of_all (of_all cores12 hm) hk
  · exact of_all (of_all cores13 hm) hk
  · exact of_all (of_all cores14 hm) hk
  · exact of_all (of_all cores15 hm) hk
  · exact of_all (of_all cores16 hm) hk
  · exact of_all (of_all cores17 hm) hk
  · exact of_all (of_all cores18 hm) hk
  · exact of_all (of_all cores19 hm) hk
theorem drawCore (l : List Int) (hl : l.length ≤ 1048576) : ∃ (p : List Int) (k : Int), Ev (fun f => spec_DrawCoreOf.f f l) (p, k) ∧ p.length ≤ 20 ∧ k ∈ [2, 3, 2, 3, 4, 5, 1, 9, 0, 10] := by
  obtain ⟨h0, e0⟩ := new_ev l hl
  obtain ⟨p, i1, h1, e1, hp, hc1⟩ := bent_ev l 0 h0 9 (cur0 l hl) (by omega) (by omega)
  obtain ⟨k, i2, h2, e2, hk, _⟩ := pickInt_ev l i1 h1 [2, 3, 2, 3, 4, 5, 1, 9, 0, 10] hc1 (by simp) (by simp)
  refine ⟨p, k, ?_, hp, hk⟩
  simp only [spec_DrawCoreOf.f, spec_l24Case.f]
  refine Ev.bind (a := (p, k)) (Ev.bind e0 (Ev.bind e1 ?_)) (Ev.now _)
  simp only [e2, Option.bind_some]
  exact Ev.now _
theorem drawBeta (l : List Int) (hl : l.length ≤ 1048576) : ∃ (p : List Int) (m : Int), Ev (fun f => spec_DrawBetaNumbers.f f l) (p, m) ∧ p.length ≤ 20 ∧ (p.length : Int) - 1 ≤ m ∧ m ≤ p.length + 3 := by
  obtain ⟨h0, e0⟩ := new_ev l hl
  obtain ⟨p, i1, h1, e1, hp, hc1⟩ := bent_ev l 0 h0 9 (cur0 l hl) (by omega) (by omega)
  obtain ⟨x, i2, h2, e2, hx, hc2⟩ := below_ev l i1 h1 4 hc1 (by omega)
  obtain ⟨b, i3, h3, e3, _⟩ := once_ev l i2 h2 8 hc2 (by omega)
  have hx4 := hx.2.1 (by omega)
  refine ⟨p, wrap64 ((wrap64 ((p.length : Int) + x)) - (if b = true then 1 else 0)), ?_, hp, ?_⟩
  · simp only [spec_DrawBetaNumbers.f]
    refine Ev.bind e0 (Ev.bind e1 ?_)
    simp only [e2, e3, Option.bind_some, spec_l1Bit.f]
    cases b
    · exact Ev.now _
    · exact Ev.now _
  · cases b <;> simp only [wrap64, if_true, Bool.false_eq_true, if_false] <;> omega
theorem drawBack (l : List Int) (hl : l.length ≤ 1048576) : ∃ (f : List Int), Ev (fun k => spec_DrawFromBeta.f k l) f ∧ f.length ≤ 20 := by
  obtain ⟨h0, e0⟩ := new_ev l hl
  obtain ⟨p, i1, h1, e1, hp, hc1⟩ := draw_ev l 0 h0 8 (cur0 l hl) (by omega) (by omega)
  have hlp := isP_length hp.1
  obtain ⟨x, i2, h2, e2, hx, hc2⟩ := below_ev l i1 h1 3 hc1 (by omega)
  have hx4 := hx.2.1 (by omega)
  obtain ⟨r, hr, b1, _⟩ := same_Beta p (wrap64 ((p.length : Int) + x)) (by omega)
  simp only [spec_DrawFromBeta.f]
  by_cases c : (r.length : Int) > 0
  · obtain ⟨z, i3, h3, e3, hc3⟩ := once_ev l i2 h2 5 hc2 (by omega)
    cases z with
    | true =>
      obtain ⟨u, i4, h4, e4, hu, hc4⟩ := below_ev l i3 h3 r.length hc3 (by omega)
      obtain ⟨v, i5, h5, e5, hv, hc5⟩ := below_ev l i4 h4 9 hc4 (by omega)
      have hu4 := hu.2.1 (by omega)
      refine ⟨r.set u.toNat (wrap64 (v - 1)), Ev.bind e0 (Ev.bind e1 ?_), by simpa using hr⟩
      simp only [e2, Option.bind_some]
      refine Ev.bind b1 (Ev.ite_true c ?_)
      simp only [e3, Option.bind_some]
      refine Ev.step (fun k => by simp only [spec_DrawFromBeta.j0]; rfl) (Ev.ite_true (by trivial) ?_)
      simp only [e4, e5, Option.bind_some]
      exact Ev.ite_true hu.1 (Ev.ite_true hu4 (Ev.now _))
    | false =>
      refine ⟨r, Ev.bind e0 (Ev.bind e1 ?_), hr⟩
      simp only [e2, Option.bind_some]
      refine Ev.bind b1 (Ev.ite_true c ?_)
      simp only [e3, Option.bind_some]
      exact Ev.step (fun k => by simp only [spec_DrawFromBeta.j0]; rfl) (Ev.ite_false (by simp) (Ev.now _))
  · refine ⟨r, Ev.bind e0 (Ev.bind e1 ?_), hr⟩
    simp only [e2, Option.bind_some]
    refine Ev.bind b1 (Ev.ite_false c ?_)
    exact Ev.step (fun k => by simp only [spec_DrawFromBeta.j0]; rfl) (Ev.ite_false (by simp) (Ev.now _))
theorem beta_none (b : List Int) (m : Int) (hb : b.length ≤ 1048576) (h : ¬ (isP b = true ∧ (b.length : Int) ≤ m)) : Ev (fun k => impl_BetaNumbers.f k b m) [] := by
  simp only [impl_BetaNumbers.f, Option.bind_some, within_f]
  by_cases hP : isP b = true
  · have hb2 : (!decide ((b.length : Int) ≤ m ∧ m ≤ 18)) = true := by
      simp only [Bool.not_eq_true', decide_eq_false_iff_not]; exact fun x => h ⟨hP, x.1⟩
    rw [hb2]
    refine Ev.bind (implIsP_ev b hb) (Ev.ite_true hP ?_)
    exact Ev.step (f := fun _ => some []) (fun k => by simp [impl_BetaNumbers.j0]) (Ev.now _)
  · refine Ev.bind (implIsP_ev b hb) (Ev.ite_false hP ?_)
    exact Ev.step (f := fun _ => some []) (fun k => by simp [impl_BetaNumbers.j0]) (Ev.now _)
theorem quo_none (p : List Int) (k : Int) (hl : p.length ≤ 1048576) (h : ¬ (isP p = true ∧ 1 ≤ k ∧ k ≤ 9)) : Ev (fun f => impl_QuotientOf.f f p k) [] := by
  simp only [impl_QuotientOf.f]
  refine Ev.bind (implIsP_ev p hl) ?_
  by_cases hp : isP p = true
  · have hb : (!decide (1 ≤ k ∧ k ≤ 9)) = true := by rw [decide_eq_false (fun x => h ⟨hp, x⟩)]; rfl
    simp only [Option.bind_some, within_f, hb]
    exact Ev.ite_true hp (Ev.step (f := fun _ => some []) (fun k => by simp [impl_QuotientOf.j0]) (Ev.now _))
  · exact Ev.ite_false hp (Ev.step (f := fun _ => some []) (fun k => by simp [impl_QuotientOf.j0]) (Ev.now _))
theorem FnCores : laws_FnCores.Pure := by
  intro l h1 h2 h3
  apply Ev.rounds
  simp only [laws_FnCores.f, laws_big.f, Option.bind_some]
  by_cases hl : l.length ≤ 1048576
  · refine Ev.ite_false (by simp; omega) ?_
    obtain ⟨p, k, d1, hp, hk⟩ := drawCore l hl
    obtain ⟨b, m, d2, hb, hm1, hm2⟩ := drawBeta l hl
    obtain ⟨f, d3, hf⟩ := drawBack l hl
    obtain ⟨c, hc, c1, c2⟩ := same_Core p k (by omega)
    obtain ⟨n, n1, n2⟩ := same_Weight p k (by omega)
    obtain ⟨q, ⟨hq, hq2⟩, q1, q2⟩ := quo_same p k (by omega)
    obtain ⟨be, hbe, b1, b2⟩ := same_Beta b m (by omega)
    obtain ⟨x, hx, x1, x2⟩ := same_Back f (by omega)
    obtain ⟨y, y1, y2⟩ := same_Is p k (by omega)
    have sl : smallL q := ⟨by omega, fun z hz => Nat.le_trans (hq2 z hz) (by decide)⟩
    have s1 := sameInts_self c hc
    have s2 := sameLists_self q sl
    have s3 := sameInts_self be (by omega)
    have s4 := sameInts_self x.1 (by omega)
    have last : Ev (fun K => laws_FnCores.j1 K p k c n q) true := by
      by_cases hv : isP p = true ∧ 1 ≤ k ∧ k ≤ 9
      · have hkk : k ∈ kk := by
          simp only [List.mem_cons, List.not_mem_nil, or_false] at hk
          simp only [kk, List.mem_cons, List.not_mem_nil, or_false]
          omega
        have hB := core_of hv.1 hkk
        unfold coreB at hB
        split at hB
        · rename_i c' n' q' a1 a2 a3
          obtain rfl : c = c' := ev_one c2 (Ev.of (impl_CoreOf.mono _ _) a1)
          obtain rfl : n = n' := ev_one n2 (Ev.of (impl_CoreWeight.mono _ _) a2)
          obtain rfl : q = q' := ev_one q2 (Ev.of (impl_QuotientOf.mono _ _) a3)
          exact Ev.of (fun K => (laws_FnCores.mono_l K).2.1 p k c n q) (of_decide_eq_true hB)
        · cases hB
      · have hno := core_no p k (by omega) hv
        obtain rfl : c = [] := ev_one c2 (by simp only [impl_CoreOf.f]; exact Ev.bind hno (Ev.now _))
        obtain rfl : n = -1 := ev_one n2 (by simp only [impl_CoreWeight.f]; exact Ev.bind hno (Ev.now _))
        obtain rfl : q = [] := ev_one q2 (quo_none p k (by omega) hv)
        exact Ev.step (fun K => by simp only [laws_FnCores.j1]; rfl) (Ev.ite_true (by omega) (Ev.ite_true (by simp) (Ev.now _)))
    refine Ev.bind d1 (Ev.bind c2 (Ev.bind n2 (Ev.bind q2 (Ev.bind d2 (Ev.bind b2 (Ev.bind d3 (Ev.bind x2 (Ev.bind x1 (Ev.bind c1 (Ev.bind s1 (Ev.ite_true rfl (Ev.bind n1 (Ev.ite_true rfl (Ev.bind q1 (Ev.bind s2 (Ev.ite_true rfl (Ev.bind b1 (Ev.bind s3 (Ev.ite_true rfl (Ev.ite_false (by simp) (Ev.bind s4 (Ev.ite_true rfl (Ev.bind y2 (Ev.bind y1 ?_))))))))))))))))))))))))
    have e0 : (y != y) = false := by simp
    rw [e0]
    refine Ev.step (fun K => by simp only [laws_FnCores.j0]; rfl) (Ev.ite_false (by simp) ?_)
    by_cases h0 : (be.length : Int) > 0
    · by_cases hv : isP b = true ∧ (b.length : Int) ≤ m
      · obtain ⟨w, hw⟩ : ∃ w : Nat, m = ((b.length + w : Nat) : Int) := ⟨(m - b.length).toNat, by omega⟩
        have hB := of_all (of_all backs (mem_allP hv.1)) (x := w) (List.mem_range.2 (by omega))
        rw [hw] at b2
        unfold backB at hB
        split at hB
        · rename_i be' a1
          obtain rfl : be = be' := ev_one b2 (Ev.of (impl_BetaNumbers.mono _ _) a1)
          rw [decide_eq_false (show ¬ be.length = 0 by omega), Bool.false_or] at hB
          exact Ev.ite_true h0 (Ev.bind (Ev.of (impl_FromBeta.mono _) (of_decide_eq_true hB)) (Ev.ite_true rfl (Ev.bind (sameInts_self b (by omega)) (Ev.ite_true rfl last))))
        · cases hB
      · have : be = [] := ev_one b2 (beta_none b m (by omega) hv)
        subst this
        simp at h0
    · exact Ev.ite_false h0 last
  · exact Ev.ite_true (by simp; omega) (Ev.now _)

end Go.Proofs.Ytopmggldaicpaaa.Pure
