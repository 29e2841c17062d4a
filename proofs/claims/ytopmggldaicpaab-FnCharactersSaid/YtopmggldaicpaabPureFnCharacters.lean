/- Characters of the program are those of the reference, at ones they are the numbers of standard tableaux, turning multiplies them by the sign, and the rows of a table of characters are orthogonal, for all that can be drawn. No condition. -/
import Derived.Test.YtopmggldaicpaabPFnCharactersx18
import Derived.Test.YtopmggldaicpaabVFnCharacters
set_option linter.unusedVariables false
set_option linter.unusedSimpArgs false
namespace Go.Proofs.Ytopmggldaicpaab
open Go.ChangeShapes Go.WideShapes
theorem PrintWords.sized_ints {H : Type} {enc : TypeId × Value → H} {P : Program} {W : World} {base : Nat} {spare : Nat → Bool} {held : Bool} {t e : TypeId} {k : IntKind} {a : Option Addr} {len cap : Nat} {d : DataW H} {ps : List MemPlace} {ts : List TypeId} {ds : List (DataW H)} {j : Nat}
    (hsz : (DataW.weightsEach P ts ds).all (· ≤ reachBytes) = true) (ht : ts[j]? = some t) (hd : ds[j]? = some d) (hu : P.underlying t = some (.slice e)) (he : P.underlying e = some (.int k)) (hc : P.cellsOf e = 1) {B : Nat} (hB : P.bytesOf e = B)
    (h : DataW.Trod enc P W base spare held t (.slice a len cap) d ps) : len * B ≤ 140737488351232 :=
  Go.Proofs.YtopmggldaicpaabW.PrintWords.sized_ints hsz ht hd hu he hc hB h
end Go.Proofs.Ytopmggldaicpaab
namespace Go.Proofs.Ytopmggldaicpaab.Pure
open Go.RowKit Go.Proofs.Ytopmggldaicpaab.PFnCharacters Go.Proofs.YtopmggldaicpaabW.PrintWords Go.Proofs.YtopmggldaicpaabW.PrintLast

theorem wr_in {x : Int} (h : -9223372036854775808 ≤ x) (h' : x ≤ 9223372036854775807) : wrap64 x = x := by unfold wrap64; omega
theorem wr1 {i : Nat} (h : i < 4611686018427387904) : wrap64 ((i : Int) + 1) = ((i + 1 : Nat) : Int) := by unfold wrap64; omega
theorem Ev.ite_true {α : Type} {c : Prop} [Decidable c] {g f : Nat → Option α} {r : α} (hc : c) (h : Ev g r) : Ev (fun k => if c then g k else f k) r := by
  obtain ⟨K, h⟩ := h
  exact ⟨K, fun k hk => (if_pos hc).trans (h k hk)⟩
theorem Ev.ite_false {α : Type} {c : Prop} [Decidable c] {g f : Nat → Option α} {r : α} (hc : ¬ c) (h : Ev f r) : Ev (fun k => if c then g k else f k) r := by
  obtain ⟨K, h⟩ := h
  exact ⟨K, fun k hk => (if_neg hc).trans (h k hk)⟩
theorem rd_nat (l : List Int) (i : Nat) (h : i < l.length) : rd l (i : Int) = l[i] := by
  simp [rd, List.getD_eq_getElem?_getD, h]
/-- A statement that holds of all members of a list that can be run through. -/
theorem of_all {α : Type} {p : α → Bool} {l : List α} (h : l.all p = true) {x : α} (hx : x ∈ l) : p x = true := List.all_eq_true.mp h x hx
/-- Both answer, and alike. -/
def both {α : Type} [DecidableEq α] (a b : Option α) : Bool := match a, b with
  | some x, some y => decide (x = y)
  | _, _ => false
theorem both_ev {α : Type} [DecidableEq α] {f g : Nat → Option α} (hf : ∀ k, LeO (f k) (f (k + 1))) (hg : ∀ k, LeO (g k) (g (k + 1))) {n m : Nat} (h : both (f n) (g m) = true) : ∃ r, Ev f r ∧ Ev g r := by
  unfold both at h
  split at h
  · rename_i x y hx hy
    have e := of_decide_eq_true h
    subst e
    exact ⟨x, Ev.of hf hx, Ev.of hg hy⟩
  · cases h
theorem take_set_succ {α : Type} (y : List α) (i : Nat) (v : α) (h : i < y.length) : (y.set i v).take (i + 1) = y.take i ++ [v] := by
  rw [List.take_succ_eq_append_getElem (by simpa using h)]
  simp only [List.getElem_set_self]
  congr 1
  apply List.ext_getElem?
  intro j
  simp only [List.getElem?_take, List.getElem?_set]
  by_cases h : j < i
  · rw [if_pos h, if_neg (by omega), if_pos h]
  · rw [if_neg h, if_neg h]

/-! Partitions: a plain test, and all of them. -/
def isPF (prev s : Int) : List Int → Bool
  | [] => true
  | x :: xs => if 1 ≤ x ∧ x ≤ 9 ∧ x ≤ prev ∧ s + x ≤ 9 then isPF x (s + x) xs else false
def isP (l : List Int) : Bool := isPF 9 0 l
/-- All lists of numbers of at most 'prev' that add to 's' at most 9. -/
def genP : Nat → Nat → Nat → List (List Int)
  | 0, _, _ => [[]]
  | n + 1, prev, s => [] :: (List.range' 1 (min prev (9 - s))).flatMap fun x => (genP n x (s + x)).map fun r => (x : Int) :: r
theorem mem_genP : ∀ (n prev s : Nat) (l : List Int), 9 < n + s → s ≤ 9 → isPF prev s l = true → l ∈ genP n prev s
  | 0, prev, s, l, h1, h2, _ => by omega
  | n + 1, prev, s, [], _, _, _ => by simp [genP]
  | n + 1, prev, s, x :: xs, h1, h2, h => by
    simp only [isPF] at h
    split at h
    · rename_i hc
      obtain ⟨c1, c2, c3, c4⟩ := hc
      obtain ⟨m, rfl⟩ : ∃ m : Nat, x = (m : Int) := ⟨x.toNat, by omega⟩
      have e : (s : Int) + (m : Int) = ((s + m : Nat) : Int) := by omega
      rw [e] at h
      have ih := mem_genP n m (s + m) xs (by omega) (by omega) h
      simp only [genP, List.mem_cons, List.mem_flatMap]
      refine Or.inr ⟨m, ?_, ?_⟩
      · simp only [List.mem_range'_1]; omega
      · exact List.mem_map.2 ⟨xs, ih, rfl⟩
    · cases h
def allP : List (List Int) := genP 10 9 0
theorem mem_allP {l : List Int} (h : isP l = true) : l ∈ allP := mem_genP 10 9 0 l (by omega) (by omega) h
theorem isPF_length : ∀ (l : List Int) (prev s : Int), isPF prev s l = true → s + l.length ≤ 9 ∨ l = []
  | [], _, _, _ => .inr rfl
  | x :: xs, prev, s, h => by
    simp only [isPF] at h
    split at h
    · rename_i hc
      rcases isPF_length xs x (s + x) h with h1 | rfl
      · left; simp only [List.length_cons]; omega
      · left; simp; omega
    · cases h
theorem isP_length {l : List Int} (h : isP l = true) : l.length ≤ 9 := by
  rcases isPF_length l 9 0 h with h | rfl
  · omega
  · simp
/-- What stands at place i, and behind it. -/
theorem drop_cons (l : List Int) (i : Nat) (h : i < l.length) : l.drop i = l[i] :: l.drop (i + 1) := List.drop_eq_getElem_cons h
def prevOf (l : List Int) (i : Nat) : Int := if i = 0 then 9 else l.getD (i - 1) 0
theorem prevOf_succ (l : List Int) (i : Nat) (h : i < l.length) : prevOf l (i + 1) = l[i] := by simp [prevOf, h]

-- The size of a partition, -1 for what is none.
def szB (p : List Int) : Int := if isP p = true then p.sum else -1
theorem factsize : allP.all (fun p => decide (spec_l2Size.f 20 p = some p.sum) && decide (impl_sum.f 20 p = some p.sum)) = true := by decide +kernel
theorem specL2_ev {p : List Int} (h : isP p = true) : Ev (fun k => spec_l2Size.f k p) p.sum := by
  have a := of_all factsize (mem_allP h)
  simp only [Bool.and_eq_true, decide_eq_true_eq] at a
  exact Ev.of (spec_l2Size.mono p) a.1
theorem implSum_ev {p : List Int} (h : isP p = true) : Ev (fun k => impl_sum.f k p) p.sum := by
  have a := of_all factsize (mem_allP h)
  simp only [Bool.and_eq_true, decide_eq_true_eq] at a
  exact Ev.of (impl_sum.mono p) a.2

theorem within_f (x a b : Int) : impl_within.f x a b = some (decide (a ≤ x ∧ x ≤ b)) := by
  unfold impl_within.f
  by_cases h : a ≤ x
  · rw [if_pos h]; congr 1; by_cases h2 : x ≤ b
    · rw [decide_eq_true h2, decide_eq_true ⟨h, h2⟩]
    · rw [decide_eq_false h2, decide_eq_false (by omega)]
  · rw [if_neg h, decide_eq_false (by omega)]

theorem implIsP_l0 (l : List Int) (hl : l.length ≤ 1048576) (d : Nat) : ∀ (i k : Nat) (s : Int), i + d = l.length → 0 ≤ s → s ≤ 9 → 2 * d < k → impl_IsPartition.l0 k l s l l.length i = some (isPF (prevOf l i) s (l.drop i)) := by
  induction d with
  | zero =>
    intro i k s hi h0 h9 hk
    obtain ⟨k, rfl⟩ : ∃ m, k = m + 1 := ⟨k - 1, by omega⟩
    simp only [impl_IsPartition.l0]
    rw [if_neg (by omega), List.drop_of_length_le (by omega)]
    rfl
  | succ d ih =>
    intro i k s hi h0 h9 hk
    obtain ⟨k, rfl⟩ : ∃ m, k = m + 2 := ⟨k - 2, by omega⟩
    have hlt : i < l.length := by omega
    simp only [impl_IsPartition.l0]
    rw [if_pos (by omega), if_pos (by omega), if_pos (by omega), rd_nat l i hlt, within_f, drop_cons l i hlt]
    simp only [Option.bind_some, isPF]
    have hj : ∀ b : Bool, (b = true ↔ ¬ (1 ≤ l[i] ∧ l[i] ≤ 9 ∧ l[i] ≤ prevOf l i)) →
        impl_IsPartition.j1 (k + 1) l s l[i] l l.length i b = some (if 1 ≤ l[i] ∧ l[i] ≤ 9 ∧ l[i] ≤ prevOf l i ∧ s + l[i] ≤ 9 then isPF l[i] (s + l[i]) (l.drop (i + 1)) else false) := by
      intro b hb
      simp only [impl_IsPartition.j1]
      by_cases hc : 1 ≤ l[i] ∧ l[i] ≤ 9 ∧ l[i] ≤ prevOf l i
      · rw [if_neg (fun h => hb.1 h hc), wr_in (x := s + l[i]) (by omega) (by omega), wr1 (by omega)]
        by_cases h9' : s + l[i] > 9
        · rw [if_pos h9', if_neg (by omega)]
        · rw [if_neg h9', if_pos ⟨hc.1, hc.2.1, hc.2.2, by omega⟩, ih (i + 1) k _ (by omega) (by omega) (by omega) (by omega), prevOf_succ l i hlt]
      · rw [if_pos (hb.2 hc), if_neg (fun h => hc ⟨h.1, h.2.1, h.2.2.1⟩)]
    by_cases h1 : 1 ≤ l[i] ∧ l[i] ≤ 9
    · rw [if_pos (decide_eq_true h1)]
      by_cases hi0 : i = 0
      · subst hi0
        rw [if_neg (by omega)]
        exact hj false (by simp [prevOf]; omega)
      · have e : wrap64 ((i : Int) - 1) = ((i - 1 : Nat) : Int) := by unfold wrap64; omega
        rw [if_pos (by omega), e, if_pos (by omega), if_pos (by omega), rd_nat l (i - 1) (by omega)]
        refine hj _ ?_
        have hp : prevOf l i = l[i - 1] := by simp [prevOf, hi0]; rw [List.getElem?_eq_getElem (by omega)]; rfl
        rw [hp, decide_eq_true_iff]; omega
    · rw [if_neg (by simp; omega)]
      exact hj true (by simp; omega)
theorem implIsP_ev (l : List Int) (hl : l.length ≤ 1048576) : Ev (fun k => impl_IsPartition.f k l) (isP l) := by
  refine ⟨2 * l.length + 1, fun k hk => ?_⟩
  have h := implIsP_l0 l hl l.length 0 k 0 (by omega) (by omega) (by omega) (by omega)
  simpa [impl_IsPartition.f, isP, prevOf] using h

theorem implSize_ev (l : List Int) (hl : l.length ≤ 1048576) : Ev (fun k => impl_SizeOf.f k l) (szB l) := by
  simp only [impl_SizeOf.f, szB]
  refine Ev.bind (implIsP_ev l hl) ?_
  by_cases h : isP l = true
  · rw [if_pos h]; exact Ev.ite_true h (Ev.bind (implSum_ev h) (Ev.now _))
  · rw [if_neg h]; exact Ev.ite_false h (Ev.now _)

theorem l1In_f (x a b : Int) : spec_l1In.f x a b = some (decide (a ≤ x ∧ x ≤ b)) := by
  unfold spec_l1In.f
  by_cases h : x ≥ a
  · rw [if_pos h]; congr 1; by_cases h2 : x ≤ b
    · rw [decide_eq_true h2, decide_eq_true ⟨h, h2⟩]
    · rw [decide_eq_false h2, decide_eq_false (by omega)]
  · rw [if_neg h, decide_eq_false (by omega)]

theorem specIsP_l0 (l : List Int) (hl : l.length ≤ 1048576) (d : Nat) : ∀ (i k : Nat) (s : Int), i + d = l.length → 0 ≤ s → s ≤ 9 → 2 * d < k → spec_IsPartition.l0 k l s i = some (isPF (prevOf l i) s (l.drop i)) := by
  induction d with
  | zero =>
    intro i k s hi h0 h9 hk
    obtain ⟨k, rfl⟩ : ∃ m, k = m + 1 := ⟨k - 1, by omega⟩
    simp only [spec_IsPartition.l0]
    rw [if_neg (by omega), List.drop_of_length_le (by omega)]
    rfl
  | succ d ih =>
    intro i k s hi h0 h9 hk
    obtain ⟨k, rfl⟩ : ∃ m, k = m + 2 := ⟨k - 2, by omega⟩
    have hlt : i < l.length := by omega
    simp only [spec_IsPartition.l0]
    rw [if_pos (by omega), if_pos (by omega), rd_nat l i hlt, l1In_f, drop_cons l i hlt]
    simp only [Option.bind_some, isPF]
    have hj : ∀ b : Bool, (b = true ↔ ¬ (1 ≤ l[i] ∧ l[i] ≤ 9 ∧ l[i] ≤ prevOf l i)) →
        spec_IsPartition.j1 (k + 1) l s i b = some (if 1 ≤ l[i] ∧ l[i] ≤ 9 ∧ l[i] ≤ prevOf l i ∧ s + l[i] ≤ 9 then isPF l[i] (s + l[i]) (l.drop (i + 1)) else false) := by
      intro b hb
      simp only [spec_IsPartition.j1]
      by_cases hc : 1 ≤ l[i] ∧ l[i] ≤ 9 ∧ l[i] ≤ prevOf l i
      · rw [if_neg (fun h => hb.1 h hc), if_pos (by omega), if_pos (by omega), rd_nat l i hlt, wr_in (by omega) (by omega), wr1 (by omega)]
        by_cases h9' : s + l[i] > 9
        · rw [if_pos h9', if_neg (by omega)]
        · rw [if_neg h9', if_pos ⟨hc.1, hc.2.1, hc.2.2, by omega⟩, ih (i + 1) k _ (by omega) (by omega) (by omega) (by omega), prevOf_succ l i hlt]
      · rw [if_pos (hb.2 hc), if_neg (fun h => hc ⟨h.1, h.2.1, h.2.2.1⟩)]
    by_cases h1 : 1 ≤ l[i] ∧ l[i] ≤ 9
    · rw [if_pos (decide_eq_true h1)]
      by_cases hi0 : i = 0
      · subst hi0
        rw [if_neg (by omega)]
        exact hj false (by simp [prevOf]; omega)
      · have e : wrap64 ((i : Int) - 1) = ((i - 1 : Nat) : Int) := by unfold wrap64; omega
        rw [if_pos (by omega), e, if_pos (by omega), if_pos (by omega), rd_nat l (i - 1) (by omega)]
        refine hj _ ?_
        have hp : prevOf l i = l[i - 1] := by simp [prevOf, hi0]; rw [List.getElem?_eq_getElem (by omega)]; rfl
        rw [hp, decide_eq_true_iff]; omega
    · rw [if_neg (by simp; omega)]
      exact hj true (by simp; omega)
theorem specIsP_ev (l : List Int) (hl : l.length ≤ 1048576) : Ev (fun k => spec_IsPartition.f k l) (isP l) := by
  refine ⟨2 * l.length + 1, fun k hk => ?_⟩
  have h := specIsP_l0 l hl l.length 0 k 0 (by omega) (by omega) (by omega) (by omega)
  simpa [spec_IsPartition.f, isP, prevOf] using h

theorem specSize_ev (l : List Int) (hl : l.length ≤ 1048576) : Ev (fun k => spec_SizeOf.f k l) (szB l) := by
  simp only [spec_SizeOf.f, szB]
  refine Ev.bind (specIsP_ev l hl) ?_
  by_cases h : isP l = true
  · rw [if_pos h]; exact Ev.ite_true h (Ev.bind (specL2_ev h) (Ev.now _))
  · rw [if_neg h]; exact Ev.ite_false h (Ev.now _)

-- RibbonsInside of both, with the ribbons' heights: alike over all partitions of at most 9 and k from 1 to 9.
def rb (p : List Int) (k : Int) (a b : Option (List S46)) : Bool := match a, b with
  | some x, some y => (decide (x.map (fun s => (s.f0, s.f1)) = y.map (fun s => (s.f0, s.f1))) && decide (x.length ≤ 100)) && x.all (fun s => (isP s.f1 && decide (s.f1.sum = p.sum - k)) && both (spec_RibbonHeight.f 60 s.f0 s.f1) (impl_RibbonHeight.f 60 s.f0 s.f1))
  | _, _ => false
def ks : List Int := [1, 2, 3, 4, 5, 6, 7, 8, 9]
set_option maxHeartbeats 400000000 in
theorem rparts0 : ((allP.drop 0).take 10).all (fun p => ks.all (fun k => rb p k (spec_RibbonsInside.f 100 p k) (impl_RibbonsInside.f 100 p k))) = true := by decide +kernel
set_option maxHeartbeats 400000000 in
theorem rparts1 : ((allP.drop 10).take 10).all (fun p => ks.all (fun k => rb p k (spec_RibbonsInside.f 100 p k) (impl_RibbonsInside.f 100 p k))) = true := by decide +kernel
set_option maxHeartbeats 400000000 in
theorem rparts2 : ((allP.drop 20).take 10).all (fun p => ks.all (fun k => rb p k (spec_RibbonsInside.f 100 p k) (impl_RibbonsInside.f 100 p k))) = true := by decide +kernel
set_option maxHeartbeats 400000000 in
theorem rparts3 : ((allP.drop 30).take 10).all (fun p => ks.all (fun k => rb p k (spec_RibbonsInside.f 100 p k) (impl_RibbonsInside.f 100 p k))) = true := by decide +kernel
set_option maxHeartbeats 400000000 in
theorem rparts4 : ((allP.drop 40).take 10).all (fun p => ks.all (fun k => rb p k (spec_RibbonsInside.f 100 p k) (impl_RibbonsInside.f 100 p k))) = true := by decide +kernel
set_option maxHeartbeats 400000000 in
theorem rparts5 : ((allP.drop 50).take 10).all (fun p => ks.all (fun k => rb p k (spec_RibbonsInside.f 100 p k) (impl_RibbonsInside.f 100 p k))) = true := by decide +kernel
set_option maxHeartbeats 400000000 in
theorem rparts6 : ((allP.drop 60).take 10).all (fun p => ks.all (fun k => rb p k (spec_RibbonsInside.f 100 p k) (impl_RibbonsInside.f 100 p k))) = true := by decide +kernel
set_option maxHeartbeats 400000000 in
theorem rparts7 : ((allP.drop 70).take 10).all (fun p => ks.all (fun k => rb p k (spec_RibbonsInside.f 100 p k) (impl_RibbonsInside.f 100 p k))) = true := by decide +kernel
set_option maxHeartbeats 400000000 in
theorem rparts8 : ((allP.drop 80).take 10).all (fun p => ks.all (fun k => rb p k (spec_RibbonsInside.f 100 p k) (impl_RibbonsInside.f 100 p k))) = true := by decide +kernel
set_option maxHeartbeats 400000000 in
theorem rparts9 : ((allP.drop 90).take 10).all (fun p => ks.all (fun k => rb p k (spec_RibbonsInside.f 100 p k) (impl_RibbonsInside.f 100 p k))) = true := by decide +kernel
theorem rparts {p : List Int} (h : p ∈ allP) : ks.all (fun k => rb p k (spec_RibbonsInside.f 100 p k) (impl_RibbonsInside.f 100 p k)) = true := by
  have hl : allP.length = 97 := by decide +kernel
  obtain ⟨i, hi, rfl⟩ := List.getElem_of_mem h
  have pick : ∀ q, 10 * q ≤ i → i < 10 * q + 10 → allP[i] ∈ (allP.drop (10 * q)).take 10 := fun q h1 h2 => by
    rw [List.mem_take_iff_getElem]
    refine ⟨i - 10 * q, by simp; omega, ?_⟩
    simp only [List.getElem_drop]
    congr 1
    omega
  by_cases h0 : i < 10
  · exact of_all rparts0 (pick 0 (by omega) (by omega))
  by_cases h1 : i < 20
  · exact of_all rparts1 (pick 1 (by omega) (by omega))
  by_cases h2 : i < 30
  · exact of_all rparts2 (pick 2 (by omega) (by omega))
  by_cases h3 : i < 40
  · exact of_all rparts3 (pick 3 (by omega) (by omega))
  by_cases h4 : i < 50
  · exact of_all rparts4 (pick 4 (by omega) (by omega))
  by_cases h5 : i < 60
  · exact of_all rparts5 (pick 5 (by omega) (by omega))
  by_cases h6 : i < 70
  · exact of_all rparts6 (pick 6 (by omega) (by omega))
  by_cases h7 : i < 80
  · exact of_all rparts7 (pick 7 (by omega) (by omega))
  by_cases h8 : i < 90
  · exact of_all rparts8 (pick 8 (by omega) (by omega))
  by_cases h9 : i < 100
  · exact of_all rparts9 (pick 9 (by omega) (by omega))
  omega
theorem psum {p : List Int} (h : isP p = true) : 0 ≤ p.sum ∧ p.sum ≤ 9 := by
  have a : allP.all (fun p => decide (0 ≤ p.sum ∧ p.sum ≤ 9)) = true := by decide +kernel
  exact of_decide_eq_true (of_all a (mem_allP h))
theorem ptail {p : List Int} (h : isP p = true) : isP p.tail = true := by
  have a : allP.all (fun p => isP p.tail) = true := by decide +kernel
  exact of_all a (mem_allP h)
theorem S54_eq : ∀ {x y : List S46}, x.map (fun s => (s.f0, s.f1)) = y.map (fun s => (s.f0, s.f1)) → x = y
  | [], [], _ => rfl
  | [], _ :: _, h => by simp at h
  | _ :: _, [], h => by simp at h
  | a :: x, b :: y, h => by
    simp only [List.map_cons, List.cons.injEq, Prod.mk.injEq] at h
    have e : a = b := by cases a; cases b; simp_all
    rw [e, S54_eq h.2]
theorem ribbons {p : List Int} {a : Int} (h : isP p = true) (ha : 1 ≤ a ∧ a ≤ 9) : ∃ x : List S46, Ev (fun k => spec_RibbonsInside.f k p a) x ∧ Ev (fun k => impl_RibbonsInside.f k p a) x ∧ x.length ≤ 100 ∧ ∀ s ∈ x, isP s.f1 = true ∧ s.f1.sum = p.sum - a ∧ ∃ r, Ev (fun k => spec_RibbonHeight.f k s.f0 s.f1) r ∧ Ev (fun k => impl_RibbonHeight.f k s.f0 s.f1) r := by
  have hk : a ∈ ks := by
    simp only [ks, List.mem_cons, List.not_mem_nil, or_false]; omega
  have hr := of_all (rparts (mem_allP h)) hk
  unfold rb at hr
  split at hr
  · rename_i x y hx hy
    simp only [Bool.and_eq_true, decide_eq_true_eq, List.all_eq_true] at hr
    obtain rfl := S54_eq hr.1.1
    refine ⟨x, Ev.of (spec_RibbonsInside.mono p a) hx, Ev.of (impl_RibbonsInside.mono p a) hy, hr.1.2, fun s hs => ⟨(hr.2 s hs).1.1, (hr.2 s hs).1.2, ?_⟩⟩
    exact both_ev (spec_RibbonHeight.mono s.f0 s.f1) (impl_RibbonHeight.mono s.f0 s.f1) (hr.2 s hs).2
  · cases hr

-- The characters of both, at partitions of one size.
theorem rdT54_nat (l : List S46) (i : Nat) (h : i < l.length) : rd_T46 l (i : Int) = l[i] := by
  simp [rd_T46, List.getD_eq_getElem?_getD, h]
theorem char_ev : ∀ (q p : List Int), isP p = true → isP q = true → p.sum = q.sum → ∃ r, Ev (fun k => spec_l22Character.f k p q) r ∧ Ev (fun k => impl_CharacterOf.f k p q) r
  | [], p, hp, hq, hs => by
    have hl := isP_length hp
    refine ⟨1, Ev.step (fun k => by simp only [spec_l22Character.f]; rfl) (Ev.ite_true (by simp) (Ev.now _)), Ev.step (fun k => by simp only [impl_CharacterOf.f]; rfl) ?_⟩
    refine Ev.bind (implSize_ev p (by omega)) (Ev.bind (implSize_ev [] (by simp)) ?_)
    have h1 : szB p = p.sum := if_pos hp
    have h2 : szB [] = 0 := rfl
    rw [h1, h2]
    simp only [List.sum_nil] at hs
    refine Ev.ite_true hs (Ev.bind (implSize_ev p (by omega)) ?_)
    rw [h1, hs]
    refine Ev.step (fun k => by simp only [impl_CharacterOf.j0]; rfl) ?_
    exact Ev.ite_false (by simp) (Ev.ite_true (by simp) (Ev.now _))
  | a :: q, p, hp, hq, hs => by
    have hl := isP_length hp
    have hlq := isP_length hq
    have hq' : isP q = true := ptail hq
    have ha : 1 ≤ a ∧ a ≤ 9 := by
      have h := hq
      simp only [isP, isPF] at h
      split at h
      · rename_i hc; omega
      · cases h
    have hsum : (a :: q).sum = a + q.sum := by simp
    obtain ⟨x, hx, hy, hxl, hin⟩ := ribbons hp ha
    have loop : ∀ (d i : Nat) (s : Int), i + d = x.length → ∃ r, Ev (fun k => spec_l22Character.l0 k (a :: q) s x i) r ∧ Ev (fun k => impl_CharacterOf.l0 k (a :: q) s x x.length i) r := by
      intro d
      induction d with
      | zero =>
        intro i s hi
        exact ⟨s, Ev.step (fun k => by simp only [spec_l22Character.l0]; rfl) (Ev.ite_false (by omega) (Ev.now _)), Ev.step (fun k => by simp only [impl_CharacterOf.l0]; rfl) (Ev.ite_false (by omega) (Ev.now _))⟩
      | succ d ih =>
        intro i s hi
        have hlt : i < x.length := by omega
        obtain ⟨hp1, hs1, hh, h1, h2⟩ := hin _ (List.getElem_mem hlt)
        obtain ⟨c, c1, c2⟩ := char_ev q x[i].f1 hp1 hq' (by omega)
        have w1 : wrap64 ((i : Int) + 1) = ((i + 1 : Nat) : Int) := wr1 (by omega)
        by_cases ho : Int.tmod hh 2 = 1
        · obtain ⟨r, r1, r2⟩ := ih (i + 1) (wrap64 (s + wrap64 (-c))) (by omega)
          refine ⟨r, Ev.step (fun k => by simp only [spec_l22Character.l0]; rfl) ?_, Ev.step (fun k => by simp only [impl_CharacterOf.l0]; rfl) ?_⟩
          · rw [rdT54_nat x i hlt, w1, show (a :: q).drop 1 = q from rfl]
            exact Ev.ite_true (by omega) (Ev.ite_true (Int.natCast_nonneg _) (Ev.ite_true (by simp only [List.length_cons]; omega) (Ev.bind c1 (Ev.bind h1 (Ev.ite_true ho r1)))))
          · rw [rdT54_nat x i hlt, w1, show (a :: q).drop 1 = q from rfl]
            exact Ev.ite_true (by omega) (Ev.ite_true (Int.natCast_nonneg _) (Ev.ite_true (by omega) (Ev.ite_true (by simp only [List.length_cons]; omega) (Ev.bind c2 (Ev.bind h2 (Ev.ite_true ho r2))))))
        · obtain ⟨r, r1, r2⟩ := ih (i + 1) (wrap64 (s + c)) (by omega)
          refine ⟨r, Ev.step (fun k => by simp only [spec_l22Character.l0]; rfl) ?_, Ev.step (fun k => by simp only [impl_CharacterOf.l0]; rfl) ?_⟩
          · rw [rdT54_nat x i hlt, w1, show (a :: q).drop 1 = q from rfl]
            exact Ev.ite_true (by omega) (Ev.ite_true (Int.natCast_nonneg _) (Ev.ite_true (by simp only [List.length_cons]; omega) (Ev.bind c1 (Ev.bind h1 (Ev.ite_false ho r1)))))
          · rw [rdT54_nat x i hlt, w1, show (a :: q).drop 1 = q from rfl]
            exact Ev.ite_true (by omega) (Ev.ite_true (Int.natCast_nonneg _) (Ev.ite_true (by omega) (Ev.ite_true (by simp only [List.length_cons]; omega) (Ev.bind c2 (Ev.bind h2 (Ev.ite_false ho r2))))))
    obtain ⟨r, r1, r2⟩ := loop x.length 0 0 (by omega)
    refine ⟨r, Ev.step (fun k => by simp only [spec_l22Character.f]; rfl) ?_, Ev.step (fun k => by simp only [impl_CharacterOf.f]; rfl) ?_⟩
    · exact Ev.ite_false (by simp only [List.length_cons]; omega) (Ev.ite_true (by simp only [List.length_cons]; omega) (Ev.bind hx r1))
    · refine Ev.bind (implSize_ev p (by omega)) (Ev.bind (implSize_ev (a :: q) (by omega)) ?_)
      have h1 : szB p = p.sum := if_pos hp
      have h2 : szB (a :: q) = (a :: q).sum := if_pos hq
      rw [h1, h2]
      refine Ev.ite_true hs (Ev.bind (implSize_ev p (by omega)) ?_)
      rw [h1]
      have hd : decide (p.sum < 0) = false := by have := psum hp; simp; omega
      rw [hd]
      refine Ev.step (fun k => by simp only [impl_CharacterOf.j0]; rfl) ?_
      exact Ev.ite_false (by simp) (Ev.ite_false (by simp only [List.length_cons]; omega) (Ev.ite_true (by simp only [List.length_cons]; omega) (Ev.bind hy r2)))

-- PartitionsOf of both, for n from 0 to 9.
theorem factparts : (List.range 10).all (fun n => match spec_PartitionsOf.f 300 n, impl_PartitionsOf.f 300 n with
  | some x, some y => (decide (x = y) && decide (x.length ≤ 100)) && x.all (fun p => isP p && decide (p.sum = n))
  | _, _ => false) = true := by decide +kernel
theorem partsOf {n : Int} (h : 0 ≤ n ∧ n ≤ 9) : ∃ x : List (List Int), Ev (fun k => spec_PartitionsOf.f k n) x ∧ Ev (fun k => impl_PartitionsOf.f k n) x ∧ x.length ≤ 100 ∧ ∀ p ∈ x, isP p = true ∧ p.sum = n := by
  obtain ⟨m, rfl⟩ : ∃ m : Nat, n = (m : Int) := ⟨n.toNat, by omega⟩
  have a := of_all factparts (x := m) (List.mem_range.2 (by omega))
  split at a
  · rename_i x y hx hy
    simp only [Bool.and_eq_true, decide_eq_true_eq, List.all_eq_true] at a
    obtain ⟨⟨rfl, a2⟩, a3⟩ := a
    exact ⟨x, Ev.of (spec_PartitionsOf.mono _) hx, Ev.of (impl_PartitionsOf.mono _) hy, a2, a3⟩
  · cases a

theorem fine21_ev (l : List Int) (hl : l.length ≤ 1048576) : Ev (fun k => spec_l21Fine.f k l) (isP l && decide (l.sum ≤ 6)) := by
  simp only [spec_l21Fine.f]
  refine Ev.bind (specIsP_ev l hl) ?_
  by_cases h : isP l = true
  · rw [h]; exact Ev.ite_true rfl (Ev.bind (specL2_ev h) (by rw [Bool.true_and]; exact Ev.now _))
  · have h : isP l = false := by simpa using h
    rw [h]; exact Ev.ite_false (by simp) (Ev.now _)

theorem rdL_nat (l : List (List Int)) (i : Nat) (h : i < l.length) : rd_L2 l (i : Int) = l[i] := by
  simp [rd_L2, List.getD_eq_getElem?_getD, h]

/-! The draws: the cursor goes on, and what it yields lies in its bounds. -/
def cur (b : List Int) (i : Int) : Prop := 0 ≤ i ∧ b.length ≤ 1048576
theorem and_bound (x : Int) (m : Nat) (hm : m < 9223372036854775808) : 0 ≤ Go.bits .and .i64 x (m : Int) ∧ Go.bits .and .i64 x (m : Int) ≤ m := by
  have e : Go.bits .and .i64 x (m : Int) = IntKind.i64.wrap ((BitVec.ofInt 64 x &&& BitVec.ofInt 64 (m : Int)).toNat : Int) := rfl
  have h1 : (BitVec.ofInt 64 x &&& BitVec.ofInt 64 (m : Int)).toNat ≤ m := by
    rw [BitVec.toNat_and]
    refine Nat.le_trans Nat.and_le_right ?_
    rw [BitVec.toNat_ofInt]
    omega
  rw [e, IntKind.wrap_i64]
  generalize (BitVec.ofInt 64 x &&& BitVec.ofInt 64 (m : Int)).toNat = z at h1
  omega
theorem byte_ev (b : List Int) (i h : Int) (hc : cur b i) : ∃ x i' h', spec_l1Byte.f b i h = some (x, i', h') ∧ (0 ≤ x ∧ x ≤ 255) ∧ cur b i' := by
  unfold spec_l1Byte.f
  generalize wrap64 ((wrap64 (h * 6364136223846793005)) + 1442695040888963407) = z
  have hb := fun x => and_bound x 255 (by decide)
  by_cases c : i < (b.length : Int)
  · rw [if_pos c, if_pos hc.1]
    refine ⟨_, _, _, rfl, hb _, ?_, hc.2⟩
    have := hc.1; have := hc.2; unfold wrap64; omega
  · rw [if_neg c]
    exact ⟨_, _, _, rfl, hb _, hc⟩
theorem below_ev (b : List Int) (i h n : Int) (hc : cur b i) (hn : n ≤ 256) : ∃ x i' h', spec_l1Below.f b i h n = some (x, i', h') ∧ (0 ≤ x ∧ (0 < n → x < n) ∧ x ≤ 255) ∧ cur b i' := by
  unfold spec_l1Below.f
  by_cases c : n ≤ 0
  · rw [if_pos c]
    exact ⟨0, i, h, rfl, by omega, hc⟩
  · rw [if_neg c, if_pos hn]
    obtain ⟨x, i', h', e, hx, hc'⟩ := byte_ev b i h hc
    rw [e]
    simp only [Option.bind_some]
    rw [if_neg (by omega)]
    have h1 := Int.tmod_lt_of_pos x (show 0 < n by omega)
    have h2 := Int.tmod_nonneg n hx.1
    refine ⟨_, _, _, rfl, ⟨h2, fun _ => h1, ?_⟩, hc'⟩
    omega
theorem once_ev (b : List Int) (i h n : Int) (hc : cur b i) (hn : n ≤ 256) : ∃ x i' h', spec_l1Once.f b i h n = some (x, i', h') ∧ cur b i' := by
  obtain ⟨x, i', h', e, _, hc'⟩ := below_ev b i h n hc hn
  unfold spec_l1Once.f
  rw [e]
  exact ⟨_, _, _, rfl, hc'⟩
theorem pickInt_ev (b : List Int) (i h : Int) (l : List Int) (hc : cur b i) (h0 : 0 < l.length) (hn : l.length ≤ 256) : ∃ x i' h', spec_l1PickInt.f b i h l = some (x, i', h') ∧ x ∈ l ∧ cur b i' := by
  obtain ⟨x, i', h', e, hx, hc'⟩ := below_ev b i h l.length hc (by omega)
  unfold spec_l1PickInt.f
  rw [e]
  simp only [Option.bind_some]
  have hlt : x < (l.length : Int) := hx.2.1 (by omega)
  rw [if_pos hx.1, if_pos hlt]
  refine ⟨_, _, _, rfl, ?_, hc'⟩
  obtain ⟨m, rfl⟩ : ∃ m : Nat, x = (m : Int) := ⟨x.toNat, by omega⟩
  rw [rd_nat l m (by omega)]
  exact List.getElem_mem _
theorem new_l0 (l : List Int) (hl : l.length ≤ 1048576) (d : Nat) : ∀ (i : Nat) (x : Int), i + d = l.length → ∃ h, Ev (fun k => spec_l1New.l0 k l x i) (l, 0, h) := by
  induction d with
  | zero =>
    intro i x hi
    exact ⟨x, Ev.step (fun k => by simp only [spec_l1New.l0]; rfl) (Ev.ite_false (by omega) (Ev.now _))⟩
  | succ d ih =>
    intro i x hi
    obtain ⟨h, e⟩ := ih (i + 1) (Go.bits .and .i64 (wrap64 ((wrap64 ((wrap64 (x * 131)) + (wrap64 (rd l i)))) + 7)) 1073741823) (by omega)
    by_cases c : (i : Int) < 4000
    · refine ⟨h, Ev.step (fun k => by simp only [spec_l1New.l0]; rfl) (Ev.ite_true (by omega) (Ev.ite_true c (Ev.ite_true (Int.natCast_nonneg _) ?_)))⟩
      rw [wr1 (by omega)]
      exact e
    · exact ⟨x, Ev.step (fun k => by simp only [spec_l1New.l0]; rfl) (Ev.ite_true (by omega) (Ev.ite_false c (Ev.now _)))⟩
theorem new_ev (l : List Int) (hl : l.length ≤ 1048576) : ∃ h, Ev (fun k => spec_l1New.f k l) (l, 0, h) := by
  simp only [spec_l1New.f]
  exact new_l0 l hl l.length 0 _ (by omega)
theorem cur0 (l : List Int) (hl : l.length ≤ 1048576) : cur l 0 := ⟨by omega, hl⟩
theorem rdL_mem (l : List (List Int)) (x : Int) (h0 : 0 ≤ x) (h : x < (l.length : Int)) : rd_L2 l x ∈ l := by
  obtain ⟨m, rfl⟩ : ∃ m : Nat, x = (m : Int) := ⟨x.toNat, by omega⟩
  have hm : m < l.length := by omega
  have e : rd_L2 l (m : Int) = l[m] := by simp [rd_L2, List.getD_eq_getElem?_getD, hm]
  rw [e]; exact List.getElem_mem _
theorem allparts : (List.range 10).all (fun m => (List.range 10).all fun n => !decide (n ≤ m) || match spec_l2All.f 300 n m with
  | some x => decide (0 < x.length ∧ x.length ≤ 100) && x.all (fun p => isP p && decide (p.sum = n))
  | none => false) = true := by decide +kernel
theorem all_ev {n m : Int} (h0 : 0 ≤ n) (h : n ≤ m) (h9 : m ≤ 9) : ∃ x : List (List Int), Ev (fun k => spec_l2All.f k n m) x ∧ 0 < x.length ∧ x.length ≤ 100 ∧ ∀ p ∈ x, isP p = true ∧ p.sum = n := by
  obtain ⟨a, rfl⟩ : ∃ a : Nat, n = (a : Int) := ⟨n.toNat, by omega⟩
  obtain ⟨b, rfl⟩ : ∃ b : Nat, m = (b : Int) := ⟨m.toNat, by omega⟩
  have e := of_all (of_all allparts (x := b) (List.mem_range.2 (by omega))) (x := a) (List.mem_range.2 (by omega))
  rw [decide_eq_true (show a ≤ b by omega), Bool.not_true, Bool.false_or] at e
  split at e
  · rename_i x hx
    simp only [Bool.and_eq_true, decide_eq_true_eq, List.all_eq_true] at e
    exact ⟨x, Ev.of (spec_l2All.mono _ _) hx, e.1.1, e.1.2, e.2⟩
  · cases e
theorem draw_ev (b : List Int) (i h m : Int) (hc : cur b i) (h0 : 0 ≤ m) (h9 : m ≤ 9) : ∃ p i' h', Ev (fun k => spec_l2Draw.f k b i h m) (p, i', h') ∧ (isP p = true ∧ p.sum ≤ m) ∧ cur b i' := by
  obtain ⟨n, i1, h1, e1, hn, hc1⟩ := below_ev b i h (m + 1) hc (by omega)
  obtain ⟨x, e2, hx0, hxl, hx⟩ := all_ev (n := n) (m := m) hn.1 (by have := hn.2.1 (by omega); omega) h9
  obtain ⟨j, i2, h2, e3, hj, hc2⟩ := below_ev b i1 h1 x.length hc1 (by omega)
  have hlt : j < (x.length : Int) := hj.2.1 (by omega)
  have hm := hx _ (rdL_mem x j hj.1 hlt)
  refine ⟨rd_L2 x j, i2, h2, ?_, ⟨hm.1, by have := hn.2.1 (by omega); omega⟩, hc2⟩
  simp only [spec_l2Draw.f, wr_in (x := m + 1) (by omega) (by omega), e1, Option.bind_some]
  refine Ev.bind e2 ?_
  simp only [e3, Option.bind_some]
  exact Ev.ite_true hj.1 (Ev.ite_true hlt (Ev.now _))
theorem bent_ev (b : List Int) (i h m : Int) (hc : cur b i) (h0 : 0 ≤ m) (h9 : m ≤ 9) : ∃ (p : List Int) (i' h' : Int), Ev (fun k => spec_l2Bent.f k b i h m) (p, i', h') ∧ p.length ≤ 20 ∧ cur b i' := by
  obtain ⟨p, i1, h1, e1, hp, hc1⟩ := draw_ev b i h m hc h0 h9
  have hl := isP_length hp.1
  obtain ⟨z, i2, h2, e2, _, hc2⟩ := below_ev b i1 h1 14 hc1 (by omega)
  simp only [spec_l2Bent.f, Option.bind_some]
  by_cases c0 : z = 0
  · obtain ⟨y, i3, h3, e3, _, hc3⟩ := pickInt_ev b i2 h2 [0, 5, (-1), 1, 9223372036854775807] hc2 (by simp) (by simp)
    refine ⟨p ++ [y], i3, h3, Ev.bind e1 ?_, by simp; omega, hc3⟩
    simp only [e2, Option.bind_some]
    refine Ev.ite_true c0 ?_
    simp only [e3, Option.bind_some]
    exact Ev.ite_true (by omega) (Ev.now _)
  · by_cases c1 : z = 1
    · refine ⟨p ++ [1, 1, 1, 1, 1, 1], i2, h2, Ev.bind e1 ?_, by simp; omega, hc2⟩
      simp only [e2, Option.bind_some]
      exact Ev.ite_false c0 (Ev.ite_true c1 (Ev.ite_true (by simp; omega) (Ev.now _)))
    · refine ⟨p, i2, h2, Ev.bind e1 ?_, by omega, hc2⟩
      simp only [e2, Option.bind_some]
      exact Ev.ite_false c0 (Ev.ite_false c1 (Ev.now _))

theorem l21Draw_ev (b : List Int) (i h : Int) (hc : cur b i) : ∃ (p : List Int) (i' h' : Int), Ev (fun k => spec_l21Draw.f k b i h) (p, i', h') ∧ p.length ≤ 20 ∧ cur b i' := by
  obtain ⟨z, i1, h1, e1, hc1⟩ := once_ev b i h 12 hc (by omega)
  simp only [spec_l21Draw.f, e1, Option.bind_some]
  cases z with
  | true =>
    obtain ⟨p, i2, h2, e2, hp, hc2⟩ := bent_ev b i1 h1 9 hc1 (by omega) (by omega)
    exact ⟨p, i2, h2, Ev.ite_true rfl (Ev.bind e2 (Ev.now _)), hp, hc2⟩
  | false =>
    obtain ⟨p, i2, h2, e2, hp, hc2⟩ := draw_ev b i1 h1 5 hc1 (by omega) (by omega)
    have := isP_length hp.1
    exact ⟨p, i2, h2, Ev.ite_false (by simp) (Ev.bind e2 (Ev.now _)), by omega, hc2⟩

theorem sameInts_l0 (a b : List Int) (hl : a.length ≤ 1048576) (hab : a.length = b.length) (d : Nat) : ∀ (i k : Nat), i + d = a.length → a.take i = b.take i → d < k → laws_sameInts.l0 k a b i = some (decide (a = b)) := by
  induction d with
  | zero =>
    intro i k hi ht hk
    obtain ⟨k, rfl⟩ : ∃ m, k = m + 1 := ⟨k - 1, by omega⟩
    simp only [laws_sameInts.l0]
    rw [if_neg (by omega)]
    obtain rfl : i = a.length := by omega
    rw [List.take_of_length_le (by omega), List.take_of_length_le (by omega)] at ht
    rw [decide_eq_true ht]
  | succ d ih =>
    intro i k hi ht hk
    obtain ⟨k, rfl⟩ : ∃ m, k = m + 1 := ⟨k - 1, by omega⟩
    have hlt : i < a.length := by omega
    have hlt' : i < b.length := by omega
    simp only [laws_sameInts.l0]
    rw [if_pos (by omega), if_pos (by omega), if_pos (by omega), wr1 (by omega), rd_nat a i hlt, rd_nat b i hlt']
    by_cases h : a[i] = b[i]
    · rw [if_pos h]
      refine ih (i + 1) k (by omega) ?_ (by omega)
      rw [List.take_succ_eq_append_getElem hlt, List.take_succ_eq_append_getElem hlt', ht, h]
    · rw [if_neg h, decide_eq_false]
      intro e
      subst e
      exact h rfl
theorem sameInts_ev (a b : List Int) (hl : a.length ≤ 1048576) : Ev (fun k => laws_sameInts.f k a b) (decide (a = b)) := by
  refine ⟨a.length + 1, fun k hk => ?_⟩
  show laws_sameInts.f k a b = _
  unfold laws_sameInts.f
  by_cases h : (a.length : Int) = (b.length : Int)
  · rw [if_pos h]
    exact sameInts_l0 a b hl (by omega) a.length 0 k (by omega) (by simp) (by omega)
  · rw [if_neg h, decide_eq_false]
    intro e
    subst e
    exact h rfl
theorem sameInts_self (a : List Int) (hl : a.length ≤ 1048576) : Ev (fun k => laws_sameInts.f k a a) true := by
  have h := sameInts_ev a a hl
  rwa [decide_eq_true rfl] at h

theorem sameInts_at (a b : List Int) (hl : a.length ≤ 1048576) (k : Nat) (hk : a.length + 1 ≤ k) : laws_sameInts.f k a b = some (decide (a = b)) := by
  unfold laws_sameInts.f
  by_cases h : (a.length : Int) = (b.length : Int)
  · rw [if_pos h]
    exact sameInts_l0 a b hl (by omega) a.length 0 k (by omega) (by simp) (by omega)
  · rw [if_neg h, decide_eq_false]
    intro e
    subst e
    exact h rfl

def smallL (l : List (List Int)) : Prop := l.length ≤ 1048576 ∧ ∀ x ∈ l, x.length ≤ 1048576
theorem sameLists_l0 (l : List (List Int)) (hs : smallL l) (d : Nat) : ∀ (i k : Nat), i + d = l.length → d + 1048578 < k → laws_sameLists.l0 k l l i = some true := by
  obtain ⟨hl, he⟩ := hs
  induction d with
  | zero =>
    intro i k hi hk
    obtain ⟨k, rfl⟩ : ∃ m, k = m + 1 := ⟨k - 1, by omega⟩
    simp only [laws_sameLists.l0]
    rw [if_neg (by omega)]
  | succ d ih =>
    intro i k hi hk
    obtain ⟨k, rfl⟩ : ∃ m, k = m + 1 := ⟨k - 1, by omega⟩
    have hlt : i < l.length := by omega
    have hx := he _ (List.getElem_mem hlt)
    simp only [laws_sameLists.l0]
    rw [if_pos (by omega), if_pos (by omega), rdL_nat l i hlt, if_pos (by omega), sameInts_at _ _ hx k (by omega)]
    simp only [Option.bind_some, decide_true, if_true]
    rw [wr1 (by omega)]
    exact ih (i + 1) k (by omega) (by omega)
theorem sameLists_self (l : List (List Int)) (hs : smallL l) : Ev (fun k => laws_sameLists.f k l l) true := by
  refine ⟨l.length + 1048579, fun k hk => ?_⟩
  show laws_sameLists.f k l l = some true
  unfold laws_sameLists.f
  rw [if_pos rfl]
  exact sameLists_l0 l hs l.length 0 k (by omega) (by omega)

theorem same_Char (p q : List Int) (hlp : p.length ≤ 1048576) (hlq : q.length ≤ 1048576) : ∃ r, Ev (fun k => spec_CharacterOf.f k p q) r ∧ Ev (fun k => impl_CharacterOf.f k p q) r := by
  have sp := specSize_ev p hlp
  have sq := specSize_ev q hlq
  have ip := implSize_ev p hlp
  have iq := implSize_ev q hlq
  have no : (szB p = szB q → szB p < 0) → Ev (fun k => impl_CharacterOf.f k p q) 0 := by
    intro h
    refine Ev.step (fun k => by simp only [impl_CharacterOf.f]; rfl) (Ev.bind ip (Ev.bind iq ?_))
    by_cases e : szB p = szB q
    · refine Ev.ite_true e (Ev.bind ip ?_)
      rw [decide_eq_true (h e)]
      refine Ev.step (fun k => by simp only [impl_CharacterOf.j0]; rfl) ?_
      exact Ev.ite_true (by trivial) (Ev.now _)
    · refine Ev.ite_false e ?_
      refine Ev.step (fun k => by simp only [impl_CharacterOf.j0]; rfl) ?_
      exact Ev.ite_true (by trivial) (Ev.now _)
  by_cases h0 : szB p < 0
  · refine ⟨0, ?_, no fun _ => h0⟩
    simp only [spec_CharacterOf.f]
    exact Ev.bind sp (Ev.ite_true h0 (Ev.now _))
  · have hp : isP p = true := by
      by_cases h : isP p = true
      · exact h
      · exact absurd (show szB p < 0 by rw [szB, if_neg h]; omega) h0
    by_cases e : szB p = szB q
    · have hq : isP q = true := by
        by_cases h : isP q = true
        · exact h
        · exact absurd (show szB p < 0 by rw [e, szB, if_neg h]; omega) h0
      have e' : p.sum = q.sum := by rwa [szB, szB, if_pos hp, if_pos hq] at e
      obtain ⟨r, r1, r2⟩ := char_ev q p hp hq e'
      refine ⟨r, ?_, r2⟩
      simp only [spec_CharacterOf.f]
      exact Ev.bind sp (Ev.ite_false h0 (Ev.bind sp (Ev.bind sq (Ev.ite_true e (Ev.bind r1 (Ev.now _))))))
    · refine ⟨0, ?_, no fun h => absurd h e⟩
      simp only [spec_CharacterOf.f]
      exact Ev.bind sp (Ev.ite_false h0 (Ev.bind sp (Ev.bind sq (Ev.ite_false e (Ev.now _)))))
theorem vector_loop_Power (q : List Int) (hq : isP q = true) (x : List (List Int)) (hx : ∀ p ∈ x, isP p = true ∧ p.sum = q.sum) (hxl : x.length ≤ 100) (d : Nat) : ∀ (i : Nat) (s : List Int), i + d = x.length → s.length = i →
    ∃ r : List Int, r.length ≤ 100 ∧ Ev (fun k => spec_SchurOfPower.l0 k q s x i) r ∧ Ev (fun k => impl_vectorOf__impl_SchurOfPower_1.l0 k s x x.length i q) r := by
  induction d with
  | zero =>
    intro i s hi hs
    exact ⟨s, by omega, Ev.step (fun k => by simp only [spec_SchurOfPower.l0]; rfl) (Ev.ite_false (by omega) (Ev.now _)), Ev.step (fun k => by simp only [impl_vectorOf__impl_SchurOfPower_1.l0]; rfl) (Ev.ite_false (by omega) (Ev.now _))⟩
  | succ d ih =>
    intro i s hi hs
    have hlt : i < x.length := by omega
    obtain ⟨hp, hps⟩ := hx _ (List.getElem_mem hlt)
    obtain ⟨c, c1, c2⟩ := char_ev q x[i] hp hq hps
    obtain ⟨r, hr, r1, r2⟩ := ih (i + 1) (s ++ [c]) (by omega) (by simp [hs])
    have w1 : wrap64 ((i : Int) + 1) = ((i + 1 : Nat) : Int) := wr1 (by omega)
    refine ⟨r, hr, Ev.step (fun k => by simp only [spec_SchurOfPower.l0]; rfl) ?_, Ev.step (fun k => by simp only [impl_vectorOf__impl_SchurOfPower_1.l0]; rfl) ?_⟩
    · rw [w1, rdL_nat x i hlt]
      exact Ev.ite_true (by omega) (Ev.ite_true (Int.natCast_nonneg _) (Ev.bind c1 (Ev.ite_true (by omega) r1)))
    · rw [w1, rdL_nat x i hlt]
      simp only [impl_SchurOfPower_1__c.f]
      exact Ev.ite_true (by omega) (Ev.ite_true (Int.natCast_nonneg _) (Ev.ite_true (by omega) (Ev.bind (Ev.bind c2 (Ev.now _)) (Ev.ite_true (by omega) r2))))
theorem same_Power (q : List Int) (hl : q.length ≤ 1048576) : ∃ r : List Int, r.length ≤ 1048576 ∧ Ev (fun k => spec_SchurOfPower.f k q) r ∧ Ev (fun k => impl_SchurOfPower.f k q) r := by
  by_cases h : isP q = true ∧ q.sum ≤ 6
  · have hs0 := psum h.1
    obtain ⟨x, x1, x2, hxl, hx⟩ := partsOf (n := q.sum) (by omega)
    obtain ⟨r, hr, r1, r2⟩ := vector_loop_Power q h.1 x hx hxl x.length 0 [] (by omega) rfl
    have hz : szB q = q.sum := if_pos h.1
    refine ⟨r, by omega, ?_, ?_⟩
    · simp only [spec_SchurOfPower.f, Option.bind_some]
      exact Ev.bind (fine21_ev q hl) (Ev.ite_true (by simp [h]) (Ev.bind (specL2_ev h.1) (Ev.bind x1 r1)))
    · simp only [impl_SchurOfPower.f, impl_vectorOf__impl_SchurOfPower_1.f, within_f, Option.bind_some]
      refine Ev.bind (Ev.bind (implSize_ev q hl) ?_) (Ev.now _)
      rw [hz]
      refine Ev.ite_true (by simp; omega) (Ev.bind (implSize_ev q hl) ?_)
      rw [hz]
      exact Ev.bind x2 r2
  · refine ⟨[], by simp, ?_, ?_⟩
    · simp only [spec_SchurOfPower.f, Option.bind_some]
      exact Ev.bind (fine21_ev q hl) (Ev.ite_false (by simpa using h) (Ev.now _))
    · simp only [impl_SchurOfPower.f, impl_vectorOf__impl_SchurOfPower_1.f, within_f, Option.bind_some]
      refine Ev.bind (Ev.bind (implSize_ev q hl) ?_) (Ev.now _)
      refine Ev.ite_false ?_ (Ev.now _)
      intro e
      simp only [decide_eq_true_eq] at e
      unfold szB at e
      split at e
      · rename_i hp; exact h ⟨hp, e.2⟩
      · omega
theorem row_loop_Table (x : List (List Int)) (n : Int) (hx : ∀ p ∈ x, isP p = true ∧ p.sum = n) (hxl : x.length ≤ 100) (i : Nat) (hi : i < x.length) (d : Nat) : ∀ (j : Nat) (s : List Int), j + d = x.length → s.length = j →
    ∃ r : List Int, r.length ≤ 100 ∧ (∀ (y R : List (List Int)), y.length < 1000 → Ev (fun k => spec_CharacterTable.l0 k (y ++ [r]) x ((i + 1 : Nat) : Int)) R → Ev (fun k => spec_CharacterTable.l1 k y x i s j) R) ∧ Ev (fun k => impl_vectorOf__impl_CharacterTable_1.l0 k s x x.length j x[i]) r := by
  have hi5 : i < 4611686018427387904 := by omega
  have hi' : (i : Int) < (x.length : Int) := by omega
  induction d with
  | zero =>
    intro j s hj hs
    have c1 : ¬ (j : Int) < (x.length : Int) := by omega
    refine ⟨s, by omega, fun y R hy h => Ev.step (fun k => by simp only [spec_CharacterTable.l1]; rfl) (Ev.ite_false c1 (Ev.ite_true (Nat.lt_trans hy (by decide)) ?_)), Ev.step (fun k => by simp only [impl_vectorOf__impl_CharacterTable_1.l0]; rfl) (Ev.ite_false c1 (Ev.now _))⟩
    rw [wr1 hi5]; exact h
  | succ d ih =>
    intro j s hj hs
    have hlt : j < x.length := by omega
    have hlt' : (j : Int) < (x.length : Int) := by omega
    have hsl : s.length < 17592186044416 := by omega
    obtain ⟨hp, hps⟩ := hx _ (List.getElem_mem hi)
    obtain ⟨hq, hqs⟩ := hx _ (List.getElem_mem hlt)
    obtain ⟨c, c1, c2⟩ := char_ev x[j] x[i] hp hq (by rw [hps, hqs])
    obtain ⟨r, hr, r1, r2⟩ := ih (j + 1) (s ++ [c]) (by omega) (by simp [hs])
    have hj5 : j < 4611686018427387904 := by omega
    refine ⟨r, hr, fun y R hy h => Ev.step (fun k => by simp only [spec_CharacterTable.l1]; rfl) ?_, Ev.step (fun k => by simp only [impl_vectorOf__impl_CharacterTable_1.l0]; rfl) ?_⟩
    · rw [wr1 hj5, rdL_nat x j hlt, rdL_nat x i hi]
      exact Ev.ite_true hlt' (Ev.ite_true (Int.natCast_nonneg _) (Ev.ite_true hi' (Ev.ite_true (Int.natCast_nonneg _) (Ev.bind c1 (Ev.ite_true hsl (r1 y R hy h))))))
    · rw [wr1 hj5, rdL_nat x j hlt]
      simp only [impl_CharacterTable_1__c.f]
      exact Ev.ite_true hlt' (Ev.ite_true (Int.natCast_nonneg _) (Ev.ite_true hlt' (Ev.bind (Ev.bind c2 (Ev.now _)) (Ev.ite_true hsl r2))))
theorem table_loop_Table (x : List (List Int)) (n : Int) (hn : 0 ≤ n ∧ n ≤ 6) (hx : ∀ p ∈ x, isP p = true ∧ p.sum = n) (hxl : x.length ≤ 100) (hp : Ev (fun k => impl_PartitionsOf.f k n) x) (d : Nat) : ∀ (i : Nat) (y : List (List Int)), i + d = x.length → y.length = i → (∀ z ∈ y, z.length ≤ 100) →
    ∃ r : List (List Int), (r.length ≤ 100 ∧ ∀ z ∈ r, z.length ≤ 100) ∧ Ev (fun k => spec_CharacterTable.l0 k y x i) r ∧ Ev (fun k => impl_CharacterTable.l0 k y x x.length i) r := by
  induction d with
  | zero =>
    intro i y hi hy hz
    have c1 : ¬ (i : Int) < (x.length : Int) := by omega
    exact ⟨y, ⟨by omega, hz⟩, Ev.step (fun k => by simp only [spec_CharacterTable.l0]; rfl) (Ev.ite_false c1 (Ev.now _)), Ev.step (fun k => by simp only [impl_CharacterTable.l0]; rfl) (Ev.ite_false c1 (Ev.now _))⟩
  | succ d ih =>
    intro i y hi hy hz
    have hlt : i < x.length := by omega
    have hlt' : (i : Int) < (x.length : Int) := by omega
    have hyl : y.length < 5864062014805 := by omega
    obtain ⟨hP, hs⟩ := hx _ (List.getElem_mem hlt)
    have hl := isP_length hP
    have hzB : szB x[i] = n := by unfold szB; rw [if_pos hP]; exact hs
    obtain ⟨r, hr, r1, r2⟩ := row_loop_Table x n hx hxl i hlt x.length 0 [] (by omega) rfl
    obtain ⟨R, hR, R1, R2⟩ := ih (i + 1) (y ++ [r]) (by omega) (by simp [hy]) (by
      intro z h
      rcases List.mem_append.1 h with h | h
      · exact hz z h
      · rw [List.mem_singleton.1 h]; exact hr)
    have hi5 : i < 4611686018427387904 := by omega
    have hy5 : y.length < 1000 := by omega
    refine ⟨R, hR, Ev.step (fun k => by simp only [spec_CharacterTable.l0]; rfl) (Ev.ite_true hlt' (r1 y R hy5 R1)), Ev.step (fun k => by simp only [impl_CharacterTable.l0]; rfl) ?_⟩
    rw [wr1 hi5, rdL_nat x i hlt]
    refine Ev.ite_true hlt' (Ev.ite_true (Int.natCast_nonneg _) (Ev.ite_true hlt' (Ev.bind (a := r) ?_ (Ev.ite_true hyl R2))))
    simp only [impl_vectorOf__impl_CharacterTable_1.f, within_f, Option.bind_some]
    refine Ev.bind (implSize_ev x[i] (by omega)) ?_
    rw [hzB]
    refine Ev.ite_true (by simp; omega) (Ev.bind (implSize_ev x[i] (by omega)) ?_)
    rw [hzB]
    exact Ev.bind hp r2
theorem same_Table (n : Int) : ∃ r : List (List Int), (r.length ≤ 100 ∧ ∀ z ∈ r, z.length ≤ 100) ∧ Ev (fun k => spec_CharacterTable.f k n) r ∧ Ev (fun k => impl_CharacterTable.f k n) r := by
  simp only [spec_CharacterTable.f, impl_CharacterTable.f, within_f, l1In_f, Option.bind_some]
  by_cases hn : 0 ≤ n ∧ n ≤ 6
  · obtain ⟨x, x1, x2, hxl, hx⟩ := partsOf (n := n) (by omega)
    obtain ⟨r, hr, r1, r2⟩ := table_loop_Table x n hn hx hxl x2 x.length 0 [] (by omega) rfl (by simp)
    exact ⟨r, hr, Ev.ite_true (by simpa using hn) (Ev.bind x1 r1), Ev.ite_true (by simpa using hn) (Ev.bind x2 r2)⟩
  · exact ⟨[], by simp, Ev.ite_false (by simpa using hn) (Ev.now _), Ev.ite_false (by simpa using hn) (Ev.now _)⟩
theorem parts_Sign : allP.all (fun p => both (spec_SignOf.f 100 p) (impl_SignOf.f 100 p)) = true := by decide +kernel
theorem same_Sign (l : List Int) (hl : l.length ≤ 1048576) : ∃ r, Ev (fun k => spec_SignOf.f k l) r ∧ Ev (fun k => impl_SignOf.f k l) r := by
  by_cases h : isP l = true
  · exact both_ev (spec_SignOf.mono l) (impl_SignOf.mono l) (of_all parts_Sign (mem_allP h))
  · refine ⟨0, ?_, ?_⟩
    · simp only [spec_SignOf.f]
      exact Ev.bind (specIsP_ev l hl) (Ev.ite_false h (Ev.now _))
    · simp only [impl_SignOf.f]
      exact Ev.bind (implIsP_ev l hl) (Ev.ite_false h (Ev.now _))
-- what is left, run through
def turnB (p q : List Int) : Bool := match spec_Conjugate.f 100 p, impl_CharacterOf.f 300 p q, impl_SignOf.f 100 q with
  | some c, some x, some s => decide (impl_CharacterOf.f 300 c q = some (wrap64 (x * s)))
  | _, _, _ => false
def low6 : List (List Int) := allP.filter fun p => decide (p.sum ≤ 6)
theorem turn0 : (low6.take 15).all (fun p => allP.all fun q => turnB p q) = true := by decide +kernel
theorem turn1 : ((low6.drop 15).take 5).all (fun p => allP.all fun q => turnB p q) = true := by decide +kernel
theorem turn2 : ((low6.drop 20).take 5).all (fun p => allP.all fun q => turnB p q) = true := by decide +kernel
theorem turn3 : (low6.drop 25).all (fun p => allP.all fun q => turnB p q) = true := by decide +kernel
theorem onesB : low6.all (fun p => both (impl_CharacterOf.f 300 p (List.replicate p.sum.toNat 1)) (spec_StandardCount.f 300 p)) = true := by decide +kernel
def tabB (n : Int) : Bool := match impl_CharacterTable.f 300 n, spec_PartitionsOf.f 300 n with
  | some t, some x => decide (laws_FnCharacters.l1 400 n t x 0 = some true)
  | _, _ => false
theorem tab0 : [0, 1, 2, 3, -1, 7].all tabB = true := by decide +kernel
theorem tab1 : tabB 4 = true := by decide +kernel
theorem mem_low6 {p : List Int} (h : isP p = true) (h6 : p.sum ≤ 6) : p ∈ low6 := List.mem_filter.2 ⟨mem_allP h, by simpa using h6⟩
theorem turn_of {p q : List Int} (h : isP p = true) (h6 : p.sum ≤ 6) (hq : isP q = true) : turnB p q = true := by
  have hm := mem_low6 h h6
  have e : low6 = low6.take 15 ++ ((low6.drop 15).take 5 ++ ((low6.drop 20).take 5 ++ low6.drop 25)) := by decide +kernel
  rw [e] at hm
  simp only [List.mem_append] at hm
  rcases hm with hm | hm | hm | hm
  · exact of_all (of_all turn0 hm) (mem_allP hq)
  · exact of_all (of_all turn1 hm) (mem_allP hq)
  · exact of_all (of_all turn2 hm) (mem_allP hq)
  · exact of_all (of_all turn3 hm) (mem_allP hq)
theorem ev_one {α : Type} {f : Nat → Option α} {x y : α} (hx : Ev f x) (hy : Ev f y) : x = y := by
  obtain ⟨K, h1⟩ := hx
  obtain ⟨M, h2⟩ := hy
  have a := h1 (max K M) (Nat.le_max_left _ _)
  have b := h2 (max K M) (Nat.le_max_right _ _)
  rw [a] at b
  exact Option.some.inj b
theorem drawChar (l : List Int) (hl : l.length ≤ 1048576) : ∃ p q : List Int, Ev (fun k => spec_DrawCharacterOf.f k l) (p, q) ∧ isP p = true ∧ p.sum ≤ 6 ∧ q.length ≤ 20 := by
  obtain ⟨h0, e0⟩ := new_ev l hl
  obtain ⟨p, i1, h1, e1, hp, hc1⟩ := draw_ev l 0 h0 6 (cur0 l hl) (by omega) (by omega)
  have hs := psum hp.1
  obtain ⟨x, x1, _, hxl, hx⟩ := partsOf (n := p.sum) (by omega)
  have hx0 : 0 < x.length := by
    obtain ⟨n, hn⟩ : ∃ n : Nat, p.sum = (n : Int) := ⟨p.sum.toNat, by omega⟩
    obtain ⟨y, y1, y2, _⟩ := all_ev (n := p.sum) (m := p.sum) (by omega) (by omega) (by omega)
    have : x = y := by
      refine ev_one (f := fun k => spec_PartitionsOf.f k p.sum) x1 ?_
      simp only [spec_PartitionsOf.f, l1In_f, Option.bind_some]
      exact Ev.ite_true (by simp; omega) (Ev.bind y1 (Ev.now _))
    rw [this]; exact y2
  obtain ⟨z, i2, h2, e2, hc2⟩ := once_ev l i1 h1 8 hc1 (by omega)
  simp only [spec_DrawCharacterOf.f]
  cases z with
  | true =>
    obtain ⟨q, i3, h3, e3, hq, _⟩ := bent_ev l i2 h2 6 hc2 (by omega) (by omega)
    refine ⟨p, q, Ev.bind e0 (Ev.bind e1 (Ev.bind (specL2_ev hp.1) (Ev.bind x1 ?_))), hp.1, hp.2, hq⟩
    simp only [e2, Option.bind_some]
    exact Ev.ite_true (by trivial) (Ev.bind e3 (Ev.now _))
  | false =>
    obtain ⟨j, i3, h3, e3, hj, _⟩ := below_ev l i2 h2 x.length hc2 (by omega)
    have hlt : j < (x.length : Int) := hj.2.1 (by omega)
    have hm := hx _ (rdL_mem x j hj.1 hlt)
    refine ⟨p, rd_L2 x j, Ev.bind e0 (Ev.bind e1 (Ev.bind (specL2_ev hp.1) (Ev.bind x1 ?_))), hp.1, hp.2, by have := isP_length hm.1; omega⟩
    simp only [e2, e3, Option.bind_some]
    exact Ev.ite_false (by simp) (Ev.ite_true hj.1 (Ev.ite_true hlt (Ev.now _)))
theorem drawPower (l : List Int) (hl : l.length ≤ 1048576) : ∃ q : List Int, Ev (fun k => spec_DrawSchurOfPower.f k l) q ∧ q.length ≤ 20 := by
  obtain ⟨h0, e0⟩ := new_ev l hl
  obtain ⟨q, i1, h1, e1, hq, _⟩ := l21Draw_ev l 0 h0 (cur0 l hl)
  simp only [spec_DrawSchurOfPower.f]
  exact ⟨q, Ev.bind e0 (Ev.bind e1 (Ev.now _)), hq⟩
theorem drawTable (l : List Int) (hl : l.length ≤ 1048576) : ∃ n : Int, Ev (fun k => spec_DrawCharacterTable.f k l) n ∧ n ∈ [0, 1, 2, 3, 4, 3, 4, (-1), 7] := by
  obtain ⟨h0, e0⟩ := new_ev l hl
  obtain ⟨n, i1, h1, e1, hn, _⟩ := pickInt_ev l 0 h0 [0, 1, 2, 3, 4, 3, 4, (-1), 7] (cur0 l hl) (by simp) (by simp)
  refine ⟨n, ?_, hn⟩
  simp only [spec_DrawCharacterTable.f]
  refine Ev.bind e0 ?_
  simp only [e1, Option.bind_some]
  exact Ev.now _
theorem drawSign (l : List Int) (hl : l.length ≤ 1048576) : ∃ q : List Int, Ev (fun k => spec_DrawSignOf.f k l) q ∧ q.length ≤ 20 := by
  obtain ⟨h0, e0⟩ := new_ev l hl
  obtain ⟨q, i1, h1, e1, hq, _⟩ := bent_ev l 0 h0 9 (cur0 l hl) (by omega) (by omega)
  simp only [spec_DrawSignOf.f]
  exact ⟨q, Ev.bind e0 (Ev.bind e1 (Ev.now _)), hq⟩
theorem ones_loop (p : List Int) (hp : isP p = true) (n : Int) (t : List (List Int)) (hend : Ev (fun k => laws_FnCharacters.l0 k p n t (List.replicate p.sum.toNat 1) p.sum) true) (d : Nat) : ∀ i : Nat, (i : Int) + d = p.sum → Ev (fun k => laws_FnCharacters.l0 k p n t (List.replicate i 1) i) true := by
  have hs := psum hp
  induction d with
  | zero =>
    intro i hi
    have e : (i : Int) = p.sum := by omega
    have e2 : i = p.sum.toNat := by omega
    rw [e2]
    rw [show ((p.sum.toNat : Nat) : Int) = p.sum by omega]
    exact hend
  | succ d ih =>
    intro i hi
    have hsz : szB p = p.sum := if_pos hp
    refine Ev.step (fun k => by simp only [laws_FnCharacters.l0]; rfl) (Ev.bind (specSize_ev p (by have := isP_length hp; omega)) ?_)
    rw [hsz, wr1 (by omega)]
    refine Ev.ite_true (by omega) (Ev.ite_true (by simp; omega) ?_)
    rw [show List.replicate i (1 : Int) ++ [1] = List.replicate (i + 1) 1 from List.replicate_succ'.symm]
    exact ih (i + 1) (by omega)
theorem FnCharacters : laws_FnCharacters.Pure := by
  intro l h1 h2 h3
  apply Ev.rounds
  simp only [laws_FnCharacters.f, laws_big.f, Option.bind_some]
  by_cases hl : l.length ≤ 1048576
  · refine Ev.ite_false (by simp; omega) ?_
    obtain ⟨p, q, d1, hp, hp6, hq⟩ := drawChar l hl
    obtain ⟨s, d2, hs⟩ := drawPower l hl
    obtain ⟨n, d3, hn⟩ := drawTable l hl
    obtain ⟨g, d4, hg⟩ := drawSign l hl
    have hlp := isP_length hp
    obtain ⟨c, c1, c2⟩ := same_Char p q (by omega) (by omega)
    obtain ⟨v, hv, v1, v2⟩ := same_Power s (by omega)
    obtain ⟨t, ⟨ht, ht2⟩, t1, t2⟩ := same_Table n
    obtain ⟨y, y1, y2⟩ := same_Sign g (by omega)
    have sl : smallL t := ⟨by omega, fun x hx => Nat.le_trans (ht2 x hx) (by decide)⟩
    have s1 := sameInts_self v hv
    have s2 := sameLists_self t sl
    have hend0 : Ev (fun k => laws_FnCharacters.l0 k p n t (List.replicate p.sum.toNat 1) p.sum) true := by
      have hb := of_all onesB (mem_low6 hp hp6)
      obtain ⟨r, r1, r2⟩ := both_ev (impl_CharacterOf.mono _ _) (spec_StandardCount.mono _) hb
      have hsz : szB p = p.sum := if_pos hp
      refine Ev.step (fun k => by simp only [laws_FnCharacters.l0]; rfl) (Ev.bind (specSize_ev p (by omega)) ?_)
      rw [hsz]
      refine Ev.ite_false (by omega) (Ev.bind r1 (Ev.bind r2 (Ev.ite_true rfl ?_)))
      have tb : tabB n = true := by
        simp only [List.mem_cons, List.not_mem_nil, or_false] at hn
        have t0 : ∀ m ∈ ([0, 1, 2, 3, -1, 7] : List Int), tabB m = true := fun m hm => of_all tab0 hm
        rcases hn with rfl | rfl | rfl | rfl | rfl | rfl | rfl | rfl | rfl
        · exact t0 _ (by simp)
        · exact t0 _ (by simp)
        · exact t0 _ (by simp)
        · exact t0 _ (by simp)
        · exact tab1
        · exact t0 _ (by simp)
        · exact tab1
        · exact t0 _ (by simp)
        · exact t0 _ (by simp)
      unfold tabB at tb
      split at tb
      · rename_i t' x ht' hx'
        have e1 := of_decide_eq_true tb
        obtain rfl : t = t' := ev_one t2 (Ev.of (impl_CharacterTable.mono _) ht')
        exact Ev.bind (Ev.of (spec_PartitionsOf.mono _) hx') (Ev.of (fun k => (laws_FnCharacters.mono_l k).2.2.2.1 n t x 0) e1)
      · cases tb
    have hend := ones_loop p hp n t hend0 p.sum.toNat 0 (by have := psum hp; omega)
    refine Ev.bind d1 (Ev.bind c2 (Ev.bind d2 (Ev.bind v2 (Ev.bind d3 (Ev.bind t2 (Ev.bind d4 (Ev.bind c1 (Ev.ite_true rfl (Ev.bind v1 (Ev.bind s1 (Ev.ite_true rfl (Ev.bind t1 (Ev.bind s2 (Ev.ite_true rfl (Ev.bind y2 (Ev.bind y1 ?_))))))))))))))))
    have e0 : (y != y) = false := by simp
    rw [e0]
    refine Ev.step (fun k => by simp only [laws_FnCharacters.j0]; rfl) (Ev.ite_false (by simp) ?_)
    refine Ev.bind (specIsP_ev p (by omega)) (Ev.ite_true hp (Ev.bind (specIsP_ev q (by omega)) ?_))
    have last : Ev (fun k => laws_FnCharacters.j1 k p n t false) true := Ev.step (fun k => by simp only [laws_FnCharacters.j1]; rfl) (Ev.ite_false (by simp) hend)
    by_cases hQ : isP q = true
    · have tn := turn_of hp hp6 hQ
      unfold turnB at tn
      split at tn
      · rename_i cj x sg a1 a2 a3
        have e1 := of_decide_eq_true tn
        obtain rfl : c = x := ev_one c2 (Ev.of (impl_CharacterOf.mono _ _) a2)
        refine Ev.ite_true hQ (Ev.bind (Ev.of (spec_Conjugate.mono _) a1) (Ev.bind (Ev.of (impl_CharacterOf.mono _ _) e1) (Ev.bind (Ev.of (impl_SignOf.mono _) a3) ?_)))
        rw [show ((wrap64 (c * sg)) != (wrap64 (c * sg))) = false by simp]
        exact last
      · cases tn
    · exact Ev.ite_false hQ last
  · exact Ev.ite_true (by simp; omega) (Ev.now _)

end Go.Proofs.Ytopmggldaicpaab.Pure
