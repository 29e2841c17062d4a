/- Class sizes, centralizers, cycle types, multiplicities and pairings of the program are those of the reference; classes have all permutations together, and the multiplicities are symmetric and never negative, for all that can be drawn. No condition. -/
import Derived.Test.YtopmggldaicpaacGreatPFnKroneckerx34
import Derived.Test.YtopmggldaicpaacGreatVFnKronecker
set_option linter.unusedVariables false
set_option linter.unusedSimpArgs false
namespace Go.Proofs.YtopmggldaicpaacGreat
open Go.ChangeShapes Go.WideShapes
theorem PrintWords.sized_ints {H : Type} {enc : TypeId × Value → H} {P : Program} {W : World} {base : Nat} {spare : Nat → Bool} {held : Bool} {t e : TypeId} {k : IntKind} {a : Option Addr} {len cap : Nat} {d : DataW H} {ps : List MemPlace} {ts : List TypeId} {ds : List (DataW H)} {j : Nat}
    (hsz : (DataW.weightsEach P ts ds).all (· ≤ reachBytes) = true) (ht : ts[j]? = some t) (hd : ds[j]? = some d) (hu : P.underlying t = some (.slice e)) (he : P.underlying e = some (.int k)) (hc : P.cellsOf e = 1) {B : Nat} (hB : P.bytesOf e = B)
    (h : DataW.Trod enc P W base spare held t (.slice a len cap) d ps) : len * B ≤ 140737488351232 :=
  Go.Proofs.YtopmggldaicpaacGreatW.PrintWords.sized_ints hsz ht hd hu he hc hB h
end Go.Proofs.YtopmggldaicpaacGreat
namespace Go.Proofs.YtopmggldaicpaacGreat.Pure
open Go.RowKit Go.Proofs.YtopmggldaicpaacGreat.PFnKronecker Go.Proofs.YtopmggldaicpaacGreatW.PrintWords Go.Proofs.YtopmggldaicpaacGreatW.PrintLast

theorem wr_in {x : Int} (h : -9223372036854775808 ≤ x) (h' : x ≤ 9223372036854775807) : wrap64 x = x := by unfold wrap64; omega
theorem wr1 {i : Nat} (h : i < 4611686018427387904) : wrap64 ((i : Int) + 1) = ((i + 1 : Nat) : Int) := by unfold wrap64; omega
theorem Ev.ite_true {α : Type} {c : Prop} [Decidable c] {g f : Nat → Option α} {r : α} (hc : c) (h : Ev g r) : Ev (fun k => if c then g k else f k) r := by
  obtain ⟨K, h⟩ := h
  exact ⟨K, fun k hk => (if_pos hc).trans (h k hk)⟩
theorem Ev.ite_false {α : Type} {c : Prop} [Decidable c] {g f : Nat → Option α} {r : α} (hc : ¬ c) (h : Ev f r) : Ev (fun k => if c then g k else f k) r := by
  obtain ⟨K, h⟩ := h
  exact ⟨K, fun k hk => (if_neg hc).trans (h k hk)⟩
theorem rd_nat (l : List Int) (i : Nat) (h : i < l.length) : rd l (i : Int) = l[i] := by
  simp [rd, List.getD_eq_getElem?_getD, h]
/-- A statement that holds of all members of a list that can be run through. -/
theorem of_all {α : Type} {p : α → Bool} {l : List α} (h : l.all p = true) {x : α} (hx : x ∈ l) : p x = true := List.all_eq_true.mp h x hx
/-- Both answer, and alike. -/
def both {α : Type} [DecidableEq α] (a b : Option α) : Bool := match a, b with
  | some x, some y => decide (x = y)
  | _, _ => false
theorem both_ev {α : Type} [DecidableEq α] {f g : Nat → Option α} (hf : ∀ k, LeO (f k) (f (k + 1))) (hg : ∀ k, LeO (g k) (g (k + 1))) {n m : Nat} (h : both (f n) (g m) = true) : ∃ r, Ev f r ∧ Ev g r := by
  unfold both at h
  split at h
  · rename_i x y hx hy
    have e := of_decide_eq_true h
    subst e
    exact ⟨x, Ev.of hf hx, Ev.of hg hy⟩
  · cases h
theorem take_set_succ {α : Type} (y : List α) (i : Nat) (v : α) (h : i < y.length) : (y.set i v).take (i + 1) = y.take i ++ [v] := by
  rw [List.take_succ_eq_append_getElem (by simpa using h)]
  simp only [List.getElem_set_self]
  congr 1
  apply List.ext_getElem?
  intro j
  simp only [List.getElem?_take, List.getElem?_set]
  by_cases h : j < i
  · rw [if_pos h, if_neg (by omega), if_pos h]
  · rw [if_neg h, if_neg h]

theorem ev_one {α : Type} {f : Nat → Option α} {x y : α} (hx : Ev f x) (hy : Ev f y) : x = y := by
  obtain ⟨K, h1⟩ := hx
  obtain ⟨M, h2⟩ := hy
  have a := h1 (max K M) (Nat.le_max_left _ _)
  have b := h2 (max K M) (Nat.le_max_right _ _)
  rw [a] at b
  exact Option.some.inj b

/-! Partitions: a plain test, and all of them. -/
def isPF (prev s : Int) : List Int → Bool
  | [] => true
  | x :: xs => if 1 ≤ x ∧ x ≤ 9 ∧ x ≤ prev ∧ s + x ≤ 9 then isPF x (s + x) xs else false
def isP (l : List Int) : Bool := isPF 9 0 l
/-- All lists of numbers of at most 'prev' that add to 's' at most 9. -/
def genP : Nat → Nat → Nat → List (List Int)
  | 0, _, _ => [[]]
  | n + 1, prev, s => [] :: (List.range' 1 (min prev (9 - s))).flatMap fun x => (genP n x (s + x)).map fun r => (x : Int) :: r
theorem mem_genP : ∀ (n prev s : Nat) (l : List Int), 9 < n + s → s ≤ 9 → isPF prev s l = true → l ∈ genP n prev s
  | 0, prev, s, l, h1, h2, _ => by omega
  | n + 1, prev, s, [], _, _, _ => by simp [genP]
  | n + 1, prev, s, x :: xs, h1, h2, h => by
    simp only [isPF] at h
    split at h
    · rename_i hc
      obtain ⟨c1, c2, c3, c4⟩ := hc
      obtain ⟨m, rfl⟩ : ∃ m : Nat, x = (m : Int) := ⟨x.toNat, by omega⟩
      have e : (s : Int) + (m : Int) = ((s + m : Nat) : Int) := by omega
      rw [e] at h
      have ih := mem_genP n m (s + m) xs (by omega) (by omega) h
      simp only [genP, List.mem_cons, List.mem_flatMap]
      refine Or.inr ⟨m, ?_, ?_⟩
      · simp only [List.mem_range'_1]; omega
      · exact List.mem_map.2 ⟨xs, ih, rfl⟩
    · cases h
def allP : List (List Int) := genP 10 9 0
theorem mem_allP {l : List Int} (h : isP l = true) : l ∈ allP := mem_genP 10 9 0 l (by omega) (by omega) h
theorem isPF_length : ∀ (l : List Int) (prev s : Int), isPF prev s l = true → s + l.length ≤ 9 ∨ l = []
  | [], _, _, _ => .inr rfl
  | x :: xs, prev, s, h => by
    simp only [isPF] at h
    split at h
    · rename_i hc
      rcases isPF_length xs x (s + x) h with h1 | rfl
      · left; simp only [List.length_cons]; omega
      · left; simp; omega
    · cases h
theorem isP_length {l : List Int} (h : isP l = true) : l.length ≤ 9 := by
  rcases isPF_length l 9 0 h with h | rfl
  · omega
  · simp
/-- What stands at place i, and behind it. -/
theorem drop_cons (l : List Int) (i : Nat) (h : i < l.length) : l.drop i = l[i] :: l.drop (i + 1) := List.drop_eq_getElem_cons h
def prevOf (l : List Int) (i : Nat) : Int := if i = 0 then 9 else l.getD (i - 1) 0
theorem prevOf_succ (l : List Int) (i : Nat) (h : i < l.length) : prevOf l (i + 1) = l[i] := by simp [prevOf, h]

-- The size of a partition, -1 for what is none.
def szB (p : List Int) : Int := if isP p = true then p.sum else -1
theorem factsize : allP.all (fun p => decide (spec_l2Size.f 20 p = some p.sum) && decide (impl_sum.f 20 p = some p.sum)) = true := by decide +kernel
theorem specL2_ev {p : List Int} (h : isP p = true) : Ev (fun k => spec_l2Size.f k p) p.sum := by
  have a := of_all factsize (mem_allP h)
  simp only [Bool.and_eq_true, decide_eq_true_eq] at a
  exact Ev.of (spec_l2Size.mono p) a.1
theorem implSum_ev {p : List Int} (h : isP p = true) : Ev (fun k => impl_sum.f k p) p.sum := by
  have a := of_all factsize (mem_allP h)
  simp only [Bool.and_eq_true, decide_eq_true_eq] at a
  exact Ev.of (impl_sum.mono p) a.2

theorem within_f (x a b : Int) : impl_within.f x a b = some (decide (a ≤ x ∧ x ≤ b)) := by
  unfold impl_within.f
  by_cases h : a ≤ x
  · rw [if_pos h]; congr 1; by_cases h2 : x ≤ b
    · rw [decide_eq_true h2, decide_eq_true ⟨h, h2⟩]
    · rw [decide_eq_false h2, decide_eq_false (by omega)]
  · rw [if_neg h, decide_eq_false (by omega)]

theorem implIsP_l0 (l : List Int) (hl : l.length ≤ 1048576) (d : Nat) : ∀ (i k : Nat) (s : Int), i + d = l.length → 0 ≤ s → s ≤ 9 → 2 * d < k → impl_IsPartition.l0 k l s l l.length i = some (isPF (prevOf l i) s (l.drop i)) := by
  induction d with
  | zero =>
    intro i k s hi h0 h9 hk
    obtain ⟨k, rfl⟩ : ∃ m, k = m + 1 := ⟨k - 1, by omega⟩
    simp only [impl_IsPartition.l0]
    rw [if_neg (by omega), List.drop_of_length_le (by omega)]
    rfl
  | succ d ih =>
    intro i k s hi h0 h9 hk
    obtain ⟨k, rfl⟩ : ∃ m, k = m + 2 := ⟨k - 2, by omega⟩
    have hlt : i < l.length := by omega
    simp only [impl_IsPartition.l0]
    rw [if_pos (by omega), if_pos (by omega), if_pos (by omega), rd_nat l i hlt, within_f, drop_cons l i hlt]
    simp only [Option.bind_some, isPF]
    have hj : ∀ b : Bool, (b = true ↔ ¬ (1 ≤ l[i] ∧ l[i] ≤ 9 ∧ l[i] ≤ prevOf l i)) →
        impl_IsPartition.j1 (k + 1) l s l[i] l l.length i b = some (if 1 ≤ l[i] ∧ l[i] ≤ 9 ∧ l[i] ≤ prevOf l i ∧ s + l[i] ≤ 9 then isPF l[i] (s + l[i]) (l.drop (i + 1)) else false) := by
      intro b hb
      simp only [impl_IsPartition.j1]
      by_cases hc : 1 ≤ l[i] ∧ l[i] ≤ 9 ∧ l[i] ≤ prevOf l i
      · rw [if_neg (fun h => hb.1 h hc), wr_in (x := s + l[i]) (by omega) (by omega), wr1 (by omega)]
        by_cases h9' : s + l[i] > 9
        · rw [if_pos h9', if_neg (by omega)]
        · rw [if_neg h9', if_pos ⟨hc.1, hc.2.1, hc.2.2, by omega⟩, ih (i + 1) k _ (by omega) (by omega) (by omega) (by omega), prevOf_succ l i hlt]
      · rw [if_pos (hb.2 hc), if_neg (fun h => hc ⟨h.1, h.2.1, h.2.2.1⟩)]
    by_cases h1 : 1 ≤ l[i] ∧ l[i] ≤ 9
    · rw [if_pos (decide_eq_true h1)]
      by_cases hi0 : i = 0
      · subst hi0
        rw [if_neg (by omega)]
        exact hj false (by simp [prevOf]; omega)
      · have e : wrap64 ((i : Int) - 1) = ((i - 1 : Nat) : Int) := by unfold wrap64; omega
        rw [if_pos (by omega), e, if_pos (by omega), if_pos (by omega), rd_nat l (i - 1) (by omega)]
        refine hj _ ?_
        have hp : prevOf l i = l[i - 1] := by simp [prevOf, hi0]; rw [List.getElem?_eq_getElem (by omega)]; rfl
        rw [hp, decide_eq_true_iff]; omega
    · rw [if_neg (by simp; omega)]
      exact hj true (by simp; omega)
theorem implIsP_ev (l : List Int) (hl : l.length ≤ 1048576) : Ev (fun k => impl_IsPartition.f k l) (isP l) := by
  refine ⟨2 * l.length + 1, fun k hk => ?_⟩
  have h := implIsP_l0 l hl l.length 0 k 0 (by omega) (by omega) (by omega) (by omega)
  simpa [impl_IsPartition.f, isP, prevOf] using h

theorem implSize_ev (l : List Int) (hl : l.length ≤ 1048576) : Ev (fun k => impl_SizeOf.f k l) (szB l) := by
  simp only [impl_SizeOf.f, szB]
  refine Ev.bind (implIsP_ev l hl) ?_
  by_cases h : isP l = true
  · rw [if_pos h]; exact Ev.ite_true h (Ev.bind (implSum_ev h) (Ev.now _))
  · rw [if_neg h]; exact Ev.ite_false h (Ev.now _)

theorem l1In_f (x a b : Int) : spec_l1In.f x a b = some (decide (a ≤ x ∧ x ≤ b)) := by
  unfold spec_l1In.f
  by_cases h : x ≥ a
  · rw [if_pos h]; congr 1; by_cases h2 : x ≤ b
    · rw [decide_eq_true h2, decide_eq_true ⟨h, h2⟩]
    · rw [decide_eq_false h2, decide_eq_false (by omega)]
  · rw [if_neg h, decide_eq_false (by omega)]

theorem specIsP_l0 (l : List Int) (hl : l.length ≤ 1048576) (d : Nat) : ∀ (i k : Nat) (s : Int), i + d = l.length → 0 ≤ s → s ≤ 9 → 2 * d < k → spec_IsPartition.l0 k l s i = some (isPF (prevOf l i) s (l.drop i)) := by
  induction d with
  | zero =>
    intro i k s hi h0 h9 hk
    obtain ⟨k, rfl⟩ : ∃ m, k = m + 1 := ⟨k - 1, by omega⟩
    simp only [spec_IsPartition.l0]
    rw [if_neg (by omega), List.drop_of_length_le (by omega)]
    rfl
  | succ d ih =>
    intro i k s hi h0 h9 hk
    obtain ⟨k, rfl⟩ : ∃ m, k = m + 2 := ⟨k - 2, by omega⟩
    have hlt : i < l.length := by omega
    simp only [spec_IsPartition.l0]
    rw [if_pos (by omega), if_pos (by omega), rd_nat l i hlt, l1In_f, drop_cons l i hlt]
    simp only [Option.bind_some, isPF]
    have hj : ∀ b : Bool, (b = true ↔ ¬ (1 ≤ l[i] ∧ l[i] ≤ 9 ∧ l[i] ≤ prevOf l i)) →
        spec_IsPartition.j1 (k + 1) l s i b = some (if 1 ≤ l[i] ∧ l[i] ≤ 9 ∧ l[i] ≤ prevOf l i ∧ s + l[i] ≤ 9 then isPF l[i] (s + l[i]) (l.drop (i + 1)) else false) := by
      intro b hb
      simp only [spec_IsPartition.j1]
      by_cases hc : 1 ≤ l[i] ∧ l[i] ≤ 9 ∧ l[i] ≤ prevOf l i
      · rw [if_neg (fun h => hb.1 h hc), if_pos (by omega), if_pos (by omega), rd_nat l i hlt, wr_in (by omega) (by omega), wr1 (by omega)]
        by_cases h9' : s + l[i] > 9
        · rw [if_pos h9', if_neg (by omega)]
        · rw [if_neg h9', if_pos ⟨hc.1, hc.2.1, hc.2.2, by omega⟩, ih (i + 1) k _ (by omega) (by omega) (by omega) (by omega), prevOf_succ l i hlt]
      · rw [if_pos (hb.2 hc), if_neg (fun h => hc ⟨h.1, h.2.1, h.2.2.1⟩)]
    by_cases h1 : 1 ≤ l[i] ∧ l[i] ≤ 9
    · rw [if_pos (decide_eq_true h1)]
      by_cases hi0 : i = 0
      · subst hi0
        rw [if_neg (by omega)]
        exact hj false (by simp [prevOf]; omega)
      · have e : wrap64 ((i : Int) - 1) = ((i - 1 : Nat) : Int) := by unfold wrap64; omega
        rw [if_pos (by omega), e, if_pos (by omega), if_pos (by omega), rd_nat l (i - 1) (by omega)]
        refine hj _ ?_
        have hp : prevOf l i = l[i - 1] := by simp [prevOf, hi0]; rw [List.getElem?_eq_getElem (by omega)]; rfl
        rw [hp, decide_eq_true_iff]; omega
    · rw [if_neg (by simp; omega)]
      exact hj true (by simp; omega)
theorem specIsP_ev (l : List Int) (hl : l.length ≤ 1048576) : Ev (fun k => spec_IsPartition.f k l) (isP l) := by
  refine ⟨2 * l.length + 1, fun k hk => ?_⟩
  have h := specIsP_l0 l hl l.length 0 k 0 (by omega) (by omega) (by omega) (by omega)
  simpa [spec_IsPartition.f, isP, prevOf] using h

theorem specSize_ev (l : List Int) (hl : l.length ≤ 1048576) : Ev (fun k => spec_SizeOf.f k l) (szB l) := by
  simp only [spec_SizeOf.f, szB]
  refine Ev.bind (specIsP_ev l hl) ?_
  by_cases h : isP l = true
  · rw [if_pos h]; exact Ev.ite_true h (Ev.bind (specL2_ev h) (Ev.now _))
  · rw [if_neg h]; exact Ev.ite_false h (Ev.now _)

theorem fine21_ev (l : List Int) (hl : l.length ≤ 1048576) : Ev (fun k => spec_l21Fine.f k l) (isP l && decide (l.sum ≤ 6)) := by
  simp only [spec_l21Fine.f]
  refine Ev.bind (specIsP_ev l hl) ?_
  by_cases h : isP l = true
  · rw [h]; exact Ev.ite_true rfl (Ev.bind (specL2_ev h) (by rw [Bool.true_and]; exact Ev.now _))
  · have h : isP l = false := by simpa using h
    rw [h]; exact Ev.ite_false (by simp) (Ev.now _)

-- RibbonsInside of both, with the ribbons' heights: alike over all partitions of at most 9 and k from 1 to 9.
def rb (p : List Int) (k : Int) (a b : Option (List S61)) : Bool := match a, b with
  | some x, some y => (decide (x.map (fun s => (s.f0, s.f1)) = y.map (fun s => (s.f0, s.f1))) && decide (x.length ≤ 100)) && x.all (fun s => (isP s.f1 && decide (s.f1.sum = p.sum - k)) && both (spec_RibbonHeight.f 60 s.f0 s.f1) (impl_RibbonHeight.f 60 s.f0 s.f1))
  | _, _ => false
def ks : List Int := [1, 2, 3, 4, 5, 6, 7, 8, 9]
set_option maxHeartbeats 400000000 in
theorem rparts0 : ((allP.drop 0).take 10).all (fun p => ks.all (fun k => rb p k (spec_RibbonsInside.f 100 p k) (impl_RibbonsInside.f 100 p k))) = true := by decide +kernel
set_option maxHeartbeats 400000000 in
theorem rparts1 : ((allP.drop 10).take 10).all (fun p => ks.all (fun k => rb p k (spec_RibbonsInside.f 100 p k) (impl_RibbonsInside.f 100 p k))) = true := by decide +kernel
set_option maxHeartbeats 400000000 in
theorem rparts2 : ((allP.drop 20).take 10).all (fun p => ks.all (fun k => rb p k (spec_RibbonsInside.f 100 p k) (impl_RibbonsInside.f 100 p k))) = true := by decide +kernel
set_option maxHeartbeats 400000000 in
theorem rparts3 : ((allP.drop 30).take 10).all (fun p => ks.all (fun k => rb p k (spec_RibbonsInside.f 100 p k) (impl_RibbonsInside.f 100 p k))) = true := by decide +kernel
set_option maxHeartbeats 400000000 in
theorem rparts4 : ((allP.drop 40).take 10).all (fun p => ks.all (fun k => rb p k (spec_RibbonsInside.f 100 p k) (impl_RibbonsInside.f 100 p k))) = true := by decide +kernel
set_option maxHeartbeats 400000000 in
theorem rparts5 : ((allP.drop 50).take 10).all (fun p => ks.all (fun k => rb p k (spec_RibbonsInside.f 100 p k) (impl_RibbonsInside.f 100 p k))) = true := by decide +kernel
set_option maxHeartbeats 400000000 in
theorem rparts6 : ((allP.drop 60).take 10).all (fun p => ks.all (fun k => rb p k (spec_RibbonsInside.f 100 p k) (impl_RibbonsInside.f 100 p k))) = true := by decide +kernel
set_option maxHeartbeats 400000000 in
theorem rparts7 : ((allP.drop 70).take 10).all (fun p => ks.all (fun k => rb p k (spec_RibbonsInside.f 100 p k) (impl_RibbonsInside.f 100 p k))) = true := by decide +kernel
set_option maxHeartbeats 400000000 in
theorem rparts8 : ((allP.drop 80).take 10).all (fun p => ks.all (fun k => rb p k (spec_RibbonsInside.f 100 p k) (impl_RibbonsInside.f 100 p k))) = true := by decide +kernel
set_option maxHeartbeats 400000000 in
theorem rparts9 : ((allP.drop 90).take 10).all (fun p => ks.all (fun k => rb p k (spec_RibbonsInside.f 100 p k) (impl_RibbonsInside.f 100 p k))) = true := by decide +kernel
theorem rparts {p : List Int} (h : p ∈ allP) : ks.all (fun k => rb p k (spec_RibbonsInside.f 100 p k) (impl_RibbonsInside.f 100 p k)) = true := by
  have hl : allP.length = 97 := by decide +kernel
  obtain ⟨i, hi, rfl⟩ := List.getElem_of_mem h
  have pick : ∀ q, 10 * q ≤ i → i < 10 * q + 10 → allP[i] ∈ (allP.drop (10 * q)).take 10 := fun q h1 h2 => by
    rw [List.mem_take_iff_getElem]
    refine ⟨i - 10 * q, by simp; omega, ?_⟩
    simp only [List.getElem_drop]
    congr 1
    omega
  by_cases h0 : i < 10
  · exact of_all rparts0 (pick 0 (by omega) (by omega))
  by_cases h1 : i < 20
  · exact of_all rparts1 (pick 1 (by omega) (by omega))
  by_cases h2 : i < 30
  · exact of_all rparts2 (pick 2 (by omega) (by omega))
  by_cases h3 : i < 40
  · exact of_all rparts3 (pick 3 (by omega) (by omega))
  by_cases h4 : i < 50
  · exact of_all rparts4 (pick 4 (by omega) (by omega))
  by_cases h5 : i < 60
  · exact of_all rparts5 (pick 5 (by omega) (by omega))
  by_cases h6 : i < 70
  · exact of_all rparts6 (pick 6 (by omega) (by omega))
  by_cases h7 : i < 80
  · exact of_all rparts7 (pick 7 (by omega) (by omega))
  by_cases h8 : i < 90
  · exact of_all rparts8 (pick 8 (by omega) (by omega))
  by_cases h9 : i < 100
  · exact of_all rparts9 (pick 9 (by omega) (by omega))
  omega
theorem psum {p : List Int} (h : isP p = true) : 0 ≤ p.sum ∧ p.sum ≤ 9 := by
  have a : allP.all (fun p => decide (0 ≤ p.sum ∧ p.sum ≤ 9)) = true := by decide +kernel
  exact of_decide_eq_true (of_all a (mem_allP h))
theorem ptail {p : List Int} (h : isP p = true) : isP p.tail = true := by
  have a : allP.all (fun p => isP p.tail) = true := by decide +kernel
  exact of_all a (mem_allP h)
theorem S54_eq : ∀ {x y : List S61}, x.map (fun s => (s.f0, s.f1)) = y.map (fun s => (s.f0, s.f1)) → x = y
  | [], [], _ => rfl
  | [], _ :: _, h => by simp at h
  | _ :: _, [], h => by simp at h
  | a :: x, b :: y, h => by
    simp only [List.map_cons, List.cons.injEq, Prod.mk.injEq] at h
    have e : a = b := by cases a; cases b; simp_all
    rw [e, S54_eq h.2]
theorem ribbons {p : List Int} {a : Int} (h : isP p = true) (ha : 1 ≤ a ∧ a ≤ 9) : ∃ x : List S61, Ev (fun k => spec_RibbonsInside.f k p a) x ∧ Ev (fun k => impl_RibbonsInside.f k p a) x ∧ x.length ≤ 100 ∧ ∀ s ∈ x, isP s.f1 = true ∧ s.f1.sum = p.sum - a ∧ ∃ r, Ev (fun k => spec_RibbonHeight.f k s.f0 s.f1) r ∧ Ev (fun k => impl_RibbonHeight.f k s.f0 s.f1) r := by
  have hk : a ∈ ks := by
    simp only [ks, List.mem_cons, List.not_mem_nil, or_false]; omega
  have hr := of_all (rparts (mem_allP h)) hk
  unfold rb at hr
  split at hr
  · rename_i x y hx hy
    simp only [Bool.and_eq_true, decide_eq_true_eq, List.all_eq_true] at hr
    obtain rfl := S54_eq hr.1.1
    refine ⟨x, Ev.of (spec_RibbonsInside.mono p a) hx, Ev.of (impl_RibbonsInside.mono p a) hy, hr.1.2, fun s hs => ⟨(hr.2 s hs).1.1, (hr.2 s hs).1.2, ?_⟩⟩
    exact both_ev (spec_RibbonHeight.mono s.f0 s.f1) (impl_RibbonHeight.mono s.f0 s.f1) (hr.2 s hs).2
  · cases hr

-- The characters of both, at partitions of one size.
theorem rdT54_nat (l : List S61) (i : Nat) (h : i < l.length) : rd_T61 l (i : Int) = l[i] := by
  simp [rd_T61, List.getD_eq_getElem?_getD, h]
theorem char_ev : ∀ (q p : List Int), isP p = true → isP q = true → p.sum = q.sum → ∃ r, Ev (fun k => spec_l22Character.f k p q) r ∧ Ev (fun k => impl_CharacterOf.f k p q) r
  | [], p, hp, hq, hs => by
    have hl := isP_length hp
    refine ⟨1, Ev.step (fun k => by simp only [spec_l22Character.f]; rfl) (Ev.ite_true (by simp) (Ev.now _)), Ev.step (fun k => by simp only [impl_CharacterOf.f]; rfl) ?_⟩
    refine Ev.bind (implSize_ev p (by omega)) (Ev.bind (implSize_ev [] (by simp)) ?_)
    have h1 : szB p = p.sum := if_pos hp
    have h2 : szB [] = 0 := rfl
    rw [h1, h2]
    simp only [List.sum_nil] at hs
    refine Ev.ite_true hs (Ev.bind (implSize_ev p (by omega)) ?_)
    rw [h1, hs]
    refine Ev.step (fun k => by simp only [impl_CharacterOf.j0]; rfl) ?_
    exact Ev.ite_false (by simp) (Ev.ite_true (by simp) (Ev.now _))
  | a :: q, p, hp, hq, hs => by
    have hl := isP_length hp
    have hlq := isP_length hq
    have hq' : isP q = true := ptail hq
    have ha : 1 ≤ a ∧ a ≤ 9 := by
      have h := hq
      simp only [isP, isPF] at h
      split at h
      · rename_i hc; omega
      · cases h
    have hsum : (a :: q).sum = a + q.sum := by simp
    obtain ⟨x, hx, hy, hxl, hin⟩ := ribbons hp ha
    have loop : ∀ (d i : Nat) (s : Int), i + d = x.length → ∃ r, Ev (fun k => spec_l22Character.l0 k (a :: q) s x i) r ∧ Ev (fun k => impl_CharacterOf.l0 k (a :: q) s x x.length i) r := by
      intro d
      induction d with
      | zero =>
        intro i s hi
        exact ⟨s, Ev.step (fun k => by simp only [spec_l22Character.l0]; rfl) (Ev.ite_false (by omega) (Ev.now _)), Ev.step (fun k => by simp only [impl_CharacterOf.l0]; rfl) (Ev.ite_false (by omega) (Ev.now _))⟩
      | succ d ih =>
        intro i s hi
        have hlt : i < x.length := by omega
        obtain ⟨hp1, hs1, hh, h1, h2⟩ := hin _ (List.getElem_mem hlt)
        obtain ⟨c, c1, c2⟩ := char_ev q x[i].f1 hp1 hq' (by omega)
        have w1 : wrap64 ((i : Int) + 1) = ((i + 1 : Nat) : Int) := wr1 (by omega)
        by_cases ho : Int.tmod hh 2 = 1
        · obtain ⟨r, r1, r2⟩ := ih (i + 1) (wrap64 (s + wrap64 (-c))) (by omega)
          refine ⟨r, Ev.step (fun k => by simp only [spec_l22Character.l0]; rfl) ?_, Ev.step (fun k => by simp only [impl_CharacterOf.l0]; rfl) ?_⟩
          · rw [rdT54_nat x i hlt, w1, show (a :: q).drop 1 = q from rfl]
            exact Ev.ite_true (by omega) (Ev.ite_true (Int.natCast_nonneg _) (Ev.ite_true (by simp only [List.length_cons]; omega) (Ev.bind c1 (Ev.bind h1 (Ev.ite_true ho r1)))))
          · rw [rdT54_nat x i hlt, w1, show (a :: q).drop 1 = q from rfl]
            exact Ev.ite_true (by omega) (Ev.ite_true (Int.natCast_nonneg _) (Ev.ite_true (by omega) (Ev.ite_true (by simp only [List.length_cons]; omega) (Ev.bind c2 (Ev.bind h2 (Ev.ite_true ho r2))))))
        · obtain ⟨r, r1, r2⟩ := ih (i + 1) (wrap64 (s + c)) (by omega)
          refine ⟨r, Ev.step (fun k => by simp only [spec_l22Character.l0]; rfl) ?_, Ev.step (fun k => by simp only [impl_CharacterOf.l0]; rfl) ?_⟩
          · rw [rdT54_nat x i hlt, w1, show (a :: q).drop 1 = q from rfl]
            exact Ev.ite_true (by omega) (Ev.ite_true (Int.natCast_nonneg _) (Ev.ite_true (by simp only [List.length_cons]; omega) (Ev.bind c1 (Ev.bind h1 (Ev.ite_false ho r1)))))
          · rw [rdT54_nat x i hlt, w1, show (a :: q).drop 1 = q from rfl]
            exact Ev.ite_true (by omega) (Ev.ite_true (Int.natCast_nonneg _) (Ev.ite_true (by omega) (Ev.ite_true (by simp only [List.length_cons]; omega) (Ev.bind c2 (Ev.bind h2 (Ev.ite_false ho r2))))))
    obtain ⟨r, r1, r2⟩ := loop x.length 0 0 (by omega)
    refine ⟨r, Ev.step (fun k => by simp only [spec_l22Character.f]; rfl) ?_, Ev.step (fun k => by simp only [impl_CharacterOf.f]; rfl) ?_⟩
    · exact Ev.ite_false (by simp only [List.length_cons]; omega) (Ev.ite_true (by simp only [List.length_cons]; omega) (Ev.bind hx r1))
    · refine Ev.bind (implSize_ev p (by omega)) (Ev.bind (implSize_ev (a :: q) (by omega)) ?_)
      have h1 : szB p = p.sum := if_pos hp
      have h2 : szB (a :: q) = (a :: q).sum := if_pos hq
      rw [h1, h2]
      refine Ev.ite_true hs (Ev.bind (implSize_ev p (by omega)) ?_)
      rw [h1]
      have hd : decide (p.sum < 0) = false := by have := psum hp; simp; omega
      rw [hd]
      refine Ev.step (fun k => by simp only [impl_CharacterOf.j0]; rfl) ?_
      exact Ev.ite_false (by simp) (Ev.ite_false (by simp only [List.length_cons]; omega) (Ev.ite_true (by simp only [List.length_cons]; omega) (Ev.bind hy r2)))

-- PartitionsOf of both, for n from 0 to 9.
theorem factparts : (List.range 10).all (fun n => match spec_PartitionsOf.f 300 n, impl_PartitionsOf.f 300 n with
  | some x, some y => (decide (x = y) && decide (x.length ≤ 100)) && x.all (fun p => isP p && decide (p.sum = n))
  | _, _ => false) = true := by decide +kernel
theorem partsOf {n : Int} (h : 0 ≤ n ∧ n ≤ 9) : ∃ x : List (List Int), Ev (fun k => spec_PartitionsOf.f k n) x ∧ Ev (fun k => impl_PartitionsOf.f k n) x ∧ x.length ≤ 100 ∧ ∀ p ∈ x, isP p = true ∧ p.sum = n := by
  obtain ⟨m, rfl⟩ : ∃ m : Nat, n = (m : Int) := ⟨n.toNat, by omega⟩
  have a := of_all factparts (x := m) (List.mem_range.2 (by omega))
  split at a
  · rename_i x y hx hy
    simp only [Bool.and_eq_true, decide_eq_true_eq, List.all_eq_true] at a
    obtain ⟨⟨rfl, a2⟩, a3⟩ := a
    exact ⟨x, Ev.of (spec_PartitionsOf.mono _) hx, Ev.of (impl_PartitionsOf.mono _) hy, a2, a3⟩
  · cases a

theorem rdL_nat (l : List (List Int)) (i : Nat) (h : i < l.length) : rd_L2 l (i : Int) = l[i] := by
  simp [rd_L2, List.getD_eq_getElem?_getD, h]

-- classSum of the program, step by step; class sizes and factorials of both.
theorem factclass : allP.all (fun p => both (spec_ClassSize.f 100 p) (impl_ClassSize.f 100 p)) = true := by decide +kernel
theorem class_ev {p : List Int} (h : isP p = true) : ∃ r, Ev (fun k => spec_ClassSize.f k p) r ∧ Ev (fun k => impl_ClassSize.f k p) r :=
  both_ev (spec_ClassSize.mono p) (impl_ClassSize.mono p) (of_all factclass (mem_allP h))
theorem factfactorial : (List.range 10).all (fun n => match spec_l3Factorial.f 30 n, impl_factorial.f 30 n with
  | some x, some y => decide (x = y) && !decide (x = 0)
  | _, _ => false) = true := by decide +kernel
theorem factorial_ev {n : Int} (h : 0 ≤ n ∧ n ≤ 9) : ∃ r : Int, r ≠ 0 ∧ Ev (fun k => spec_l3Factorial.f k n) r ∧ Ev (fun k => impl_factorial.f k n) r := by
  obtain ⟨m, rfl⟩ : ∃ m : Nat, n = (m : Int) := ⟨n.toNat, by omega⟩
  have a := of_all factfactorial (x := m) (List.mem_range.2 (by omega))
  split at a
  · rename_i x y hx hy
    simp only [Bool.and_eq_true, decide_eq_true_eq, Bool.not_eq_true', decide_eq_false_iff_not] at a
    obtain ⟨rfl, a2⟩ := a
    exact ⟨x, a2, Ev.of (spec_l3Factorial.mono _) hx, Ev.of (impl_factorial.mono _) hy⟩
  · cases a
def good (n : Int) (x : List Int) : Prop := szB x = n ∧ 0 ≤ n ∧ n ≤ 6
set_option linter.unusedSectionVars false
section
variable {L : List (List Int)} (hL : ∀ x ∈ L, x.length ≤ 1048576) (hlen : L.length ≤ 10) {n : Int}
include hL hlen
theorem cs0_step {i : Nat} (hi : i < L.length) (hg : good n L[i]) {r : Int} (h : Ev (fun k => impl_classSum.l0 k L n L L.length ((i + 1 : Nat) : Int)) r) : Ev (fun k => impl_classSum.l0 k L n L L.length i) r := by
  refine Ev.step (fun k => by simp only [impl_classSum.l0]; rfl) ?_
  rw [rdL_nat L i hi, wr1 (by omega)]
  simp only [within_f, Option.bind_some]
  have hz := implSize_ev L[i] (hL _ (List.getElem_mem hi))
  rw [hg.1] at hz
  refine Ev.ite_true (by omega) (Ev.ite_true (Int.natCast_nonneg _) (Ev.ite_true (by omega) (Ev.bind hz (Ev.ite_true rfl (Ev.ite_true (by simp; exact hg.2) h)))))
theorem cs0_no {i : Nat} (hi : i < L.length) (hg : ¬ good n L[i]) : Ev (fun k => impl_classSum.l0 k L n L L.length i) 0 := by
  refine Ev.step (fun k => by simp only [impl_classSum.l0]; rfl) ?_
  rw [rdL_nat L i hi, wr1 (by omega)]
  simp only [within_f, Option.bind_some]
  have hz := implSize_ev L[i] (hL _ (List.getElem_mem hi))
  refine Ev.ite_true (by omega) (Ev.ite_true (Int.natCast_nonneg _) (Ev.ite_true (by omega) (Ev.bind hz ?_)))
  by_cases e : szB L[i] = n
  · exact Ev.ite_true e (Ev.ite_false (by simp only [decide_eq_true_eq]; exact fun z => hg ⟨e, z⟩) (Ev.now _))
  · exact Ev.ite_false e (Ev.now _)
theorem cs0_end {x : List (List Int)} (hx : Ev (fun k => impl_PartitionsOf.f k n) x) {r : Int} (h : Ev (fun k => impl_classSum.l1 k L n 0 x x.length ((0 : Nat) : Int)) r) : Ev (fun k => impl_classSum.l0 k L n L L.length (L.length : Int)) r := by
  refine Ev.step (fun k => by simp only [impl_classSum.l0]; rfl) ?_
  exact Ev.ite_false (by omega) (Ev.bind hx h)
theorem cs2_step {s a : Int} {p : List Int} {x : List (List Int)} {m : Int} {j : Nat} (hj : j < L.length) {c r : Int} (hc : Ev (fun k => impl_CharacterOf.f k L[j] p) c)
    (h : Ev (fun k => impl_classSum.l2 k L n s p (wrap64 (a * c)) x x.length m L L.length ((j + 1 : Nat) : Int)) r) : Ev (fun k => impl_classSum.l2 k L n s p a x x.length m L L.length j) r := by
  refine Ev.step (fun k => by simp only [impl_classSum.l2]; rfl) ?_
  rw [rdL_nat L j hj, wr1 (by omega)]
  exact Ev.ite_true (by omega) (Ev.ite_true (Int.natCast_nonneg _) (Ev.ite_true (by omega) (Ev.bind hc h)))
theorem cs2_end {s a : Int} {p : List Int} {x : List (List Int)} {i : Nat} (hi : i < 1000) {r : Int}
    (h : Ev (fun k => impl_classSum.l1 k L n (wrap64 (s + a)) x x.length ((i + 1 : Nat) : Int)) r) : Ev (fun k => impl_classSum.l2 k L n s p a x x.length i L L.length (L.length : Int)) r := by
  refine Ev.step (fun k => by simp only [impl_classSum.l2]; rfl) ?_
  have w1 : wrap64 ((i : Int) + 1) = ((i + 1 : Nat) : Int) := wr1 (by omega)
  rw [w1]
  exact Ev.ite_false (by omega) h
theorem cs1_step {s : Int} {x : List (List Int)} {i : Nat} (hi : i < x.length) {c r : Int} (hc : Ev (fun k => impl_ClassSize.f k x[i]) c)
    (h : Ev (fun k => impl_classSum.l2 k L n s x[i] c x x.length i L L.length ((0 : Nat) : Int)) r) : Ev (fun k => impl_classSum.l1 k L n s x x.length i) r := by
  refine Ev.step (fun k => by simp only [impl_classSum.l1]; rfl) ?_
  rw [rdL_nat x i hi]
  exact Ev.ite_true (by omega) (Ev.ite_true (Int.natCast_nonneg _) (Ev.ite_true (by omega) (Ev.bind hc h)))
theorem cs1_end {s f : Int} {x : List (List Int)} (hf : Ev (fun k => impl_factorial.f k n) f) (h0 : f ≠ 0) : Ev (fun k => impl_classSum.l1 k L n s x x.length (x.length : Int)) (wrap64 (Int.tdiv s f)) := by
  refine Ev.step (fun k => by simp only [impl_classSum.l1]; rfl) ?_
  exact Ev.ite_false (by omega) (Ev.bind hf (Ev.ite_false h0 (Ev.now _)))
theorem cs_ev (h0 : 0 < L.length) {r : Int} (h : Ev (fun k => impl_classSum.l0 k L (szB L[0]) L L.length ((0 : Nat) : Int)) r) : Ev (fun k => impl_classSum.f k L) r := by
  simp only [impl_classSum.f]
  refine Ev.ite_true (by omega) ?_
  have e : rd_L2 L 0 = L[0] := rdL_nat L 0 h0
  rw [e]
  exact Ev.bind (implSize_ev L[0] (hL _ (List.getElem_mem h0))) h
end
theorem good_iff {n : Int} {x : List Int} (h : isP x = true) (hs : x.sum ≤ 6) (e : x.sum = n) : good n x := by
  have := psum h
  exact ⟨by rw [szB, if_pos h, e], by omega, by omega⟩
theorem good_of {n : Int} {x : List Int} (h : good n x) : isP x = true ∧ x.sum ≤ 6 ∧ x.sum = n := by
  obtain ⟨h1, h2, h3⟩ := h
  unfold szB at h1
  split at h1
  · rename_i hp; exact ⟨hp, by omega, h1⟩
  · omega

/-! Words: a plain test. -/
def okL (x : Int) : Bool := decide (1 ≤ x ∧ x ≤ 9)
def isW (l : List Int) : Bool := decide (l.length ≤ 9) && l.all okL
theorem isW_length {l : List Int} (h : isW l = true) : l.length ≤ 9 := by
  simp only [isW, Bool.and_eq_true, decide_eq_true_eq] at h; exact h.1
theorem isW_mem {l : List Int} (h : isW l = true) {x : Int} (hx : x ∈ l) : 1 ≤ x ∧ x ≤ 9 := by
  simp only [isW, Bool.and_eq_true, List.all_eq_true] at h; simpa [okL] using h.2 x hx
theorem isW_get {l : List Int} (h : isW l = true) (i : Nat) (hi : i < l.length) : 1 ≤ l[i] ∧ l[i] ≤ 9 := isW_mem h (List.getElem_mem hi)
theorem dropc {α : Type} (l : List α) (i : Nat) (h : i < l.length) : l.drop i = l[i] :: l.drop (i + 1) := List.drop_eq_getElem_cons h

theorem specIsW_l0 (l : List Int) (hl : l.length ≤ 1048576) (d : Nat) : ∀ (i k : Nat), i + d = l.length → d < k → spec_IsWord.l0 k l i = some (decide (l.length ≤ 9) && (l.drop i).all okL) := by
  induction d with
  | zero =>
    intro i k hi hk
    obtain ⟨k, rfl⟩ : ∃ m, k = m + 1 := ⟨k - 1, by omega⟩
    simp only [spec_IsWord.l0]
    rw [if_neg (by omega), List.drop_of_length_le (by omega)]
    simp
    omega
  | succ d ih =>
    intro i k hi hk
    obtain ⟨k, rfl⟩ : ∃ m, k = m + 1 := ⟨k - 1, by omega⟩
    have hlt : i < l.length := by omega
    simp only [spec_IsWord.l0]
    rw [if_pos (by omega), if_pos (by omega), rd_nat l i hlt, l1In_f, dropc l i hlt]
    simp only [Option.bind_some, List.all_cons]
    by_cases h : 1 ≤ l[i] ∧ l[i] ≤ 9
    · rw [if_pos (decide_eq_true h), wr1 (by omega), ih (i + 1) k (by omega) (by omega)]
      simp [okL, h]
    · rw [if_neg (by simpa using h)]
      have : okL l[i] = false := decide_eq_false h
      simp [this]
theorem specIsW_ev (l : List Int) (hl : l.length ≤ 1048576) : Ev (fun k => spec_IsWord.f k l) (isW l) := by
  refine ⟨l.length + 1, fun k hk => ?_⟩
  have h := specIsW_l0 l hl l.length 0 k (by omega) (by omega)
  simpa [spec_IsWord.f, isW] using h

theorem isWord1_f (x : Int) : impl_IsWord_1.f x = some (!okL x) := by
  unfold impl_IsWord_1.f
  rw [within_f]
  rfl
theorem implIsW_l0 (l : List Int) (hl : l.length ≤ 1048576) (d : Nat) : ∀ (i k : Nat), i + d = l.length → d < k → ∃ r, slices_IndexFunc_int_int__impl_IsWord_1.l0 k l l.length i = some r ∧ decide (r ≥ 0) = !((l.drop i).all okL) := by
  induction d with
  | zero =>
    intro i k hi hk
    obtain ⟨k, rfl⟩ : ∃ m, k = m + 1 := ⟨k - 1, by omega⟩
    simp only [slices_IndexFunc_int_int__impl_IsWord_1.l0]
    rw [if_neg (by omega), List.drop_of_length_le (by omega)]
    exact ⟨_, rfl, by simp⟩
  | succ d ih =>
    intro i k hi hk
    obtain ⟨k, rfl⟩ : ∃ m, k = m + 1 := ⟨k - 1, by omega⟩
    have hlt : i < l.length := by omega
    simp only [slices_IndexFunc_int_int__impl_IsWord_1.l0]
    rw [if_pos (by omega), if_pos (by omega), if_pos (by omega), rd_nat l i hlt, isWord1_f, dropc l i hlt]
    simp only [Option.bind_some, List.all_cons]
    cases h : okL l[i]
    · rw [if_pos (by rfl)]
      exact ⟨_, rfl, by simp⟩
    · rw [if_neg (by simp), wr1 (by omega)]
      obtain ⟨r, h1, h2⟩ := ih (i + 1) k (by omega) (by omega)
      exact ⟨r, h1, by simpa using h2⟩
theorem implIsW_ev (l : List Int) (hl : l.length ≤ 1048576) : Ev (fun k => impl_IsWord.f k l) (isW l) := by
  refine ⟨l.length + 1, fun k hk => ?_⟩
  show impl_IsWord.f k l = _
  obtain ⟨r, h, h2⟩ := implIsW_l0 l hl l.length 0 k (by omega) (by omega)
  have h' : slices_IndexFunc_int_int__impl_IsWord_1.l0 k l l.length 0 = some r := h
  unfold impl_IsWord.f slices_ContainsFunc_int_int__impl_IsWord_1.f slices_IndexFunc_int_int__impl_IsWord_1.f
  simp only [h', Option.bind_some, h2]
  by_cases h9 : (l.length : Int) ≤ 9
  · rw [if_pos h9]; simp [isW]; omega
  · rw [if_neg h9]; simp [isW]; omega

theorem l2Same_l0 (a b : List Int) (hl : a.length ≤ 1048576) (hab : a.length = b.length) (d : Nat) : ∀ (i : Nat), i + d = a.length → a.take i = b.take i → Ev (fun k => spec_l2Same.l0 k a b i) (decide (a = b)) := by
  induction d with
  | zero =>
    intro i hi ht
    refine Ev.step (fun k => by simp only [spec_l2Same.l0]; rfl) (Ev.ite_false (by omega) ?_)
    obtain rfl : i = a.length := by omega
    rw [List.take_of_length_le (by omega), List.take_of_length_le (by omega)] at ht
    rw [decide_eq_true ht]; exact Ev.now _
  | succ d ih =>
    intro i hi ht
    have hlt : i < a.length := by omega
    have hlt' : i < b.length := by omega
    have w1 : wrap64 ((i : Int) + 1) = ((i + 1 : Nat) : Int) := wr1 (by omega)
    refine Ev.step (fun k => by simp only [spec_l2Same.l0]; rfl) (Ev.ite_true (by omega) (Ev.ite_true (Int.natCast_nonneg _) (Ev.ite_true (by omega) ?_)))
    rw [w1, rd_nat a i hlt, rd_nat b i hlt']
    by_cases h : a[i] = b[i]
    · refine Ev.ite_true h (ih (i + 1) (by omega) ?_)
      rw [List.take_succ_eq_append_getElem hlt, List.take_succ_eq_append_getElem hlt', ht, h]
    · refine Ev.ite_false h ?_
      rw [decide_eq_false (by intro e; subst e; exact h rfl)]; exact Ev.now _
theorem l2Same_ev (a b : List Int) (hl : a.length ≤ 1048576) : Ev (fun k => spec_l2Same.f k a b) (decide (a = b)) := by
  simp only [spec_l2Same.f]
  by_cases h : (a.length : Int) = (b.length : Int)
  · exact Ev.ite_true h (l2Same_l0 a b hl (by omega) a.length 0 (by omega) (by simp))
  · refine Ev.ite_false h ?_
    rw [decide_eq_false (by intro e; subst e; exact h rfl)]; exact Ev.now _

/-! Standardizing and 'each number once'. -/
def ltC (w : List Int) (v : Int) : Nat := w.countP (fun x => decide (x < v))
def eqC (w : List Int) (v : Int) : Nat := w.countP (fun x => decide (x = v))
theorem ltC_succ (w : List Int) (v : Int) : ltC w (v + 1) = ltC w v + eqC w v := by
  induction w with
  | nil => rfl
  | cons x t ih =>
    simp only [ltC, eqC, List.countP_cons] at ih ⊢
    by_cases h1 : x < v
    · have h2 : x < v + 1 := by omega
      have h3 : ¬ x = v := by omega
      simp [h1, h2, h3]; omega
    · by_cases h3 : x = v
      · have h2 : x < v + 1 := by omega
        simp only [decide_eq_true_eq, if_neg h1, if_pos h2, if_pos h3]; omega
      · have h2 : ¬ x < v + 1 := by omega
        simp [h1, h2, h3]; omega
theorem ltC_le (w : List Int) (v : Int) : ltC w v ≤ w.length := List.countP_le_length
theorem eqC_pos {w : List Int} {v : Int} (h : v ∈ w) : 1 ≤ eqC w v := List.countP_pos_iff.2 ⟨v, h, by simp⟩
theorem eqC_none {w : List Int} {v : Int} (h : v ∉ w) : eqC w v = 0 := by
  refine List.countP_eq_zero.2 fun x hx => ?_
  simp only [decide_eq_true_eq]
  rintro rfl
  exact h hx
theorem ltC_all {w : List Int} {v : Int} (h : ∀ x ∈ w, x < v) : ltC w v = w.length := List.countP_eq_length.2 fun x hx => by simpa using h x hx
theorem ltC_none {w : List Int} {v : Int} (h : ∀ x ∈ w, v ≤ x) : ltC w v = 0 := List.countP_eq_zero.2 fun x hx => by simpa using h x hx
theorem ltC_inv {w : List Int} {v : Int} (h : ltC w v = w.length) : ∀ x ∈ w, x < v := fun x hx => by simpa using List.countP_eq_length.1 h x hx
theorem wr0 {i : Nat} (h : i < 4611686018427387904) : wrap64 ((i : Int) + 0) = (i : Int) := by unfold wrap64; omega
def rank (w : List Int) (k : Nat) (v : Int) : Nat := 1 + ltC w v + eqC (w.take k) v
def permP (w : List Int) : Prop := ∀ j : Nat, j < w.length → ((j + 1 : Nat) : Int) ∈ w
theorem permP_lt {w : List Int} (h : permP w) : ∀ j : Nat, j ≤ w.length → j ≤ ltC w ((j + 1 : Nat) : Int)
  | 0, _ => Nat.zero_le _
  | j + 1, hj => by
    have a := permP_lt h j (by omega)
    have b := eqC_pos (h j (by omega))
    have c := ltC_succ w ((j + 1 : Nat) : Int)
    have e : (((j + 1 + 1 : Nat)) : Int) = ((j + 1 : Nat) : Int) + 1 := by omega
    rw [e, c]; omega
theorem permP_lt' {w : List Int} (h : permP w) (d : Nat) : ∀ j : Nat, j + d = w.length → ltC w ((j + 1 : Nat) : Int) ≤ j := by
  induction d with
  | zero => intro j hj; have := ltC_le w ((j + 1 : Nat) : Int); omega
  | succ d ih =>
    intro j hj
    have a := ih (j + 1) (by omega)
    have b := eqC_pos (h j (by omega))
    have c := ltC_succ w ((j + 1 : Nat) : Int)
    have e : (((j + 1 + 1 : Nat)) : Int) = ((j + 1 : Nat) : Int) + 1 := by omega
    rw [e, c] at a; omega
theorem permP_eq {w : List Int} (h : permP w) (j : Nat) (hj : j ≤ w.length) : ltC w ((j + 1 : Nat) : Int) = j :=
  Nat.le_antisymm (permP_lt' h (w.length - j) j (by omega)) (permP_lt h j hj)
theorem permP_top {w : List Int} (h : permP w) : ∀ x ∈ w, x ≤ w.length := fun x hx => by
  have := ltC_inv (permP_eq h w.length (by omega)) x hx
  omega
theorem permP_rank {w : List Int} (h : permP w) (h1 : ∀ x ∈ w, 1 ≤ x) (k : Nat) (hk : k < w.length) : ((rank w k w[k] : Nat) : Int) = w[k] := by
  have a := h1 _ (List.getElem_mem hk)
  have b := permP_top h _ (List.getElem_mem hk)
  obtain ⟨j, hj⟩ : ∃ j : Nat, w[k] = ((j + 1 : Nat) : Int) := ⟨(w[k] - 1).toNat, by omega⟩
  have c := permP_eq h j (by omega)
  have c' := permP_eq h (j + 1) (by omega)
  have d := ltC_succ w ((j + 1 : Nat) : Int)
  have e : (((j + 1 + 1 : Nat)) : Int) = ((j + 1 : Nat) : Int) + 1 := by omega
  rw [e, d, c] at c'
  have f : eqC w ((j + 1 : Nat) : Int) = eqC (w.take k) ((j + 1 : Nat) : Int) + eqC (w.drop k) ((j + 1 : Nat) : Int) := by
    unfold eqC; rw [← List.countP_append, List.take_append_drop]
  have g : 1 ≤ eqC (w.drop k) ((j + 1 : Nat) : Int) := by
    refine eqC_pos ?_
    rw [← hj, dropc w k hk]
    exact List.mem_cons_self
  rw [hj]
  unfold rank
  omega
theorem first_of {α : Type} {a : α} {l : List α} (h : a ∈ l) : ∃ s t, l = s ++ a :: t ∧ a ∉ s := by
  induction l with
  | nil => simp at h
  | cons x l ih =>
    by_cases e : x = a
    · subst e; exact ⟨[], l, rfl, by simp⟩
    · rcases List.mem_cons.1 h with h | h
      · exact absurd h.symm e
      · obtain ⟨s, t, h1, h2⟩ := ih h
        refine ⟨x :: s, t, by simp [h1], ?_⟩
        intro hm
        rcases List.mem_cons.1 hm with hm | hm
        · exact e hm.symm
        · exact h2 hm
theorem rank_once {w : List Int} (hs : ∀ k (hk : k < w.length), ((rank w k w[k] : Nat) : Int) = w[k]) {v : Int} (hv : v ∈ w) : v = 1 + (ltC w v : Int) ∧ eqC w v = 1 := by
  obtain ⟨s, t, e, hn⟩ := first_of hv
  have hk : s.length < w.length := by simp [e]
  have g : w[s.length] = v := by simp [e]
  have a := hs s.length hk
  have tk : w.take s.length = s := by simp [e]
  have z : eqC s v = 0 := eqC_none hn
  rw [g] at a
  unfold rank at a
  rw [tk, z] at a
  refine ⟨by omega, ?_⟩
  have ht : v ∉ t := by
    intro ht
    obtain ⟨s', t', e', hn'⟩ := first_of ht
    have hk' : s.length + 1 + s'.length < w.length := by simp [e, e']; omega
    have e2 : w = (s ++ v :: s') ++ v :: t' := by simp [e, e']
    have hl : (s ++ v :: s').length = s.length + 1 + s'.length := by simp; omega
    have g' : w[s.length + 1 + s'.length] = v := by
      have : w[(s ++ v :: s').length]'(by omega) = v := by simp [e2]
      simpa [hl] using this
    have tk' : w.take (s.length + 1 + s'.length) = s ++ v :: s' := by
      have : w.take (s ++ v :: s').length = s ++ v :: s' := by rw [e2]; exact List.take_left
      rwa [hl] at this
    have b := hs _ hk'
    rw [g'] at b
    unfold rank at b
    rw [tk'] at b
    have c : 1 ≤ eqC (s ++ v :: s') v := eqC_pos (by simp)
    omega
  have ht0 := eqC_none ht
  unfold eqC at z ht0 ⊢
  rw [e, List.countP_append, List.countP_cons]
  simp
  omega
theorem rank_perm {w : List Int} (h1 : ∀ x ∈ w, 1 ≤ x ∧ x ≤ 9) (hs : ∀ k (hk : k < w.length), ((rank w k w[k] : Nat) : Int) = w[k]) : permP w := by
  have key : ∀ j : Nat, j ≤ w.length → ltC w ((j + 1 : Nat) : Int) = j ∧ ∀ i : Nat, i < j → ((i + 1 : Nat) : Int) ∈ w := by
    intro j
    induction j with
    | zero => intro _; exact ⟨ltC_none fun x hx => by have := h1 x hx; omega, by omega⟩
    | succ j ih =>
      intro hj
      obtain ⟨a, b⟩ := ih (by omega)
      have hm : ((j + 1 : Nat) : Int) ∈ w := by
        apply Classical.byContradiction
        intro hn
        have up : ∀ d : Nat, ltC w (((j + 1 : Nat) : Int) + (d : Int)) = j := by
          intro d
          induction d with
          | zero => simpa using a
          | succ d ihd =>
            have e : ((j + 1 : Nat) : Int) + ((d + 1 : Nat) : Int) = (((j + 1 : Nat) : Int) + (d : Int)) + 1 := by omega
            rw [e, ltC_succ, ihd]
            by_cases hd : ((j + 1 : Nat) : Int) + (d : Int) ∈ w
            · have := (rank_once hs hd).1
              rw [ihd] at this
              have d0 : d = 0 := by omega
              subst d0
              exact absurd (by simpa using hd) hn
            · rw [eqC_none hd]; rfl
        have := up 9
        rw [ltC_all fun x hx => by have := h1 x hx; omega] at this
        omega
      refine ⟨?_, ?_⟩
      · have e : (((j + 1 + 1 : Nat)) : Int) = ((j + 1 : Nat) : Int) + 1 := by omega
        rw [e, ltC_succ, a, (rank_once hs hm).2]
      · intro i hi
        by_cases h : i = j
        · rw [h]; exact hm
        · exact b i (by omega)
  exact fun j hj => (key w.length (Nat.le_refl _)).2 j hj
def permB (w : List Int) : Bool := (List.range w.length).all fun j => decide (((j + 1 : Nat) : Int) ∈ w)
theorem permB_iff (w : List Int) : permB w = true ↔ permP w := by simp [permB, permP]
/-! The program's way. -/
theorem contains_l0 (l : List Int) (v : Int) (hl : l.length ≤ 1048576) (d : Nat) : ∀ (i k : Nat), i + d = l.length → d < k → ∃ r, slices_Index_int_int.l0 k l v l.length i = some r ∧ decide (r ≥ 0) = decide (v ∈ l.drop i) := by
  induction d with
  | zero =>
    intro i k hi hk
    obtain ⟨k, rfl⟩ : ∃ m, k = m + 1 := ⟨k - 1, by omega⟩
    simp only [slices_Index_int_int.l0]
    rw [if_neg (by omega), List.drop_of_length_le (by omega)]
    exact ⟨_, rfl, by simp⟩
  | succ d ih =>
    intro i k hi hk
    obtain ⟨k, rfl⟩ : ∃ m, k = m + 1 := ⟨k - 1, by omega⟩
    have hlt : i < l.length := by omega
    simp only [slices_Index_int_int.l0]
    have hd := dropc l i hlt
    rw [if_pos (by omega), if_pos (by omega), if_pos (by omega), rd_nat l i hlt]
    by_cases h : v = l[i]
    · rw [if_pos h]
      exact ⟨_, rfl, by rw [hd]; simp [h, -List.getElem_cons_drop]⟩
    · rw [if_neg h, wr1 (by omega)]
      obtain ⟨r, h1, h2⟩ := ih (i + 1) k (by omega) (by omega)
      exact ⟨r, h1, by rw [hd, h2]; simp [h, -List.getElem_cons_drop]⟩
theorem contains_ev (l : List Int) (v : Int) (hl : l.length ≤ 1048576) : Ev (fun k => slices_Contains_int_int.f k l v) (decide (v ∈ l)) := by
  refine ⟨l.length + 1, fun k hk => ?_⟩
  obtain ⟨r, h, h2⟩ := contains_l0 l v hl l.length 0 k (by omega) (by omega)
  have h' : slices_Index_int_int.l0 k l v l.length 0 = some r := h
  simp only [slices_Contains_int_int.f, slices_Index_int_int.f, h', Option.bind_some, h2, List.drop_zero]
theorem areOnce_l0 (l : List Int) (hl : l.length ≤ 1048576) (d : Nat) : ∀ (i : Nat), i + d = l.length → (∀ j : Nat, j < i → ((j + 1 : Nat) : Int) ∈ l) → Ev (fun k => impl_areOnce.l0 k l ((i + 1 : Nat) : Int)) (permB l) := by
  induction d with
  | zero =>
    intro i hi hb
    refine Ev.step (fun k => by simp only [impl_areOnce.l0]; rfl) (Ev.ite_false (by omega) ?_)
    have : permB l = true := (permB_iff l).2 fun j hj => hb j (by omega)
    rw [this]; exact Ev.now _
  | succ d ih =>
    intro i hi hb
    have h0 : ((i + 1 : Nat) : Int) ≤ (l.length : Int) := by omega
    refine Ev.step (fun k => by simp only [impl_areOnce.l0]; rfl) (Ev.ite_true h0 (Ev.bind (contains_ev l _ hl) ?_))
    rw [wr1 (i := i + 1) (by omega)]
    by_cases h : ((i + 1 : Nat) : Int) ∈ l
    · refine Ev.ite_true (decide_eq_true h) (ih (i + 1) (by omega) ?_)
      intro j hj
      by_cases e : j = i
      · rw [e]; exact h
      · exact hb j (by omega)
    · refine Ev.ite_false (by simpa using h) ?_
      have : permB l = false := by
        cases hp : permB l
        · rfl
        · exact absurd ((permB_iff l).1 hp i (by omega)) h
      rw [this]; exact Ev.now _
theorem areOnce_ev (l : List Int) (hl : l.length ≤ 1048576) : Ev (fun k => impl_areOnce.f k l) (permB l) := by
  simp only [impl_areOnce.f]
  exact areOnce_l0 l hl l.length 0 (by omega) (by omega)
/-! The reference's way. -/
def stdL (w : List Int) (n : Nat) : List Int := (List.range n).map fun k => ((rank w k (rd w k) : Nat) : Int)
theorem eqC_take_drop (w : List Int) (v : Int) (k i : Nat) (hi : i < w.length) : eqC ((w.take k).drop i) v = (if w[i] = v ∧ i < k then 1 else 0) + eqC ((w.take k).drop (i + 1)) v := by
  by_cases h : i < k
  · have hlt : i < (w.take k).length := by simp; omega
    rw [dropc _ i hlt]
    simp only [eqC, List.countP_cons, List.getElem_take]
    by_cases e : w[i] = v
    · simp [e, h]; omega
    · simp [e]
  · rw [List.drop_of_length_le (by simp; omega), List.drop_of_length_le (by simp; omega)]
    simp [h, eqC]
theorem std_l1 (w : List Int) (hl : w.length ≤ 1048576) (y : List Int) (hy : y.length ≤ 1048576) (k : Nat) (hk : k < w.length) {r : List Int}
    (hn : Ev (fun f => spec_StandardizeWord.l0 f w (y ++ [((rank w k w[k] : Nat) : Int)]) ((k + 1 : Nat) : Int)) r) (d : Nat) :
    ∀ (i n : Nat), i + d = w.length → n + ltC (w.drop i) w[k] + eqC ((w.take k).drop i) w[k] = rank w k w[k] → Ev (fun f => spec_StandardizeWord.l1 f w y k n i) r := by
  have hrk : rank w k w[k] ≤ 2097153 := by
    unfold rank
    have a := ltC_le w w[k]
    have b : eqC (w.take k) w[k] ≤ (w.take k).length := List.countP_le_length
    simp at b; omega
  induction d with
  | zero =>
    intro i n hi h
    rw [List.drop_of_length_le (by omega), List.drop_of_length_le (by simp; omega)] at h
    simp only [ltC, eqC, List.countP_nil] at h
    obtain rfl : n = rank w k w[k] := by omega
    refine Ev.step (fun k => by simp only [spec_StandardizeWord.l1]; rfl) (Ev.ite_false (by omega) (Ev.ite_true (by omega) ?_))
    rw [wr1 (i := k) (by omega)]; exact hn
  | succ d ih =>
    intro i n hi h
    have hlt : i < w.length := by omega
    have hnb : n ≤ 2097153 := by omega
    have hn1 : n < 4611686018427387904 := by omega
    rw [dropc w i hlt, eqC_take_drop w _ k i hlt] at h
    have hc : ltC (w[i] :: w.drop (i + 1)) w[k] = ltC (w.drop (i + 1)) w[k] + (if w[i] < w[k] then 1 else 0) := by
      simp only [ltC, List.countP_cons, decide_eq_true_eq]
    rw [hc] at h
    have hi' : (i : Int) < (w.length : Int) := by omega
    have hk' : (k : Int) < (w.length : Int) := by omega
    refine Ev.step (fun k => by simp only [spec_StandardizeWord.l1]; rfl) (Ev.ite_true hi' (Ev.ite_true (Int.natCast_nonneg _) (Ev.ite_true (Int.natCast_nonneg _) (Ev.ite_true hk' ?_))))
    rw [wr1 (i := i) (by omega), rd_nat w i hlt, rd_nat w k hk]
    by_cases h1 : w[i] < w[k]
    · have h2 : ¬ w[i] = w[k] := by omega
      refine Ev.ite_true h1 ?_
      simp only [spec_l1Bit.f, if_true, Option.bind_some, wr1 (i := n) hn1]
      refine ih (i + 1) (n + 1) (by omega) ?_
      rw [if_pos h1, if_neg (fun c => h2 c.1)] at h
      omega
    · refine Ev.ite_false h1 ?_
      rw [if_neg h1] at h
      by_cases h2 : w[i] = w[k]
      · refine Ev.ite_true h2 ?_
        by_cases h3 : i < k
        · have h3' : (i : Int) < (k : Int) := by omega
          simp only [spec_l1Bit.f, h3', decide_true, if_true, Option.bind_some, wr1 (i := n) hn1]
          refine ih (i + 1) (n + 1) (by omega) ?_
          rw [if_pos ⟨h2, h3⟩] at h
          omega
        · have h3' : ¬ (i : Int) < (k : Int) := by omega
          simp only [spec_l1Bit.f, h3', decide_false, if_false, Bool.false_eq_true, Option.bind_some, wr0 (i := n) hn1]
          refine ih (i + 1) n (by omega) ?_
          rw [if_neg (fun c => h3 c.2)] at h
          omega
      · refine Ev.ite_false h2 ?_
        simp only [spec_l1Bit.f, if_false, Bool.false_eq_true, Option.bind_some, wr0 (i := n) hn1]
        refine ih (i + 1) n (by omega) ?_
        rw [if_neg (fun c => h2 c.1)] at h
        omega
theorem std_l0 (w : List Int) (hw : isW w = true) (hl : w.length ≤ 1048576) (d : Nat) : ∀ (k : Nat), k + d = w.length → Ev (fun f => spec_StandardizeWord.l0 f w (stdL w k) k) (stdL w w.length) := by
  induction d with
  | zero =>
    intro k hk
    obtain rfl : k = w.length := by omega
    refine Ev.step (fun k => by simp only [spec_StandardizeWord.l0]; rfl) (Ev.ite_false (by omega) ?_)
    refine Ev.step (fun k => by simp only [spec_StandardizeWord.j1]; rfl) (Ev.ite_false (by simp) (Ev.now _))
  | succ d ih =>
    intro k hk
    have hlt : k < w.length := by omega
    refine Ev.step (fun k => by simp only [spec_StandardizeWord.l0]; rfl) (Ev.ite_true (by omega) (Ev.bind (specIsW_ev w hl) ?_))
    refine Ev.step (fun k => by simp only [spec_StandardizeWord.j1]; rfl) (Ev.ite_true hw ?_)
    have e : stdL w k ++ [((rank w k w[k] : Nat) : Int)] = stdL w (k + 1) := by
      simp [stdL, List.range_succ, rd_nat w k hlt]
    have := std_l1 w hl (stdL w k) (by simp [stdL]; omega) k hlt (r := stdL w w.length) (by rw [e]; exact ih (k + 1) (by omega)) w.length 0 1 (by omega) (by simp [rank])
    exact this
theorem std_ev (w : List Int) (hw : isW w = true) (hl : w.length ≤ 1048576) : Ev (fun f => spec_StandardizeWord.f f w) (stdL w w.length) := by
  simp only [spec_StandardizeWord.f]
  exact std_l0 w hw hl w.length 0 (by omega)
theorem std_same (w : List Int) (hw : isW w = true) : decide (stdL w w.length = w) = permB w := by
  have hm : ∀ x ∈ w, 1 ≤ x ∧ x ≤ 9 := fun x hx => isW_mem hw hx
  have e : stdL w w.length = w ↔ permP w := by
    constructor
    · intro h
      refine rank_perm hm fun k hk => ?_
      have : (stdL w w.length)[k]? = w[k]? := by rw [h]
      simp [stdL, hk, rd_nat w k hk] at this
      exact this
    · intro h
      apply List.ext_getElem
      · simp [stdL]
      · intro k h1 h2
        simp only [stdL, List.getElem_map, List.getElem_range, rd_nat w k h2]
        exact permP_rank h (fun x hx => (hm x hx).1) k h2
  cases hp : permB w
  · refine decide_eq_false fun h => ?_
    rw [(permB_iff w).2 (e.1 h)] at hp
    cases hp
  · exact decide_eq_true (e.2 ((permB_iff w).1 hp))
/-! Both ways to the inverse. -/
theorem specInv_l0 (w : List Int) (hm : ∀ x ∈ w, 1 ≤ x ∧ x ≤ w.length) (hl : w.length ≤ 1048576) (d : Nat) : ∀ (i : Nat) (y : List Int), i + d = w.length → y.length = w.length → ∃ r, Ev (fun k => spec_InverseOf.l0 k w y i) (r, true) := by
  induction d with
  | zero =>
    intro i y hi hy
    exact ⟨y, Ev.step (fun k => by simp only [spec_InverseOf.l0]; rfl) (Ev.ite_false (by omega) (Ev.now _))⟩
  | succ d ih =>
    intro i y hi hy
    have hlt : i < w.length := by omega
    have hx := hm _ (List.getElem_mem hlt)
    have b0 : 0 ≤ w[i] - 1 := by omega
    have b1 : w[i] - 1 < (y.length : Int) := by omega
    have b2 : (i : Int) < (w.length : Int) := by omega
    have g : rd w (i : Int) = w[i] := rd_nat w i hlt
    obtain ⟨r, hr⟩ := ih (i + 1) (y.set (w[i] - 1).toNat ((i + 1 : Nat) : Int)) (by omega) (by simpa using hy)
    refine ⟨r, Ev.step (fun k => by simp only [spec_InverseOf.l0]; rfl) (Ev.ite_true b2 (Ev.ite_true (Int.natCast_nonneg _) ?_))⟩
    rw [g, wr_in (x := w[i] - 1) (by omega) (by omega), wr1 (i := i) (by omega)]
    exact Ev.ite_true b0 (Ev.ite_true b1 hr)
theorem implInv_l0 (w : List Int) (hm : ∀ x ∈ w, 1 ≤ x ∧ x ≤ w.length) (hl : w.length ≤ 1048576) (d : Nat) : ∀ (i : Nat) (y : List Int), i + d = w.length → y.length = w.length → ∃ r, Ev (fun k => impl_InverseOf.l0 k y w w.length i) (r, true) := by
  induction d with
  | zero =>
    intro i y hi hy
    exact ⟨y, Ev.step (fun k => by simp only [impl_InverseOf.l0]; rfl) (Ev.ite_false (by omega) (Ev.now _))⟩
  | succ d ih =>
    intro i y hi hy
    have hlt : i < w.length := by omega
    have hx := hm _ (List.getElem_mem hlt)
    have b0 : 0 ≤ w[i] - 1 := by omega
    have b1 : w[i] - 1 < (y.length : Int) := by omega
    have b2 : (i : Int) < (w.length : Int) := by omega
    have g : rd w (i : Int) = w[i] := rd_nat w i hlt
    obtain ⟨r, hr⟩ := ih (i + 1) (y.set (w[i] - 1).toNat ((i + 1 : Nat) : Int)) (by omega) (by simpa using hy)
    refine ⟨r, Ev.step (fun k => by simp only [impl_InverseOf.l0]; rfl) (Ev.ite_true b2 (Ev.ite_true (Int.natCast_nonneg _) (Ev.ite_true b2 ?_)))⟩
    rw [g, wr_in (x := w[i] - 1) (by omega) (by omega), wr1 (i := i) (by omega)]
    exact Ev.ite_true b0 (Ev.ite_true b1 hr)
def okInv (w : List Int) : Bool := isW w && permB w
theorem specInv_ev (w : List Int) (hl : w.length ≤ 1048576) : ∃ r, Ev (fun k => spec_InverseOf.f k w) (r, okInv w) := by
  simp only [spec_InverseOf.f]
  by_cases h : isW w = true
  · have hs := std_same w h
    by_cases hp : permB w = true
    · have hm : ∀ x ∈ w, 1 ≤ x ∧ x ≤ w.length := fun x hx => ⟨(isW_mem h hx).1, permP_top ((permB_iff w).1 hp) x hx⟩
      obtain ⟨r, hr⟩ := specInv_l0 w hm hl w.length 0 (List.replicate ((w.length : Int) : Int).toNat 0) (by omega) (by simp)
      refine ⟨r, Ev.bind (specIsW_ev w hl) (Ev.ite_true h (Ev.bind (std_ev w h hl) (Ev.bind (l2Same_ev _ w (by simpa [stdL] using hl)) ?_)))⟩
      have ok : okInv w = true := by simp [okInv, h, hp]
      rw [hs, hp, ok]
      exact Ev.step (fun k => by simp only [spec_InverseOf.j0]; rfl) (Ev.ite_false (by simp) (Ev.ite_true (Int.natCast_nonneg _) (Ev.ite_true (by omega) hr)))
    · refine ⟨[], Ev.bind (specIsW_ev w hl) (Ev.ite_true h (Ev.bind (std_ev w h hl) (Ev.bind (l2Same_ev _ w (by simpa [stdL] using hl)) ?_)))⟩
      have ok : okInv w = false := by simp [okInv, hp]
      rw [hs, Bool.eq_false_iff.2 hp, ok]
      exact Ev.step (fun k => by simp only [spec_InverseOf.j0]; rfl) (Ev.ite_true (by simp) (Ev.now _))
  · refine ⟨[], Ev.bind (specIsW_ev w hl) (Ev.ite_false h ?_)⟩
    have ok : okInv w = false := by simp [okInv, h]
    rw [ok]
    exact Ev.step (fun k => by simp only [spec_InverseOf.j0]; rfl) (Ev.ite_true (by simp) (Ev.now _))
theorem implInv_ev (w : List Int) (hl : w.length ≤ 1048576) : ∃ r, Ev (fun k => impl_InverseOf.f k w) (r, okInv w) := by
  simp only [impl_InverseOf.f]
  by_cases h : isW w = true
  · by_cases hp : permB w = true
    · have hm : ∀ x ∈ w, 1 ≤ x ∧ x ≤ w.length := fun x hx => ⟨(isW_mem h hx).1, permP_top ((permB_iff w).1 hp) x hx⟩
      obtain ⟨r, hr⟩ := implInv_l0 w hm hl w.length 0 (List.replicate ((w.length : Int) : Int).toNat 0) (by omega) (by simp)
      refine ⟨r, Ev.bind (implIsW_ev w hl) (Ev.ite_true h (Ev.bind (areOnce_ev w hl) ?_))⟩
      have ok : okInv w = true := by simp [okInv, h, hp]
      rw [hp, ok]
      exact Ev.step (fun k => by simp only [impl_InverseOf.j0]; rfl) (Ev.ite_false (by simp) (Ev.ite_true (Int.natCast_nonneg _) (Ev.ite_true (by omega) hr)))
    · refine ⟨[], Ev.bind (implIsW_ev w hl) (Ev.ite_true h (Ev.bind (areOnce_ev w hl) ?_))⟩
      have ok : okInv w = false := by simp [okInv, hp]
      rw [Bool.eq_false_iff.2 hp, ok]
      exact Ev.step (fun k => by simp only [impl_InverseOf.j0]; rfl) (Ev.ite_true (by simp) (Ev.now _))
  · refine ⟨[], Ev.bind (implIsW_ev w hl) (Ev.ite_false h ?_)⟩
    have ok : okInv w = false := by simp [okInv, h]
    rw [ok]
    exact Ev.step (fun k => by simp only [impl_InverseOf.j0]; rfl) (Ev.ite_true (by simp) (Ev.now _))

/-! The draws: the cursor goes on, and what it yields lies in its bounds. -/
def cur (b : List Int) (i : Int) : Prop := 0 ≤ i ∧ b.length ≤ 1048576
theorem and_bound (x : Int) (m : Nat) (hm : m < 9223372036854775808) : 0 ≤ Go.bits .and .i64 x (m : Int) ∧ Go.bits .and .i64 x (m : Int) ≤ m := by
  have e : Go.bits .and .i64 x (m : Int) = IntKind.i64.wrap ((BitVec.ofInt 64 x &&& BitVec.ofInt 64 (m : Int)).toNat : Int) := rfl
  have h1 : (BitVec.ofInt 64 x &&& BitVec.ofInt 64 (m : Int)).toNat ≤ m := by
    rw [BitVec.toNat_and]
    refine Nat.le_trans Nat.and_le_right ?_
    rw [BitVec.toNat_ofInt]
    omega
  rw [e, IntKind.wrap_i64]
  generalize (BitVec.ofInt 64 x &&& BitVec.ofInt 64 (m : Int)).toNat = z at h1
  omega
theorem byte_ev (b : List Int) (i h : Int) (hc : cur b i) : ∃ x i' h', spec_l1Byte.f b i h = some (x, i', h') ∧ (0 ≤ x ∧ x ≤ 255) ∧ cur b i' := by
  unfold spec_l1Byte.f
  generalize wrap64 ((wrap64 (h * 6364136223846793005)) + 1442695040888963407) = z
  have hb := fun x => and_bound x 255 (by decide)
  by_cases c : i < (b.length : Int)
  · rw [if_pos c, if_pos hc.1]
    refine ⟨_, _, _, rfl, hb _, ?_, hc.2⟩
    have := hc.1; have := hc.2; unfold wrap64; omega
  · rw [if_neg c]
    exact ⟨_, _, _, rfl, hb _, hc⟩
theorem below_ev (b : List Int) (i h n : Int) (hc : cur b i) (hn : n ≤ 256) : ∃ x i' h', spec_l1Below.f b i h n = some (x, i', h') ∧ (0 ≤ x ∧ (0 < n → x < n) ∧ x ≤ 255) ∧ cur b i' := by
  unfold spec_l1Below.f
  by_cases c : n ≤ 0
  · rw [if_pos c]
    exact ⟨0, i, h, rfl, by omega, hc⟩
  · rw [if_neg c, if_pos hn]
    obtain ⟨x, i', h', e, hx, hc'⟩ := byte_ev b i h hc
    rw [e]
    simp only [Option.bind_some]
    rw [if_neg (by omega)]
    have h1 := Int.tmod_lt_of_pos x (show 0 < n by omega)
    have h2 := Int.tmod_nonneg n hx.1
    refine ⟨_, _, _, rfl, ⟨h2, fun _ => h1, ?_⟩, hc'⟩
    omega
theorem once_ev (b : List Int) (i h n : Int) (hc : cur b i) (hn : n ≤ 256) : ∃ x i' h', spec_l1Once.f b i h n = some (x, i', h') ∧ cur b i' := by
  obtain ⟨x, i', h', e, _, hc'⟩ := below_ev b i h n hc hn
  unfold spec_l1Once.f
  rw [e]
  exact ⟨_, _, _, rfl, hc'⟩
theorem pickInt_ev (b : List Int) (i h : Int) (l : List Int) (hc : cur b i) (h0 : 0 < l.length) (hn : l.length ≤ 256) : ∃ x i' h', spec_l1PickInt.f b i h l = some (x, i', h') ∧ x ∈ l ∧ cur b i' := by
  obtain ⟨x, i', h', e, hx, hc'⟩ := below_ev b i h l.length hc (by omega)
  unfold spec_l1PickInt.f
  rw [e]
  simp only [Option.bind_some]
  have hlt : x < (l.length : Int) := hx.2.1 (by omega)
  rw [if_pos hx.1, if_pos hlt]
  refine ⟨_, _, _, rfl, ?_, hc'⟩
  obtain ⟨m, rfl⟩ : ∃ m : Nat, x = (m : Int) := ⟨x.toNat, by omega⟩
  rw [rd_nat l m (by omega)]
  exact List.getElem_mem _
theorem new_l0 (l : List Int) (hl : l.length ≤ 1048576) (d : Nat) : ∀ (i : Nat) (x : Int), i + d = l.length → ∃ h, Ev (fun k => spec_l1New.l0 k l x i) (l, 0, h) := by
  induction d with
  | zero =>
    intro i x hi
    exact ⟨x, Ev.step (fun k => by simp only [spec_l1New.l0]; rfl) (Ev.ite_false (by omega) (Ev.now _))⟩
  | succ d ih =>
    intro i x hi
    obtain ⟨h, e⟩ := ih (i + 1) (Go.bits .and .i64 (wrap64 ((wrap64 ((wrap64 (x * 131)) + (wrap64 (rd l i)))) + 7)) 1073741823) (by omega)
    by_cases c : (i : Int) < 4000
    · refine ⟨h, Ev.step (fun k => by simp only [spec_l1New.l0]; rfl) (Ev.ite_true (by omega) (Ev.ite_true c (Ev.ite_true (Int.natCast_nonneg _) ?_)))⟩
      rw [wr1 (by omega)]
      exact e
    · exact ⟨x, Ev.step (fun k => by simp only [spec_l1New.l0]; rfl) (Ev.ite_true (by omega) (Ev.ite_false c (Ev.now _)))⟩
theorem new_ev (l : List Int) (hl : l.length ≤ 1048576) : ∃ h, Ev (fun k => spec_l1New.f k l) (l, 0, h) := by
  simp only [spec_l1New.f]
  exact new_l0 l hl l.length 0 _ (by omega)
theorem cur0 (l : List Int) (hl : l.length ≤ 1048576) : cur l 0 := ⟨by omega, hl⟩
theorem rdL_mem (l : List (List Int)) (x : Int) (h0 : 0 ≤ x) (h : x < (l.length : Int)) : rd_L2 l x ∈ l := by
  obtain ⟨m, rfl⟩ : ∃ m : Nat, x = (m : Int) := ⟨x.toNat, by omega⟩
  have hm : m < l.length := by omega
  have e : rd_L2 l (m : Int) = l[m] := by simp [rd_L2, List.getD_eq_getElem?_getD, hm]
  rw [e]; exact List.getElem_mem _
theorem allparts : (List.range 10).all (fun m => (List.range 10).all fun n => !decide (n ≤ m) || match spec_l2All.f 300 n m with
  | some x => decide (0 < x.length ∧ x.length ≤ 100) && x.all (fun p => isP p && decide (p.sum = n))
  | none => false) = true := by decide +kernel
theorem all_ev {n m : Int} (h0 : 0 ≤ n) (h : n ≤ m) (h9 : m ≤ 9) : ∃ x : List (List Int), Ev (fun k => spec_l2All.f k n m) x ∧ 0 < x.length ∧ x.length ≤ 100 ∧ ∀ p ∈ x, isP p = true ∧ p.sum = n := by
  obtain ⟨a, rfl⟩ : ∃ a : Nat, n = (a : Int) := ⟨n.toNat, by omega⟩
  obtain ⟨b, rfl⟩ : ∃ b : Nat, m = (b : Int) := ⟨m.toNat, by omega⟩
  have e := of_all (of_all allparts (x := b) (List.mem_range.2 (by omega))) (x := a) (List.mem_range.2 (by omega))
  rw [decide_eq_true (show a ≤ b by omega), Bool.not_true, Bool.false_or] at e
  split at e
  · rename_i x hx
    simp only [Bool.and_eq_true, decide_eq_true_eq, List.all_eq_true] at e
    exact ⟨x, Ev.of (spec_l2All.mono _ _) hx, e.1.1, e.1.2, e.2⟩
  · cases e
theorem draw_ev (b : List Int) (i h m : Int) (hc : cur b i) (h0 : 0 ≤ m) (h9 : m ≤ 9) : ∃ p i' h', Ev (fun k => spec_l2Draw.f k b i h m) (p, i', h') ∧ (isP p = true ∧ p.sum ≤ m) ∧ cur b i' := by
  obtain ⟨n, i1, h1, e1, hn, hc1⟩ := below_ev b i h (m + 1) hc (by omega)
  obtain ⟨x, e2, hx0, hxl, hx⟩ := all_ev (n := n) (m := m) hn.1 (by have := hn.2.1 (by omega); omega) h9
  obtain ⟨j, i2, h2, e3, hj, hc2⟩ := below_ev b i1 h1 x.length hc1 (by omega)
  have hlt : j < (x.length : Int) := hj.2.1 (by omega)
  have hm := hx _ (rdL_mem x j hj.1 hlt)
  refine ⟨rd_L2 x j, i2, h2, ?_, ⟨hm.1, by have := hn.2.1 (by omega); omega⟩, hc2⟩
  simp only [spec_l2Draw.f, wr_in (x := m + 1) (by omega) (by omega), e1, Option.bind_some]
  refine Ev.bind e2 ?_
  simp only [e3, Option.bind_some]
  exact Ev.ite_true hj.1 (Ev.ite_true hlt (Ev.now _))
theorem bent_ev (b : List Int) (i h m : Int) (hc : cur b i) (h0 : 0 ≤ m) (h9 : m ≤ 9) : ∃ (p : List Int) (i' h' : Int), Ev (fun k => spec_l2Bent.f k b i h m) (p, i', h') ∧ p.length ≤ 20 ∧ cur b i' := by
  obtain ⟨p, i1, h1, e1, hp, hc1⟩ := draw_ev b i h m hc h0 h9
  have hl := isP_length hp.1
  obtain ⟨z, i2, h2, e2, _, hc2⟩ := below_ev b i1 h1 14 hc1 (by omega)
  simp only [spec_l2Bent.f, Option.bind_some]
  by_cases c0 : z = 0
  · obtain ⟨y, i3, h3, e3, _, hc3⟩ := pickInt_ev b i2 h2 [0, 5, (-1), 1, 9223372036854775807] hc2 (by simp) (by simp)
    refine ⟨p ++ [y], i3, h3, Ev.bind e1 ?_, by simp; omega, hc3⟩
    simp only [e2, Option.bind_some]
    refine Ev.ite_true c0 ?_
    simp only [e3, Option.bind_some]
    exact Ev.ite_true (by omega) (Ev.now _)
  · by_cases c1 : z = 1
    · refine ⟨p ++ [1, 1, 1, 1, 1, 1], i2, h2, Ev.bind e1 ?_, by simp; omega, hc2⟩
      simp only [e2, Option.bind_some]
      exact Ev.ite_false c0 (Ev.ite_true c1 (Ev.ite_true (by simp; omega) (Ev.now _)))
    · refine ⟨p, i2, h2, Ev.bind e1 ?_, by omega, hc2⟩
      simp only [e2, Option.bind_some]
      exact Ev.ite_false c0 (Ev.ite_false c1 (Ev.now _))

/-! The draws of words. -/
theorem l8Draw_l0 (b : List Int) (m : Int) (hm : 1 ≤ m ∧ m ≤ 200) (d : Nat) : ∀ (i h : Int) (x : List Int) (n : Int) (j : Nat), cur b i → n ≤ 20 → (j : Int) + d = max n j → x.length ≤ j → j ≤ 20 → (∀ y ∈ x, 1 ≤ y ∧ y ≤ m) →
    ∃ (r : List Int) (i' h' : Int), Ev (fun k => spec_l8Draw.l0 k m x n j b i h) (r, i', h') ∧ (r.length : Int) ≤ max n j ∧ (∀ y ∈ r, 1 ≤ y ∧ y ≤ m) ∧ cur b i' := by
  induction d with
  | zero =>
    intro i h x n j hc hn hj hx hj20 hy
    exact ⟨x, i, h, Ev.step (fun k => by simp only [spec_l8Draw.l0]; rfl) (Ev.ite_false (by omega) (Ev.now _)), by omega, hy, hc⟩
  | succ d ih =>
    intro i h x n j hc hn hj hx hj20 hy
    have hlt : (j : Int) < n := by omega
    obtain ⟨z, i1, h1, e1, hz, hc1⟩ := below_ev b i h m hc (by omega)
    have hzm := hz.2.1 (by omega)
    have hw : wrap64 (1 + z) = 1 + z := wr_in (by omega) (by omega)
    obtain ⟨r, i2, h2, e2, hr, hry, hc2⟩ := ih i1 h1 (x ++ [1 + z]) n (j + 1) hc1 hn (by omega) (by simp; omega) (by omega) (by
      intro y hyy
      rcases List.mem_append.1 hyy with hyy | hyy
      · exact hy y hyy
      · rw [List.mem_singleton.1 hyy]; omega)
    refine ⟨r, i2, h2, Ev.step (fun k => by simp only [spec_l8Draw.l0]; rfl) (Ev.ite_true hlt ?_), by omega, hry, hc2⟩
    simp only [e1, Option.bind_some, hw]
    rw [wr1 (by omega)]
    exact Ev.ite_true (by omega) e2
theorem l8Draw_ev (b : List Int) (i h n m : Int) (hc : cur b i) (h0 : 0 ≤ n ∧ n ≤ 9) (hm : 1 ≤ m ∧ m ≤ 200) : ∃ (r : List Int) (i' h' : Int), Ev (fun k => spec_l8Draw.f k b i h n m) (r, i', h') ∧ (r.length : Int) ≤ n ∧ (∀ y ∈ r, 1 ≤ y ∧ y ≤ m) ∧ cur b i' := by
  obtain ⟨z, i1, h1, e1, hz, hc1⟩ := below_ev b i h (n + 1) hc (by omega)
  have hzm := hz.2.1 (by omega)
  obtain ⟨r, i2, h2, e2, hr, hry, hc2⟩ := l8Draw_l0 b m hm z.toNat i1 h1 [] z 0 hc1 (by omega) (by omega) (by simp) (by omega) (by simp)
  refine ⟨r, i2, h2, ?_, by omega, hry, hc2⟩
  simp only [spec_l8Draw.f, wr_in (x := n + 1) (by omega) (by omega), e1, Option.bind_some]
  exact e2
theorem stdL_len (w : List Int) (n : Nat) : (stdL w n).length = n := by simp [stdL]
theorem std_no (w : List Int) (hw : ¬ isW w = true) (hl : w.length ≤ 1048576) : Ev (fun f => spec_StandardizeWord.f f w) [] := by
  simp only [spec_StandardizeWord.f]
  refine Ev.step (fun k => by simp only [spec_StandardizeWord.l0]; rfl) ?_
  by_cases h : (0 : Int) < (w.length : Int)
  · refine Ev.ite_true h (Ev.bind (specIsW_ev w hl) ?_)
    rw [Bool.eq_false_iff.2 hw]
    exact Ev.step (fun k => by simp only [spec_StandardizeWord.j1]; rfl) (Ev.ite_false (by simp) (Ev.now _))
  · exact Ev.ite_false h (Ev.step (fun k => by simp only [spec_StandardizeWord.j1]; rfl) (Ev.ite_false (by simp) (Ev.now _)))
theorem std_any (w : List Int) (hl : w.length ≤ 1048576) : ∃ r : List Int, r.length ≤ w.length ∧ Ev (fun f => spec_StandardizeWord.f f w) r := by
  by_cases hw : isW w = true
  · exact ⟨_, by rw [stdL_len]; omega, std_ev w hw hl⟩
  · exact ⟨[], by simp, std_no w hw hl⟩
theorem l8Word_ev (b : List Int) (i h : Int) (hc : cur b i) : ∃ (r : List Int) (i' h' : Int), Ev (fun k => spec_l8Word.f k b i h) (r, i', h') ∧ r.length ≤ 7 ∧ cur b i' := by
  obtain ⟨z, i1, h1, e1, hz, hc1⟩ := below_ev b i h 4 hc (by omega)
  have hz4 := hz.2.1 (by omega)
  obtain ⟨r, i2, h2, e2, hr, _, hc2⟩ := l8Draw_ev b i1 h1 7 (2 + z) hc1 (by omega) (by omega)
  obtain ⟨o, i3, h3, e3, hc3⟩ := once_ev b i2 h2 3 hc2 (by omega)
  obtain ⟨s, hs, es⟩ := std_any r (by omega)
  simp only [spec_l8Word.f, e1, Option.bind_some, wr_in (x := 2 + z) (by omega) (by omega)]
  cases o with
  | true =>
    refine ⟨s, i3, h3, Ev.bind e2 ?_, by omega, hc3⟩
    simp only [e3, Option.bind_some]
    exact Ev.ite_true (by trivial) (Ev.bind es (Ev.now _))
  | false =>
    refine ⟨r, i3, h3, Ev.bind e2 ?_, by omega, hc3⟩
    simp only [e3, Option.bind_some]
    exact Ev.ite_false (by simp) (Ev.now _)
theorem l8Bent_l0 (b : List Int) (i h : Int) (d : Nat) : ∀ (x : List Int), x.length + d = max x.length 10 → ∃ r : List Int, Ev (fun k => spec_l8Bent.l0 k x b i h) (r, i, h) ∧ r.length ≤ max x.length 10 := by
  induction d with
  | zero =>
    intro x hx
    exact ⟨x, Ev.step (fun k => by simp only [spec_l8Bent.l0]; rfl) (Ev.ite_false (by omega) (Ev.now _)), by omega⟩
  | succ d ih =>
    intro x hx
    obtain ⟨r, e, hr⟩ := ih (x ++ [1]) (by simp; omega)
    refine ⟨r, Ev.step (fun k => by simp only [spec_l8Bent.l0]; rfl) (Ev.ite_true (by omega) (Ev.ite_true (by omega) e)), ?_⟩
    simp at hr; omega
theorem l8Bent_ev (b : List Int) (i h : Int) (hc : cur b i) : ∃ (r : List Int) (i' h' : Int), Ev (fun k => spec_l8Bent.f k b i h) (r, i', h') ∧ r.length ≤ 10 ∧ cur b i' := by
  obtain ⟨w, i1, h1, e1, hw, hc1⟩ := l8Word_ev b i h hc
  obtain ⟨z, i2, h2, e2, _, hc2⟩ := below_ev b i1 h1 14 hc1 (by omega)
  simp only [spec_l8Bent.f]
  by_cases c0 : z = 0
  · obtain ⟨y, i3, h3, e3, _, hc3⟩ := pickInt_ev b i2 h2 [0, 10, (-1), 9] hc2 (by simp) (by simp)
    refine ⟨w ++ [y], i3, h3, Ev.bind e1 ?_, by simp; omega, hc3⟩
    simp only [e2, Option.bind_some]
    refine Ev.ite_true c0 ?_
    simp only [e3, Option.bind_some]
    exact Ev.ite_true (by omega) (Ev.now _)
  · by_cases c1 : z = 1
    · obtain ⟨r, e, hr⟩ := l8Bent_l0 b i2 h2 (10 - w.length) w (by omega)
      refine ⟨r, i2, h2, Ev.bind e1 ?_, by omega, hc2⟩
      simp only [e2, Option.bind_some]
      exact Ev.ite_false c0 (Ev.ite_true c1 e)
    · refine ⟨w, i2, h2, Ev.bind e1 ?_, by omega, hc2⟩
      simp only [e2, Option.bind_some]
      exact Ev.ite_false c0 (Ev.ite_false c1 (Ev.now _))

theorem sameInts_l0 (a b : List Int) (hl : a.length ≤ 1048576) (hab : a.length = b.length) (d : Nat) : ∀ (i k : Nat), i + d = a.length → a.take i = b.take i → d < k → laws_sameInts.l0 k a b i = some (decide (a = b)) := by
  induction d with
  | zero =>
    intro i k hi ht hk
    obtain ⟨k, rfl⟩ : ∃ m, k = m + 1 := ⟨k - 1, by omega⟩
    simp only [laws_sameInts.l0]
    rw [if_neg (by omega)]
    obtain rfl : i = a.length := by omega
    rw [List.take_of_length_le (by omega), List.take_of_length_le (by omega)] at ht
    rw [decide_eq_true ht]
  | succ d ih =>
    intro i k hi ht hk
    obtain ⟨k, rfl⟩ : ∃ m, k = m + 1 := ⟨k - 1, by omega⟩
    have hlt : i < a.length := by omega
    have hlt' : i < b.length := by omega
    simp only [laws_sameInts.l0]
    rw [if_pos (by omega), if_pos (by omega), if_pos (by omega), wr1 (by omega), rd_nat a i hlt, rd_nat b i hlt']
    by_cases h : a[i] = b[i]
    · rw [if_pos h]
      refine ih (i + 1) k (by omega) ?_ (by omega)
      rw [List.take_succ_eq_append_getElem hlt, List.take_succ_eq_append_getElem hlt', ht, h]
    · rw [if_neg h, decide_eq_false]
      intro e
      subst e
      exact h rfl
theorem sameInts_ev (a b : List Int) (hl : a.length ≤ 1048576) : Ev (fun k => laws_sameInts.f k a b) (decide (a = b)) := by
  refine ⟨a.length + 1, fun k hk => ?_⟩
  show laws_sameInts.f k a b = _
  unfold laws_sameInts.f
  by_cases h : (a.length : Int) = (b.length : Int)
  · rw [if_pos h]
    exact sameInts_l0 a b hl (by omega) a.length 0 k (by omega) (by simp) (by omega)
  · rw [if_neg h, decide_eq_false]
    intro e
    subst e
    exact h rfl
theorem sameInts_self (a : List Int) (hl : a.length ≤ 1048576) : Ev (fun k => laws_sameInts.f k a a) true := by
  have h := sameInts_ev a a hl
  rwa [decide_eq_true rfl] at h

theorem sameInts_at (a b : List Int) (hl : a.length ≤ 1048576) (k : Nat) (hk : a.length + 1 ≤ k) : laws_sameInts.f k a b = some (decide (a = b)) := by
  unfold laws_sameInts.f
  by_cases h : (a.length : Int) = (b.length : Int)
  · rw [if_pos h]
    exact sameInts_l0 a b hl (by omega) a.length 0 k (by omega) (by simp) (by omega)
  · rw [if_neg h, decide_eq_false]
    intro e
    subst e
    exact h rfl

theorem parts_Class : allP.all (fun p => both (spec_ClassSize.f 100 p) (impl_ClassSize.f 100 p)) = true := by decide +kernel
theorem same_Class (l : List Int) (hl : l.length ≤ 1048576) : ∃ r, Ev (fun k => spec_ClassSize.f k l) r ∧ Ev (fun k => impl_ClassSize.f k l) r := by
  by_cases h : isP l = true
  · exact both_ev (spec_ClassSize.mono l) (impl_ClassSize.mono l) (of_all parts_Class (mem_allP h))
  · refine ⟨0, ?_, ?_⟩
    · simp only [spec_ClassSize.f]
      exact Ev.bind (specIsP_ev l hl) (Ev.ite_false h (Ev.now _))
    · simp only [impl_ClassSize.f]
      exact Ev.bind (implIsP_ev l hl) (Ev.ite_false h (Ev.now _))
theorem parts_Cent : allP.all (fun p => both (spec_CentralizerSize.f 100 p) (impl_CentralizerSize.f 100 p)) = true := by decide +kernel
theorem same_Cent (l : List Int) (hl : l.length ≤ 1048576) : ∃ r, Ev (fun k => spec_CentralizerSize.f k l) r ∧ Ev (fun k => impl_CentralizerSize.f k l) r := by
  by_cases h : isP l = true
  · exact both_ev (spec_CentralizerSize.mono l) (impl_CentralizerSize.mono l) (of_all parts_Cent (mem_allP h))
  · refine ⟨0, ?_, ?_⟩
    · simp only [spec_CentralizerSize.f]
      exact Ev.bind (specIsP_ev l hl) (Ev.ite_false h (Ev.now _))
    · simp only [impl_CentralizerSize.f]
      exact Ev.bind (implIsP_ev l hl) (Ev.ite_false h (Ev.now _))
theorem kron_loop_Kron (p q u : List Int) (hp : isP p = true) (hq : isP q = true) (hu : isP u = true) (hlp : p.length ≤ 1048576) (hlq : q.length ≤ 1048576) (hlu : u.length ≤ 1048576) (e : p.sum = q.sum) (e' : p.sum = u.sum) (x : List (List Int)) (hx : ∀ s ∈ x, isP s = true ∧ s.sum = p.sum) (hxl : x.length ≤ 100) (d : Nat) : ∀ (i : Nat) (s : Int), i + d = x.length →
    ∃ r : Int, Ev (fun k => spec_KroneckerOf.l0 k p q u s x i) r ∧ Ev (fun k => impl_classSum.l1 k [p, q, u] p.sum s x x.length i) r := by
  have hL : ∀ y ∈ [p, q, u], y.length ≤ 1048576 := by simp [hlp, hlq, hlu]
  have hlen : [p, q, u].length ≤ 10 := by simp
  have hs := psum hp
  induction d with
  | zero =>
    intro i s hi
    obtain ⟨f, f0, f1, f2⟩ := factorial_ev (n := p.sum) (by omega)
    obtain rfl : i = x.length := by omega
    refine ⟨wrap64 (Int.tdiv s f), ?_, cs1_end hL hlen f2 f0⟩
    refine Ev.step (fun k => by simp only [spec_KroneckerOf.l0]; rfl) ?_
    exact Ev.ite_false (by omega) (Ev.bind (specL2_ev hp) (Ev.bind f1 (Ev.ite_false f0 (Ev.now _))))
  | succ d ih =>
    intro i s hi
    have hlt : i < x.length := by omega
    have hi1 : i < 1000 := by omega
    obtain ⟨hxp, hxs⟩ := hx _ (List.getElem_mem hlt)
    obtain ⟨c, c1, c2⟩ := class_ev hxp
    obtain ⟨a, a1, a2⟩ := char_ev x[i] p hp hxp (by omega)
    obtain ⟨b, b1, b2⟩ := char_ev x[i] q hq hxp (by omega)
    obtain ⟨f, f1, f2⟩ := char_ev x[i] u hu hxp (by omega)
    obtain ⟨r, r1, r2⟩ := ih (i + 1) (wrap64 (s + wrap64 (wrap64 (wrap64 (c * a) * b) * f))) (by omega)
    have w1 : wrap64 ((i : Int) + 1) = ((i + 1 : Nat) : Int) := wr1 (by omega)
    refine ⟨r, ?_, ?_⟩
    · refine Ev.step (fun k => by simp only [spec_KroneckerOf.l0]; rfl) ?_
      rw [w1, rdL_nat x i hlt]
      exact Ev.ite_true (by omega) (Ev.ite_true (Int.natCast_nonneg _) (Ev.bind c1 (Ev.bind a1 (Ev.bind b1 (Ev.bind f1 r1)))))
    · refine cs1_step hL hlen hlt c2 ?_
      refine cs2_step hL hlen (j := 0) (by simp) a2 ?_
      refine cs2_step hL hlen (j := 1) (by simp) b2 ?_
      refine cs2_step hL hlen (j := 2) (by simp) f2 ?_
      exact cs2_end hL hlen hi1 r2
theorem same_Kron (p q u : List Int) (hlp : p.length ≤ 1048576) (hlq : q.length ≤ 1048576) (hlu : u.length ≤ 1048576) : ∃ r : Int, Ev (fun k => spec_KroneckerOf.f k p q u) r ∧ Ev (fun k => impl_KroneckerOf.f k p q u) r := by
  have hL : ∀ y ∈ [p, q, u], y.length ≤ 1048576 := by simp [hlp, hlq, hlu]
  have hlen : [p, q, u].length ≤ 10 := by simp
  have fp := fine21_ev p hlp
  have fq := fine21_ev q hlq
  have fu := fine21_ev u hlu
  by_cases g : good (szB p) p ∧ good (szB p) q ∧ good (szB p) u
  · obtain ⟨gp, gq, gu⟩ := g
    obtain ⟨p1, p2, p3⟩ := good_of gp
    obtain ⟨q1, q2, q3⟩ := good_of gq
    obtain ⟨u1, u2, u3⟩ := good_of gu
    have hs := psum p1
    obtain ⟨x, x1, x2, hxl, hx⟩ := partsOf (n := p.sum) (by omega)
    obtain ⟨r, r1, r2⟩ := kron_loop_Kron p q u p1 q1 u1 hlp hlq hlu (by omega) (by omega) x hx hxl x.length 0 0 (by omega)
    refine ⟨r, ?_, ?_⟩
    · simp only [spec_KroneckerOf.f]
      refine Ev.bind fp (Ev.ite_true (by simp [p1, p2]) (Ev.bind fq (Ev.ite_true (by simp [q1, q2]) (Ev.bind fu (Ev.ite_true (by simp [u1, u2]) (Ev.bind (specL2_ev p1) (Ev.bind (specL2_ev q1) (Ev.ite_true (by omega) (Ev.bind (specL2_ev p1) (Ev.bind (specL2_ev u1) ?_))))))))))
      have hb : (p.sum != u.sum) = false := by simp; omega
      rw [hb]
      refine Ev.step (fun k => by simp only [spec_KroneckerOf.j0]; rfl) ?_
      exact Ev.ite_false (by simp) (Ev.bind (specL2_ev p1) (Ev.bind x1 r1))
    · simp only [impl_KroneckerOf.f]
      refine Ev.bind (cs_ev hL hlen (by simp) ?_) (Ev.now _)
      refine cs0_step hL hlen (i := 0) (by simp) gp ?_
      refine cs0_step hL hlen (i := 1) (by simp) gq ?_
      refine cs0_step hL hlen (i := 2) (by simp) gu ?_
      rw [← p3]
      exact cs0_end hL hlen x2 r2
  · refine ⟨0, ?_, ?_⟩
    · simp only [spec_KroneckerOf.f]
      have no : Ev (fun k => spec_KroneckerOf.j0 k p q u true) 0 := by
        refine Ev.step (fun k => by simp only [spec_KroneckerOf.j0]; rfl) ?_
        exact Ev.ite_true (by trivial) (Ev.now _)
      refine Ev.bind fp ?_
      by_cases hp : isP p = true ∧ p.sum ≤ 6
      · refine Ev.ite_true (by simp [hp]) (Ev.bind fq ?_)
        by_cases hq : isP q = true ∧ q.sum ≤ 6
        · refine Ev.ite_true (by simp [hq]) (Ev.bind fu ?_)
          by_cases hu : isP u = true ∧ u.sum ≤ 6
          · refine Ev.ite_true (by simp [hu]) (Ev.bind (specL2_ev hp.1) (Ev.bind (specL2_ev hq.1) ?_))
            by_cases e : p.sum = q.sum
            · refine Ev.ite_true e (Ev.bind (specL2_ev hp.1) (Ev.bind (specL2_ev hu.1) ?_))
              have hb : (p.sum != u.sum) = true := by
                simp only [bne_iff_ne, ne_eq]
                intro e'
                have hz : szB p = p.sum := if_pos hp.1
                exact g ⟨good_iff hp.1 hp.2 hz.symm, good_iff hq.1 hq.2 (by omega), good_iff hu.1 hu.2 (by omega)⟩
              rw [hb]; exact no
            · exact Ev.ite_false e no
          · exact Ev.ite_false (by simpa using hu) no
        · exact Ev.ite_false (by simpa using hq) no
      · exact Ev.ite_false (by simpa using hp) no
    · simp only [impl_KroneckerOf.f]
      refine Ev.bind (cs_ev hL hlen (by simp) ?_) (Ev.now _)
      by_cases gp : good (szB p) p
      · refine cs0_step hL hlen (i := 0) (by simp) gp ?_
        by_cases gq : good (szB p) q
        · refine cs0_step hL hlen (i := 1) (by simp) gq ?_
          exact cs0_no hL hlen (i := 2) (by simp) (fun gu => g ⟨gp, gq, gu⟩)
        · exact cs0_no hL hlen (i := 1) (by simp) gq
      · exact cs0_no hL hlen (i := 0) (by simp) gp
theorem pair_loop_Pair (p q : List Int) (hp : isP p = true) (hq : isP q = true) (hlp : p.length ≤ 1048576) (hlq : q.length ≤ 1048576) (e : p.sum = q.sum) (x : List (List Int)) (hx : ∀ s ∈ x, isP s = true ∧ s.sum = p.sum) (hxl : x.length ≤ 100) (d : Nat) : ∀ (i : Nat) (s : Int), i + d = x.length →
    ∃ r : Int, Ev (fun k => spec_PairingOf.l0 k p q s x i) r ∧ Ev (fun k => impl_classSum.l1 k [p, q] p.sum s x x.length i) r := by
  have hL : ∀ y ∈ [p, q], y.length ≤ 1048576 := by simp [hlp, hlq]
  have hlen : [p, q].length ≤ 10 := by simp
  have hs := psum hp
  induction d with
  | zero =>
    intro i s hi
    obtain ⟨f, f0, f1, f2⟩ := factorial_ev (n := p.sum) (by omega)
    obtain rfl : i = x.length := by omega
    refine ⟨wrap64 (Int.tdiv s f), ?_, cs1_end hL hlen f2 f0⟩
    refine Ev.step (fun k => by simp only [spec_PairingOf.l0]; rfl) ?_
    exact Ev.ite_false (by omega) (Ev.bind (specL2_ev hp) (Ev.bind f1 (Ev.ite_false f0 (Ev.now _))))
  | succ d ih =>
    intro i s hi
    have hlt : i < x.length := by omega
    have hi1 : i < 1000 := by omega
    obtain ⟨hxp, hxs⟩ := hx _ (List.getElem_mem hlt)
    obtain ⟨c, c1, c2⟩ := class_ev hxp
    obtain ⟨a, a1, a2⟩ := char_ev x[i] p hp hxp (by omega)
    obtain ⟨b, b1, b2⟩ := char_ev x[i] q hq hxp (by omega)
    obtain ⟨r, r1, r2⟩ := ih (i + 1) (wrap64 (s + wrap64 (wrap64 (c * a) * b))) (by omega)
    have w1 : wrap64 ((i : Int) + 1) = ((i + 1 : Nat) : Int) := wr1 (by omega)
    refine ⟨r, ?_, ?_⟩
    · refine Ev.step (fun k => by simp only [spec_PairingOf.l0]; rfl) ?_
      rw [w1, rdL_nat x i hlt]
      exact Ev.ite_true (by omega) (Ev.ite_true (Int.natCast_nonneg _) (Ev.bind c1 (Ev.bind a1 (Ev.bind b1 r1))))
    · refine cs1_step hL hlen hlt c2 ?_
      refine cs2_step hL hlen (j := 0) (by simp) a2 ?_
      refine cs2_step hL hlen (j := 1) (by simp) b2 ?_
      exact cs2_end hL hlen hi1 r2
theorem same_Pair (p q : List Int) (hlp : p.length ≤ 1048576) (hlq : q.length ≤ 1048576) : ∃ r : Int, Ev (fun k => spec_PairingOf.f k p q) r ∧ Ev (fun k => impl_PairingOf.f k p q) r := by
  have hL : ∀ y ∈ [p, q], y.length ≤ 1048576 := by simp [hlp, hlq]
  have hlen : [p, q].length ≤ 10 := by simp
  have fp := fine21_ev p hlp
  have fq := fine21_ev q hlq
  by_cases g : good (szB p) p ∧ good (szB p) q
  · obtain ⟨gp, gq⟩ := g
    obtain ⟨p1, p2, p3⟩ := good_of gp
    obtain ⟨q1, q2, q3⟩ := good_of gq
    have hs := psum p1
    obtain ⟨x, x1, x2, hxl, hx⟩ := partsOf (n := p.sum) (by omega)
    obtain ⟨r, r1, r2⟩ := pair_loop_Pair p q p1 q1 hlp hlq (by omega) x hx hxl x.length 0 0 (by omega)
    refine ⟨r, ?_, ?_⟩
    · simp only [spec_PairingOf.f]
      refine Ev.bind fp (Ev.ite_true (by simp [p1, p2]) (Ev.bind fq (Ev.ite_true (by simp [q1, q2]) (Ev.bind (specL2_ev p1) (Ev.bind (specL2_ev q1) ?_)))))
      have hb : (p.sum != q.sum) = false := by simp; omega
      rw [hb]
      refine Ev.step (fun k => by simp only [spec_PairingOf.j0]; rfl) ?_
      exact Ev.ite_false (by simp) (Ev.bind (specL2_ev p1) (Ev.bind x1 r1))
    · simp only [impl_PairingOf.f]
      refine Ev.bind (cs_ev hL hlen (by simp) ?_) (Ev.now _)
      refine cs0_step hL hlen (i := 0) (by simp) gp ?_
      refine cs0_step hL hlen (i := 1) (by simp) gq ?_
      rw [← p3]
      exact cs0_end hL hlen x2 r2
  · refine ⟨0, ?_, ?_⟩
    · simp only [spec_PairingOf.f]
      have no : Ev (fun k => spec_PairingOf.j0 k p q true) 0 := by
        refine Ev.step (fun k => by simp only [spec_PairingOf.j0]; rfl) ?_
        exact Ev.ite_true (by trivial) (Ev.now _)
      refine Ev.bind fp ?_
      by_cases hp : isP p = true ∧ p.sum ≤ 6
      · refine Ev.ite_true (by simp [hp]) (Ev.bind fq ?_)
        by_cases hq : isP q = true ∧ q.sum ≤ 6
        · refine Ev.ite_true (by simp [hq]) (Ev.bind (specL2_ev hp.1) (Ev.bind (specL2_ev hq.1) ?_))
          have hb : (p.sum != q.sum) = true := by
            simp only [bne_iff_ne, ne_eq]
            intro e
            have hz : szB p = p.sum := if_pos hp.1
            exact g ⟨good_iff hp.1 hp.2 hz.symm, good_iff hq.1 hq.2 (by omega)⟩
          rw [hb]; exact no
        · exact Ev.ite_false (by simpa using hq) no
      · exact Ev.ite_false (by simpa using hp) no
    · simp only [impl_PairingOf.f]
      refine Ev.bind (cs_ev hL hlen (by simp) ?_) (Ev.now _)
      by_cases gp : good (szB p) p
      · refine cs0_step hL hlen (i := 0) (by simp) gp ?_
        exact cs0_no hL hlen (i := 1) (by simp) (fun gq => g ⟨gp, gq⟩)
      · exact cs0_no hL hlen (i := 0) (by simp) gp
/-! The lists of positive numbers with a sum of at most 9: both sorts, run through. -/
def compL : Nat → Nat → List (List Int)
  | 0, _ => [[]]
  | f + 1, m => [] :: (List.range m).flatMap fun j => (compL f (m - (j + 1))).map fun c => ((j + 1 : Nat) : Int) :: c
theorem compL_nil (f m : Nat) : [] ∈ compL f m := by cases f <;> simp [compL]
theorem compL_mem : ∀ (f m : Nat) (c : List Int), (∀ x ∈ c, 1 ≤ x) → c.sum ≤ (m : Int) → c.length ≤ f → c ∈ compL f m
  | f, m, [], _, _, _ => compL_nil f m
  | 0, m, x :: c, _, _, h => by simp at h
  | f + 1, m, x :: c, hp, hs, hl => by
    have hx := hp x (by simp)
    have hc : ∀ z ∈ c, 1 ≤ z := fun z hz => hp z (by simp [hz])
    have h0 : ∀ c : List Int, (∀ z ∈ c, 1 ≤ z) → 0 ≤ c.sum := by
      intro c
      induction c with
      | nil => intro _; simp
      | cons a t ih => intro h; have := ih (fun z hz => h z (by simp [hz])); have := h a (by simp); simp only [List.sum_cons]; omega
    have hc0 := h0 c hc
    simp only [List.sum_cons] at hs
    obtain ⟨j, rfl⟩ : ∃ j : Nat, x = ((j + 1 : Nat) : Int) := ⟨(x - 1).toNat, by omega⟩
    have := compL_mem f (m - (j + 1)) c hc (by omega) (by simpa using hl)
    simp only [compL, List.mem_cons, List.mem_flatMap, List.mem_range, List.mem_map]
    exact .inr ⟨j, by omega, c, this, rfl⟩
theorem len_sum : ∀ c : List Int, (∀ x ∈ c, 1 ≤ x) → (c.length : Int) ≤ c.sum
  | [], _ => by simp
  | a :: t, h => by
    have := len_sum t (fun z hz => h z (by simp [hz]))
    have := h a (by simp)
    simp only [List.sum_cons, List.length_cons]; omega
def sortF (k : Nat) (c : List Int) : Option (List Int) := (slices_Sort_int_int.f k c).bind fun t => (slices_Reverse_int_int.f k t).bind fun u => some u
def downF (k : Nat) (c : List Int) : Option (List Int) := (spec_l23Down.f k c).bind fun t => some t
theorem sortF_mono (c : List Int) (k : Nat) : LeO (sortF k c) (sortF (k + 1) c) := LeO.bind (slices_Sort_int_int.mono _ _) fun _ => LeO.bind (slices_Reverse_int_int.mono _ _) fun _ => LeO.refl _
theorem downF_mono (c : List Int) (k : Nat) : LeO (downF k c) (downF (k + 1) c) := LeO.bind (spec_l23Down.mono _ _) fun _ => LeO.refl _
theorem fact_sorts : (compL 9 9).all (fun c => both (downF 100 c) (sortF 100 c) && decide (((sortF 100 c).getD []).length ≤ 9) && (isP ((sortF 100 c).getD []) && decide (((sortF 100 c).getD []).sum = c.sum))) = true := by decide +kernel
theorem sorts (c : List Int) (hp : ∀ x ∈ c, 1 ≤ x) (hs : c.sum ≤ 9) : ∃ r : List Int, (r.length ≤ 9 ∧ isP r = true ∧ r.sum = c.sum) ∧ Ev (fun k => downF k c) r ∧ Ev (fun k => sortF k c) r := by
  have hl := len_sum c hp
  have h := of_all fact_sorts (compL_mem 9 9 c hp (by omega) (by omega))
  simp only [Bool.and_eq_true, decide_eq_true_eq] at h
  obtain ⟨r, h1, h2⟩ := both_ev (downF_mono c) (sortF_mono c) h.1.1
  refine ⟨r, ?_, h1, h2⟩
  have h3 := And.intro h.1.2 h.2
  cases e : sortF 100 c with
  | none => have := h.1.1; rw [e] at this; unfold both at this; split at this <;> simp_all
  | some z =>
    obtain ⟨K, hK⟩ := h2
    have hz := at_rounds (sortF_mono c) (Nat.le_max_left 100 K) e
    have hK' : sortF (max 100 K) c = some r := hK _ (Nat.le_max_right 100 K)
    rw [hK'] at hz
    rw [e] at h3
    simpa [Option.some.inj hz] using h3
/-! The cycles: both loops side by side. -/
def seenC (s : List Bool) : Nat := s.countP id
theorem seenC_set (s : List Bool) (i : Nat) (h : i < s.length) (hf : s[i] = false) : seenC (s.set i true) = seenC s + 1 := by
  unfold seenC
  rw [List.countP_set (h := h)]
  simp [hf]
theorem seenC_le (s : List Bool) : seenC s ≤ s.length := List.countP_le_length
theorem rdb_nat (s : List Bool) (i : Nat) (h : i < s.length) : rdOf false s (i : Int) = s[i] := by
  simp [rdOf, List.getD_eq_getElem?_getD, h]
theorem rdb_succ (s : List Bool) (i : Nat) (h : i < s.length) : rdOf false (false :: s) ((i + 1 : Nat) : Int) = s[i] := by
  simp only [rdOf, Int.toNat_natCast, List.getD_eq_getElem?_getD, List.getElem?_cons_succ, List.getElem?_eq_getElem h, Option.getD_some]
theorem wrm {i : Nat} (h : i < 4611686018427387904) : wrap64 (((i + 1 : Nat) : Int) - 1) = (i : Int) := by unfold wrap64; omega
theorem cyc_in (w : List Int) (hn : w.length ≤ 9) (hm : ∀ x ∈ w, 1 ≤ x ∧ x ≤ w.length) (i : Nat) (hi : i < w.length) (c : List Int) (hp : ∀ x ∈ c, 1 ≤ x)
    (out : ∀ (c : List Int) (s : List Bool), s.length = w.length → (∀ x ∈ c, 1 ≤ x) → c.sum = (seenC s : Int) → (∀ j, j ≤ i → s.getD j false = true) → ∃ r : List Int, (r.length ≤ 9 ∧ isP r = true ∧ r.sum = (w.length : Int)) ∧ Ev (fun k => spec_CycleType.l0 k w true c (false :: s) ((i + 1 + 1 : Nat) : Int)) r ∧ Ev (fun k => impl_CycleType.l0 k w c s w.length ((i + 1 : Nat) : Int)) r) (d : Nat) :
    ∀ (s : List Bool) (n x : Nat), seenC s + d = w.length → s.length = w.length → x < w.length → c.sum + (n : Int) = (seenC s : Int) → (∀ j, j < i → s.getD j false = true) → (s.getD i false = true ∨ x = i) →
      ∃ r : List Int, (r.length ≤ 9 ∧ isP r = true ∧ r.sum = (w.length : Int)) ∧ Ev (fun k => spec_CycleType.l1 k w true c (false :: s) ((i + 1 : Nat) : Int) n ((x + 1 : Nat) : Int)) r ∧ Ev (fun k => impl_CycleType.l1 k w c s n x w.length i) r := by
  have hend : ∀ (s : List Bool) (n x : Nat), s.length = w.length → (hx : x < w.length) → (hxs : x < s.length) → c.sum + (n : Int) = (seenC s : Int) → s[x] = true → (∀ j, j < i → s.getD j false = true) → (s.getD i false = true ∨ x = i) →
      ∃ r : List Int, (r.length ≤ 9 ∧ isP r = true ∧ r.sum = (w.length : Int)) ∧ Ev (fun k => spec_CycleType.l1 k w true c (false :: s) ((i + 1 : Nat) : Int) n ((x + 1 : Nat) : Int)) r ∧ Ev (fun k => impl_CycleType.l1 k w c s n x w.length i) r := by
    intro s n x hs hx hxs hc hb hj hi'
    have hall : ∀ j, j ≤ i → s.getD j false = true := by
      intro j hji
      by_cases e : j = i
      · subst e
        rcases hi' with h | h
        · exact h
        · subst h; rw [List.getD_eq_getElem?_getD, List.getElem?_eq_getElem hxs]; exact hb
      · exact hj j (by omega)
    have a0 : (0 : Int) ≤ ((x + 1 : Nat) : Int) := Int.natCast_nonneg _
    have a1 : ((x + 1 : Nat) : Int) < ((false :: s).length : Int) := by simp only [List.length_cons]; omega
    have a2 : (x : Int) < (s.length : Int) := by omega
    have hcl : c.length < 17592186044416 := by
      have := len_sum c hp
      have := seenC_le s
      omega
    have e1 : rdOf false (false :: s) ((x + 1 : Nat) : Int) = true := (rdb_succ s x hxs).trans hb
    have e2 : rdOf false s (x : Int) = true := (rdb_nat s x hxs).trans hb
    by_cases hn0 : (n : Int) > 0
    · obtain ⟨r, hr, h1, h2⟩ := out (c ++ [(n : Int)]) s hs (by
        intro z hz
        rcases List.mem_append.1 hz with hz | hz
        · exact hp z hz
        · simp at hz; omega) (by simp only [List.sum_append, List.sum_cons, List.sum_nil]; omega) hall
      refine ⟨r, hr, ?_, ?_⟩
      · refine Ev.step (fun k => by simp only [spec_CycleType.l1]; rfl) (Ev.ite_true a0 (Ev.ite_true a1 (Ev.ite_true e1 (Ev.ite_true hn0 (Ev.ite_true hcl ?_)))))
        rw [wr1 (i := i + 1) (by omega)]; exact h1
      · refine Ev.step (fun k => by simp only [impl_CycleType.l1]; rfl) (Ev.ite_true (Int.natCast_nonneg _) (Ev.ite_true a2 (Ev.ite_true e2 (Ev.ite_true hn0 (Ev.ite_true hcl ?_)))))
        rw [wr1 (i := i) (by omega)]; exact h2
    · obtain ⟨r, hr, h1, h2⟩ := out c s hs hp (by omega) hall
      refine ⟨r, hr, ?_, ?_⟩
      · refine Ev.step (fun k => by simp only [spec_CycleType.l1]; rfl) (Ev.ite_true a0 (Ev.ite_true a1 (Ev.ite_true e1 (Ev.ite_false hn0 ?_))))
        rw [wr1 (i := i + 1) (by omega)]; exact h1
      · refine Ev.step (fun k => by simp only [impl_CycleType.l1]; rfl) (Ev.ite_true (Int.natCast_nonneg _) (Ev.ite_true a2 (Ev.ite_true e2 (Ev.ite_false hn0 ?_))))
        rw [wr1 (i := i) (by omega)]; exact h2
  induction d with
  | zero =>
    intro s n x hd hs hx hc hj hi'
    have hxs : x < s.length := by omega
    refine hend s n x hs hx hxs hc ?_ hj hi'
    have : seenC s = s.length := by omega
    simpa using List.countP_eq_length.1 this _ (List.getElem_mem hxs)
  | succ d ih =>
    intro s n x hd hs hx hc hj hi'
    have hxs : x < s.length := by omega
    cases hb : s[x] with
    | true => exact hend s n x hs hx hxs hc hb hj hi'
    | false =>
      have hw := hm _ (List.getElem_mem hx)
      obtain ⟨y, hy⟩ : ∃ y : Nat, w[x] = ((y + 1 : Nat) : Int) := ⟨(w[x] - 1).toNat, by omega⟩
      have hset := seenC_set s x hxs hb
      have hlen := seenC_le s
      obtain ⟨r, hr, h1, h2⟩ := ih (s.set x true) (n + 1) y (by omega) (by simpa using hs) (by omega) (by omega) (fun j hji => by
        simp only [List.getD_eq_getElem?_getD, List.getElem?_set]
        split
        · simp [hxs]
        · have := hj j hji; simpa [List.getD_eq_getElem?_getD] using this) (by
        left
        simp only [List.getD_eq_getElem?_getD, List.getElem?_set]
        split
        · simp [hxs]
        · rename_i hne
          rcases hi' with h | h
          · simpa [List.getD_eq_getElem?_getD] using h
          · exact absurd h hne)
      have a0 : (0 : Int) ≤ ((x + 1 : Nat) : Int) := Int.natCast_nonneg _
      have a1 : ((x + 1 : Nat) : Int) < ((false :: s).length : Int) := by simp only [List.length_cons]; omega
      have a2 : (x : Int) < (s.length : Int) := by omega
      have a3 : (x : Int) < (w.length : Int) := by omega
      have e1 : ¬ rdOf false (false :: s) ((x + 1 : Nat) : Int) = true := by rw [rdb_succ s x hxs, hb]; simp
      have e2 : ¬ rdOf false s (x : Int) = true := by rw [rdb_nat s x hxs, hb]; simp
      have hn1 : n < 4611686018427387904 := by
        have := len_sum c hp
        omega
      refine ⟨r, hr, ?_, ?_⟩
      · refine Ev.step (fun k => by simp only [spec_CycleType.l1]; rfl) (Ev.ite_true a0 (Ev.ite_true a1 (Ev.ite_false e1 ?_)))
        rw [wrm (i := x) (by omega), wr1 (i := n) hn1, rd_nat w x hx, hy]
        exact Ev.ite_true (Int.natCast_nonneg _) (Ev.ite_true a3 h1)
      · refine Ev.step (fun k => by simp only [impl_CycleType.l1]; rfl) (Ev.ite_true (Int.natCast_nonneg _) (Ev.ite_true a2 (Ev.ite_false e2 ?_)))
        rw [wr1 (i := n) hn1, rd_nat w x hx, hy, wrm (i := y) (by omega)]
        exact Ev.ite_true a3 h2
theorem cyc_out (w : List Int) (hn : w.length ≤ 9) (hm : ∀ x ∈ w, 1 ≤ x ∧ x ≤ w.length) (d : Nat) : ∀ (i : Nat) (c : List Int) (s : List Bool), i + d = w.length → s.length = w.length → (∀ x ∈ c, 1 ≤ x) → c.sum = (seenC s : Int) → (∀ j, j < i → s.getD j false = true) →
    ∃ r : List Int, (r.length ≤ 9 ∧ isP r = true ∧ r.sum = (w.length : Int)) ∧ Ev (fun k => spec_CycleType.l0 k w true c (false :: s) ((i + 1 : Nat) : Int)) r ∧ Ev (fun k => impl_CycleType.l0 k w c s w.length i) r := by
  induction d with
  | zero =>
    intro i c s hi hs hp hc hj
    have := seenC_le s
    have hall : seenC s = s.length := List.countP_eq_length.2 (fun z hz => by
      obtain ⟨j, hjl, rfl⟩ := List.getElem_of_mem hz
      have := hj j (by omega)
      rw [List.getD_eq_getElem?_getD, List.getElem?_eq_getElem hjl] at this
      simpa using this)
    obtain ⟨r, hr, h1, h2⟩ := sorts c hp (by omega)
    refine ⟨r, ⟨hr.1, hr.2.1, by rw [hr.2.2]; omega⟩, Ev.step (fun k => by simp only [spec_CycleType.l0]; rfl) (Ev.ite_false (by omega) ?_), Ev.step (fun k => by simp only [impl_CycleType.l0]; rfl) (Ev.ite_false (by omega) h2)⟩
    exact Ev.step (fun k => by simp only [spec_CycleType.j1]; rfl) (Ev.ite_false (by simp) h1)
  | succ d ih =>
    intro i c s hi hs hp hc hj
    have hlt : i < w.length := by omega
    have hle := seenC_le s
    obtain ⟨r, hr, h1, h2⟩ := cyc_in w hn hm i hlt c hp (fun c s hs hp hc hj => ih (i + 1) c s (by omega) hs hp hc (fun j hji => hj j (by omega))) (w.length - seenC s) s 0 i (by omega) hs hlt (by simpa using hc) hj (.inr rfl)
    refine ⟨r, hr, Ev.step (fun k => by simp only [spec_CycleType.l0]; rfl) (Ev.ite_true (by omega) ?_), Ev.step (fun k => by simp only [impl_CycleType.l0]; rfl) (Ev.ite_true (by omega) h2)⟩
    exact Ev.step (fun k => by simp only [spec_CycleType.j1]; rfl) (Ev.ite_true (c := true = true) rfl h1)
theorem same_Cycle (w : List Int) (hl : w.length ≤ 1048576) : ∃ r : List Int, (r = [] ∨ (r.length ≤ 9 ∧ isP r = true ∧ r.sum = (w.length : Int))) ∧ Ev (fun k => spec_CycleType.f k w) r ∧ Ev (fun k => impl_CycleType.f k w) r := by
  obtain ⟨a, ha⟩ := specInv_ev w hl
  obtain ⟨b, hb⟩ := implInv_ev w hl
  have b1 : (0 : Int) ≤ ((w.length + 1 : Nat) : Int) := Int.natCast_nonneg _
  have b2 : (((w.length + 1 : Nat) : Int)).toNat ≤ 281474976710656 := by omega
  have b3 : ((w.length : Int)).toNat ≤ 281474976710656 := by omega
  have t1 : (((w.length + 1 : Nat) : Int)).toNat = w.length + 1 := Int.toNat_natCast _
  have t2 : ((w.length : Int)).toNat = w.length := Int.toNat_natCast _
  simp only [spec_CycleType.f, impl_CycleType.f]
  by_cases ok : okInv w = true
  · have ok' := ok
    simp only [okInv, Bool.and_eq_true] at ok'
    have hm : ∀ x ∈ w, 1 ≤ x ∧ x ≤ w.length := fun x hx => ⟨(isW_mem ok'.1 hx).1, permP_top ((permB_iff w).1 ok'.2) x hx⟩
    obtain ⟨r, hr, h1, h2⟩ := cyc_out w (isW_length ok'.1) hm w.length 0 [] (List.replicate w.length false) (by omega) (by simp) (by simp) (by simp [seenC, List.countP_replicate]) (by simp)
    refine ⟨r, .inr hr, Ev.bind ha ?_, Ev.bind hb ?_⟩
    · rw [wr1 (i := w.length) (by omega), t1, ok]
      exact Ev.ite_true b1 (Ev.ite_true (by omega) h1)
    · rw [t2]
      exact Ev.ite_true ok (Ev.ite_true (Int.natCast_nonneg _) (Ev.ite_true (by omega) h2))
  · refine ⟨[], .inl rfl, Ev.bind ha ?_, Ev.bind hb (Ev.ite_false ok (Ev.now _))⟩
    have hd : Ev (fun k => downF k []) [] := Ev.of (downF_mono []) (k := 100) (by decide +kernel)
    rw [wr1 (i := w.length) (by omega), t1, Bool.eq_false_iff.2 ok]
    refine Ev.ite_true b1 (Ev.ite_true (by omega) (Ev.step (fun k => by simp only [spec_CycleType.l0]; rfl) ?_))
    have hj : Ev (fun k => spec_CycleType.j1 k w false [] (List.replicate (w.length + 1) false) 1 false) [] := Ev.step (fun k => by simp only [spec_CycleType.j1]; rfl) (Ev.ite_false (by simp) hd)
    by_cases h : (1 : Int) ≤ (w.length : Int)
    · exact Ev.ite_true h hj
    · exact Ev.ite_false h hj

/-! The classes. -/
def clsV (p : List Int) : Int := (impl_ClassSize.f 100 p).getD 0
theorem cls_fact : allP.all (fun p => decide (impl_ClassSize.f 100 p = some (clsV p)) && (match impl_CentralizerSize.f 100 p, laws_factorial.f 30 p.sum with
  | some z, some f => decide (wrap64 (clsV p * z) = f)
  | _, _ => false)) = true := by decide +kernel
theorem cls_ev {p : List Int} (h : isP p = true) : Ev (fun k => impl_ClassSize.f k p) (clsV p) := by
  have a := of_all cls_fact (mem_allP h)
  simp only [Bool.and_eq_true, decide_eq_true_eq] at a
  exact Ev.of (impl_ClassSize.mono p) a.1
def sumV (x : List (List Int)) (s : Int) : Int := match x with
  | [] => s
  | p :: x => sumV x (wrap64 (s + clsV p))
theorem sum_fact : (List.range 10).all (fun n => match spec_PartitionsOf.f 300 n with
  | some x => decide (laws_factorial.f 30 n = some (sumV x 0))
  | none => false) = true := by decide +kernel
/-! The multiplicities: by the rows of characters. -/
def chiV (p t : List Int) : Int := (impl_CharacterOf.f 300 p t).getD 0
def partsV (n : Nat) : List (List Int) := (spec_PartitionsOf.f 300 n).getD []
def rowV (n : Nat) (p : List Int) : List Int := (partsV n).map (chiV p)
def clsR (n : Nat) : List Int := (partsV n).map clsV
def loopS (s : Int) : List Int → List Int → List Int → List Int → Int
  | c :: cs, a :: la, b :: bs, u :: us => loopS (wrap64 (s + wrap64 (wrap64 (wrap64 (c * a) * b) * u))) cs la bs us
  | _, _, _, _ => s
def TAB : Nat → List (List Int)
  | 0 => [[1]]
  | 1 => [[1]]
  | 2 => [[1, 1], [(-1), 1]]
  | 3 => [[1, 1, 1], [(-1), 0, 2], [1, (-1), 1]]
  | 4 => [[1, 1, 1, 1, 1], [(-1), 0, (-1), 1, 3], [0, (-1), 2, 0, 2], [1, 0, (-1), (-1), 3], [(-1), 1, 1, (-1), 1]]
  | 5 => [[1, 1, 1, 1, 1, 1, 1], [(-1), 0, (-1), 1, 0, 2, 4], [0, (-1), 1, (-1), 1, 1, 5], [1, 0, 0, 0, (-2), 0, 6], [0, 1, (-1), (-1), 1, (-1), 5], [(-1), 0, 1, 1, 0, (-2), 4], [1, (-1), (-1), 1, 1, (-1), 1]]
  | _ => []
def CLS : Nat → List Int
  | 0 => [1]
  | 1 => [1]
  | 2 => [1, 1]
  | 3 => [2, 3, 1]
  | 4 => [6, 8, 3, 6, 1]
  | 5 => [24, 30, 20, 20, 15, 10, 1]
  | _ => []
theorem parts_fact : (List.range 6).all (fun n => decide (spec_PartitionsOf.f 300 n = some (partsV n)) && decide (clsR n = CLS n) && decide ((partsV n).map (rowV n) = TAB n) && (partsV n).all (fun p => (partsV n).all fun t => decide (impl_CharacterOf.f 300 p t = some (chiV p t)))) = true := by decide +kernel
def kronV (n : Nat) (f : Int) (a b u : List Int) : Int := wrap64 (Int.tdiv (loopS 0 (CLS n) a b u) f)
theorem kron_fact : (List.range 6).all (fun n => match impl_factorial.f 30 n with
  | some f => (TAB n).all fun a => (TAB n).all fun b => (TAB n).all fun u => decide (0 ≤ kronV n f a b u) && decide (kronV n f b a u = kronV n f a b u) && decide (kronV n f u b a = kronV n f a b u)
  | none => false) = true := by decide +kernel
def pairB (a b : List Int) : Bool := match impl_PairingOf.f 300 a b with
  | some v => decide (v = if a = b then 1 else 0) && (decide (a.sum = 0) || decide (impl_KroneckerOf.f 300 a b [a.sum] = some v))
  | none => false
theorem pair_fact0 : (List.range 5).all (fun n => (partsV n).all fun a => (partsV n).all fun b => pairB a b) = true := by decide +kernel
theorem pair_fact1 : (((partsV 5).drop 0).take 1).all (fun a => (partsV 5).all fun b => pairB a b) = true := by decide +kernel
theorem pair_fact2 : (((partsV 5).drop 1).take 1).all (fun a => (partsV 5).all fun b => pairB a b) = true := by decide +kernel
theorem pair_fact3 : (((partsV 5).drop 2).take 1).all (fun a => (partsV 5).all fun b => pairB a b) = true := by decide +kernel
theorem pair_fact4 : (((partsV 5).drop 3).take 1).all (fun a => (partsV 5).all fun b => pairB a b) = true := by decide +kernel
theorem pair_fact5 : (((partsV 5).drop 4).take 1).all (fun a => (partsV 5).all fun b => pairB a b) = true := by decide +kernel
theorem pair_fact6 : (((partsV 5).drop 5).take 1).all (fun a => (partsV 5).all fun b => pairB a b) = true := by decide +kernel
theorem pair_fact7 : (((partsV 5).drop 6).take 1).all (fun a => (partsV 5).all fun b => pairB a b) = true := by decide +kernel
theorem pair_of {n : Nat} (h : n ≤ 5) {a b : List Int} (ha : a ∈ partsV n) (hb : b ∈ partsV n) : pairB a b = true := by
  by_cases e : n = 5
  · subst e
    have e : partsV 5 = ((partsV 5).drop 0).take 1 ++ (((partsV 5).drop 1).take 1 ++ (((partsV 5).drop 2).take 1 ++ (((partsV 5).drop 3).take 1 ++ (((partsV 5).drop 4).take 1 ++ (((partsV 5).drop 5).take 1 ++ (((partsV 5).drop 6).take 1)))))) := by decide +kernel
    have ha' := ha
    rw [e] at ha'
    simp only [List.mem_append] at ha'
    rcases ha' with ha | ha | ha | ha | ha | ha | ha
    · exact of_all (of_all pair_fact1 ha) hb
    · exact of_all (of_all pair_fact2 ha) hb
    · exact of_all (of_all pair_fact3 ha) hb
    · exact of_all (of_all pair_fact4 ha) hb
    · exact of_all (of_all pair_fact5 ha) hb
    · exact of_all (of_all pair_fact6 ha) hb
    · exact of_all (of_all pair_fact7 ha) hb
  · exact of_all (of_all (of_all pair_fact0 (x := n) (List.mem_range.2 (by omega))) ha) hb
theorem low_parts : allP.all (fun p => !decide (p.sum ≤ 5) || decide (p ∈ partsV p.sum.toNat)) = true := by decide +kernel
theorem mem_parts {p : List Int} (h : isP p = true) {n : Nat} (hs : p.sum = n) (h5 : n ≤ 5) : p ∈ partsV n := by
  have a := of_all low_parts (mem_allP h)
  rw [decide_eq_true (by omega), Bool.not_true, Bool.false_or, decide_eq_true_eq, hs, Int.toNat_natCast] at a
  exact a
theorem parts_facts {n : Nat} (h : n ≤ 5) : Ev (fun k => spec_PartitionsOf.f k n) (partsV n) ∧ clsR n = CLS n ∧ (partsV n).map (rowV n) = TAB n ∧ ∀ p ∈ partsV n, ∀ t ∈ partsV n, Ev (fun k => impl_CharacterOf.f k p t) (chiV p t) := by
  have a := of_all parts_fact (x := n) (List.mem_range.2 (by omega))
  simp only [Bool.and_eq_true, decide_eq_true_eq, List.all_eq_true] at a
  exact ⟨Ev.of (spec_PartitionsOf.mono _) a.1.1.1, a.1.1.2, a.1.2, fun p hp t ht => Ev.of (impl_CharacterOf.mono p t) (a.2 p hp t ht)⟩
theorem kronL (n : Nat) (h5 : n ≤ 5) (p q u : List Int) (hp : p ∈ partsV n) (hq : q ∈ partsV n) (hu : u ∈ partsV n) (hpp : ∀ t ∈ partsV n, isP t = true) (hxl : (partsV n).length ≤ 100) (f : Int) (f0 : f ≠ 0) (f2 : Ev (fun k => impl_factorial.f k n) f)
    (hL : ∀ y ∈ [p, q, u], y.length ≤ 1048576) (hlen : [p, q, u].length ≤ 10) (d : Nat) : ∀ (i : Nat) (s : Int), i + d = (partsV n).length →
      Ev (fun k => impl_classSum.l1 k [p, q, u] n s (partsV n) (partsV n).length i) (wrap64 (Int.tdiv (loopS s ((clsR n).drop i) ((rowV n p).drop i) ((rowV n q).drop i) ((rowV n u).drop i)) f)) := by
  obtain ⟨_, _, _, hch⟩ := parts_facts h5
  have hr : ∀ z, (rowV n z).length = (partsV n).length := fun z => by simp [rowV]
  have hcl : (clsR n).length = (partsV n).length := by simp [clsR]
  induction d with
  | zero =>
    intro i s hi
    obtain rfl : i = (partsV n).length := by omega
    rw [List.drop_of_length_le (by omega), List.drop_of_length_le (by rw [hr]; omega)]
    simp only [loopS]
    exact cs1_end hL hlen f2 f0
  | succ d ih =>
    intro i s hi
    have hlt : i < (partsV n).length := by omega
    have hm := List.getElem_mem hlt
    have e := ih (i + 1) (wrap64 (s + wrap64 (wrap64 (wrap64 (clsV (partsV n)[i] * chiV p (partsV n)[i]) * chiV q (partsV n)[i]) * chiV u (partsV n)[i]))) (by omega)
    have dc : (clsR n).drop i = clsV (partsV n)[i] :: (clsR n).drop (i + 1) := by rw [List.drop_eq_getElem_cons (by omega)]; simp [clsR]
    have dr : ∀ z, (rowV n z).drop i = chiV z (partsV n)[i] :: (rowV n z).drop (i + 1) := fun z => by rw [List.drop_eq_getElem_cons (by rw [hr]; omega)]; simp [rowV]
    rw [dc, dr, dr, dr]
    simp only [loopS]
    refine cs1_step hL hlen hlt (cls_ev (hpp _ hm)) ?_
    refine cs2_step hL hlen (j := 0) (by simp) (hch p hp _ hm) ?_
    refine cs2_step hL hlen (j := 1) (by simp) (hch q hq _ hm) ?_
    refine cs2_step hL hlen (j := 2) (by simp) (hch u hu _ hm) ?_
    exact cs2_end hL hlen (by omega) e
theorem kron_val {n : Nat} (h5 : n ≤ 5) {p q u : List Int} (p1 : isP p = true) (q1 : isP q = true) (u1 : isP u = true) (p3 : p.sum = n) (q3 : q.sum = n) (u3 : u.sum = n) {f : Int} (f0 : f ≠ 0) (f2 : Ev (fun k => impl_factorial.f k n) f) : Ev (fun k => impl_KroneckerOf.f k p q u) (kronV n f (rowV n p) (rowV n q) (rowV n u)) := by
  have lp := isP_length p1
  have lq := isP_length q1
  have lu := isP_length u1
  have hL : ∀ y ∈ [p, q, u], y.length ≤ 1048576 := by simp; omega
  have hlen : [p, q, u].length ≤ 10 := by simp
  obtain ⟨x1, hcl, _, _⟩ := parts_facts h5
  obtain ⟨x, y1, y2, hxl, hx⟩ := partsOf (n := (n : Int)) (by omega)
  obtain rfl : x = partsV n := ev_one y1 x1
  have hz : szB p = n := by rw [szB, if_pos p1, p3]
  simp only [impl_KroneckerOf.f]
  refine Ev.bind (cs_ev hL hlen (by simp) ?_) (Ev.now _)
  show Ev (fun k => impl_classSum.l0 k [p, q, u] (szB p) [p, q, u] [p, q, u].length ((0 : Nat) : Int)) _
  rw [hz]
  refine cs0_step hL hlen (i := 0) (by simp) (show good (n : Int) p from good_iff p1 (by omega) p3) ?_
  refine cs0_step hL hlen (i := 1) (by simp) (show good (n : Int) q from good_iff q1 (by omega) q3) ?_
  refine cs0_step hL hlen (i := 2) (by simp) (show good (n : Int) u from good_iff u1 (by omega) u3) ?_
  refine cs0_end hL hlen y2 ?_
  have e := kronL n h5 p q u (mem_parts p1 p3 h5) (mem_parts q1 q3 h5) (mem_parts u1 u3 h5) (fun t ht => (hx t ht).1) hxl f f0 f2 hL hlen (partsV n).length 0 0 (by omega)
  simp only [List.drop_zero] at e
  rw [hcl] at e
  exact e
theorem kron_zero (p q u : List Int) (hlp : p.length ≤ 1048576) (hlq : q.length ≤ 1048576) (hlu : u.length ≤ 1048576) (g : ¬ (good (szB p) p ∧ good (szB p) q ∧ good (szB p) u)) : Ev (fun k => impl_KroneckerOf.f k p q u) 0 := by
  have hL : ∀ y ∈ [p, q, u], y.length ≤ 1048576 := by simp [hlp, hlq, hlu]
  have hlen : [p, q, u].length ≤ 10 := by simp
  simp only [impl_KroneckerOf.f]
  refine Ev.bind (cs_ev hL hlen (by simp) ?_) (Ev.now _)
  by_cases gp : good (szB p) p
  · refine cs0_step hL hlen (i := 0) (by simp) gp ?_
    by_cases gq : good (szB p) q
    · refine cs0_step hL hlen (i := 1) (by simp) gq ?_
      exact cs0_no hL hlen (i := 2) (by simp) (fun gu => g ⟨gp, gq, gu⟩)
    · exact cs0_no hL hlen (i := 1) (by simp) gq
  · exact cs0_no hL hlen (i := 0) (by simp) gp
/-- The multiplicity of three drawn partitions, in every order. -/
theorem kron_sym {n : Nat} (h5 : n ≤ 5) {p q u : List Int} (p1 : isP p = true) (q1 : isP q = true) (p3 : p.sum = n) (q3 : q.sum = n) (hlu : u.length ≤ 20) : ∃ v : Int, 0 ≤ v ∧ Ev (fun k => impl_KroneckerOf.f k p q u) v ∧ Ev (fun k => impl_KroneckerOf.f k q p u) v ∧ Ev (fun k => impl_KroneckerOf.f k u q p) v := by
  have lp := isP_length p1
  have lq := isP_length q1
  by_cases hu : isP u = true ∧ u.sum = n
  · obtain ⟨u1, u3⟩ := hu
    obtain ⟨f, f0, _, f2⟩ := factorial_ev (n := (n : Int)) (by omega)
    have a := of_all kron_fact (x := n) (List.mem_range.2 (by omega))
    obtain ⟨_, _, hT, _⟩ := parts_facts h5
    split at a
    · rename_i f' hf
      obtain rfl : f = f' := ev_one f2 (Ev.of (impl_factorial.mono _) hf)
      have m : ∀ {z : List Int}, isP z = true → z.sum = n → rowV n z ∈ TAB n := fun hz hs => by rw [← hT]; exact List.mem_map_of_mem (mem_parts hz hs h5)
      have b := of_all (of_all (of_all a (m p1 p3)) (m q1 q3)) (m u1 u3)
      simp only [Bool.and_eq_true, decide_eq_true_eq] at b
      obtain ⟨⟨b1, b2⟩, b3⟩ := b
      refine ⟨_, b1, kron_val h5 p1 q1 u1 p3 q3 u3 f0 f2, ?_, ?_⟩
      · rw [← b2]; exact kron_val h5 q1 p1 u1 q3 p3 u3 f0 f2
      · rw [← b3]; exact kron_val h5 u1 q1 p1 u3 q3 p3 f0 f2
    · cases a
  · have hz : ∀ {z : List Int}, isP z = true → z.sum = n → szB z = n := fun hz hs => by rw [szB, if_pos hz, hs]
    have no : ∀ m : Int, m = n → ¬ good m u := fun m hm g => by
      have := good_of g
      exact hu ⟨this.1, by omega⟩
    refine ⟨0, by omega, kron_zero p q u (by omega) (by omega) (by omega) ?_, kron_zero q p u (by omega) (by omega) (by omega) ?_, kron_zero u q p (by omega) (by omega) (by omega) ?_⟩
    · exact fun g => no _ (hz p1 p3) g.2.2
    · exact fun g => no _ (hz q1 q3) g.2.2
    · rintro ⟨g1, g2, _⟩
      have e1 := good_of g1
      have e2 := good_of g2
      exact hu ⟨e1.1, by omega⟩
theorem drawClass (l : List Int) (hl : l.length ≤ 1048576) : ∃ q : List Int, Ev (fun k => spec_DrawClassSize.f k l) q ∧ q.length ≤ 20 := by
  obtain ⟨h0, e0⟩ := new_ev l hl
  obtain ⟨q, i1, h1, e1, hq, _⟩ := bent_ev l 0 h0 9 (cur0 l hl) (by omega) (by omega)
  simp only [spec_DrawClassSize.f]
  exact ⟨q, Ev.bind e0 (Ev.bind e1 (Ev.now _)), hq⟩
theorem drawCycle (l : List Int) (hl : l.length ≤ 1048576) : ∃ w : List Int, Ev (fun k => spec_DrawCycleType.f k l) w ∧ w.length ≤ 10 := by
  obtain ⟨h0, e0⟩ := new_ev l hl
  obtain ⟨w, i1, h1, e1, hw, hc1⟩ := l8Bent_ev l 0 h0 (cur0 l hl)
  obtain ⟨o, i2, h2, e2, _⟩ := once_ev l i1 h1 2 hc1 (by omega)
  obtain ⟨s, hs, es⟩ := std_any w (by omega)
  simp only [spec_DrawCycleType.f, spec_DrawInverseOf.f]
  cases o with
  | true =>
    refine ⟨s, Ev.bind (a := s) (Ev.bind e0 (Ev.bind e1 ?_)) (Ev.now _), by omega⟩
    simp only [e2, Option.bind_some]
    exact Ev.ite_true (by trivial) (Ev.bind es (Ev.now _))
  | false =>
    refine ⟨w, Ev.bind (a := w) (Ev.bind e0 (Ev.bind e1 ?_)) (Ev.now _), hw⟩
    simp only [e2, Option.bind_some]
    exact Ev.ite_false (by simp) (Ev.now _)
theorem drawThree (l : List Int) (hl : l.length ≤ 1048576) : ∃ (p q u : List Int) (n : Nat), Ev (fun k => spec_l23Three.f k l) (p, q, u) ∧ n ≤ 5 ∧ isP p = true ∧ isP q = true ∧ p.sum = n ∧ q.sum = n ∧ u.length ≤ 20 := by
  obtain ⟨h0, e0⟩ := new_ev l hl
  obtain ⟨z, i1, h1, e1, hz, hc1⟩ := below_ev l 0 h0 6 (cur0 l hl) (by omega)
  have hz6 := hz.2.1 (by omega)
  obtain ⟨n, rfl⟩ : ∃ n : Nat, z = (n : Int) := ⟨z.toNat, by omega⟩
  obtain ⟨x, x1, _, hxl, hx⟩ := partsOf (n := (n : Int)) (by omega)
  have hx0 : 0 < x.length := by
    obtain ⟨y, y1, y2, _⟩ := all_ev (n := (n : Int)) (m := n) (by omega) (by omega) (by omega)
    have : x = y := by
      refine ev_one (f := fun k => spec_PartitionsOf.f k (n : Int)) x1 ?_
      simp only [spec_PartitionsOf.f, l1In_f, Option.bind_some]
      exact Ev.ite_true (by simp; omega) (Ev.bind y1 (Ev.now _))
    rw [this]; exact y2
  obtain ⟨a, i2, h2, e2, ha, hc2⟩ := below_ev l i1 h1 x.length hc1 (by omega)
  have hal := ha.2.1 (by omega)
  obtain ⟨b, i3, h3, e3, hb, hc3⟩ := below_ev l i2 h2 x.length hc2 (by omega)
  have hbl := hb.2.1 (by omega)
  have hpm := hx _ (rdL_mem x a ha.1 hal)
  have hqm := hx _ (rdL_mem x b hb.1 hbl)
  obtain ⟨o, i4, h4, e4, hc4⟩ := once_ev l i3 h3 10 hc3 (by omega)
  simp only [spec_l23Three.f]
  cases o with
  | true =>
    obtain ⟨u, i5, h5, e5, hu, _⟩ := bent_ev l i4 h4 7 hc4 (by omega) (by omega)
    refine ⟨_, _, u, n, Ev.bind e0 ?_, by omega, hpm.1, hqm.1, hpm.2, hqm.2, hu⟩
    simp only [e1, Option.bind_some]
    refine Ev.bind x1 ?_
    simp only [e2, Option.bind_some]
    refine Ev.ite_true ha.1 (Ev.ite_true hal ?_)
    simp only [e3, Option.bind_some]
    refine Ev.ite_true hb.1 (Ev.ite_true hbl ?_)
    simp only [e4, Option.bind_some]
    exact Ev.ite_true (by trivial) (Ev.bind e5 (Ev.now _))
  | false =>
    obtain ⟨c, i5, h5, e5, hc, _⟩ := below_ev l i4 h4 x.length hc4 (by omega)
    have hcl := hc.2.1 (by omega)
    have hum := hx _ (rdL_mem x c hc.1 hcl)
    refine ⟨_, _, rd_L2 x c, n, Ev.bind e0 ?_, by omega, hpm.1, hqm.1, hpm.2, hqm.2, by have := isP_length hum.1; omega⟩
    simp only [e1, Option.bind_some]
    refine Ev.bind x1 ?_
    simp only [e2, Option.bind_some]
    refine Ev.ite_true ha.1 (Ev.ite_true hal ?_)
    simp only [e3, Option.bind_some]
    refine Ev.ite_true hb.1 (Ev.ite_true hbl ?_)
    simp only [e4, e5, Option.bind_some]
    exact Ev.ite_false (by simp) (Ev.ite_true hc.1 (Ev.ite_true hcl (Ev.now _)))
theorem sum_loop (q w c a b x y : List Int) (hq : isP q = true) (n : Nat) (hn : q.sum = n) (ps : List (List Int)) (hps : ∀ p ∈ ps, isP p = true) (hpl : ps.length ≤ 100) (f : Int) (hf : Ev (fun k => laws_factorial.f k n) f) (hsum : sumV ps 0 = f) (rest : Ev (fun k => laws_FnKronecker.j2 k w c a b x y) true) (d : Nat) : ∀ (i : Nat) (s : Int), i + d = ps.length → sumV (ps.drop i) s = f →
    Ev (fun k => laws_FnKronecker.l0 k q w c a b x y s ps i) true := by
  have hsz : szB q = n := by rw [szB, if_pos hq, hn]
  have hlq := isP_length hq
  induction d with
  | zero =>
    intro i s hi hs
    obtain rfl : i = ps.length := by omega
    rw [List.drop_length] at hs
    have hs' : s = f := hs
    have fc := of_all cls_fact (mem_allP hq)
    simp only [Bool.and_eq_true, decide_eq_true_eq] at fc
    obtain ⟨fc1, fc2⟩ := fc
    split at fc2
    · rename_i z f' a1 a2
      rw [hn] at a2
      obtain rfl : f = f' := ev_one hf (Ev.of (laws_factorial.mono _) a2)
      refine Ev.step (fun k => by simp only [laws_FnKronecker.l0]; rfl) (Ev.ite_false (by omega) (Ev.bind (specSize_ev q (by omega)) ?_))
      rw [hsz]
      refine Ev.bind hf (Ev.ite_true hs' (Ev.bind (cls_ev hq) (Ev.bind (Ev.of (impl_CentralizerSize.mono _) a1) (Ev.ite_true ?_ rest))))
      rw [hs']; exact of_decide_eq_true fc2
    · cases fc2
  | succ d ih =>
    intro i s hi hs
    have hlt : i < ps.length := by omega
    refine Ev.step (fun k => by simp only [laws_FnKronecker.l0]; rfl) (Ev.ite_true (by omega) (Ev.ite_true (Int.natCast_nonneg _) ?_))
    rw [rdL_nat ps i hlt, wr1 (by omega)]
    refine Ev.bind (cls_ev (hps _ (List.getElem_mem hlt))) (ih (i + 1) _ (by omega) ?_)
    rw [List.drop_eq_getElem_cons hlt] at hs
    exact hs
theorem FnKronecker : laws_FnKronecker.Pure := by
  intro l h1 h2 h3
  apply Ev.rounds
  simp only [laws_FnKronecker.f, laws_big.f, Option.bind_some]
  by_cases hl : l.length ≤ 1048576
  · refine Ev.ite_false (by simp; omega) ?_
    obtain ⟨q, d1, hq⟩ := drawClass l hl
    obtain ⟨w, d2, hw⟩ := drawCycle l hl
    obtain ⟨a, b, u, n, d3, hn, ha, hb, hsa, hsb, hu⟩ := drawThree l hl
    have d4 : Ev (fun k => spec_DrawKroneckerOf.f k l) (a, b, u) := by simp only [spec_DrawKroneckerOf.f]; exact Ev.bind d3 (Ev.now _)
    have d5 : Ev (fun k => spec_DrawPairingOf.f k l) (a, u) := by simp only [spec_DrawPairingOf.f]; exact Ev.bind d3 (Ev.now _)
    have hla := isP_length ha
    have hlb := isP_length hb
    obtain ⟨c, hc, c1, c2⟩ := same_Cycle w (by omega)
    have hcl : c.length ≤ 9 := by rcases hc with rfl | hc; simp; exact hc.1
    obtain ⟨k1, k2, k3⟩ := same_Kron a b u (by omega) (by omega) (by omega)
    obtain ⟨v, v0, v1, v2, v3⟩ := kron_sym hn ha hb hsa hsb hu
    obtain rfl : v = k1 := ev_one v1 k3
    obtain ⟨g, g1, g2⟩ := same_Pair a u (by omega) (by omega)
    obtain ⟨s, s1, s2⟩ := same_Class q (by omega)
    obtain ⟨t, t1, t2⟩ := same_Cent q (by omega)
    have m1 := sameInts_self c (by omega)
    have hsza : szB a = n := by rw [szB, if_pos ha, hsa]
    have hszb : szB b = n := by rw [szB, if_pos hb, hsb]
    have e4 : Ev (fun k => laws_FnKronecker.j4 k a b false) true := by
      refine Ev.step (fun k => by simp only [laws_FnKronecker.j4]; rfl) (Ev.ite_false (by simp) (Ev.bind (specSize_ev a (by omega)) ?_))
      rw [hsza]
      by_cases h0 : (n : Int) < 1
      · exact Ev.ite_true h0 (Ev.now _)
      · refine Ev.ite_false h0 (Ev.bind (specSize_ev b (by omega)) ?_)
        rw [hszb]
        have pb := pair_of hn (mem_parts ha hsa hn) (mem_parts hb hsb hn)
        unfold pairB at pb
        split at pb
        · rename_i z hz
          simp only [Bool.and_eq_true, Bool.or_eq_true, decide_eq_true_eq] at pb
          have pk : impl_KroneckerOf.f 300 a b [(n : Int)] = some z := by
            rcases pb.2 with h | h
            · omega
            · rw [← hsa]; exact h
          refine Ev.ite_true rfl (Ev.bind (Ev.of (impl_KroneckerOf.mono _ _ _) pk) (Ev.bind (Ev.of (impl_PairingOf.mono _ _) hz) ?_))
          rw [show (z == z) = true by simp]; exact Ev.now _
        · cases pb
    have e3 : Ev (fun k => laws_FnKronecker.j3 k a b a u false) true := by
      refine Ev.step (fun k => by simp only [laws_FnKronecker.j3]; rfl) (Ev.ite_false (by simp) (Ev.bind (specIsP_ev a (by omega)) (Ev.ite_true ha (Ev.bind (specIsP_ev u (by omega)) ?_))))
      by_cases hu1 : isP u = true
      · refine Ev.ite_true hu1 (Ev.bind (specSize_ev a (by omega)) (Ev.bind (specSize_ev u (by omega)) ?_))
        have hszu : szB u = u.sum := if_pos hu1
        rw [hsza, hszu]
        by_cases hus : (n : Int) = u.sum
        · refine Ev.ite_true hus (Ev.bind (specSize_ev a (by omega)) ?_)
          rw [hsza]
          refine Ev.ite_true (by omega) ?_
          have pb := pair_of hn (mem_parts ha hsa hn) (mem_parts hu1 hus.symm hn)
          unfold pairB at pb
          split at pb
          · rename_i z hz
            simp only [Bool.and_eq_true, decide_eq_true_eq] at pb
            refine Ev.bind (Ev.of (impl_PairingOf.mono _ _) hz) (Ev.bind (sameInts_ev a u (by omega)) ?_)
            have e0 : ((z == 1) != decide (a = u)) = false := by
              rw [pb.1]
              by_cases e : a = u
              · simp [e]
              · simp [e]
            rw [e0]; exact e4
          · cases pb
        · exact Ev.ite_false hus e4
      · exact Ev.ite_false hu1 e4
    have e2 : Ev (fun k => laws_FnKronecker.j2 k w c a b a u) true := by
      refine Ev.step (fun k => by simp only [laws_FnKronecker.j2]; rfl) ?_
      by_cases hc0 : (c.length : Int) > 0
      · refine Ev.ite_true hc0 (Ev.bind (specSize_ev c (by omega)) ?_)
        rcases hc with rfl | hc
        · simp at hc0
        · have e0 : (szB c != (w.length : Int)) = false := by rw [szB, if_pos hc.2.1, hc.2.2]; simp
          rw [e0]; exact e3
      · exact Ev.ite_false hc0 e3
    refine Ev.bind d1 (Ev.bind d2 (Ev.bind c2 (Ev.bind d4 (Ev.bind k3 (Ev.bind d5 (Ev.bind s2 (Ev.bind s1 (Ev.ite_true rfl (Ev.bind t2 (Ev.bind t1 (Ev.ite_true rfl (Ev.bind c1 (Ev.bind m1 (Ev.ite_true rfl (Ev.bind k2 (Ev.ite_true rfl (Ev.bind g2 (Ev.bind g1 (Ev.ite_true rfl (Ev.ite_false (by omega) (Ev.bind v2 (Ev.ite_true rfl (Ev.bind v3 ?_)))))))))))))))))))))))
    have e0 : (v != v) = false := by simp
    rw [e0]
    refine Ev.step (fun k => by simp only [laws_FnKronecker.j0]; rfl) (Ev.ite_false (by simp) (Ev.bind (specIsP_ev q (by omega)) ?_))
    by_cases hq1 : isP q = true
    · have hs := psum hq1
      obtain ⟨m, hm⟩ : ∃ m : Nat, q.sum = (m : Int) := ⟨q.sum.toNat, by omega⟩
      obtain ⟨x, x1, _, hxl, hx⟩ := partsOf (n := (m : Int)) (by omega)
      have sf := of_all sum_fact (x := m) (List.mem_range.2 (by omega))
      refine Ev.ite_true hq1 (Ev.bind (specSize_ev q (by omega)) ?_)
      rw [show szB q = (m : Int) by rw [szB, if_pos hq1, hm]]
      refine Ev.bind x1 ?_
      split at sf
      · rename_i x' hx'
        obtain rfl : x = x' := ev_one x1 (Ev.of (spec_PartitionsOf.mono _) hx')
        exact sum_loop q w c a b a u hq1 m hm x (fun p hp => (hx p hp).1) hxl _ (Ev.of (laws_factorial.mono _) (of_decide_eq_true sf)) rfl e2 x.length 0 0 (by omega) (by simp)
      · cases sf
    · exact Ev.ite_false hq1 e2
  · exact Ev.ite_true (by simp; omega) (Ev.now _)

end Go.Proofs.YtopmggldaicpaacGreat.Pure
