/- The program's TurnVector answers as the reference's for every list of at most 2^20 numbers and every number, leaves its argument alone, and its result shares no memory with argument or later result. No condition. -/
import Derived.Test.YtcmoghgiddpibaaPFnExactTurnVectorx5
import Derived.Test.YtcmoghgiddpibaaWSized
set_option linter.unusedVariables false
set_option linter.unusedSimpArgs false
namespace Go.Proofs.Ytcmoghgiddpibaa
open Go.ChangeShapes Go.WideShapes
theorem PrintWords.sized_ints {H : Type} {enc : TypeId × Value → H} {P : Program} {W : World} {base : Nat} {spare : Nat → Bool} {held : Bool} {t e : TypeId} {k : IntKind} {a : Option Addr} {len cap : Nat} {d : DataW H} {ps : List MemPlace} {ts : List TypeId} {ds : List (DataW H)} {j : Nat}
    (hsz : (DataW.weightsEach P ts ds).all (· ≤ reachBytes) = true) (ht : ts[j]? = some t) (hd : ds[j]? = some d) (hu : P.underlying t = some (.slice e)) (he : P.underlying e = some (.int k)) (hc : P.cellsOf e = 1) {B : Nat} (hB : P.bytesOf e = B)
    (h : DataW.Trod enc P W base spare held t (.slice a len cap) d ps) : len * B ≤ 140737488351232 :=
  Go.Proofs.YtcmoghgiddpibaaW.PrintWords.sized_ints hsz ht hd hu he hc hB h
end Go.Proofs.Ytcmoghgiddpibaa
namespace Go.Proofs.Ytcmoghgiddpibaa.Pure
open Go.RowKit Go.Proofs.Ytcmoghgiddpibaa.PFnExactTurnVector Go.Proofs.YtcmoghgiddpibaaW.PrintWords Go.Proofs.YtcmoghgiddpibaaW.PrintLast

theorem wr_in {x : Int} (h : -9223372036854775808 ≤ x) (h' : x ≤ 9223372036854775807) : wrap64 x = x := by unfold wrap64; omega
theorem wr1 {i : Nat} (h : i < 4611686018427387904) : wrap64 ((i : Int) + 1) = ((i + 1 : Nat) : Int) := by unfold wrap64; omega
theorem Ev.ite_true {α : Type} {c : Prop} [Decidable c] {g f : Nat → Option α} {r : α} (hc : c) (h : Ev g r) : Ev (fun k => if c then g k else f k) r := by
  obtain ⟨K, h⟩ := h
  exact ⟨K, fun k hk => (if_pos hc).trans (h k hk)⟩
theorem Ev.ite_false {α : Type} {c : Prop} [Decidable c] {g f : Nat → Option α} {r : α} (hc : ¬ c) (h : Ev f r) : Ev (fun k => if c then g k else f k) r := by
  obtain ⟨K, h⟩ := h
  exact ⟨K, fun k hk => (if_neg hc).trans (h k hk)⟩
theorem rd_nat (l : List Int) (i : Nat) (h : i < l.length) : rd l (i : Int) = l[i] := by
  simp [rd, List.getD_eq_getElem?_getD, h]
/-- A statement that holds of all members of a list that can be run through. -/
theorem of_all {α : Type} {p : α → Bool} {l : List α} (h : l.all p = true) {x : α} (hx : x ∈ l) : p x = true := List.all_eq_true.mp h x hx
/-- Both answer, and alike. -/
def both {α : Type} [DecidableEq α] (a b : Option α) : Bool := match a, b with
  | some x, some y => decide (x = y)
  | _, _ => false
theorem both_ev {α : Type} [DecidableEq α] {f g : Nat → Option α} (hf : ∀ k, LeO (f k) (f (k + 1))) (hg : ∀ k, LeO (g k) (g (k + 1))) {n m : Nat} (h : both (f n) (g m) = true) : ∃ r, Ev f r ∧ Ev g r := by
  unfold both at h
  split at h
  · rename_i x y hx hy
    have e := of_decide_eq_true h
    subst e
    exact ⟨x, Ev.of hf hx, Ev.of hg hy⟩
  · cases h
theorem take_set_succ {α : Type} (y : List α) (i : Nat) (v : α) (h : i < y.length) : (y.set i v).take (i + 1) = y.take i ++ [v] := by
  rw [List.take_succ_eq_append_getElem (by simpa using h)]
  simp only [List.getElem_set_self]
  congr 1
  apply List.ext_getElem?
  intro j
  simp only [List.getElem?_take, List.getElem?_set]
  by_cases h : j < i
  · rw [if_pos h, if_neg (by omega), if_pos h]
  · rw [if_neg h, if_neg h]

theorem toIntS_l0 (l : List Int) (hl : l.length ≤ 1048576) (d : Nat) : ∀ (i : Nat) (y : List Int) (k : Nat), i + d = l.length → y.length = l.length → y.take i = l.take i → d < k → laws_toIntS.l0 k l y i = some l := by
  induction d with
  | zero =>
    intro i y k hi hy ht hk
    obtain ⟨k, rfl⟩ : ∃ m, k = m + 1 := ⟨k - 1, by omega⟩
    simp only [laws_toIntS.l0]
    rw [if_neg (by omega)]
    obtain rfl : i = l.length := by omega
    rw [List.take_of_length_le (by omega), List.take_of_length_le (by omega)] at ht
    rw [ht]
  | succ d ih =>
    intro i y k hi hy ht hk
    obtain ⟨k, rfl⟩ : ∃ m, k = m + 1 := ⟨k - 1, by omega⟩
    have hlt : i < l.length := by omega
    simp only [laws_toIntS.l0]
    rw [if_pos (by omega), if_pos (by omega), if_pos (by omega), wr1 (by omega), rd_nat l i hlt]
    refine ih (i + 1) _ k (by omega) (by simpa using hy) ?_ (by omega)
    rw [Int.toNat_natCast, take_set_succ y i _ (by omega), ht, List.take_succ_eq_append_getElem hlt]
theorem toIntS_ev (l : List Int) (hl : l.length ≤ 1048576) : Ev (fun k => laws_toIntS.f k l) l := by
  refine ⟨l.length + 1, fun k hk => ?_⟩
  show laws_toIntS.f k l = some l
  unfold laws_toIntS.f
  rw [if_pos (by omega), if_pos (by omega)]
  exact toIntS_l0 l hl l.length 0 _ k (by omega) (by simp) (by simp) (by omega)

theorem eqIntS_l0 (a b : List Int) (hl : a.length ≤ 1048576) (hab : a.length = b.length) (d : Nat) : ∀ (i k : Nat), i + d = a.length → a.take i = b.take i → d < k → laws_eqIntS.l0 k a b i = some (decide (a = b)) := by
  induction d with
  | zero =>
    intro i k hi ht hk
    obtain ⟨k, rfl⟩ : ∃ m, k = m + 1 := ⟨k - 1, by omega⟩
    simp only [laws_eqIntS.l0]
    rw [if_neg (by omega)]
    obtain rfl : i = a.length := by omega
    rw [List.take_of_length_le (by omega), List.take_of_length_le (by omega)] at ht
    rw [decide_eq_true ht]
  | succ d ih =>
    intro i k hi ht hk
    obtain ⟨k, rfl⟩ : ∃ m, k = m + 1 := ⟨k - 1, by omega⟩
    have hlt : i < a.length := by omega
    have hlt' : i < b.length := by omega
    simp only [laws_eqIntS.l0]
    rw [if_pos (by omega), if_pos (by omega), if_pos (by omega), wr1 (by omega), rd_nat a i hlt, rd_nat b i hlt']
    by_cases h : a[i] = b[i]
    · rw [if_pos h]
      refine ih (i + 1) k (by omega) ?_ (by omega)
      rw [List.take_succ_eq_append_getElem hlt, List.take_succ_eq_append_getElem hlt', ht, h]
    · rw [if_neg h, decide_eq_false]
      intro e
      subst e
      exact h rfl
theorem eqIntS_ev (a b : List Int) (hl : a.length ≤ 1048576) : Ev (fun k => laws_eqIntS.f k a b) (decide (a = b)) := by
  refine ⟨a.length + 1, fun k hk => ?_⟩
  show laws_eqIntS.f k a b = _
  unfold laws_eqIntS.f
  by_cases h : (a.length : Int) = (b.length : Int)
  · rw [if_pos h]
    exact eqIntS_l0 a b hl (by omega) a.length 0 k (by omega) (by simp) (by omega)
  · rw [if_neg h, decide_eq_false]
    intro e
    subst e
    exact h rfl
theorem eqIntS_self (a : List Int) (hl : a.length ≤ 1048576) : Ev (fun k => laws_eqIntS.f k a a) true := by
  have h := eqIntS_ev a a hl
  rwa [decide_eq_true rfl] at h

def markL (a : Int) (n : Nat) : List Int := (List.range n).map (fun (j : Nat) => a + (j : Int))
theorem markL_length (a : Int) (n : Nat) : (markL a n).length = n := by simp [markL]
theorem markL_get (a : Int) (n i : Nat) (h : i < (markL a n).length) : (markL a n)[i] = a + i := by simp [markL]
theorem markIntS_l0 (a : Int) (n : Nat) (h0 : 0 ≤ a) (h1 : a ≤ 4611686018427387904) (hn : n ≤ 4611686018427387) (d : Nat) : ∀ (i : Nat) (y : List Int) (k : Nat), i + d = n → y.length = n → y.take i = markL a i → d < k →
    laws_markIntS.l0 k y (a + i) i = some (a + n, markL a n) := by
  induction d with
  | zero =>
    intro i y k hi hy ht hk
    obtain ⟨k, rfl⟩ : ∃ m, k = m + 1 := ⟨k - 1, by omega⟩
    simp only [laws_markIntS.l0]
    rw [if_neg (by omega)]
    obtain rfl : i = n := by omega
    rw [List.take_of_length_le (by omega)] at ht
    rw [ht]
  | succ d ih =>
    intro i y k hi hy ht hk
    obtain ⟨k, rfl⟩ : ∃ m, k = m + 1 := ⟨k - 1, by omega⟩
    simp only [laws_markIntS.l0]
    rw [if_pos (by omega), if_pos (by omega), wr1 (by omega), wr_in (x := a + i + 1) (by omega) (by omega)]
    have e : a + (i : Int) + 1 = a + ((i + 1 : Nat) : Int) := by omega
    rw [e]
    refine ih (i + 1) _ k (by omega) (by simpa using hy) ?_ (by omega)
    rw [Int.toNat_natCast, take_set_succ y i _ (by omega), ht]
    simp [markL, List.range_succ]
theorem markIntS_ev (a : Int) (l : List Int) (h0 : 0 ≤ a) (h1 : a ≤ 4611686018427387904) (hn : l.length ≤ 4611686018427387) : Ev (fun k => laws_markIntS.f k l a) (a + l.length, markL a l.length) := by
  refine ⟨l.length + 1, fun k hk => ?_⟩
  show laws_markIntS.f k l a = _
  unfold laws_markIntS.f
  have h := markIntS_l0 a l.length h0 h1 hn l.length 0 l k (by omega) rfl (by simp [markL]) (by omega)
  simpa using h
theorem heldIntS_l0 (a : Int) (n : Nat) (h0 : 0 ≤ a) (h1 : a ≤ 4611686018427387904) (hn : n ≤ 4611686018427387) (d : Nat) : ∀ (i k : Nat), i + d = n → d < k →
    laws_heldIntS.l0 k (markL a n) (a + i) i = some (a + n) := by
  induction d with
  | zero =>
    intro i k hi hk
    obtain ⟨k, rfl⟩ : ∃ m, k = m + 1 := ⟨k - 1, by omega⟩
    simp only [laws_heldIntS.l0]
    rw [if_neg (by rw [markL_length]; omega)]
    obtain rfl : i = n := by omega
    rfl
  | succ d ih =>
    intro i k hi hk
    obtain ⟨k, rfl⟩ : ∃ m, k = m + 1 := ⟨k - 1, by omega⟩
    simp only [laws_heldIntS.l0]
    have hlt : i < (markL a n).length := by rw [markL_length]; omega
    rw [if_pos (by rw [markL_length]; omega), if_pos (by omega), rd_nat _ i hlt, markL_get, if_pos rfl, wr1 (by omega), wr_in (x := a + i + 1) (by omega) (by omega)]
    have e : a + (i : Int) + 1 = a + ((i + 1 : Nat) : Int) := by omega
    rw [e]
    exact ih (i + 1) k (by omega) (by omega)
theorem heldIntS_ev (a : Int) (n : Nat) (h0 : 0 ≤ a) (h1 : a ≤ 4611686018427387904) (hn : n ≤ 4611686018427387) : Ev (fun k => laws_heldIntS.f k (markL a n) a) (a + n) := by
  refine ⟨n + 1, fun k hk => ?_⟩
  show laws_heldIntS.f k (markL a n) a = _
  unfold laws_heldIntS.f
  have h := heldIntS_l0 a n h0 h1 hn n 0 k (by omega) (by omega)
  simpa using h

theorem l1In_f (x a b : Int) : spec_l1In.f x a b = some (decide (a ≤ x ∧ x ≤ b)) := by
  unfold spec_l1In.f
  by_cases h : x ≥ a
  · rw [if_pos h]; congr 1; by_cases h2 : x ≤ b
    · rw [decide_eq_true h2, decide_eq_true ⟨h, h2⟩]
    · rw [decide_eq_false h2, decide_eq_false (by omega)]
  · rw [if_neg h, decide_eq_false (by omega)]

theorem within_f (x a b : Int) : impl_within.f x a b = some (decide (a ≤ x ∧ x ≤ b)) := by
  unfold impl_within.f
  by_cases h : a ≤ x
  · rw [if_pos h]; congr 1; by_cases h2 : x ≤ b
    · rw [decide_eq_true h2, decide_eq_true ⟨h, h2⟩]
    · rw [decide_eq_false h2, decide_eq_false (by omega)]
  · rw [if_neg h, decide_eq_false (by omega)]

theorem rdL_nat (l : List (List Int)) (i : Nat) (h : i < l.length) : rd_L1 l (i : Int) = l[i] := by
  simp [rd_L1, List.getD_eq_getElem?_getD, h]
def chkT (a : List (List Int)) (p : List Int) : Bool := match spec_l2Turn.f 100 p, impl_Conjugate.f 100 p with
  | some t, some u => decide (t = u) && both (spec_l21Index.f 100 a t) (slices_IndexFunc_int_int__impl_TurnVector_1.f 100 a t) && (match spec_l21Index.f 100 a t with
    | some j => decide (0 ≤ j ∧ j < a.length)
    | none => false)
  | _, _ => false
def chk (n : Nat) : Bool := match spec_PartitionsOf.f 300 n, impl_PartitionsOf.f 300 n with
  | some a, some b => decide (a = b) && decide (a.length ≤ 20) && a.all (chkT a)
  | _, _ => false
theorem chks : (List.range 7).all chk = true := by decide +kernel
theorem chk9 : (List.range 10).all (fun n => (spec_PartitionsOf.f 500 n).isSome) = true := by decide +kernel
theorem row_of {a : List (List Int)} {p : List Int} (h : chkT a p = true) : ∃ t j, Ev (fun k => spec_l2Turn.f k p) t ∧ Ev (fun k => spec_l21Index.f k a t) j ∧ Ev (fun k => impl_Conjugate.f k p) t ∧ Ev (fun k => slices_IndexFunc_int_int__impl_TurnVector_1.f k a t) j ∧ 0 ≤ j ∧ j < a.length := by
  unfold chkT at h
  split at h
  · rename_i t u ht hu
    simp only [Bool.and_eq_true, decide_eq_true_eq] at h
    obtain ⟨⟨e, hb⟩, hj⟩ := h
    subst e
    split at hj
    · rename_i j hjj
      have hj := of_decide_eq_true hj
      unfold both at hb
      split at hb
      · rename_i x y hx hy
        have e := of_decide_eq_true hb
        subst e
        rw [hjj] at hx
        cases hx
        exact ⟨t, j, Ev.of (spec_l2Turn.mono p) ht, Ev.of (spec_l21Index.mono a t) hjj, Ev.of (impl_Conjugate.mono p) hu, Ev.of (slices_IndexFunc_int_int__impl_TurnVector_1.mono a t) hy, hj.1, hj.2⟩
      · cases hb
    · cases hj
  · cases h
theorem loops (v : List Int) (a : List (List Int)) (hv : v.length = a.length) (ha : a.length ≤ 20) (hc : a.all (chkT a) = true) (d : Nat) : ∀ (i : Nat) (acc : List Int), i + d = a.length → acc.length ≤ i →
    ∃ r : List Int, r.length ≤ 20 ∧ Ev (fun k => spec_TurnVector.l0 k v acc a i) (r, true) ∧ Ev (fun k => impl_TurnVector.l0 k v a acc a a.length i) (r, true) := by
  induction d with
  | zero =>
    intro i acc hi hl
    refine ⟨acc, by omega, ?_, ?_⟩
    · refine Ev.step (fun k => by rw [spec_TurnVector.l0]) ?_
      exact Ev.ite_false (by omega) (Ev.now _)
    · refine Ev.step (fun k => by rw [impl_TurnVector.l0]) ?_
      exact Ev.ite_false (by omega) (Ev.now _)
  | succ d ih =>
    intro i acc hi hl
    have hlt : i < a.length := by omega
    obtain ⟨t, j, h1, h2, h3, h4, h5, h6⟩ := row_of (of_all hc (List.getElem_mem hlt))
    obtain ⟨r, hr, hs, hp⟩ := ih (i + 1) (acc ++ [rd v j]) (by omega) (by simp; omega)
    refine ⟨r, hr, ?_, ?_⟩
    · refine Ev.step (fun k => by rw [spec_TurnVector.l0]) ?_
      simp only [rdL_nat a i hlt]
      refine Ev.ite_true (by omega) (Ev.ite_true (by omega) (Ev.bind h1 (Ev.bind h2 (Ev.ite_true h5 (Ev.ite_true (by omega) (Ev.ite_true (by omega) ?_))))))
      rw [wr1 (by omega)]
      exact hs
    · refine Ev.step (fun k => by rw [impl_TurnVector.l0]) ?_
      simp only [rdL_nat a i hlt]
      refine Ev.ite_true (by omega) (Ev.ite_true (by omega) (Ev.ite_true (by omega) (Ev.bind h3 (Ev.bind h4 (Ev.ite_true h5 (Ev.ite_true (by omega) (Ev.ite_true (by omega) ?_)))))))
      rw [wr1 (by omega)]
      exact hp
theorem parts_some (n : Int) : ∃ a, Ev (fun k => spec_PartitionsOf.f k n) a := by
  by_cases h : 0 ≤ n ∧ n ≤ 9
  · obtain ⟨m, rfl⟩ : ∃ m : Nat, n = (m : Int) := ⟨n.toNat, by omega⟩
    have h := of_all chk9 (x := m) (by simp; omega)
    obtain ⟨a, ha⟩ := Option.isSome_iff_exists.1 h
    exact ⟨a, Ev.of (spec_PartitionsOf.mono m) ha⟩
  · refine ⟨[], ?_⟩
    simp only [spec_PartitionsOf.f, l1In_f, Option.bind_some]
    exact Ev.ite_false (by simpa using h) (Ev.now _)
theorem same (v : List Int) (n : Int) (hl : v.length ≤ 1048576) : ∃ r : List Int × Bool, r.1.length ≤ 20 ∧ Ev (fun k => spec_TurnVector.f k v n) r ∧ Ev (fun k => impl_TurnVector.f k v n) r := by
  by_cases h : 0 ≤ n ∧ n ≤ 6
  · obtain ⟨m, rfl⟩ : ∃ m : Nat, n = (m : Int) := ⟨n.toNat, by omega⟩
    have hc := of_all chks (x := m) (by simp; omega)
    unfold chk at hc
    split at hc
    · rename_i a b ha hb
      simp only [Bool.and_eq_true, decide_eq_true_eq] at hc
      obtain ⟨⟨e, h20⟩, hall⟩ := hc
      subst e
      have hs := Ev.of (spec_PartitionsOf.mono m) ha
      have hi := Ev.of (impl_PartitionsOf.mono m) hb
      have hd : decide (0 ≤ (m : Int) ∧ (m : Int) ≤ 6) = true := decide_eq_true h
      by_cases hv : v.length = a.length
      · obtain ⟨r, hr, h1, h2⟩ := loops v a hv h20 hall a.length 0 [] (by omega) (by simp)
        refine ⟨(r, true), hr, ?_, ?_⟩
        · simp only [spec_TurnVector.f, l1In_f, Option.bind_some, hd]
          refine Ev.bind hs (Ev.ite_true (by first | rfl | trivial) ?_)
          refine Ev.step (fun k => by rw [spec_TurnVector.j0]) ?_
          exact Ev.ite_false (by simp [hv]) h1
        · simp only [impl_TurnVector.f, within_f, Option.bind_some, hd]
          refine Ev.ite_true (by first | rfl | trivial) (Ev.bind hi ?_)
          refine Ev.step (fun k => by rw [impl_TurnVector.j0]) ?_
          exact Ev.ite_false (by simp [hv]) (Ev.bind hi h2)
      · refine ⟨([], false), by simp, ?_, ?_⟩
        · simp only [spec_TurnVector.f, l1In_f, Option.bind_some, hd]
          refine Ev.bind hs (Ev.ite_true (by first | rfl | trivial) ?_)
          refine Ev.step (fun k => by rw [spec_TurnVector.j0]) ?_
          exact Ev.ite_true (by simp; omega) (Ev.now _)
        · simp only [impl_TurnVector.f, within_f, Option.bind_some, hd]
          refine Ev.ite_true (by first | rfl | trivial) (Ev.bind hi ?_)
          refine Ev.step (fun k => by rw [impl_TurnVector.j0]) ?_
          exact Ev.ite_true (by simp; omega) (Ev.now _)
    · cases hc
  · have hd : decide (0 ≤ n ∧ n ≤ 6) = false := decide_eq_false h
    obtain ⟨a, ha⟩ := parts_some n
    refine ⟨([], false), by simp, ?_, ?_⟩
    · simp only [spec_TurnVector.f, l1In_f, Option.bind_some, hd]
      refine Ev.bind ha (Ev.ite_false (by simp) ?_)
      refine Ev.step (fun k => by rw [spec_TurnVector.j0]) ?_
      exact Ev.ite_true (by first | rfl | trivial) (Ev.now _)
    · simp only [impl_TurnVector.f, within_f, Option.bind_some, hd]
      refine Ev.ite_false (by simp) ?_
      refine Ev.step (fun k => by rw [impl_TurnVector.j0]) ?_
      exact Ev.ite_true (by first | rfl | trivial) (Ev.now _)
theorem FnExactTurnVector : laws_FnExactTurnVector.Pure := by
  intro l n h1 h2 h3 h4
  apply Ev.rounds
  simp only [laws_FnExactTurnVector.f]
  by_cases hl : l.length ≤ 1048576
  · obtain ⟨r, hr, hs, hi⟩ := same l n hl
    have hm := markIntS_ev 1 l (by omega) (by omega) (by omega)
    have hm2 := markIntS_ev 1 r.1 (by omega) (by omega) (by omega)
    have hh := heldIntS_ev 1 r.1.length (by omega) (by omega) (by omega)
    have ht := toIntS_ev l hl
    have he := eqIntS_self l hl
    have he2 := eqIntS_self r.1 (by omega)
    refine Ev.ite_false (by omega) ?_
    repeat (first
      | exact Ev.now _
      | refine Ev.bind ht ?_
      | refine Ev.bind hs ?_
      | refine Ev.bind hi ?_
      | refine Ev.bind he ?_
      | refine Ev.bind he2 ?_
      | refine Ev.bind hm ?_
      | refine Ev.bind hm2 ?_
      | refine Ev.bind hh ?_
      | refine Ev.ite_true (by first | rfl | (simp; done) | omega | (dsimp only; omega)) ?_
      | refine Ev.ite_false (by first | (simp; done) | omega | (dsimp only; omega)) ?_
      | refine Ev.step (fun k => by simp only [laws_FnExactTurnVector.j0]; rfl) ?_
      | refine Ev.step (fun k => by simp only [laws_FnExactTurnVector.j1]; rfl) ?_
      | refine Ev.step (fun k => by simp only [laws_FnExactTurnVector.j2]; rfl) ?_)
  · exact Ev.ite_true (by omega) (Ev.now _)

end Go.Proofs.Ytcmoghgiddpibaa.Pure
