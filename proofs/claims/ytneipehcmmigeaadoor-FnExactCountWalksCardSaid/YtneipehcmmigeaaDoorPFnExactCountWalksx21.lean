/- A map from a partition's text to a number, kept by a call: what its block is good for (Iv.R), and the texts of lists of digits. -/
import Derived.Test.YtneipehcmmigeaaDoorPFnExactCountWalksx0
import Derived.Test.YtneipehcmmigeaaDoorPFnExactCountWalksx20
import Derived.Maps.OwnOps
import Derived.Maps.Views
set_option linter.unusedVariables false
set_option linter.unusedSimpArgs false
namespace Go.Proofs.YtneipehcmmigeaaDoor.PFnExactCountWalks
open Go.RowKit Go.Lib Go.Maps Go.Proofs.YtneipehcmmigeaaDoorW.PrintWords Go.Proofs.YtneipehcmmigeaaDoorW.PrintLast Go.Proofs.YtneipehcmmigeaaDoorW.PrintMore
/-- What has been put: the newest first. -/
abbrev Mt := List (List Int × Int)
def mget : Mt → List Int → Int
  | [], _ => 0
  | (q, v) :: r, l => if q = l then v else mget r l
/-- A list of digits. -/
def dgs (l : List Int) : Bool := l.all (fun x => decide (0 ≤ x ∧ x < 10)) && decide (l.length ≤ 100)
theorem dgs_ok {l : List Int} (h : dgs l = true) : (∀ x ∈ l, 0 ≤ x ∧ x < 10) ∧ l.length ≤ 100 := by
  unfold dgs at h
  rw [Bool.and_eq_true, List.all_eq_true] at h
  exact ⟨fun x hx => of_decide_eq_true (h.1 x hx), of_decide_eq_true h.2⟩
def c44 : ByteArray := ⟨#[44]⟩
def keyJ (l : List Int) : Lit := .string (joinT l c44).data.toList
/-- A partition's text. -/
def pt (l : List Int) : ByteArray := if l = [] then ⟨#[45]⟩ else joinT l c44
def key (l : List Int) : Lit := .string (pt l).data.toList
theorem dig_one {x : Int} (h0 : 0 ≤ x) (h : x < 10) : Lib.decDigits x.toNat = [UInt8.ofNat (48 + x.toNat)] := by
  unfold Lib.decDigits
  rw [dif_pos (by omega)]
theorem byte_inj {x y : Int} (h0 : 0 ≤ x) (h : x < 10) (k0 : 0 ≤ y) (k : y < 10) (e : UInt8.ofNat (48 + x.toNat) = UInt8.ofNat (48 + y.toNat)) : x = y := by
  have e2 := congrArg UInt8.toNat e
  rw [UInt8.toNat_ofNat', UInt8.toNat_ofNat'] at e2
  omega
theorem tail_inj : ∀ (l m : List Int), (∀ x ∈ l, 0 ≤ x ∧ x < 10) → (∀ x ∈ m, 0 ≤ x ∧ x < 10) →
    Lib.joinTail [44] (l.map fun x => Lib.decDigits x.toNat) = Lib.joinTail [44] (m.map fun x => Lib.decDigits x.toNat) → l = m
  | [], [], _, _, _ => rfl
  | [], y :: m, _, hm, e => by simp [Lib.joinTail] at e
  | x :: l, [], hl, _, e => by simp [Lib.joinTail] at e
  | x :: l, y :: m, hl, hm, e => by
    have hx := hl x (List.mem_cons_self ..)
    have hy := hm y (List.mem_cons_self ..)
    have e1 : Lib.joinTail [44] ((x :: l).map fun x => Lib.decDigits x.toNat) = 44 :: UInt8.ofNat (48 + x.toNat) :: Lib.joinTail [44] (l.map fun x => Lib.decDigits x.toNat) := by
      simp [Lib.joinTail, dig_one hx.1 hx.2]
    have e2 : Lib.joinTail [44] ((y :: m).map fun x => Lib.decDigits x.toNat) = 44 :: UInt8.ofNat (48 + y.toNat) :: Lib.joinTail [44] (m.map fun x => Lib.decDigits x.toNat) := by
      simp [Lib.joinTail, dig_one hy.1 hy.2]
    rw [e1, e2] at e
    injection e with _ e
    injection e with e3 e4
    rw [byte_inj hx.1 hx.2 hy.1 hy.2 e3, tail_inj l m (fun x h => hl x (List.mem_cons_of_mem _ h)) (fun x h => hm x (List.mem_cons_of_mem _ h)) e4]
theorem keyJ_inj {l m : List Int} (hl : dgs l = true) (hm : dgs m = true) (e : keyJ l = keyJ m) : l = m := by
  have hl := (dgs_ok hl).1
  have hm := (dgs_ok hm).1
  unfold keyJ joinT at e
  injection e with e
  have ec : c44.data.toList = [44] := rfl
  rw [ec] at e
  cases l with
  | nil =>
    cases m with
    | nil => rfl
    | cons y m =>
      have hy := hm y (List.mem_cons_self ..)
      rw [List.map_cons, Lib.join_cons, dig_one hy.1 hy.2] at e
      simp [Lib.join, List.intercalate] at e
  | cons x l =>
    have hx := hl x (List.mem_cons_self ..)
    cases m with
    | nil =>
      rw [List.map_cons, Lib.join_cons, dig_one hx.1 hx.2] at e
      simp [Lib.join, List.intercalate] at e
    | cons y m =>
      have hy := hm y (List.mem_cons_self ..)
      rw [List.map_cons, List.map_cons, Lib.join_cons, Lib.join_cons, dig_one hx.1 hx.2, dig_one hy.1 hy.2] at e
      simp only [List.cons_append, List.nil_append] at e
      injection e with e3 e4
      rw [byte_inj hx.1 hx.2 hy.1 hy.2 e3, tail_inj l m (fun x h => hl x (List.mem_cons_of_mem _ h)) (fun x h => hm x (List.mem_cons_of_mem _ h)) e4]
theorem joinT_size {l : List Int} (h : dgs l = true) : (joinT l c44).size ≤ maxLen := by
  have h1 := dgs_ok h
  have h2 := join_len (l.map fun x => Lib.decDigits x.toNat) c44.data.toList (fun y hy => by
    obtain ⟨z, hz, rfl⟩ := List.mem_map.mp hy
    exact decDigits_len _ (by have := h1.1 z hz; omega))
  have e : (joinT l c44).size = (Lib.join (l.map fun x => Lib.decDigits x.toNat) c44.data.toList).length := by simp [joinT, ByteArray.size]
  rw [e]
  have h3 : c44.data.toList.length = 1 := rfl
  rw [h3, List.length_map] at h2
  unfold maxLen
  have := h1.2
  omega
theorem pt_size {l : List Int} (h : dgs l = true) : (pt l).size ≤ maxLen := by
  unfold pt
  split
  · unfold maxLen; decide
  · exact joinT_size h
theorem joinT_ne {x : Int} {l : List Int} (h0 : 0 ≤ x) (h : x < 10) (e : (joinT (x :: l) c44).data.toList = [45]) : False := by
  unfold joinT at e
  rw [List.map_cons, Lib.join_cons, dig_one h0 h] at e
  simp only [List.cons_append, List.nil_append] at e
  injection e with e _
  have e2 := congrArg UInt8.toNat e
  rw [UInt8.toNat_ofNat'] at e2
  have : (45 : UInt8).toNat = 45 := rfl
  omega
theorem key_inj {l m : List Int} (hl : dgs l = true) (hm : dgs m = true) (e : key l = key m) : l = m := by
  have h1 := (dgs_ok hl).1
  have h2 := (dgs_ok hm).1
  unfold key pt at e
  injection e with e
  cases l with
  | nil =>
    cases m with
    | nil => rfl
    | cons y m => exact (joinT_ne (h2 y (List.mem_cons_self ..)).1 (h2 y (List.mem_cons_self ..)).2 (by rw [if_pos rfl, if_neg (by simp)] at e; exact e.symm)).elim
  | cons x l =>
    cases m with
    | nil => exact (joinT_ne (h1 x (List.mem_cons_self ..)).1 (h1 x (List.mem_cons_self ..)).2 (by rw [if_pos rfl, if_neg (by simp)] at e; exact e)).elim
    | cons y m =>
      rw [if_neg (by simp), if_neg (by simp)] at e
      exact keyJ_inj hl hm (by unfold keyJ; rw [e])
/-- A ghost: the value whose block the map's is. -/
def stV (b : Nat) : Value := .slice (some ⟨b, 0, none⟩) 0 0
namespace Iv
/-- Block b holds the map that reads as what has been put. -/
def M (b : Nat) (W : World) (m : Mt) : Prop := ∃ D : DataW Unit, W.ownsMap Tryd.prog 9 (plainElem Tryd.prog 3) b m.length D ∧ IsMap D ∧ ∀ l, dgs l = true → D.atKey (key l) (.lit (.int .i64 0)) = .lit (.int .i64 (mget m l))
def R (b : Nat) (W : World) (base : Nat) (ok : Nat → Prop) (m : Mt) : Prop := (∀ k, (stV b).ownBlock = some k → ok k) ∧ base ≤ b ∧ M b W m
section
variable {b base : Nat} {W w1 W2 : World} {ok ok' : Nat → Prop} {m : Mt}
theorem M_step (h : M b W m) (hb : w1.heap[b]? = W.heap[b]?) : M b w1 m := by
  obtain ⟨D, h1, h2⟩ := h
  obtain ⟨es, clock, hh, r⟩ := h1
  exact ⟨D, ⟨es, clock, hb.trans hh, r⟩, h2⟩
theorem M_lt (h : M b W m) : b < W.heap.size := by
  obtain ⟨D, h1, _⟩ := h
  exact h1.lt
theorem R_lt (h : R b W base ok m) : ∀ k, (stV b).ownBlock = some k → k < W.heap.size := fun k hk => by
  cases hk
  exact M_lt h.2.2
theorem R_base (h : R b W base ok m) : ∀ k, (stV b).ownBlock = some k → base ≤ k := fun k hk => by
  cases hk
  exact h.2.1
theorem R_mono (h : R b W base ok m) (hok : ∀ k, ok k → ok' k) : R b W base ok' m := ⟨fun k hk => hok k (h.1 k hk), h.2⟩
theorem R_below (h : R b W base ok m) (hb : Below W.heap.size W w1) : R b w1 base ok m := ⟨h.1, h.2.1, M_step h.2.2 (hb.block b (M_lt h.2.2))⟩
theorem R_alloc (h : R b W base ok m) (o : Obj) : R b (W.alloc o) base ok m := R_below h (below_alloc (Below.refl _ _) o)
theorem R_drew (h : R b W base ok m) : R b W.drew base ok m := R_below h (below_drew (Below.refl _ _))
theorem R_drewN (h : R b W base ok m) (n : Nat) : R b (W.drewN n) base ok m := R_below h (pw_below_drewN (Below.refl _ _) n)
theorem R_tight (h : R b W base ok m) : R b W base (fun k => some k = (stV b).ownBlock) m := ⟨fun k hk => hk.symm, h.2⟩
theorem R_reok {ok1 : Nat → Prop} (h : R b W base ok1 m) (hok : ∀ k, (stV b).ownBlock = some k → ok k) : R b W base ok m := ⟨hok, h.2⟩
theorem R_elder' {v : Value} (hu : R b W base ok m) (hbase : ∀ k, v.ownBlock = some k → W.heap.size ≤ k) (hb : Below W.heap.size W w1) : R b w1 base (fun k => ok k ∧ some k ≠ v.ownBlock) m :=
  ⟨fun k hk => ⟨hu.1 k hk, fun e => by have := R_lt hu k hk; have := hbase k e.symm; omega⟩, (R_below hu hb).2⟩
theorem R_keptB {S : Nat → Prop} (h : R b W base ok m) (hk : Kept W W2 S) (hne : ∀ k, ok k → ¬ S k) : R b W2 base (fun k => ok k ∧ (¬ S k ∧ k < W.heap.size)) m :=
  ⟨fun k hk' => ⟨h.1 k hk', hne k (h.1 k hk'), R_lt h k hk'⟩, h.2.1, M_step h.2.2 (hk.2 b (M_lt h.2.2) (hne b (h.1 b rfl)))⟩
theorem R_after {v v1 : Value} (h : R b W base (fun k => ok k ∧ some k ≠ v.ownBlock) m) (hg : W.grownBy w1 v.ownBlock) (hat : v1.ownBlock = v.ownBlock ∨ ∃ b, v1.ownBlock = some b ∧ W.heap.size ≤ b) : R b w1 base (fun k => ok k ∧ some k ≠ v1.ownBlock) m := by
  refine ⟨fun k hk => ⟨(h.1 k hk).1, ?_⟩, h.2.1, M_step h.2.2 (hg.block b (M_lt h.2.2) (h.1 b rfl).2)⟩
  rcases hat with hat | ⟨g, hg1, hg2⟩
  · rw [hat]; exact (h.1 k hk).2
  · rw [hg1]
    intro e
    have := R_lt h k hk
    injection e with e
    omega
/-- A map that is only read. -/
theorem M_below (h : M b W m) (hb : Below W.heap.size W w1) : M b w1 m := M_step h (hb.block b (M_lt h))
theorem M_alloc (h : M b W m) (o : Obj) : M b (W.alloc o) m := M_below h (below_alloc (Below.refl _ _) o)
theorem M_drew (h : M b W m) : M b W.drew m := M_below h (below_drew (Below.refl _ _))
theorem M_drewN (h : M b W m) (n : Nat) : M b (W.drewN n) m := M_below h (pw_below_drewN (Below.refl _ _) n)
end
/-- A fact, carried over to the world of here. -/
theorem xI {p q : Prop} (h : p) (f : p → q := by intro h_; (with_reducible repeat (first | apply Iv.R_alloc | apply Iv.R_drewN | apply Iv.R_drew)); first | exact h_ | exact Iv.R_mono h_ xi) : q := f h
end Iv
end Go.Proofs.YtneipehcmmigeaaDoor.PFnExactCountWalks
