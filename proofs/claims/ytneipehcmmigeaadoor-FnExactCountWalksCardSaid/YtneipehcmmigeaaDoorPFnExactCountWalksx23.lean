/- impl.IsWalk: strings.Trim at the cutset "ud" by the shelf's contract (its lay written out), and a bound on the length. -/
import Derived.Test.YtneipehcmmigeaaDoorPFnExactCountWalksx0
import Derived.WalkKit
import Derived.ProofKit
import Derived.Shelf.Strings.SlTrimAscii
import Derived.Deep.LoopGhost
set_option linter.unusedVariables false
set_option linter.unusedSimpArgs false
namespace Go.Proofs
open Go.RowKit Go.Shelf Go.Lib
namespace YtneipehcmmigeaaDoor
def trimRen : Go.Shelf.Ren := ⟨fun | 160 => 57 | 232 => 72 | 231 => 71 | 227 => 73 | 234 => 75 | 233 => 74 | 236 => 77 | 235 => 76 | 228 => 95 | 271 => 98 | 151 => 97 | 197 => 96 | 120 => 112 | 152 => 111 | 260 => 110 | 137 => 120 | 119 => 121 | 224 => 122 | 225 => 123 | 217 => 128 | 266 => 131 | n => n, fun | 9 => 9 | 4 => 4 | 3 => 3 | 5 => 5 | 117 => 74 | 116 => 73 | 0 => 0 | 124 => 77 | 21 => 21 | 105 => 102 | 46 => 70 | 119 => 124 | 139 => 127 | 138 => 126 | n => n, fun | 3 => 0 | 4 => 1 | n => n⟩
theorem trimLays : Lays.n160 Tryd.prog trimRen where
  mixed := by kernel_rfl
  f119 := Tryd.func121.trans (congrArg some (by kernel_rfl))
  f120 := Tryd.func112.trans (congrArg some (by kernel_rfl))
  f137 := Tryd.func120.trans (congrArg some (by kernel_rfl))
  f151 := Tryd.func97.trans (congrArg some (by kernel_rfl))
  f152 := Tryd.func111.trans (congrArg some (by kernel_rfl))
  f160 := Tryd.func57.trans (congrArg some (by kernel_rfl))
  f197 := Tryd.func96.trans (congrArg some (by kernel_rfl))
  f217 := Tryd.func128.trans (congrArg some (by kernel_rfl))
  f224 := Tryd.func122.trans (congrArg some (by kernel_rfl))
  f225 := Tryd.func123.trans (congrArg some (by kernel_rfl))
  f227 := Tryd.func73.trans (congrArg some (by kernel_rfl))
  f228 := Tryd.func95.trans (congrArg some (by kernel_rfl))
  f231 := Tryd.func71.trans (congrArg some (by kernel_rfl))
  f232 := Tryd.func72.trans (congrArg some (by kernel_rfl))
  f233 := Tryd.func74.trans (congrArg some (by kernel_rfl))
  f234 := Tryd.func75.trans (congrArg some (by kernel_rfl))
  f235 := Tryd.func76.trans (congrArg some (by kernel_rfl))
  f236 := Tryd.func77.trans (congrArg some (by kernel_rfl))
  f260 := Tryd.func110.trans (congrArg some (by kernel_rfl))
  f266 := Tryd.func131.trans (congrArg some (by kernel_rfl))
  f271 := Tryd.func98.trans (congrArg some (by kernel_rfl))
  t0 := Tryd.underlying0
  a0 := Tryd.isAgg0
  z0 := Tryd.sizeOf0
  v0 := Tryd.zeroValue0
  t3 := Tryd.underlying3
  a3 := Tryd.isAgg3
  z3 := Tryd.sizeOf3
  v3 := Tryd.zeroValue3
  t4 := Tryd.underlying4
  a4 := Tryd.isAgg4
  z4 := Tryd.sizeOf4
  v4 := Tryd.zeroValue4
  t5 := Tryd.underlying5
  a5 := Tryd.isAgg5
  z5 := Tryd.sizeOf5
  v5 := Tryd.zeroValue5
  t9 := Tryd.underlying9
  a9 := Tryd.isAgg9
  z9 := Tryd.sizeOf9
  v9 := Tryd.zeroValue9
  t21 := Tryd.underlying21
  a21 := Tryd.isAgg21
  z21 := Tryd.sizeOf21
  v21 := Tryd.zeroValue21
  t46 := Tryd.underlying70
  a46 := Tryd.isAgg70
  z46 := Tryd.sizeOf70
  v46 := Tryd.zeroValue70
  t105 := Tryd.underlying102
  a105 := Tryd.isAgg102
  z105 := Tryd.sizeOf102
  v105 := Tryd.zeroValue102
  t116 := Tryd.underlying73
  a116 := Tryd.isAgg73
  z116 := Tryd.sizeOf73
  t117 := Tryd.underlying74
  a117 := Tryd.isAgg74
  z117 := Tryd.sizeOf74
  v117 := Tryd.zeroValue74
  t119 := Tryd.underlying124
  a119 := Tryd.isAgg124
  z119 := Tryd.sizeOf124
  t124 := Tryd.underlying77
  a124 := Tryd.isAgg77
  z124 := Tryd.sizeOf77
  v124 := Tryd.zeroValue77
  t138 := Tryd.underlying126
  a138 := Tryd.isAgg126
  z138 := Tryd.sizeOf126
  v138 := Tryd.zeroValue126
  t139 := Tryd.underlying127
  a139 := Tryd.isAgg127
  z139 := Tryd.sizeOf127
  v139 := Tryd.zeroValue127
  g3 := by kernel_rfl
  g4 := by kernel_rfl
/-- How far a walk reads: up to the first byte that is neither 'u' nor 'd'. -/
def ud (b : UInt8) : Bool := b.toNat == 117 || b.toNat == 100
theorem ud_contains (b : UInt8) : [117, 100].contains b = ud b := by
  unfold ud
  simp only [List.contains_cons, List.contains_nil, Bool.or_false]
  congr 1 <;> rw [Bool.eq_iff_iff, beq_iff_eq, beq_iff_eq, ← UInt8.toNat_inj] <;> rfl
theorem dropW_nil (l : List UInt8) : l.dropWhile ([117, 100].contains ·) = [] ↔ l.all ud = true := by
  induction l with
  | nil => simp
  | cons b r ih =>
    rw [List.dropWhile_cons, List.all_cons, ud_contains]
    cases ud b <;> simp_all
theorem dropW_suffix (l : List UInt8) : ∃ a, l = a ++ l.dropWhile ([117, 100].contains ·) ∧ a.all ud = true := by
  induction l with
  | nil => exact ⟨[], rfl, rfl⟩
  | cons b r ih =>
    obtain ⟨a, h1, h2⟩ := ih
    rw [List.dropWhile_cons, ud_contains]
    by_cases h : ud b = true
    · rw [if_pos h]
      exact ⟨b :: a, by rw [List.cons_append, ← h1], by rw [List.all_cons, h, h2]; rfl⟩
    · rw [if_neg h]
      exact ⟨[], rfl, rfl⟩
theorem trim_nil (l : List UInt8) : (⟨(Lib.trimS l [117, 100]).toArray⟩ : ByteArray) = ⟨#[]⟩ ↔ l.all ud = true := by
  have e : (⟨(Lib.trimS l [117, 100]).toArray⟩ : ByteArray) = ⟨#[]⟩ ↔ Lib.trimS l [117, 100] = [] := by
    constructor
    · intro h
      injection h with h
      simpa using h
    · intro h
      rw [h]
  rw [e]
  unfold Lib.trimS Lib.trimLeftS Lib.trimRightS
  rw [dropW_nil, List.all_reverse]
  obtain ⟨a, h1, h2⟩ := dropW_suffix l.reverse
  have : l.all ud = l.reverse.all ud := (List.all_reverse).symm
  rw [this, h1, List.all_append, h2, Bool.true_and]
  rw [← h1]
set_option maxHeartbeats 8000000 in
set_option maxRecDepth 100000 in
theorem isWalk_calls (s : ByteArray) (hs : s.size ≤ 1048576) (w : World) :
    Calls Tryd.prog 35 #[.string s] w fun e w' => e = .returned (.bool (s.data.toList.all ud && decide (s.size ≤ 10))) ∧ Below w.heap.size w w' := by
  have hcon := Any.strings_Trim_laid trimLays (by kernel_rfl) s ⟨#[117, 100]⟩ w (by omega) (by decide) (ascii_of_all (by decide))
  change Calls Tryd.prog 57 _ _ (fun e w' => e = .returned (.string ⟨(Lib.trimS s.data.toList [117, 100]).toArray⟩) ∧ Below w.heap.size w w') at hcon
  have ht := trim_nil s.data.toList
  generalize (⟨(Lib.trimS s.data.toList [117, 100]).toArray⟩ : ByteArray) = r at hcon ht
  by_cases hl : s.size ≤ 10
  · have c0 : decide ((s.size : Int) ≤ 10) = true := decide_eq_true (by omega)
    go_enter Tryd.func35, Tryd.ntmps35
    go_wp2_with (go_at_call 57; refine hcon.mono ?_; rintro e w' ⟨rfl, hB⟩)
    go_ret
    refine ⟨?_, hB⟩
    have hr : r.toList.isEmpty = s.data.toList.all ud := by
      rw [Lib.toList_data, Bool.eq_iff_iff, ← ht]
      constructor
      · intro h
        cases r with
        | mk a =>
          have : a.toList = [] := by simpa using h
          have : a = #[] := by simpa using this
          rw [this]
      · intro h
        rw [h]
        rfl
    rw [decide_eq_true hl, Bool.and_true, ← hr]
    rfl
  · have c0 : decide ((s.size : Int) ≤ 10) = false := decide_eq_false (by omega)
    go_enter Tryd.func35, Tryd.ntmps35
    go_wp2_with fail
    go_ret
    refine ⟨?_, Below.refl _ _⟩
    rw [decide_eq_false hl, Bool.and_false]
    rfl

def impl_IsWalk.f (a0 : ByteArray) : Option Bool := if a0.size ≤ 1048576 then some (a0.data.toList.all ud && decide (a0.size ≤ 10)) else none
theorem impl_IsWalk.calls (a0 : ByteArray) (r : Bool) (w : World) (h : impl_IsWalk.f a0 = some r) :
    Calls Tryd.prog 35 #[.string a0] w fun e w' => e = .returned (.bool r) ∧ Below w.heap.size w w' := by
  unfold impl_IsWalk.f at h
  by_cases c : a0.size ≤ 1048576
  · rw [if_pos c] at h
    cases h
    exact isWalk_calls a0 c w
  · rw [if_neg c] at h; cases h
end YtneipehcmmigeaaDoor
end Go.Proofs
