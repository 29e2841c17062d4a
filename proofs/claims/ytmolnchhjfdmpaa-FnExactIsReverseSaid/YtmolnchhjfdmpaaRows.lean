/-
  No cell of these rows narrows 'for every input' (looked for: loops, veiled, ifaces, maps, wideKeys, modest, calm, conditions, laid).
  DERIVED. THE GIVEN ROWS OF THIS SEAT. 12 by the template 'for every input the law returns true; each argument reads behind the call as it read before'; 0 by the template 'total and deterministic' (their statements: YtmolnchhjfdmpaaTotals.lean).
  GIVEN WITH THE SEED: the statements are not yours to turn. If you find one false, say at which input.
  Laid BY PROGRAM, IN A SANDBOX (cutbox-rows.mjs): the forced cells as the released guide's own fill.sh prints them over the translation 3b8c945a81fc4523… (all of the seat's roots in one cut). By AI agents, Wed Nov 11 2026. No macro, syntax, notation, axiom, sorry.
-/
import Derived.Test.YtmolnchhjfdmpaaChecked
import GoSem.Claim
import GoSem.ClaimJoined
import GoSem.ClaimMapViews
import Derived.JoinedTies
import Derived.KernelRfl
namespace Go.Proofs.Ytmolnchhjfdmpaa
/- THE CELL 'sum', in the pinned program and in every row, IS THE sha256 OF THE DUMP (.gsa) THAT YtmolnchhjfdmpaaProg.lean LOADS. Nothing in Lean hashes anything: it is a label: what it is worth is what the hold of that sum in a sandbox is worth. -/
noncomputable def Try.pinned : Pinned := { name := "ytmolnchhjfdmpaa", sum := "3b8c945a81fc4523025282958b2d1114011f229105f75b476ced8e26a2b996fa", checked := Try.checked }
namespace Rows
def none {H : Type} : Left H := { results := [], args := [] }

/-- 'laws.FnExactMajorIndex': WHATEVER THE INPUT: true; the input reads as it did. -/
def fnExactMajorIndexSpec : ChangeSpec := { name := "fnExactMajorIndex", fn := fun _ => fun
  | [d] => { results := [.lit (.bool true)], args := [d] }
  | _ => none }
def fnExactMajorIndexRow : OpenClaim := { program := "ytmolnchhjfdmpaa", sum := "3b8c945a81fc4523025282958b2d1114011f229105f75b476ced8e26a2b996fa", func := "loop.example/g00598/laws.FnExactMajorIndex", spec := "fnExactMajorIndex", unfollowed := true, recurses := true, apart := false }
def FnExactMajorIndexSaid : Prop := fnExactMajorIndexRow.holds Try.pinned (OpenSpec.ofChange fnExactMajorIndexSpec)

/-- ITS FALSE NEIGHBOUR: 'it returns false'. Refute it at one input. -/
def fnExactMajorIndexWrong : ChangeSpec := { name := "fnExactMajorIndex", fn := fun _ => fun
  | [d] => { results := [.lit (.bool false)], args := [d] }
  | _ => none }
def FnExactMajorIndexWrongFalsely : Prop := fnExactMajorIndexRow.holds Try.pinned (OpenSpec.ofChange fnExactMajorIndexWrong)

/-- 'laws.FnExactSignOf': WHATEVER THE INPUT: true; the input reads as it did. -/
def fnExactSignOfSpec : ChangeSpec := { name := "fnExactSignOf", fn := fun _ => fun
  | [d] => { results := [.lit (.bool true)], args := [d] }
  | _ => none }
def fnExactSignOfRow : OpenClaim := { program := "ytmolnchhjfdmpaa", sum := "3b8c945a81fc4523025282958b2d1114011f229105f75b476ced8e26a2b996fa", func := "loop.example/g00598/laws.FnExactSignOf", spec := "fnExactSignOf", apart := false }
def FnExactSignOfSaid : Prop := fnExactSignOfRow.holds Try.pinned (OpenSpec.ofChange fnExactSignOfSpec)

/-- ITS FALSE NEIGHBOUR: 'it returns false'. Refute it at one input. -/
def fnExactSignOfWrong : ChangeSpec := { name := "fnExactSignOf", fn := fun _ => fun
  | [d] => { results := [.lit (.bool false)], args := [d] }
  | _ => none }
def FnExactSignOfWrongFalsely : Prop := fnExactSignOfRow.holds Try.pinned (OpenSpec.ofChange fnExactSignOfWrong)

/-- 'laws.FnExactFreeCounts': WHATEVER THE INPUT: true; the input reads as it did. -/
def fnExactFreeCountsSpec : ChangeSpec := { name := "fnExactFreeCounts", fn := fun _ => fun
  | [d1, d2] => { results := [.lit (.bool true)], args := [d1, d2] }
  | _ => none }
def fnExactFreeCountsRow : OpenClaim := { program := "ytmolnchhjfdmpaa", sum := "3b8c945a81fc4523025282958b2d1114011f229105f75b476ced8e26a2b996fa", func := "loop.example/g00598/laws.FnExactFreeCounts", spec := "fnExactFreeCounts", unfollowed := true, recurses := true, apart := false }
def FnExactFreeCountsSaid : Prop := fnExactFreeCountsRow.holds Try.pinned (OpenSpec.ofChange fnExactFreeCountsSpec)

/-- ITS FALSE NEIGHBOUR: 'it returns false'. Refute it at one input. -/
def fnExactFreeCountsWrong : ChangeSpec := { name := "fnExactFreeCounts", fn := fun _ => fun
  | [d1, d2] => { results := [.lit (.bool false)], args := [d1, d2] }
  | _ => none }
def FnExactFreeCountsWrongFalsely : Prop := fnExactFreeCountsRow.holds Try.pinned (OpenSpec.ofChange fnExactFreeCountsWrong)

/-- 'laws.FnExactCentralizerSize': WHATEVER THE INPUT: true; the input reads as it did. -/
def fnExactCentralizerSizeSpec : ChangeSpec := { name := "fnExactCentralizerSize", fn := fun _ => fun
  | [d] => { results := [.lit (.bool true)], args := [d] }
  | _ => none }
def fnExactCentralizerSizeRow : OpenClaim := { program := "ytmolnchhjfdmpaa", sum := "3b8c945a81fc4523025282958b2d1114011f229105f75b476ced8e26a2b996fa", func := "loop.example/g00598/laws.FnExactCentralizerSize", spec := "fnExactCentralizerSize", apart := false }
def FnExactCentralizerSizeSaid : Prop := fnExactCentralizerSizeRow.holds Try.pinned (OpenSpec.ofChange fnExactCentralizerSizeSpec)

/-- ITS FALSE NEIGHBOUR: 'it returns false'. Refute it at one input. -/
def fnExactCentralizerSizeWrong : ChangeSpec := { name := "fnExactCentralizerSize", fn := fun _ => fun
  | [d] => { results := [.lit (.bool false)], args := [d] }
  | _ => none }
def FnExactCentralizerSizeWrongFalsely : Prop := fnExactCentralizerSizeRow.holds Try.pinned (OpenSpec.ofChange fnExactCentralizerSizeWrong)

/-- 'laws.FnExactBetaNumbers': WHATEVER THE INPUT: true; the input reads as it did. -/
def fnExactBetaNumbersSpec : ChangeSpec := { name := "fnExactBetaNumbers", fn := fun _ => fun
  | [d1, d2] => { results := [.lit (.bool true)], args := [d1, d2] }
  | _ => none }
def fnExactBetaNumbersRow : OpenClaim := { program := "ytmolnchhjfdmpaa", sum := "3b8c945a81fc4523025282958b2d1114011f229105f75b476ced8e26a2b996fa", func := "loop.example/g00598/laws.FnExactBetaNumbers", spec := "fnExactBetaNumbers", apart := false }
def FnExactBetaNumbersSaid : Prop := fnExactBetaNumbersRow.holds Try.pinned (OpenSpec.ofChange fnExactBetaNumbersSpec)

/-- ITS FALSE NEIGHBOUR: 'it returns false'. Refute it at one input. -/
def fnExactBetaNumbersWrong : ChangeSpec := { name := "fnExactBetaNumbers", fn := fun _ => fun
  | [d1, d2] => { results := [.lit (.bool false)], args := [d1, d2] }
  | _ => none }
def FnExactBetaNumbersWrongFalsely : Prop := fnExactBetaNumbersRow.holds Try.pinned (OpenSpec.ofChange fnExactBetaNumbersWrong)

/-- 'laws.FnExactCombineVectors': WHATEVER THE INPUT: true; the input reads as it did. -/
def fnExactCombineVectorsSpec : ChangeSpec := { name := "fnExactCombineVectors", fn := fun _ => fun
  | [d1, d2] => { results := [.lit (.bool true)], args := [d1, d2] }
  | _ => none }
def fnExactCombineVectorsRow : OpenClaim := { program := "ytmolnchhjfdmpaa", sum := "3b8c945a81fc4523025282958b2d1114011f229105f75b476ced8e26a2b996fa", func := "loop.example/g00598/laws.FnExactCombineVectors", spec := "fnExactCombineVectors", apart := false }
def FnExactCombineVectorsSaid : Prop := fnExactCombineVectorsRow.holds Try.pinned (OpenSpec.ofChange fnExactCombineVectorsSpec)

/-- ITS FALSE NEIGHBOUR: 'it returns false'. Refute it at one input. -/
def fnExactCombineVectorsWrong : ChangeSpec := { name := "fnExactCombineVectors", fn := fun _ => fun
  | [d1, d2] => { results := [.lit (.bool false)], args := [d1, d2] }
  | _ => none }
def FnExactCombineVectorsWrongFalsely : Prop := fnExactCombineVectorsRow.holds Try.pinned (OpenSpec.ofChange fnExactCombineVectorsWrong)

/-- 'laws.FnExactIsFilling': WHATEVER THE INPUT: true; the input reads as it did. -/
def fnExactIsFillingSpec : ChangeSpec := { name := "fnExactIsFilling", fn := fun _ => fun
  | [d1, d2] => { results := [.lit (.bool true)], args := [d1, d2] }
  | _ => none }
def fnExactIsFillingRow : OpenClaim := { program := "ytmolnchhjfdmpaa", sum := "3b8c945a81fc4523025282958b2d1114011f229105f75b476ced8e26a2b996fa", func := "loop.example/g00598/laws.FnExactIsFilling", spec := "fnExactIsFilling", unfollowed := true, recurses := true, apart := false }
def FnExactIsFillingSaid : Prop := fnExactIsFillingRow.holds Try.pinned (OpenSpec.ofChange fnExactIsFillingSpec)

/-- ITS FALSE NEIGHBOUR: 'it returns false'. Refute it at one input. -/
def fnExactIsFillingWrong : ChangeSpec := { name := "fnExactIsFilling", fn := fun _ => fun
  | [d1, d2] => { results := [.lit (.bool false)], args := [d1, d2] }
  | _ => none }
def FnExactIsFillingWrongFalsely : Prop := fnExactIsFillingRow.holds Try.pinned (OpenSpec.ofChange fnExactIsFillingWrong)

/-- 'laws.FnExactClassSize': WHATEVER THE INPUT: true; the input reads as it did. -/
def fnExactClassSizeSpec : ChangeSpec := { name := "fnExactClassSize", fn := fun _ => fun
  | [d] => { results := [.lit (.bool true)], args := [d] }
  | _ => none }
def fnExactClassSizeRow : OpenClaim := { program := "ytmolnchhjfdmpaa", sum := "3b8c945a81fc4523025282958b2d1114011f229105f75b476ced8e26a2b996fa", func := "loop.example/g00598/laws.FnExactClassSize", spec := "fnExactClassSize", apart := false }
def FnExactClassSizeSaid : Prop := fnExactClassSizeRow.holds Try.pinned (OpenSpec.ofChange fnExactClassSizeSpec)

/-- ITS FALSE NEIGHBOUR: 'it returns false'. Refute it at one input. -/
def fnExactClassSizeWrong : ChangeSpec := { name := "fnExactClassSize", fn := fun _ => fun
  | [d] => { results := [.lit (.bool false)], args := [d] }
  | _ => none }
def FnExactClassSizeWrongFalsely : Prop := fnExactClassSizeRow.holds Try.pinned (OpenSpec.ofChange fnExactClassSizeWrong)

/-- 'laws.FnExactLowerWord': WHATEVER THE INPUT: true; the input reads as it did. -/
def fnExactLowerWordSpec : ChangeSpec := { name := "fnExactLowerWord", fn := fun _ => fun
  | [d1, d2] => { results := [.lit (.bool true)], args := [d1, d2] }
  | _ => none }
def fnExactLowerWordRow : OpenClaim := { program := "ytmolnchhjfdmpaa", sum := "3b8c945a81fc4523025282958b2d1114011f229105f75b476ced8e26a2b996fa", func := "loop.example/g00598/laws.FnExactLowerWord", spec := "fnExactLowerWord", unfollowed := true, recurses := true, apart := false }
def FnExactLowerWordSaid : Prop := fnExactLowerWordRow.holds Try.pinned (OpenSpec.ofChange fnExactLowerWordSpec)

/-- ITS FALSE NEIGHBOUR: 'it returns false'. Refute it at one input. -/
def fnExactLowerWordWrong : ChangeSpec := { name := "fnExactLowerWord", fn := fun _ => fun
  | [d1, d2] => { results := [.lit (.bool false)], args := [d1, d2] }
  | _ => none }
def FnExactLowerWordWrongFalsely : Prop := fnExactLowerWordRow.holds Try.pinned (OpenSpec.ofChange fnExactLowerWordWrong)

/-- 'laws.FnExactRaiseWord': WHATEVER THE INPUT: true; the input reads as it did. -/
def fnExactRaiseWordSpec : ChangeSpec := { name := "fnExactRaiseWord", fn := fun _ => fun
  | [d1, d2] => { results := [.lit (.bool true)], args := [d1, d2] }
  | _ => none }
def fnExactRaiseWordRow : OpenClaim := { program := "ytmolnchhjfdmpaa", sum := "3b8c945a81fc4523025282958b2d1114011f229105f75b476ced8e26a2b996fa", func := "loop.example/g00598/laws.FnExactRaiseWord", spec := "fnExactRaiseWord", unfollowed := true, recurses := true, apart := false }
def FnExactRaiseWordSaid : Prop := fnExactRaiseWordRow.holds Try.pinned (OpenSpec.ofChange fnExactRaiseWordSpec)

/-- ITS FALSE NEIGHBOUR: 'it returns false'. Refute it at one input. -/
def fnExactRaiseWordWrong : ChangeSpec := { name := "fnExactRaiseWord", fn := fun _ => fun
  | [d1, d2] => { results := [.lit (.bool false)], args := [d1, d2] }
  | _ => none }
def FnExactRaiseWordWrongFalsely : Prop := fnExactRaiseWordRow.holds Try.pinned (OpenSpec.ofChange fnExactRaiseWordWrong)

/-- 'laws.FnExactReflectWord': WHATEVER THE INPUT: true; the input reads as it did. -/
def fnExactReflectWordSpec : ChangeSpec := { name := "fnExactReflectWord", fn := fun _ => fun
  | [d1, d2] => { results := [.lit (.bool true)], args := [d1, d2] }
  | _ => none }
def fnExactReflectWordRow : OpenClaim := { program := "ytmolnchhjfdmpaa", sum := "3b8c945a81fc4523025282958b2d1114011f229105f75b476ced8e26a2b996fa", func := "loop.example/g00598/laws.FnExactReflectWord", spec := "fnExactReflectWord", unfollowed := true, recurses := true, apart := false }
def FnExactReflectWordSaid : Prop := fnExactReflectWordRow.holds Try.pinned (OpenSpec.ofChange fnExactReflectWordSpec)

/-- ITS FALSE NEIGHBOUR: 'it returns false'. Refute it at one input. -/
def fnExactReflectWordWrong : ChangeSpec := { name := "fnExactReflectWord", fn := fun _ => fun
  | [d1, d2] => { results := [.lit (.bool false)], args := [d1, d2] }
  | _ => none }
def FnExactReflectWordWrongFalsely : Prop := fnExactReflectWordRow.holds Try.pinned (OpenSpec.ofChange fnExactReflectWordWrong)

/-- 'laws.FnExactIsReverse': WHATEVER THE INPUT: true; the input reads as it did. -/
def fnExactIsReverseSpec : ChangeSpec := { name := "fnExactIsReverse", fn := fun _ => fun
  | [d1, d2] => { results := [.lit (.bool true)], args := [d1, d2] }
  | _ => none }
def fnExactIsReverseRow : OpenClaim := { program := "ytmolnchhjfdmpaa", sum := "3b8c945a81fc4523025282958b2d1114011f229105f75b476ced8e26a2b996fa", func := "loop.example/g00598/laws.FnExactIsReverse", spec := "fnExactIsReverse", unfollowed := true, recurses := true, apart := false }
def FnExactIsReverseSaid : Prop := fnExactIsReverseRow.holds Try.pinned (OpenSpec.ofChange fnExactIsReverseSpec)

/-- ITS FALSE NEIGHBOUR: 'it returns false'. Refute it at one input. -/
def fnExactIsReverseWrong : ChangeSpec := { name := "fnExactIsReverse", fn := fun _ => fun
  | [d1, d2] => { results := [.lit (.bool false)], args := [d1, d2] }
  | _ => none }
def FnExactIsReverseWrongFalsely : Prop := fnExactIsReverseRow.holds Try.pinned (OpenSpec.ofChange fnExactIsReverseWrong)

/- THE SECOND FORM. 'bulk': how many values and letters a reading holds, each counted each time it is reached (what is shared counts as often as it is met; a slice's spare places count too). A statement '..UptoSaid' is the law's where the arguments, and the package variables that the reading takes, are together of bulk at most 1048576: NARROWER than '..Said'. Prove '..Said' where nothing that the law and all that it calls make is longer than what came in: it says more and counts as full. Else prove '..UptoSaid'. A law counts once. -/
mutual
def uptoBulk {H : Type} : DataW H → Nat
  | .lit (.string bytes) => bytes.length + 1
  | .lit _ => 1
  | .nil => 1
  | .ptr d => uptoBulk d + 1
  | .slice elems spare => uptoBulkAll elems + uptoBulkAll spare + 1
  | .agg parts => uptoBulkAll parts + 1
  | .iface _ d => uptoBulk d + 1
  | .map entries => uptoBulkEntries entries + 1
  | .held _ => 1
def uptoBulkAll {H : Type} : List (DataW H) → Nat
  | [] => 0
  | d :: r => uptoBulk d + uptoBulkAll r
def uptoBulkEntries {H : Type} : List (Lit × DataW H) → Nat
  | [] => 0
  | x :: r => uptoBulkEntry x + uptoBulkEntries r
def uptoBulkEntry {H : Type} : Lit × DataW H → Nat
  | (.string bytes, d) => bytes.length + uptoBulk d + 1
  | (_, d) => uptoBulk d + 1
 end
def uptoSmall : (H : Type) → List (DataW H) → Bool := fun _ ds => decide (uptoBulkAll ds ≤ 1048576)
def OpenSpec.upto (s : _root_.Go.ChangeSpec) : _root_.Go.OpenSpec := { _root_.Go.OpenSpec.ofChange s with cond := some uptoSmall }

/-- 'laws.FnExactMajorIndex', WHERE WHAT IT READS IS OF BULK AT MOST 1048576: true; the input reads as it did. -/
def fnExactMajorIndexUptoRow : OpenClaim := { program := "ytmolnchhjfdmpaa", sum := "3b8c945a81fc4523025282958b2d1114011f229105f75b476ced8e26a2b996fa", func := "loop.example/g00598/laws.FnExactMajorIndex", spec := "fnExactMajorIndex", unfollowed := true, recurses := true, apart := false, narrowed := true }
def FnExactMajorIndexUptoSaid : Prop := fnExactMajorIndexUptoRow.holds Try.pinned (OpenSpec.upto fnExactMajorIndexSpec)

/-- 'laws.FnExactSignOf', WHERE WHAT IT READS IS OF BULK AT MOST 1048576: true; the input reads as it did. -/
def fnExactSignOfUptoRow : OpenClaim := { program := "ytmolnchhjfdmpaa", sum := "3b8c945a81fc4523025282958b2d1114011f229105f75b476ced8e26a2b996fa", func := "loop.example/g00598/laws.FnExactSignOf", spec := "fnExactSignOf", apart := false, narrowed := true }
def FnExactSignOfUptoSaid : Prop := fnExactSignOfUptoRow.holds Try.pinned (OpenSpec.upto fnExactSignOfSpec)

/-- 'laws.FnExactFreeCounts', WHERE WHAT IT READS IS OF BULK AT MOST 1048576: true; the input reads as it did. -/
def fnExactFreeCountsUptoRow : OpenClaim := { program := "ytmolnchhjfdmpaa", sum := "3b8c945a81fc4523025282958b2d1114011f229105f75b476ced8e26a2b996fa", func := "loop.example/g00598/laws.FnExactFreeCounts", spec := "fnExactFreeCounts", unfollowed := true, recurses := true, apart := false, narrowed := true }
def FnExactFreeCountsUptoSaid : Prop := fnExactFreeCountsUptoRow.holds Try.pinned (OpenSpec.upto fnExactFreeCountsSpec)

/-- 'laws.FnExactCentralizerSize', WHERE WHAT IT READS IS OF BULK AT MOST 1048576: true; the input reads as it did. -/
def fnExactCentralizerSizeUptoRow : OpenClaim := { program := "ytmolnchhjfdmpaa", sum := "3b8c945a81fc4523025282958b2d1114011f229105f75b476ced8e26a2b996fa", func := "loop.example/g00598/laws.FnExactCentralizerSize", spec := "fnExactCentralizerSize", apart := false, narrowed := true }
def FnExactCentralizerSizeUptoSaid : Prop := fnExactCentralizerSizeUptoRow.holds Try.pinned (OpenSpec.upto fnExactCentralizerSizeSpec)

/-- 'laws.FnExactBetaNumbers', WHERE WHAT IT READS IS OF BULK AT MOST 1048576: true; the input reads as it did. -/
def fnExactBetaNumbersUptoRow : OpenClaim := { program := "ytmolnchhjfdmpaa", sum := "3b8c945a81fc4523025282958b2d1114011f229105f75b476ced8e26a2b996fa", func := "loop.example/g00598/laws.FnExactBetaNumbers", spec := "fnExactBetaNumbers", apart := false, narrowed := true }
def FnExactBetaNumbersUptoSaid : Prop := fnExactBetaNumbersUptoRow.holds Try.pinned (OpenSpec.upto fnExactBetaNumbersSpec)

/-- 'laws.FnExactCombineVectors', WHERE WHAT IT READS IS OF BULK AT MOST 1048576: true; the input reads as it did. -/
def fnExactCombineVectorsUptoRow : OpenClaim := { program := "ytmolnchhjfdmpaa", sum := "3b8c945a81fc4523025282958b2d1114011f229105f75b476ced8e26a2b996fa", func := "loop.example/g00598/laws.FnExactCombineVectors", spec := "fnExactCombineVectors", apart := false, narrowed := true }
def FnExactCombineVectorsUptoSaid : Prop := fnExactCombineVectorsUptoRow.holds Try.pinned (OpenSpec.upto fnExactCombineVectorsSpec)

/-- 'laws.FnExactIsFilling', WHERE WHAT IT READS IS OF BULK AT MOST 1048576: true; the input reads as it did. -/
def fnExactIsFillingUptoRow : OpenClaim := { program := "ytmolnchhjfdmpaa", sum := "3b8c945a81fc4523025282958b2d1114011f229105f75b476ced8e26a2b996fa", func := "loop.example/g00598/laws.FnExactIsFilling", spec := "fnExactIsFilling", unfollowed := true, recurses := true, apart := false, narrowed := true }
def FnExactIsFillingUptoSaid : Prop := fnExactIsFillingUptoRow.holds Try.pinned (OpenSpec.upto fnExactIsFillingSpec)

/-- 'laws.FnExactClassSize', WHERE WHAT IT READS IS OF BULK AT MOST 1048576: true; the input reads as it did. -/
def fnExactClassSizeUptoRow : OpenClaim := { program := "ytmolnchhjfdmpaa", sum := "3b8c945a81fc4523025282958b2d1114011f229105f75b476ced8e26a2b996fa", func := "loop.example/g00598/laws.FnExactClassSize", spec := "fnExactClassSize", apart := false, narrowed := true }
def FnExactClassSizeUptoSaid : Prop := fnExactClassSizeUptoRow.holds Try.pinned (OpenSpec.upto fnExactClassSizeSpec)

/-- 'laws.FnExactLowerWord', WHERE WHAT IT READS IS OF BULK AT MOST 1048576: true; the input reads as it did. -/
def fnExactLowerWordUptoRow : OpenClaim := { program := "ytmolnchhjfdmpaa", sum := "3b8c945a81fc4523025282958b2d1114011f229105f75b476ced8e26a2b996fa", func := "loop.example/g00598/laws.FnExactLowerWord", spec := "fnExactLowerWord", unfollowed := true, recurses := true, apart := false, narrowed := true }
def FnExactLowerWordUptoSaid : Prop := fnExactLowerWordUptoRow.holds Try.pinned (OpenSpec.upto fnExactLowerWordSpec)

/-- 'laws.FnExactRaiseWord', WHERE WHAT IT READS IS OF BULK AT MOST 1048576: true; the input reads as it did. -/
def fnExactRaiseWordUptoRow : OpenClaim := { program := "ytmolnchhjfdmpaa", sum := "3b8c945a81fc4523025282958b2d1114011f229105f75b476ced8e26a2b996fa", func := "loop.example/g00598/laws.FnExactRaiseWord", spec := "fnExactRaiseWord", unfollowed := true, recurses := true, apart := false, narrowed := true }
def FnExactRaiseWordUptoSaid : Prop := fnExactRaiseWordUptoRow.holds Try.pinned (OpenSpec.upto fnExactRaiseWordSpec)

/-- 'laws.FnExactReflectWord', WHERE WHAT IT READS IS OF BULK AT MOST 1048576: true; the input reads as it did. -/
def fnExactReflectWordUptoRow : OpenClaim := { program := "ytmolnchhjfdmpaa", sum := "3b8c945a81fc4523025282958b2d1114011f229105f75b476ced8e26a2b996fa", func := "loop.example/g00598/laws.FnExactReflectWord", spec := "fnExactReflectWord", unfollowed := true, recurses := true, apart := false, narrowed := true }
def FnExactReflectWordUptoSaid : Prop := fnExactReflectWordUptoRow.holds Try.pinned (OpenSpec.upto fnExactReflectWordSpec)

/-- 'laws.FnExactIsReverse', WHERE WHAT IT READS IS OF BULK AT MOST 1048576: true; the input reads as it did. -/
def fnExactIsReverseUptoRow : OpenClaim := { program := "ytmolnchhjfdmpaa", sum := "3b8c945a81fc4523025282958b2d1114011f229105f75b476ced8e26a2b996fa", func := "loop.example/g00598/laws.FnExactIsReverse", spec := "fnExactIsReverse", unfollowed := true, recurses := true, apart := false, narrowed := true }
def FnExactIsReverseUptoSaid : Prop := fnExactIsReverseUptoRow.holds Try.pinned (OpenSpec.upto fnExactIsReverseSpec)

end Rows
end Go.Proofs.Ytmolnchhjfdmpaa
